/-
  The order of strings in a locale.
-/
import Derived.Test.YtehanadfidoodaaGreatDoorNkMx
namespace Go.Am
set_option linter.unusedSimpArgs false
set_option linter.unusedVariables false
set_option maxRecDepth 100000
def LocCells (l:List AV)(L:Loc):Prop:=∃ x c e,l=L.cells x c e∧Sl 1 x (L.w.map (AV.int .i64))∧Sl 5 c (L.cls.map Vm)∧Sl 2 e (L.els.map Jk)
theorem LocCells.close {l:List AV}{L:Loc}(h:LocCells l L)(H:Hp)(n f:Nat):∃ l',l.mapM (Z9 H n (f+3))=some l'∧LocCells l' L:=by
 obtain⟨x,c,e,rfl,hx,hc,he⟩:=h
 obtain⟨x',hx1,hx2⟩:=hx.close (H:=H) (n:=n) (f:=f+2) (fun y hy=>by obtain⟨m,_,rfl⟩:=List.mem_map.1 hy;rfl)
 obtain⟨c',hc1,hc2⟩:=hc.close (H:=H) (n:=n) (f:=f+2) (fun y hy=>by obtain⟨m,_,rfl⟩:=List.mem_map.1 hy;exact NM m H n f)
 obtain⟨e',he1,he2⟩:=he.close (H:=H) (n:=n) (f:=f+2) (fun y hy=>by obtain⟨m,_,rfl⟩:=List.mem_map.1 hy;exact EF m H n f)
 refine⟨L.cells x' c' e',?_,x',c',e',rfl,hx2,hc2,he2⟩
 simp only[Loc.cells,List.mapM_cons,hx1,hc1,he1,List.mapM_nil]
 rfl
theorem VN (H:Hp)(n f:Nat)(l:List AV):Z9 H n (f+1) (.vp l)=match l.mapM (Z9 H n f) with
 |some l=>some (.vp l)
 |none=>none:=(Eq.refl _).trans (Eq.refl _)
theorem FF {f:List AV→Hp→Z3}{a a' b b' v v':AV}{H H1:Hp}(ha:Z9 [] 0 6 a=some a')(hb:Z9 [] 0 6 b=some b')(hc:f [a',b'] []=some (v,H1))(hv:Z9 H1 0 6 v=some v'):Ze f [a,b] H=some (v',H):=by
 unfold Ze
 simp[ha,hb,hc,hv]
theorem RowN.close {n:Nat}{H:Hp}{x:AV}{l:List Int}(h:RowN n H 1 x (l.map (AV.int .i64)))(H1:Hp):∃ x',Z9 H1 0 6 x=some x'∧Sl 1 x' (l.map (AV.int .i64)) :=
 h.sl.close (f:=5) (fun y hy=>by obtain⟨m,_,rfl⟩:=List.mem_map.1 hy;rfl)
theorem AY {l:List AV}{L:Loc}(h:LocCells l L)(hw:L.w.length=256)(hnew:Zeo L.els)(hn:L.els.length≤1048576)(s:List UInt8)(hs:s.length≤1048576)(H:Hp) :
 ∃ v,Ze VF [.str s,.vp l] H=some (v,H)∧Sl 1 v ((wS L s).map (AV.int .i64)):=by
 obtain⟨l',h1,x,c,e,rfl,hx,hc,he⟩:=h.close [] 0 2
 have hcl:Z9 [] 0 6 (.vp l)=some (.vp (L.cells x c e)):=by rw[VN,h1]
 have hlen:=he.len 210
 rw[List.length_map]at hlen
 obtain⟨H1,es,k,q1,q2,q3,q4,q5,q6⟩:=Znp he hnew hn (.str s) (.fn (.func 150) [] [.ptr 0 0]) [AObj.cells [.nils]] L.els.length 0 [AObj.cells [.nils],.cells (L.cells x c e),.map [] 0] [] 0 (by omega) (by omega) rfl rfl (by simp)
 rw[show ((0:Nat):Int)=0 from rfl]at q1
 have hst:WSt L x c e es [] H1:=⟨⟨.nils,by rw[q2];rfl,RowN.nil _ _ _⟩,by rw[q3];rfl,⟨k,q4⟩,q6⟩
 obtain⟨H2,q7,⟨⟨y,q8,q9⟩,_,_,_⟩⟩:=ZkN hx hw q5 s hs [AObj.cells [.nils]] s.length [] s [] H1 (Nat.le_refl _) rfl (by simp) hst
 rw[List.length_nil,show ((0:Nat):Int)=0 from rfl]at q7
 rw[List.nil_append]at q9
 obtain⟨v,q10,q11⟩:=q9.close H2
 refine⟨v,FF (a':=.str s) rfl hcl ?_ q10,q11⟩
 rw[Lf]
 unfold Fq
 have e1:R4 [.agg (L.cells x c e),.str s,.fn (.func 150) [] [.ptr 0 0]] [AObj.cells [.nils]]=some (.tuple [],H2):=by
  rw[Ol]
  unfold Sx
  have hl5:Z4 false 1 (.ptr 1 5) [AObj.cells [.nils],.cells (L.cells x c e),.map [] 0]=some e:=by simp[Z4,Go.Am.apart,Loc.cells]
  simp only[go_sem,List.length_cons,List.length_nil,List.cons_append,List.nil_append,Nat.zero_add,hl5,hlen,q1,IC,q7]
 simp only[go_sem,List.length_nil,List.nil_append,Xr 6 (L.cells x c e) rfl,e1,ZV q8,List.getElem?_cons_zero]
def Zlp (r:List UInt8)(e:List UInt8×Int):Bool :=
 match r with
 |b::c::_=>e.1==[b,c]
 |_=>false
theorem ZrA (L:Loc)(b c:UInt8)(r:List UInt8):wS L (b::c::r)=match L.els.find? (Zlp (b::c::r)) with
 |some e=>e.2::wS L r
 |none=>wOf L b::wS L (c::r):=(Eq.refl _).trans (Eq.refl _)
set_option linter.unusedSectionVars false
def WN:List Int→List Int→Int
 |[],[]=>0
 |[],_::_=>-1
 |_::_,[]=>1
 |a::l,b::m=>if a<b then -1 else if b<a then 1 else WN l m
theorem UN (a b:Int)(l m:List Int):WN (a::l) (b::m)=if a<b then -1 else if b<a then 1 else WN l m:=(Eq.refl _).trans (Eq.refl _)
theorem ZlL {l m:List Int}(h:l=[]∨m=[]):WN l m=if l.length<m.length then -1 else if m.length<l.length then 1 else 0:=by
 rcases h with rfl|rfl
 ·cases m <;> simp[WN]
 ·cases l <;> simp[WN]
theorem ZeK:∀ a b:List UInt8,WN (a.map fun c=>(c.toNat:Int)) (b.map fun c=>(c.toNat:Int))=Q1 a b:=by
 intro a
 induction a with
 |nil=>intro b;cases b <;> simp[WN,Q1]
 |cons x a ih =>
  intro b
  cases b with
  |nil=>simp[WN,Q1]
  |cons y b =>
   simp only[List.map_cons,UN,Q1]
   by_cases h:x=y
   ·subst h
    simp[ih b]
   ·have hne:x.toNat≠y.toNat:=fun e=>h (UInt8.toNat_inj.1 e)
    by_cases hl:x<y
    ·have:(x.toNat:Int)<y.toNat:=by have:=UInt8.lt_iff_toNat_lt.1 hl;omega
     simp[h,hl,this]
    ·have h1:¬ (x.toNat:Int)<y.toNat:=by
      intro h'
      exact hl (UInt8.lt_iff_toNat_lt.2 (by omega))
     have h2:(y.toNat:Int)<x.toNat:=by omega
     simp[h,hl,h1,h2]
theorem Zma (a b:List UInt8)(H:Hp):Ze Ku [.str a,.str b] H=some (.int .i64 (Q1 a b),H):=by
 have h1:∀ H,Ze Xm [.str a,.str b] H=some (.int .i64 (Q1 a b),H):=fun H=>by
  refine JF (a':=.str a) (b':=.str b) (H1:=[]) rfl rfl ?_ rfl
  rw[Jx]
  rfl
 refine JF (a':=.str a) (b':=.str b) (H1:=[]) rfl rfl ?_ rfl
 rw[E7]
 unfold RB
 simp only[h1,go_sem]
section
variable {x y:AV}{a b:List Int}(hx:Sl 1 x (a.map (AV.int .i64)))(hy:Sl 1 y (b.map (AV.int .i64)))(ha:a.length≤4611686018427387904)(hb:b.length≤4611686018427387904)
include hx hy ha hb
theorem ZlM (s t:List UInt8)(H0 H:Hp):∀ (k i:Nat),min a.length b.length-i=k→i≤min a.length b.length →
 Un (.str s) (.str t) x y (.int .i64 ((min a.length b.length:Nat):Int)) (.int .i64 (i:Int)) H0 H=some (.int .i64 (if (WN (a.drop i) (b.drop i) != 0)=true then WN (a.drop i) (b.drop i) else Q1 s t),H):=by
 have hla:=hx.len 3
 have hlb:=hy.len 3
 rw[List.length_map]at hla hlb
 intro k
 induction k with
 |zero =>
  intro i hk hi
  rw[BW]
  have hlt:decide ((i:Int)<((min a.length b.length:Nat):Int))=false:=by simp;omega
  have he:a.drop i=[]∨b.drop i=[]:=by
   rcases Nat.le_total a.length b.length with h|h
   ·exact .inl (List.drop_eq_nil_iff.2 (by omega))
   ·exact .inr (List.drop_eq_nil_iff.2 (by omega))
  rw[ZlL he]
  simp only[List.length_drop,go_sem,hlt,ER,hla,hlb]
  by_cases h1:a.length<b.length
  ·have c:decide ((a.length:Int)<(b.length:Int))=true:=by simp;omega
   have h1':a.length-i<b.length-i:=by omega
   simp only[c,go_sem,h1',if_true]
   rfl
  ·have c:decide ((a.length:Int)<(b.length:Int))=false:=by simp;omega
   have h1':¬ a.length-i<b.length-i:=by omega
   simp only[c,go_sem,h1',if_false,ES,hla,hlb]
   by_cases h2:b.length<a.length
   ·have c:decide ((b.length:Int)<(a.length:Int))=true:=by simp;omega
    have h2':b.length-i<a.length-i:=by omega
    simp only[c,go_sem,h2',if_true]
    rfl
   ·have c:decide ((b.length:Int)<(a.length:Int))=false:=by simp;omega
    have h2':¬ b.length-i<a.length-i:=by omega
    simp only[c,go_sem,h2',if_false,ET,Zma]
    rfl
 |succ k ih =>
  intro i hk hi
  rw[BW]
  have hia:i<a.length:=by omega
  have hib:i<b.length:=by omega
  have hlt:decide ((i:Int)<((min a.length b.length:Nat):Int))=true:=by simp;omega
  have hw:IntKind.i64.wrap ((i:Int)+1)=((i+1:Nat):Int):=by rw[Zr (by omega) (by omega)];omega
  simp only[go_sem,hlt,EU,hx.ints hia,hy.ints hib,ZG]
  rw[List.drop_eq_getElem_cons hia,List.drop_eq_getElem_cons hib,UN]
  by_cases c1:a[i]<b[i]
  ·simp only[decide_eq_true c1,go_sem,if_pos c1]
   rfl
  ·simp only[decide_eq_false c1,go_sem,if_neg c1,EW,hx.ints hia,hy.ints hib,ZG]
   by_cases c2:b[i]<a[i]
   ·simp only[decide_eq_true c2,go_sem,if_pos c2]
    rfl
   ·simp only[decide_eq_false c2,go_sem,if_neg c2,EV,hw]
    exact ih (i+1) (by omega) (by omega)
end
theorem Zmv (L:Loc):∀ (n:Nat) (s:List UInt8),s.length≤n→(wS L s).length≤s.length:=by
 intro n
 induction n with
 |zero=>intro s h;have:s=[]:=List.length_eq_zero_iff.1 (by omega);subst this;simp[wS]
 |succ n ih =>
  intro s h
  match s,h with
  |[],_=>simp[wS]
  |[b],_=>simp[wS]
  |b::c::r,h =>
   rw[ZrA]
   simp only[List.length_cons]at h
   cases L.els.find? (Zlp (b::c::r)) with
   |none=>have:=ih (c::r) (by simp;omega);simp only[List.length_cons]at this ⊢;omega
   |some e=>have:=ih r (by omega);simp only[List.length_cons];omega
theorem Zc5 (L:Loc):(Y4 L).els.length≤64:=by
 unfold Y4
 cases h:(Xu L != 0) with
 |true=>simp[defL]
 |false =>
  simp only[Xu,bne_eq_false_iff_eq]at h
  have:Pq L.els=0:=by
   split at h
   ·split at h
    ·cases h
    ·split at h
     ·cases h
     ·unfold Sm at h
      split at h
      ·rename_i h1;simp[h]at h1
      ·exact h
   ·cases h
  unfold Pq at this
  split at this
  ·cases this
  ·simp;omega
def Kx (L:Loc)(s t:List UInt8):Int:=if (WN (wS (Y4 L) s) (wS (Y4 L) t) != 0)=true then WN (wS (Y4 L) s) (wS (Y4 L) t) else Q1 s t
theorem Zdj {v:AV}{L:Loc}(h:LocAV v L)(hok:LocOk L)(s t:List UInt8)(hs:s.length≤1048576)(ht:t.length≤1048576)(H:Hp):Ze V1 [v,.str s,.str t] H=some (.int .i64 (Kx L s t),H):=by
 obtain⟨a1,h1,h2⟩:=h.close [] 0 2
 have hv:=fun H=>Zc7 h2 hok H
 obtain⟨x,c,e,rfl,hx,hc,he⟩:=h2
 obtain⟨v',hv1,xv,cv,ev,rfl,hxv,hcv,hev⟩:=hv [AObj.cells (L.cells x c e)]
 have hlc:LocCells ((Y4 L).cells xv cv ev) (Y4 L):=⟨xv,cv,ev,rfl,hxv,hcv,hev⟩
 obtain⟨w1,q1,q2⟩:=AY hlc (Zg5 L) (Zc6 L) (by have:=Zc5 L;omega) s hs [AObj.dead]
 obtain⟨w2,q3,q4⟩:=AY hlc (Zg5 L) (Zc6 L) (by have:=Zc5 L;omega) t ht [AObj.dead]
 have hl1:=Zmv (Y4 L) s.length s (Nat.le_refl _)
 have hl2:=Zmv (Y4 L) t.length t (Nat.le_refl _)
 have hrun:V1 [.agg (L.cells x c e),.str s,.str t] []=some (.int .i64 (Kx L s t),[AObj.dead]):=by
  rw[C9]
  unfold TR
  have hl:Z4 true 6 (.ptr 0 0) [AObj.cells (L.cells x c e)]=some (.agg (L.cells x c e)):=by simp[Z4,Go.Am.apart,Loc.cells]
  have hst:Zh 6 (.ptr 0 0) (.agg ((Y4 L).cells xv cv ev)) [AObj.cells (L.cells x c e)]=some (.tuple [],[AObj.cells ((Y4 L).cells xv cv ev)]):=by simp[Zh,Xe,AV.known,AV.cells,Loc.cells,splice]
  have hfz:∀ k:AV→Hp→Z3,X3 (.ptr 0 0) [AObj.cells ((Y4 L).cells xv cv ev)] k=k (.vp ((Y4 L).cells xv cv ev)) [AObj.dead]:=fun k=>rfl
  have a1:Zk (.slice 3) w1=some (.int .i64 (wS (Y4 L) s).length):=by have:=q2.len 3;rwa [List.length_map]at this
  have a2:Zk (.slice 3) w2=some (.int .i64 (wS (Y4 L) t).length):=by have:=q4.len 3;rwa [List.length_map]at this
  have hmin:VJ (.int .i64 ((wS (Y4 L) s).length:Int)) (.int .i64 ((wS (Y4 L) t).length:Int))=some (.int .i64 ((min (wS (Y4 L) s).length (wS (Y4 L) t).length:Nat):Int)):=by
   unfold VJ
   simp only[if_true]
   congr 2
   split <;> omega
  have hlp:=ZlM q2 q4 (by omega) (by omega) s t [] [AObj.dead] _ 0 rfl (Nat.zero_le _)
  rw[show ((0:Nat):Int)=0 from rfl,List.drop_zero,List.drop_zero]at hlp
  simp only[go_sem,List.length_nil,List.nil_append,hl,hv1,hst,hfz,Hv,HI,List.cons_append,q1,q3,a1,a2,hmin,hlp]
  rfl
 exact Pt (args':=[.agg (L.cells x c e),.str s,.str t]) (by simp[h1];rfl) hrun rfl
def Zsj (s:List UInt8):List Int:=s.map fun c=>(c.toNat:Int)
theorem Zfe {s done r:List UInt8}{b:UInt8}(h:s=done++b::r):Zu (.str s) (.int .i64 (done.length:Int))=some (.int .u8 b.toNat) :=
 ZU (by rw[h,List.getElem?_append_right (Nat.le_refl _)];simp)
def isD (b:UInt8):Bool:=decide (48≤(b.toNat:Int))&&decide ((b.toNat:Int)≤57)
def Zp (l:List UInt8):Nat:=(l.takeWhile isD).length
theorem Zmd:Zp []=0:=rfl
theorem ZbX (b:UInt8)(l:List UInt8):Zp (b::l)=if isD b then Zp l+1 else 0:=by
 unfold Zp;rw[List.takeWhile_cons];split <;> simp_all
theorem ZfP (l:List UInt8):Zp l≤l.length:=by
 induction l with
 |nil=>simp[Zp]
 |cons b l ih=>rw[ZbX];split <;> simp <;> omega
theorem Zgy {s:List UInt8}(hs:s.length≤1048576)(H0 H:Hp):∀ (k p:Nat),s.length-p=k→p≤s.length →
 Ul (.str s) (.int .i64 (p:Int)) H0 H=some (.int .i64 ((p+Zp (s.drop p):Nat):Int),H):=by
 intro k
 induction k with
 |zero =>
  intro p hk hp
  rw[BM]
  have hlt:decide ((p:Int)<(s.length:Int))=false:=by simp;omega
  have hd:s.drop p=[]:=List.drop_eq_nil_iff.2 (by omega)
  simp only[go_sem,hlt,hd,Zmd,Nat.add_zero,Q3]
 |succ k ih =>
  intro p hk hp
  rw[BM]
  have hlt:decide ((p:Int)<(s.length:Int))=true:=by simp;omega
  have hl:p<s.length:=by omega
  have hw:IntKind.i64.wrap ((p:Int)+1)=((p+1:Nat):Int):=by rw[Zr (by omega) (by omega)];omega
  simp only[go_sem,hlt,ZU (List.getElem?_eq_getElem hl)]
  rw[VO hl,ZbX]
  cases h1:decide (48≤((s[p].toNat:Int))) with
  |false=>simp only[isD,h1,go_sem,Bool.false_and,Bool.false_eq_true,if_false,Nat.add_zero,Q3]
  |true =>
   cases h2:decide (((s[p].toNat:Int))≤57) with
   |false=>simp only[isD,h1,h2,go_sem,ZU (List.getElem?_eq_getElem hl),Bool.and_false,Bool.false_eq_true,if_false,Nat.add_zero,Q3]
   |true =>
    simp only[isD,h1,h2,go_sem,ZU (List.getElem?_eq_getElem hl),Bool.and_true,if_true,EA,hw]
    rw[ih (p+1) (by omega) (by omega),show p+1+Zp (s.drop (p+1))=p+(Zp (s.drop (p+1))+1) by omega]
theorem O5 (s:List UInt8)(hs:s.length≤1048576)(H:Hp):Ze UQ [.str s] H=some (.int .i64 (Zp s:Int),H):=by
 refine Xx (a':=.str s) (H1:=[]) rfl ?_ rfl
 rw[C8]
 have:=Zgy hs [] [] s.length 0 rfl (by omega)
 rw[show ((0:Nat):Int)=0 from rfl,List.drop_zero,Nat.zero_add]at this
 exact this
def dg (b:UInt8):Int:=IntKind.u8.wrap ((b.toNat:Int)-48)
theorem XJ (b:UInt8):0≤dg b∧dg b≤255:=by
 unfold dg
 have h:=b.toNat_lt
 show 0≤((b.toNat:Int)-48) % 256∧((b.toNat:Int)-48) % 256≤255
 omega
theorem Zp0 (b:UInt8):YK .i64 (.int .u8 (IntKind.u8.wrap ((b.toNat:Int)-48)))=some (.int .i64 (dg b)):=by
 have:=XJ b
 show some (AV.int .i64 (IntKind.i64.wrap (dg b)))=_
 rw[Zr (by omega) (by omega)]
def fr:Nat→List UInt8→Int→Int
 |0,_,d=>d
 |k+1,[],d=>fr k [] (d*10)
 |k+1,b::l,d=>fr k l (d*10+dg b)
theorem Zr4 (k:Nat)(d:Int):fr (k+1) [] d=fr k [] (d*10):=(Eq.refl _).trans (Eq.refl _)
theorem ZpP (k:Nat)(b:UInt8)(l:List UInt8)(d:Int):fr (k+1) (b::l) d=fr k l (d*10+dg b):=(Eq.refl _).trans (Eq.refl _)
theorem Zl5 (s:List UInt8)(hs:s.length≤1048576)(H0 H:Hp):∀ (k i:Nat) (d p:Int),i+k=4→0≤d→d+1000≤2000000000*p→p*10 ^ k≤10000 →
 Vo (.str s) (.int .i64 d) (.int .i64 (i:Int)) H0 H=some (.int .i64 (fr k (s.drop i) d),H):=by
 intro k
 induction k with
 |zero =>
  intro i d p hik h0 h1 h2
  rw[KZ]
  have hlt:decide ((i:Int)<4)=false:=by simp;omega
  simp only[go_sem,hlt,MG,fr]
 |succ k ih =>
  intro i d p hik h0 h1 h2
  rw[KZ]
  have hlt:decide ((i:Int)<4)=true:=by simp;omega
  have hwi:IntKind.i64.wrap ((i:Int)+1)=((i+1:Nat):Int):=by rw[Zr (by omega) (by omega)];omega
  have h2':p*10*10 ^ k≤10000:=by rw[Int.mul_assoc,show (10:Int)*10 ^ k=10 ^ (k+1) by rw[Int.pow_succ,Int.mul_comm]];exact h2
  have hpk:(1:Int)≤10 ^ k:=Int.add_one_le_iff.2 (Int.pow_pos (by decide))
  have hp:p*10≤10000:=by
   by_cases hp0:0≤p
   ·have:=Int.mul_le_mul_of_nonneg_left hpk (show 0≤p*10 by omega)
    omega
   ·omega
  have hwd:IntKind.i64.wrap (d*10)=d*10:=Zr (by omega) (by omega)
  simp only[go_sem,hlt,MH,hwd,Ym]
  by_cases hi:i<s.length
  ·have hb:=XJ s[i]
   have hlti:decide ((i:Int)<(s.length:Int))=true:=by simp;omega
   have hwd2:IntKind.i64.wrap (d*10+dg s[i])=d*10+dg s[i]:=Zr (by omega) (by omega)
   simp only[hlti,go_sem,ZU (List.getElem?_eq_getElem hi),Zp0,hwd2,KY,hwi]
   rw[ih (i+1) _ (p*10) (by omega) (by omega) (by omega) h2',VO hi,ZpP]
  ·have hlti:decide ((i:Int)<(s.length:Int))=false:=by simp;omega
   have hd:s.drop i=[]:=List.drop_eq_nil_iff.2 (by omega)
   have hd1:s.drop (i+1)=[]:=List.drop_eq_nil_iff.2 (by omega)
   simp only[hlti,go_sem,KY,hwi]
   rw[ih (i+1) _ (p*10) (by omega) (by omega) (by omega) h2',hd,hd1,Zr4]
theorem Zl4 (s:List UInt8)(hs:s.length≤1048576)(H:Hp):Ze J6 [.str s] H=some (.int .i64 (fr 4 s 0),H):=by
 refine Xx (a':=.str s) (H1:=[]) rfl ?_ rfl
 rw[La]
 have:=Zl5 s hs [] [] 4 0 0 1 rfl (by omega) (by omega) (by decide)
 rw[show ((0:Nat):Int)=0 from rfl,List.drop_zero]at this
 exact this
def AX:List UInt8→Int→Option Int
 |[],d=>some d
 |b::l,d=>if 1000000000<d*10+dg b then none else AX l (d*10+dg b)
theorem ZdE (b:UInt8)(l:List UInt8)(d:Int):AX (b::l) d=if 1000000000<d*10+dg b then none else AX l (d*10+dg b):=(Eq.refl _).trans (Eq.refl _)
theorem Zdb (l:List UInt8):0≤fr 4 l 0∧fr 4 l 0≤1000000:=by
 match l with
 |[]=>simp[fr]
 |[a]=>have:=XJ a;simp[fr];omega
 |[a,b]=>have:=XJ a;have:=XJ b;simp[fr];omega
 |[a,b,c]=>have:=XJ a;have:=XJ b;have:=XJ c;simp[fr];omega
 |a::b::c::d::l=>have:=XJ a;have:=XJ b;have:=XJ c;have:=XJ d;simp[fr];omega
def Zji (w f:List UInt8):Option Int:=match AX w 0 with
 |none=>none
 |some d=>some (d*10000+fr 4 f 0)
def Fc (w f:List UInt8):Int:=match Zji w f with
 |none=>10000000000001
 |some n=>min 10000000000001 n
theorem ZjS (s f:List UInt8)(hs:s.length≤1048576)(hf:f.length≤1048576)(H0 H:Hp):∀ (r done:List UInt8) (d:Int),s=done++r→0≤d→d≤1000000000 →
 Q5 (.str s) (.str f) (.int .i64 d) (.int .i64 (s.length:Int)) (.int .i64 (done.length:Int)) H0 H=some (.int .i64 (match AX r d with
  |none=>10000000000001
  |some n=>min 10000000000001 (n*10000+fr 4 f 0)),H):=by
 intro r
 induction r with
 |nil =>
  intro done d hd h0 h1
  rw[List.append_nil]at hd
  subst hd
  rw[Ds]
  have hlt:decide ((s.length:Int)<(s.length:Int))=false:=by simp
  have hfr:=Zdb f
  have hw1:IntKind.i64.wrap (d*10000)=d*10000:=Zr (by omega) (by omega)
  have hw2:IntKind.i64.wrap (d*10000+fr 4 f 0)=d*10000+fr 4 f 0:=Zr (by omega) (by omega)
  simp only[go_sem,hlt,Cj,hw1,Zl4 f hf,hw2,AX]
 |cons b r ih =>
  intro done d hd h0 h1
  have hlen:s.length=done.length+(r.length+1):=by rw[hd];simp
  have hlt:decide ((done.length:Int)<(s.length:Int))=true:=by simp;omega
  have hwi:IntKind.i64.wrap ((done.length:Int)+1)=((done.length+1:Nat):Int):=by rw[Zr (by omega) (by omega)];omega
  have hb:=XJ b
  have hw1:IntKind.i64.wrap (10*d)=d*10:=by rw[Zr (by omega) (by omega)];omega
  have hw2:IntKind.i64.wrap (d*10+dg b)=d*10+dg b:=Zr (by omega) (by omega)
  rw[Ds,ZdE]
  simp only[go_sem,hlt,Ck,hw1,Zfe hd,Zp0,hw2]
  by_cases hg:1000000000<d*10+dg b
  ·simp only[decide_eq_true hg,go_sem,if_pos hg]
  ·have:=ih (done++[b]) (d*10+dg b) (by rw[hd];simp) (by omega) (by omega)
   rw[List.length_append,List.length_singleton]at this
   simp only[decide_eq_false hg,go_sem,if_neg hg,Cl,hwi,this]
theorem ZjR (s f:List UInt8)(hs:s.length≤1048576)(hf:f.length≤1048576)(H:Hp):Ze Bi [.str s,.str f] H=some (.int .i64 (Fc s f),H):=by
 refine JF (a':=.str s) (b':=.str f) (H1:=[]) rfl rfl ?_ rfl
 rw[Hc]
 unfold Nu
 have:=ZjS s f hs hf [] [] s [] 0 rfl (by omega) (by omega)
 rw[List.length_nil,show ((0:Nat):Int)=0 from rfl]at this
 simp only[go_sem,this]
 unfold Fc Zji
 cases AX s 0 <;> rfl
def EK (neg:Bool)(n:Nat)(w f:List UInt8):Int :=
 if n=0∧f=[] then 0 else if neg then -(min 10000000000000 (Fc w f)) else min 10000000000000 (Fc w f)
def MP (neg:Bool)(r:List UInt8):Int :=
 match r.drop (Zp r) with
 |[]=>EK neg (Zp r) (r.take (Zp r)) []
 |b::q=>if (((b.toNat:Int)==46)&&(decide (0<Zp r) || decide (0<Zp q)))=true then EK neg (Zp r) (r.take (Zp r)) (q.take (Zp q)) else EK neg (Zp r) (r.take (Zp r)) []
theorem Zom {neg:Bool}{r:List UInt8}(h:r.drop (Zp r)=[]):MP neg r=EK neg (Zp r) (r.take (Zp r)) []:=by unfold MP;rw[h]
theorem ZlQ {neg:Bool}{r:List UInt8}{b:UInt8}{q:List UInt8}(h:r.drop (Zp r)=b::q):MP neg r=if (((b.toNat:Int)==46)&&(decide (0<Zp r) || decide (0<Zp q)))=true then EK neg (Zp r) (r.take (Zp r)) (q.take (Zp q)) else EK neg (Zp r) (r.take (Zp r)) []:=by unfold MP;rw[h]
theorem ZjO:∀ (l:List UInt8) (d n:Int),0≤d→d≤1000000000→AX l d=some n→0≤n∧n≤1000000000:=by
 intro l
 induction l with
 |nil=>intro d n h0 h1 h;injection h with h;subst h;exact⟨h0,h1⟩
 |cons b l ih =>
  intro d n h0 h1 h
  rw[ZdE]at h
  have:=XJ b
  split at h
  ·cases h
  ·exact ih _ n (by omega) (by omega) h
theorem Zjj {w f:List UInt8}{n:Int}(h:Zji w f=some n):0≤n∧n≤10000001000000:=by
 unfold Zji at h
 split at h
 ·cases h
 ·rename_i d hd
  injection h with h
  have:=ZjO w 0 d (by omega) (by omega) hd
  have:=Zdb f
  omega
theorem ZjN (w f:List UInt8):0≤Fc w f∧Fc w f≤10000000000001:=by
 unfold Fc
 split
 ·omega
 ·rename_i n h
  have:=Zjj h
  omega
theorem ZrC (x y:AV):ZC (.tuple [x,y]) 0=some x:=rfl
theorem ZrD (x y:AV):ZC (.tuple [x,y]) 1=some y:=rfl
theorem Zhg (n:Int):Xa .neg (.int .i64 n)=some (.int .i64 (IntKind.i64.wrap (0-n))):=(Eq.refl _).trans (Eq.refl _)
theorem ZbN (neg:Bool)(n:Nat)(w f:List UInt8)(hw:w.length≤1048576)(hf:f.length≤1048576)(e:Int)(H0 H:Hp) :
 ∃ e',XV (.bool neg) (.int .i64 (n:Int)) (.str w) (.str f) (.int .i64 e) H0 H=some (.tuple [.int .i64 (EK neg n w f),.int .i64 e'],H):=by
 have hv:=ZjN w f
 have hmin:VJ (.int .i64 10000000000000) (.int .i64 (Fc w f))=some (.int .i64 (min 10000000000000 (Fc w f))):=by
  unfold VJ
  simp only[if_true]
  congr 2
  split <;> omega
 have hneg:IntKind.i64.wrap (0-min 10000000000000 (Fc w f))=-(min 10000000000000 (Fc w f)):=by rw[Zr (by omega) (by omega)];omega
 have hJ4:Kz (.bool neg) (.str w) (.str f) (.int .i64 e) H0 H=some (.tuple [.int .i64 (if neg then -(min 10000000000000 (Fc w f)) else min 10000000000000 (Fc w f)),.int .i64 e],H):=by
  rw[Ez]
  simp only[go_sem,ZjR w f hw hf,hmin]
  cases neg with
  |true=>simp only[go_sem,Zhg,hneg,BI,if_true]
  |false=>simp only[go_sem,BI,Bool.false_eq_true,if_false]
 have hs:Yh .eql (.str f) (.str [])=some (.bool (f==[])):=rfl
 rw[Ey]
 unfold EK
 cases n with
 |zero =>
  cases f with
  |nil=>exact⟨0,by simp[go_sem,Yh];rfl⟩
  |cons b f =>
   have hs:Yh .eql (.str (b::f)) (.str [])=some (.bool false):=rfl
   refine⟨e,?_⟩
   simp[go_sem,hs,hJ4]
 |succ n =>
  refine⟨e,?_⟩
  have h0:(((n+1:Nat):Int)==0)=false:=by
   rw[beq_eq_false_iff_ne];omega
  simp only[go_sem,h0,hJ4]
  simp
theorem ZfQ {s:List UInt8}{i:Nat}(h:i≤s.length):Y7 (.str s) (some (.int .i64 (i:Int))) none none=some (.str (s.drop i)):=by
 rw[Em .i64 (by omega) (by omega)];simp
theorem ZbM (s:List UInt8)(hs:s.length≤1048576)(neg:Bool){i:Nat}(hi:i≤s.length)(H0 H:Hp) :
 ∃ e,Uj (.str s) (.int .i64 (i:Int)) (.bool neg) H0 H=some (.tuple [.int .i64 (MP neg (s.drop i)),.int .i64 e],H):=by
 have hr:(s.drop i).length=s.length-i:=List.length_drop
 have hn:=ZfP (s.drop i)
 have hwn:IntKind.i64.wrap ((i:Int)+(Zp (s.drop i):Int))=((i+Zp (s.drop i):Nat):Int):=by rw[Zr (by omega) (by omega)];omega
 have htk:(s.take (i+Zp (s.drop i))).drop i=(s.drop i).take (Zp (s.drop i)):=by rw[List.drop_take];congr 1;omega
 rw[Ex]
 simp only[go_sem,ZfQ hi,O5 _ (show (s.drop i).length≤1048576 by omega),hwn,GG (show i≤i+Zp (s.drop i) by omega) (show i+Zp (s.drop i)≤s.length by omega),htk,Ym]
 have htl:((s.drop i).take (Zp (s.drop i))).length≤1048576:=by rw[List.length_take];omega
 by_cases hlt:i+Zp (s.drop i)<s.length
 ·have c1:decide (((i+Zp (s.drop i):Nat):Int)<(s.length:Int))=true:=by simp;omega
  have hd:(s.drop i).drop (Zp (s.drop i))=s[i+Zp (s.drop i)]::s.drop (i+Zp (s.drop i)+1):=by
   rw[List.drop_drop,VO hlt]
  have hw1:IntKind.i64.wrap (((i+Zp (s.drop i):Nat):Int)+1)=((i+Zp (s.drop i)+1:Nat):Int):=by rw[Zr (by omega) (by omega)];omega
  have hq:(s.drop (i+Zp (s.drop i)+1)).length=s.length-(i+Zp (s.drop i)+1):=List.length_drop
  have hk:=ZfP (s.drop (i+Zp (s.drop i)+1))
  rw[ZlQ hd]
  simp only[c1,go_sem,ZU (List.getElem?_eq_getElem hlt)]
  cases h46:((s[i+Zp (s.drop i)].toNat:Int)==46) with
  |false =>
   simp only[go_sem,Bool.false_and,Bool.false_eq_true,if_false]
   exact ZbN neg _ _ _ htl (by simp) _ H0 H
  |true =>
   have hw2:IntKind.i64.wrap (((i+Zp (s.drop i)+1:Nat):Int)+(Zp (s.drop (i+Zp (s.drop i)+1)):Int))=((i+Zp (s.drop i)+1+Zp (s.drop (i+Zp (s.drop i)+1)):Nat):Int):=by rw[Zr (by omega) (by omega)];omega
   have hw3:IntKind.i64.wrap ((1:Int)+(Zp (s.drop (i+Zp (s.drop i)+1)):Int))=((1+Zp (s.drop (i+Zp (s.drop i)+1)):Nat):Int):=by rw[Zr (by omega) (by omega)];omega
   have htq:(s.take (i+Zp (s.drop i)+1+Zp (s.drop (i+Zp (s.drop i)+1)))).drop (i+Zp (s.drop i)+1)=(s.drop (i+Zp (s.drop i)+1)).take (Zp (s.drop (i+Zp (s.drop i)+1))):=by rw[List.drop_take];congr 1;omega
   have hfl:((s.drop (i+Zp (s.drop i)+1)).take (Zp (s.drop (i+Zp (s.drop i)+1)))).length≤1048576:=by rw[List.length_take];omega
   have hpos:∀ n:Nat,decide ((0:Int)<(n:Int))=decide (0<n):=fun n=>by simp
   simp only[go_sem,hw1,ZfQ (show i+Zp (s.drop i)+1≤s.length by omega),O5 _ (show (s.drop (i+Zp (s.drop i)+1)).length≤1048576 by omega),hpos,Bool.true_and]
   have hfin:∃ e,(Z0 (Z5 .add (.int .i64 ((i+Zp (s.drop i):Nat):Int)) (.int .i64 1)) fun t91_34 =>
    Z0 (Z5 .add (.int .i64 ((i+Zp (s.drop i):Nat):Int)) (.int .i64 1)) fun t93_35 =>
    Z0 (Z5 .add t93_35 (.int .i64 (Zp (s.drop (i+Zp (s.drop i)+1)):Int))) fun t95_36 =>
    Z0 (Y7 (.str s) (some t91_34) (some t95_36) none) fun t96_37 =>
    Z0 (Z5 .add (.int .i64 1) (.int .i64 (Zp (s.drop (i+Zp (s.drop i)+1)):Int))) fun t99_38 =>
    Z0 (Z5 .add (.int .i64 ((i+Zp (s.drop i):Nat):Int)) t99_38) fun t100_39 =>
    XV (.bool neg) (.int .i64 (Zp (s.drop i):Int)) (.str ((s.drop i).take (Zp (s.drop i)))) t96_37 t100_39 H0 H)=some (.tuple [.int .i64 (EK neg (Zp (s.drop i)) ((s.drop i).take (Zp (s.drop i))) ((s.drop (i+Zp (s.drop i)+1)).take (Zp (s.drop (i+Zp (s.drop i)+1))))),.int .i64 e],H):=by
    simp only[go_sem,hw1,hw2,hw3,GG (show i+Zp (s.drop i)+1≤i+Zp (s.drop i)+1+Zp (s.drop (i+Zp (s.drop i)+1)) by omega) (show i+Zp (s.drop i)+1+Zp (s.drop (i+Zp (s.drop i)+1))≤s.length by omega),htq]
    exact ZbN neg _ _ _ htl hfl _ H0 H
   simp only[go_sem,hw1,hw2,hw3,GG (show i+Zp (s.drop i)+1≤i+Zp (s.drop i)+1+Zp (s.drop (i+Zp (s.drop i)+1)) by omega) (show i+Zp (s.drop i)+1+Zp (s.drop (i+Zp (s.drop i)+1))≤s.length by omega),htq]at hfin
   cases hn0:decide (0<Zp (s.drop i)) with
   |true =>
    simp only[go_sem,Bool.true_or,if_true,hw1,hw2,hw3,GG (show i+Zp (s.drop i)+1≤i+Zp (s.drop i)+1+Zp (s.drop (i+Zp (s.drop i)+1)) by omega) (show i+Zp (s.drop i)+1+Zp (s.drop (i+Zp (s.drop i)+1))≤s.length by omega),htq]
    exact hfin
   |false =>
    cases hk0:decide (0<Zp (s.drop (i+Zp (s.drop i)+1))) with
    |true =>
     simp only[go_sem,hpos,hk0,Bool.or_true,if_true,hw1,hw2,hw3,GG (show i+Zp (s.drop i)+1≤i+Zp (s.drop i)+1+Zp (s.drop (i+Zp (s.drop i)+1)) by omega) (show i+Zp (s.drop i)+1+Zp (s.drop (i+Zp (s.drop i)+1))≤s.length by omega),htq]
     exact hfin
    |false =>
     simp only[go_sem,hpos,hk0,Bool.or_false,Bool.false_eq_true,if_false]
     exact ZbN neg _ _ _ htl (by simp) _ H0 H
 ·have c1:decide (((i+Zp (s.drop i):Nat):Int)<(s.length:Int))=false:=by simp;omega
  have hd:(s.drop i).drop (Zp (s.drop i))=[]:=List.drop_eq_nil_iff.2 (by omega)
  rw[Zom hd]
  simp only[c1,go_sem]
  exact ZbN neg _ _ _ htl (by simp) _ H0 H
def Zjq:List UInt8→Int
 |[]=>MP false []
 |b::r=>if (((b.toNat:Int)==45) || ((b.toNat:Int)==43))=true then MP ((b.toNat:Int)==45) r else MP ((b.toNat:Int)==45) (b::r)
theorem ZlP (b:UInt8)(r:List UInt8):Zjq (b::r)=if (((b.toNat:Int)==45) || ((b.toNat:Int)==43))=true then MP ((b.toNat:Int)==45) r else MP ((b.toNat:Int)==45) (b::r):=(Eq.refl _).trans (Eq.refl _)
def Zjr (s:List UInt8):Int:=Zjq (s.drop (Yf s))
theorem ZlR (s:List UInt8)(hs:s.length≤1048576){i:Nat}(hi:i≤s.length)(H0 H:Hp) :
 ∃ e,Ky (.str s) (.int .i64 (i:Int)) H0 H=some (.tuple [.int .i64 (Zjq (s.drop i)),.int .i64 e],H):=by
 rw[Ew]
 by_cases hlt:i<s.length
 ·have c1:decide ((i:Int)<(s.length:Int))=true:=by simp;omega
  have hw1:IntKind.i64.wrap ((i:Int)+1)=((i+1:Nat):Int):=by rw[Zr (by omega) (by omega)];omega
  have hix:=ZU (List.getElem?_eq_getElem hlt)
  rw[VO hlt]
  simp only[Ym,go_sem,c1,hix,ZlP]
  cases h45:((s[i].toNat:Int)==45) with
  |true =>
   simp only[go_sem,c1,hix,hw1,Bool.true_or,if_true]
   exact ZbM s hs true (by omega) H0 H
  |false =>
   simp only[go_sem,Ym,c1,hix]
   cases h43:((s[i].toNat:Int)==43) with
   |true =>
    simp only[go_sem,c1,hix,hw1,Bool.or_true,if_true]
    exact ZbM s hs false (by omega) H0 H
   |false =>
    simp only[go_sem,Bool.or_false,Bool.or_self,Bool.false_eq_true,if_false]
    rw[←VO hlt]
    exact ZbM s hs false (by omega) H0 H
 ·have c1:decide ((i:Int)<(s.length:Int))=false:=by simp;omega
  have hd:s.drop i=[]:=List.drop_eq_nil_iff.2 (by omega)
  simp only[Ym,go_sem,c1,hd]
  have:=ZbM s hs false hi H0 H
  rw[hd]at this
  exact this
theorem Zrl (s:List UInt8)(hs:s.length≤1048576)(H0 H:Hp):∀ (k i:Nat),s.length-i=k→i≤s.length →
 ∃ e,Uk (.str s) (.int .i64 (i:Int)) H0 H=some (.tuple [.int .i64 (Zjq ((s.drop i).drop (Yf (s.drop i)))),.int .i64 e],H):=by
 intro k
 induction k with
 |zero =>
  intro i hk hi
  have hlt:decide ((i:Int)<(s.length:Int))=false:=by simp;omega
  have hd:s.drop i=[]:=List.drop_eq_nil_iff.2 (by omega)
  rw[BK]
  simp only[Ym,go_sem,hlt]
  have:=ZlR s hs hi H0 H
  rw[hd]at this ⊢
  exact this
 |succ k ih =>
  intro i hk hi
  have hl:i<s.length:=by omega
  have hlt:decide ((i:Int)<(s.length:Int))=true:=by simp;omega
  have hw1:IntKind.i64.wrap ((i:Int)+1)=((i+1:Nat):Int):=by rw[Zr (by omega) (by omega)];omega
  have hix:=ZU (List.getElem?_eq_getElem hl)
  have ih':=ih (i+1) (by omega) (by omega)
  have hnext:YX s[i]=true→(s.drop i).drop (Yf (s.drop i))=(s.drop (i+1)).drop (Yf (s.drop (i+1))):=fun h=>by
   rw[VO hl,WP,h,if_pos rfl,List.drop_succ_cons]
  have hstop:YX s[i]=false→(s.drop i).drop (Yf (s.drop i))=s.drop i:=fun h=>by
   rw[VO hl,WP,h];simp
  have hb:YX s[i]=(((s[i].toNat:Int)==32) || ((s[i].toNat:Int)==9)):=by
   rw[YX,(NK s[i]).1,(NK s[i]).2]
  rw[BK]
  simp only[Ym,go_sem,hlt,hix]
  cases h32:((s[i].toNat:Int)==32) with
  |true =>
   simp only[go_sem,BJ,hw1]
   rw[hnext (by rw[hb,h32];rfl)]
   exact ih'
  |false =>
   simp only[go_sem,hix]
   cases h9:((s[i].toNat:Int)==9) with
   |true =>
    simp only[go_sem,BJ,hw1]
    rw[hnext (by rw[hb,h32,h9];rfl)]
    exact ih'
   |false =>
    simp only[go_sem]
    rw[hstop (by rw[hb,h32,h9];rfl)]
    exact ZlR s hs hi H0 H
theorem Zfv (s:List UInt8)(hs:s.length≤1048576)(H:Hp):∃ e,Ze UP [.str s] H=some (.tuple [.int .i64 (Zjr s),.int .i64 e],H):=by
 obtain⟨e,h⟩:=Zrl s hs [] [] _ 0 rfl (Nat.zero_le _)
 rw[show ((0:Nat):Int)=0 from rfl,List.drop_zero]at h
 refine⟨e,Xx (a':=.str s) (H1:=[]) rfl ?_ rfl⟩
 rw[C7]
 exact h
def MQ (a b:Int):Int:=if a<b then -1 else if b<a then 1 else 0
theorem Zmb (a b:Int)(H:Hp):Ze DO [.int .i64 a,.int .i64 b] H=some (.int .i64 (MQ a b),H):=by
 refine JF (a':=.int .i64 a) (b':=.int .i64 b) (H1:=[]) rfl rfl ?_ rfl
 rw[Iq]
 unfold Ll MQ
 by_cases h:a<b
 ·simp only[go_sem,decide_eq_true h,if_pos h]
 ·by_cases h2:b<a
  ·simp only[go_sem,decide_eq_false h,if_neg h,decide_eq_true h2,if_pos h2]
  ·simp only[go_sem,decide_eq_false h,if_neg h,decide_eq_false h2,if_neg h2,AU]
def I5 (b:UInt8):Bool:=YX b || Zll b.toNat || Fj b.toNat
def Gx (s:List UInt8):List UInt8:=s.filter I5
theorem ZkJ:((List.range 256).all fun n=>(BF (Zek (.bool (YX (UInt8.ofNat n))) (.int .u8 (n:Int)))==some (I5 (UInt8.ofNat n)))&&(BF (ZlV (.bool (YX (UInt8.ofNat n))) (.int .u8 (n:Int)))==some (I5 (UInt8.ofNat n))))=true:=by kernel_rfl
theorem Znl (b:UInt8):Zek (.bool (YX b)) (.int .u8 b.toNat)=some (.bool (I5 b))∧ZlV (.bool (YX b)) (.int .u8 b.toNat)=some (.bool (I5 b)):=by
 have:=UJ ZkJ (Ih b)
 rw[UInt8.ofNat_toNat,Bool.and_eq_true,beq_iff_eq,beq_iff_eq]at this
 exact⟨U9 this.1,U9 this.2⟩
theorem Zn5 (acc:List UInt8)(b:UInt8)(h:acc.length≤1048576):byteE.run [.ptr 0 0,.int .u8 b.toNat] [AObj.bld 192 5 acc]=some (.nili,[AObj.bld 192 5 (acc++[b])]):=by
 have hb:=b.toNat_lt
 have h2:acc.length+1≤OX:=by unfold OX;omega
 have hby:Zb6 [.int .u8 b.toNat]=some fun l=>if l.length+1≤OX then some (.nili,l++[UInt8.ofNat (b.toNat:Int).toNat]) else none:=by
  simp only[Zb6,if_pos (show (0:Int)≤(b.toNat:Int)∧(b.toNat:Int)<256 by omega)]
 simp only[byteE,ZoV,Zcr,Ph,hby,List.getElem?_cons_zero,OE,DR,DS,and_self,if_true,if_pos h2,List.set_cons_zero,Int.toNat_natCast,UInt8.ofNat_toNat]
theorem Zc0 (acc:List UInt8):stringE.run [.ptr 0 0] [AObj.bld 192 5 acc]=some (.str acc,[AObj.bld 192 5 acc]):=rfl
theorem ZkL (s:List UInt8)(hs:s.length≤1048576)(H0:Hp):∀ (r done:List UInt8) (acc:List UInt8),s=done++r→acc.length≤done.length →
 ∃ H',QZ (.str s) (.ptr 0 0) (.int .i64 (s.length:Int)) (.int .i64 (done.length:Int)) H0 [AObj.bld 192 5 acc]=some (.str (acc++Gx r),H'):=by
 intro r
 induction r with
 |nil =>
  intro done acc hd ha
  rw[List.append_nil]at hd
  subst hd
  have hlt:decide ((s.length:Int)<(s.length:Int))=false:=by simp
  refine⟨[AObj.bld 192 5 acc],?_⟩
  rw[FZ]
  simp only[go_sem,hlt,AR,Zc0]
  simp[Gx]
 |cons b r ih =>
  intro done acc hd ha
  have hlen:s.length=done.length+(r.length+1):=by rw[hd];simp
  have hlt:decide ((done.length:Int)<(s.length:Int))=true:=by simp;omega
  have hw1:IntKind.i64.wrap ((done.length:Int)+1)=((done.length+1:Nat):Int):=by rw[Zr (by omega) (by omega)];omega
  rw[FZ]
  simp only[go_sem,hlt,Sd,Zfe hd,En,(Znl b).1]
  cases hb:I5 b with
  |true =>
   obtain⟨H',h⟩:=ih (done++[b]) (acc++[b]) (by rw[hd];simp) (by simp;omega)
   rw[List.length_append,List.length_singleton]at h
   refine⟨H',?_⟩
   simp only[go_sem,Zn5 acc b (by omega),FY,hw1,h,Gx,List.filter_cons,hb,if_true,List.append_assoc,List.singleton_append]
  |false =>
   obtain⟨H',h⟩:=ih (done++[b]) acc (by rw[hd];simp) (by simp;omega)
   rw[List.length_append,List.length_singleton]at h
   refine⟨H',?_⟩
   simp only[go_sem,FY,hw1,h,Gx,List.filter_cons,hb,Bool.false_eq_true,if_false]
theorem ZkK (s:List UInt8)(hs:s.length≤1048576)(H:Hp):Ze DN [.str s] H=some (.str (Gx s),H):=by
 obtain⟨H',h⟩:=ZkL s hs [] s [] [] rfl (Nat.le_refl _)
 rw[List.length_nil,show ((0:Nat):Int)=0 from rfl,List.nil_append]at h
 refine Xx (a':=.str s) (H1:=H') rfl ?_ rfl
 rw[Ip]
 unfold Lk
 simp only[go_sem,List.length_nil,List.nil_append,h]
theorem DU (s:List UInt8):(Gx s).length≤s.length:=List.length_filter_le _ _
def YU (s:List UInt8):List UInt8:=s.drop (Yf s)
theorem EB (s:List UInt8):(YU s).length≤s.length:=by unfold YU;rw[List.length_drop];omega
theorem Zgz (b:UInt8)(s:List UInt8):YU (b::s)=if YX b then YU s else b::s:=by
 unfold YU
 rw[WP]
 split <;> simp
theorem ZjK (s:List UInt8):Go.Lib.trimLeftS s [32,9]=YU s:=by
 unfold Go.Lib.trimLeftS
 induction s with
 |nil=>rfl
 |cons b s ih =>
  rw[Zgz,List.dropWhile_cons]
  have:([32,9]:List UInt8).contains b=YX b:=by
   rw[List.contains_cons,List.contains_cons,YX]
   simp
  rw[this,ih]
theorem Zmr (s:List UInt8)(H:Hp):Ze Kr [.str s] H=some (.str (YU s),H):=by
 refine Xx (a':=.str s) (H1:=[]) rfl ?_ rfl
 rw[E5]
 unfold Rz
 have:Ig [.str s,.str [32,9]]=some (.str (YU s)):=by
  unfold Ig
  dsimp only
  rw[if_pos ⟨by decide,by decide⟩,ZjK]
 simp only[go_sem,Sk,this]
theorem Zrz (L:Loc)(s:List UInt8):(upS L s).length=s.length:=by simp[upS,Wn]
theorem Zl2 {l:List AV}{L:Loc}(h:LocCells l L)(hok:LocOk L)(s:List UInt8)(hs:s.length≤1048576)(H:Hp):Ze Ks [.str s,.vp l] H=some (.str (upS L s),H):=by
 obtain⟨l',h1,x,c,e,rfl,hx,hc,he⟩:=h.close [] 0 2
 have hcl:Z9 [] 0 6 (.vp l)=some (.vp (L.cells x c e)):=by rw[VN,h1]
 refine JF (a':=.str s) rfl hcl (H1:=[]) ?_ rfl
 rw[E6]
 unfold RA
 have hu:=ZjL (L:=L) ⟨x,c,e,rfl,hx,hc,he⟩ hok s hs []
 simp only[go_sem,Xr 6 (L.cells x c e) rfl,hu.1]
def VX (L:Loc)(n:Nat)(s:List UInt8):List UInt8 :=
 let s1:=if n.testBit 3 then YU s else s
 let s2:=if n.testBit 4 then Gx s1 else s1
 if n.testBit 2 then upS L s2 else s2
theorem Zdy (L:Loc)(n:Nat)(s:List UInt8):(VX L n s).length≤s.length:=by
 have h1:=EB s
 have h2:=DU s
 have h3:=DU (YU s)
 simp only[VX]
 split <;> split <;> split <;> (try rw[Zrz]) <;> omega
theorem Za3:∀ a b:List Int,WN a b=-1∨WN a b=0∨WN a b=1:=by
 intro a
 induction a with
 |nil=>intro b;cases b <;> simp[WN]
 |cons x a ih =>
  intro b
  cases b with
  |nil=>simp[WN]
  |cons y b =>
   rw[UN]
   split
   ·simp
   ·split
    ·simp
    ·exact ih b
theorem Znd (a b:List UInt8):Q1 a b=-1∨Q1 a b=0∨Q1 a b=1:=by rw[←ZeK];exact Za3 _ _
theorem ZeL (L:Loc)(a b:List UInt8):Kx L a b=-1∨Kx L a b=0∨Kx L a b=1:=by
 unfold Kx
 split
 ·exact Za3 _ _
 ·exact Znd _ _
theorem ZfO (a b:Int):MQ a b=-1∨MQ a b=0∨MQ a b=1:=by
 unfold MQ
 split
 ·simp
 ·split <;> simp
def FQ (L:Loc)(n:Nat)(x y:List UInt8):Int:=if n.testBit 0 then MQ (Zjr x) (Zjr y) else Kx L (VX L n x) (VX L n y)
def VW (L:Loc)(n:Nat)(x y:List UInt8):Int:=if n.testBit 1 then -FQ L n x y else FQ L n x y
theorem Zg2 {c t:Int}(hc:c=-1∨c=0∨c=1)(ht:t=1∨t=-1):IntKind.i64.wrap (t*c)=if t=-1 then -c else c:=by
 rcases ht with rfl|rfl <;> rcases hc with rfl|rfl|rfl <;> decide
section
variable {n:Nat}(hn:n<32)
include hn
theorem ZqI:Z5 .and (.int .i64 n) (.int .i64 1)=some (.int .i64 (if n.testBit 0 then 1 else 0)):=HQ (j:=0) hn (by decide)
theorem ZmS:Z5 .and (.int .i64 n) (.int .i64 2)=some (.int .i64 (if n.testBit 1 then 2 else 0)):=HQ (j:=1) hn (by decide)
theorem Zsd:Z5 .and (.int .i64 n) (.int .i64 4)=some (.int .i64 (if n.testBit 2 then 4 else 0)):=HQ (j:=2) hn (by decide)
theorem Zse:Z5 .and (.int .i64 n) (.int .i64 8)=some (.int .i64 (if n.testBit 3 then 8 else 0)):=HQ (j:=3) hn (by decide)
theorem ZrG:Z5 .and (.int .i64 n) (.int .i64 16)=some (.int .i64 (if n.testBit 4 then 16 else 0)):=HQ (j:=4) hn (by decide)
end
theorem Zbk {f:List AV→Hp→Z3}{a a' b b' c c' d d' v:AV}{H H1:Hp}(ha:Z9 [] 0 6 a=some a')(hb:Z9 [] 0 6 b=some b')(hd:Z9 [] 0 6 c=some c')(he:Z9 [] 0 6 d=some d')(hc:f [a',b',c',d'] []=some (v,H1))(hv:JG 3 v=true):Ze f [a,b,c,d] H=some (v,H) :=
 Pt (args':=[a',b',c',d']) (by simp[ha,hb,hd,he]) hc hv
theorem Zfl (L:Loc)(x c e:AV)(r:List AObj):Z4 true 6 (.ptr 0 0) (AObj.cells (L.cells x c e)::r)=some (.agg (L.cells x c e)):=by simp[Z4,Go.Am.apart,Loc.cells]
theorem Zq5 {c:Int}(hc:c=-1∨c=0∨c=1):IntKind.i64.wrap (0-c)=-c:=by rcases hc with rfl|rfl|rfl <;> decide
def Jr (z:AObj)(n:Nat)(x y:List UInt8):Hp:=[z,.cells [.int .i64 n],.cells [.str x],.cells [.str y]]
theorem MA {z:AObj}{n:Nat}{x y:List UInt8}{fnv:AV}{g:List UInt8→List UInt8}{m:Int}{bit:Bool}(hand:Z5 .and (.int .i64 n) (.int .i64 m)=some (.int .i64 (if bit then m else 0)))(hm:(m != 0)=true)
 (hf:∀ s:List UInt8,(s=x∨s=y)→∀ H,Xd cfg (Za cfg) fnv [.str s] H=some (.str (g s),H)) :
 Kq [.int .i64 m,fnv,.ptr 1 0,.ptr 2 0,.ptr 3 0] (Jr z n x y)=some (.tuple [],Jr z n (if bit then g x else x) (if bit then g y else y)):=by
 have l1:Z4 false 1 (.ptr 1 0) (Jr z n x y)=some (.int .i64 n):=ZV (l:=[.int .i64 n]) rfl
 have l2:Z4 false 1 (.ptr 2 0) (Jr z n x y)=some (.str x):=ZV (l:=[.str x]) rfl
 have l3:Z4 false 1 (.ptr 3 0) (Jr z n x y)=some (.str y):=ZV (l:=[.str y]) rfl
 have s1:Zh 1 (.ptr 2 0) (.str (g x)) (Jr z n x y)=some (.tuple [],Jr z n (g x) y):=by simp[Zh,Xe,Jr,AV.known,AV.cells,splice]
 have s2:Zh 1 (.ptr 3 0) (.str (g y)) (Jr z n (g x) y)=some (.tuple [],Jr z n (g x) (g y)):=by simp[Zh,Xe,Jr,AV.known,AV.cells,splice]
 rw[E4]
 unfold Ry
 cases bit with
 |true=>simp only[go_sem,l1,hand,if_true,hm,l2,hf x (.inl rfl),l3,hf y (.inr rfl),s1,s2]
 |false=>simp only[go_sem,l1,hand,Bool.false_eq_true,if_false,bne_self_eq_false]
theorem ZbK {a:AV}{L:Loc}(h:LocAV a L)(hok:LocOk L){n:Nat}(hn:n<32)(s t:List UInt8)(hs:s.length≤1048576)(ht:t.length≤1048576)(H:Hp):Ze VH [a,.int .i64 n,.str s,.str t] H=some (.int .i64 (VW L n s t),H):=by
 obtain⟨a1,h1,h2⟩:=h.close [] 0 2
 have h2':=h2
 obtain⟨x,c,e,rfl,hx,hc,he⟩:=h2
 have hcl:LocCells (L.cells x c e) L:=⟨x,c,e,rfl,hx,hc,he⟩
 suffices hs:∃ H1,VH [.agg (L.cells x c e),.int .i64 n,.str s,.str t] []=some (.int .i64 (VW L n s t),H1) by
  obtain⟨H1,hr⟩:=hs
  exact Zbk h1 (b':=.int .i64 n) (c':=.str s) (d':=.str t) rfl rfl rfl hr rfl
 have l1:∀ z x y,Z4 false 1 (.ptr 1 0) (Jr z n x y)=some (.int .i64 n):=fun z x y=>ZV (l:=[.int .i64 n]) rfl
 have l2:∀ z x y,Z4 false 1 (.ptr 2 0) (Jr z n x y)=some (.str x):=fun z x y=>ZV (l:=[.str x]) rfl
 have l3:∀ z x y,Z4 false 1 (.ptr 3 0) (Jr z n x y)=some (.str y):=fun z x y=>ZV (l:=[.str y]) rfl
 have hJ2:∀ (z:Int) (hz:z=1∨z=-1),∃ H1,GP (.ptr 0 0) (.ptr 1 0) (.ptr 2 0) (.ptr 3 0) (.int .i64 z) [] (Jr (.cells (L.cells x c e)) n s t)=some (.int .i64 (if z=-1 then -Kx L (VX L n s) (VX L n t) else Kx L (VX L n s) (VX L n t)),H1):=fun z hz=>by
  have e1:=MA (z:=.cells (L.cells x c e)) (n:=n) (x:=s) (y:=t) (fnv:=.fn (.func 155) [] []) (g:=YU) (m:=8) (Zse hn) rfl (fun r _ H=>by rw[Iw];exact Zmr r H)
  have d1:=EB s
  have d2:=EB t
  have e2:=MA (z:=.cells (L.cells x c e)) (n:=n) (x:=if n.testBit 3 then YU s else s) (y:=if n.testBit 3 then YU t else t) (fnv:=.fn (.func 157) [] []) (g:=Gx) (m:=16) (ZrG hn) rfl (fun r hr H=>by
   rw[Zcm]
   refine ZkK r ?_ H
   rcases hr with rfl|rfl <;> split <;> omega)
  have e3:=MA (z:=.dead) (n:=n) (x:=if n.testBit 4 then Gx (if n.testBit 3 then YU s else s) else (if n.testBit 3 then YU s else s)) (y:=if n.testBit 4 then Gx (if n.testBit 3 then YU t else t) else (if n.testBit 3 then YU t else t)) (fnv:=.fn (.func 158) [] [.vp (L.cells x c e)]) (g:=upS L) (m:=4) (Zsd hn) rfl (fun r hr H=>by
   rw[Ix]
   refine Zl2 hcl hok r ?_ H
   have:=DU s
   have:=DU t
   have:=DU (YU s)
   have:=DU (YU t)
   rcases hr with rfl|rfl <;> split <;> split <;> omega)
  have hl1:=Zdy L n s
  have hl2:=Zdy L n t
  have hfz:∀ (x' y':List UInt8) (k:AV→Hp→Z3),X3 (.ptr 0 0) (Jr (.cells (L.cells x c e)) n x' y') k=k (.vp (L.cells x c e)) (Jr .dead n x' y'):=fun x' y' k=>rfl
  refine⟨Jr .dead n (VX L n s) (VX L n t),?_⟩
  rw[CM]
  simp only[go_sem,Iz,List.nil_append,List.cons_append,e1,e2,hfz,e3,Xr 6 (L.cells x c e) rfl,l2,l3]
  have hsh:∀ r,(if n.testBit 2=true then upS L (if n.testBit 4=true then Gx (if n.testBit 3=true then YU r else r) else if n.testBit 3=true then YU r else r) else if n.testBit 4=true then Gx (if n.testBit 3=true then YU r else r) else if n.testBit 3=true then YU r else r)=VX L n r:=fun r=>rfl
  simp only[hsh,Zdj h2' hok (VX L n s) (VX L n t) (by omega) (by omega),go_sem,Zg2 (ZeL _ _ _) hz]
 have hJ1:∀ (z:Int) (hz:z=1∨z=-1),∃ H1,Qp (.ptr 0 0) (.ptr 1 0) (.ptr 2 0) (.ptr 3 0) (.int .i64 z) [] (Jr (.cells (L.cells x c e)) n s t)=some (.int .i64 (if z=-1 then -FQ L n s t else FQ L n s t),H1):=fun z hz=>by
  rw[CK]
  unfold FQ
  cases hb:n.testBit 0 with
  |true =>
   obtain⟨e1,p1⟩:=Zfv s hs (Jr (.cells (L.cells x c e)) n s t)
   obtain⟨e2,p2⟩:=Zfv t ht (Jr (.cells (L.cells x c e)) n s t)
   refine⟨Jr (.cells (L.cells x c e)) n s t,?_⟩
   simp only[go_sem,l1,ZqI hn,hb,if_true,show ((1:Int) != 0)=true from rfl,l2,l3,p1,p2,ZrC,ZrD,Zmb,Zg2 (ZfO _ _) hz]
  |false =>
   obtain⟨H1,q⟩:=hJ2 z hz
   refine⟨H1,?_⟩
   simp only[go_sem,l1,ZqI hn,hb,Bool.false_eq_true,if_false,bne_self_eq_false]
   exact q
 have b1:∀ (k:Int) (H:Hp),ZW (.int .i64 k) H=some (.ptr H.length 0,H++[.cells [.int .i64 k]]):=fun k H=>JC rfl
 have b2:∀ (k:List UInt8) (H:Hp),ZW (.str k) H=some (.ptr H.length 0,H++[.cells [.str k]]):=fun k H=>JC rfl
 rw[Hn]
 unfold NA
 have hst:[AObj.cells (L.cells x c e),.cells [.int .i64 n],.cells [.str s],.cells [.str t]]=Jr (.cells (L.cells x c e)) n s t:=rfl
 unfold VW
 cases hb:n.testBit 1 with
 |true =>
  obtain⟨H1,q⟩:=hJ1 (-1) (.inr rfl)
  refine⟨H1,?_⟩
  simp only[go_sem,b1,b2,List.length_nil,List.length_cons,List.nil_append,List.cons_append,Nat.zero_add,Nat.reduceAdd,hst,l1,ZmS hn,hb,if_true,show ((2:Int) != 0)=true from rfl]
  simpa using q
 |false =>
  obtain⟨H1,q⟩:=hJ1 1 (.inl rfl)
  refine⟨H1,?_⟩
  simp only[go_sem,b1,b2,List.length_nil,List.length_cons,List.nil_append,List.cons_append,Nat.zero_add,Nat.reduceAdd,hst,l1,ZmS hn,hb,Bool.false_eq_true,if_false,bne_self_eq_false]
  simpa using q
def plainP:Spec:=⟨[],-1,0,false,false⟩
def Zs (p:Spec):Spec:=if (ZL p != 0)=true then plainP else p
theorem Sl.known {k:Nat}{x:AV}{l:List AV}(h:Sl k x l):x.known=true:=by
 rcases h with ⟨rfl,_⟩|⟨tok,rfl⟩ <;> rfl
theorem Zc9 {a:AV}{p:Spec}(h:SpecAV a p)(H:Hp):∃ a',Ze Wt [a] H=some (a',H)∧SpecAV a' (Zs p):=by
 obtain⟨a1,h1,h2⟩:=h.close [] 0 2
 have hck:=fun H=>Ep h2 H
 obtain⟨x,rfl,hx⟩:=h2
 have hl:Z4 true 5 (.ptr 0 0) [AObj.cells (p.cells x),.cells [.nils,.int .i64 0,.int .i64 0,.bool false,.bool false]]=some (.agg (p.cells x)):=by simp[Z4,Go.Am.apart,Spec.cells]
 unfold Zs
 cases hb:(ZL p != 0) with
 |true =>
  have hfill:(YS [(1,1,(.int .i64 (-1)))] [.nils,(.int .i64 0),(.int .i64 0),(.bool false),(.bool false)]).map AV.agg=some (.agg (plainP.cells .nils)):=rfl
  have hst:Zh 5 (.ptr 1 0) (.agg (plainP.cells .nils)) [AObj.cells (p.cells x),.cells [.nils,.int .i64 0,.int .i64 0,.bool false,.bool false]]=some (.tuple [],[AObj.cells (p.cells x),.cells (plainP.cells .nils)]):=by simp[Zh,Xe,AV.known,AV.cells,Spec.cells,splice]
  have hl2:Z4 true 5 (.ptr 1 0) [AObj.cells (p.cells x),.cells (plainP.cells .nils)]=some (.agg (plainP.cells .nils)):=by simp[Z4,Go.Am.apart,Spec.cells]
  have hrun:Wt [.agg (p.cells x)] []=some (.agg (plainP.cells .nils),[AObj.cells (p.cells x),.cells (plainP.cells .nils)]):=by
   rw[Fu]
   unfold Bm
   simp only[go_sem,List.nil_append,List.length_nil,List.length_cons,List.cons_append,Nat.zero_add,hl,hck,hb,hfill,hst,hl2]
  obtain⟨a',q1,q2⟩:=SpecAV.close (a:=.agg (plainP.cells .nils)) (p:=plainP) ⟨.nils,rfl,.inl ⟨rfl,rfl⟩⟩ [AObj.cells (p.cells x),.cells (plainP.cells .nils)] 0 2
  exact⟨a',DX h1 hrun q1,by simpa using q2⟩
 |false =>
  have hst:Zh 5 (.ptr 1 0) (.agg (p.cells x)) [AObj.cells (p.cells x),.cells [.nils,.int .i64 0,.int .i64 0,.bool false,.bool false]]=some (.tuple [],[AObj.cells (p.cells x),.cells (p.cells x)]):=by simp[Zh,Xe,AV.known,AV.cells,Spec.cells,splice]
  have hl2:Z4 true 5 (.ptr 1 0) [AObj.cells (p.cells x),.cells (p.cells x)]=some (.agg (p.cells x)):=by simp[Z4,Go.Am.apart,Spec.cells]
  have hrun:Wt [.agg (p.cells x)] []=some (.agg (p.cells x),[AObj.cells (p.cells x),.cells (p.cells x)]):=by
   rw[Fu]
   unfold Bm
   simp only[go_sem,List.nil_append,List.length_nil,List.length_cons,List.cons_append,Nat.zero_add,hl,hck,hb,CN,hst,hl2]
  obtain⟨a',q1,q2⟩:=SpecAV.close (a:=.agg (p.cells x)) (p:=p) ⟨x,rfl,hx⟩ [AObj.cells (p.cells x),.cells (p.cells x)] 0 2
  exact⟨a',DX h1 hrun q1,by simpa using q2⟩
theorem ZdG (p:Spec):(0≤(Zs p).flags∧(Zs p).flags≤31)∧(Zs p).keys.length≤8∧∀ k∈(Zs p).keys,0≤k.fl∧k.fl≤31:=by
 unfold Zs
 cases hb:(ZL p != 0) with
 |true=>simp[plainP]
 |false =>
  rw[bne_eq_false_iff_eq]at hb
  unfold ZL at hb
  split at hb
  ·cases hb
  ·split at hb
   ·cases hb
   ·split at hb
    ·cases hb
    ·rename_i h1 h2 h3
     simp only[Bool.or_eq_true,decide_eq_true_eq,not_or]at h2
     simp only[Bool.false_eq_true,if_false]
     refine⟨by omega,by omega,fun k hk=>?_⟩
     have h4:¬ Px k=true:=fun h=>h3 (List.any_eq_true.2 ⟨k,hk,h⟩)
     simp only[Px,Bool.or_eq_true,decide_eq_true_eq,not_or]at h4
     omega
theorem Oe (p:Spec)(h:∀ k∈p.keys,KeOk k):∀ k∈(Zs p).keys,KeOk k:=by
 unfold Zs
 split
 ·intro k hk;cases hk
 ·exact h
theorem ZkP (line:List UInt8)(fs:List (Nat×Nat))(k:Ke):(ex line fs k).length≤line.length:=by
 unfold ex
 split
 ·dsimp only
  split
  ·simp
  ·rw[List.length_drop,List.length_take];omega
 ·simp
def Pu (p:Spec)(k:Ke):Nat:=if (k.fl==0)=true then p.flags.toNat else k.fl.toNat
def Et (L:Loc)(p:Spec)(a b:List UInt8):List Ke→Int
 |[]=>0
 |k::l=>if (VW L (Pu p k) (ex a (fields a p.sep) k) (ex b (fields b p.sep) k) != 0)=true then VW L (Pu p k) (ex a (fields a p.sep) k) (ex b (fields b p.sep) k) else Et L p a b l
theorem Zd2 (L:Loc)(p:Spec)(a b:List UInt8)(k:Ke)(l:List Ke):Et L p a b (k::l)=if (VW L (Pu p k) (ex a (fields a p.sep) k) (ex b (fields b p.sep) k) != 0)=true then VW L (Pu p k) (ex a (fields a p.sep) k) (ex b (fields b p.sep) k) else Et L p a b l:=(Eq.refl _).trans (Eq.refl _)
def ZbD (L:Loc)(p:Spec)(a b:List UInt8):Int:=if (p.keys.length==0)=true then VW L p.flags.toNat a b else Et L p a b p.keys
def Xz (L:Loc)(p:Spec)(a b:List UInt8):Int:=ZbD L (Zs p) a b
def CSt (lc sc:List AV)(x4 x5:AV)(H:Hp):Prop:=(x4=.vp lc∧x5=.vp sc)∨(x4=.ptr 0 0∧x5=.ptr 1 0∧H=[.cells lc,.cells sc])
theorem CSt.frz {lc sc:List AV}{x4 x5:AV}{H:Hp}(h:CSt lc sc x4 x5 H)(kc:List AV):∃ H2,∀ K:AV→AV→AV→Hp→Z3,
 (X3 x4 (H++[.cells kc]) fun z4 h4=>X3 x5 h4 fun z5 h5=>X3 (.ptr H.length 0) h5 fun z10 h10=>K z4 z5 z10 h10)=K (.vp lc) (.vp sc) (.vp kc) H2:=by
 rcases h with ⟨rfl,rfl⟩|⟨rfl,rfl,rfl⟩
 ·refine⟨H++[.dead],fun K=>?_⟩
  have hv:∀ (l:List AV) (H:Hp) (k:AV→Hp→Z3),X3 (.vp l) H k=k (.vp l) H:=fun l H k=>rfl
  rw[hv,hv,ZnI]
 ·exact⟨[.dead,.dead,.dead],fun K=>rfl⟩
theorem CSt.fld {lc:List AV}{x:AV}{p:Spec}{x4 x5:AV}{H:Hp}(h:CSt lc (p.cells x) x4 x5 H) :
 (∃ y,Z8 0 x5=some y∧∀ r,Z4 false 1 y (H++r)=some x)∧(∃ y,Z8 2 x5=some y∧∀ r,Z4 false 1 y (H++r)=some (.int .i64 p.flags)):=by
 rcases h with ⟨rfl,rfl⟩|⟨rfl,rfl,rfl⟩
 ·exact⟨⟨.vp (p.cells x),rfl,fun r=>by simp only[Spec.cells,ZG]⟩,⟨.vp [.int .i64 p.flags,.bool p.uniq,.bool p.stab],rfl,fun r=>by simp only[ZG]⟩⟩
 ·exact⟨⟨.ptr 1 0,rfl,fun r=>ZV (l:=p.cells x) rfl⟩,⟨.ptr 1 2,rfl,fun r=>ZV (l:=p.cells x) rfl⟩⟩
theorem vpf (x:AV)(p:Spec):Z8 1 (.vp (p.cells x))=some (.vp [.int .i64 p.sep,.int .i64 p.flags,.bool p.uniq,.bool p.stab]):=rfl
theorem Zi5 (L:Loc)(x c e:AV):Yr true 6 (.vp (L.cells x c e))=some (.agg (L.cells x c e)):=rfl
theorem Zkb (k:Ke):Yr true 5 (.vp k.cells)=some (.agg k.cells):=rfl
section
variable {L:Loc}{x c e:AV}(hav:LocAV (.agg (L.cells x c e)) L)(hok:LocOk L){p:Spec}{xk:AV}(hk:Sl 5 xk (p.keys.map Ke.av))(hlen:p.keys.length≤8)
 (hks:∀ k∈p.keys,KeOk k) (hkf:∀ k∈p.keys,0≤k.fl∧k.fl≤31) (hfl:0≤p.flags∧p.flags≤31) (a b:List UInt8) (ha:a.length≤1048576) (hb:b.length≤1048576)
include hav hok hk hlen hks hkf hfl ha hb
theorem Zne:∀ (m i:Nat) (x4 x5:AV) (H:Hp),p.keys.length-i=m→i≤p.keys.length→CSt (L.cells x c e) (p.cells xk) x4 x5 H →
 ∃ H',U0 (.str a) (.str b) x4 x5 xk (.int .i64 (p.keys.length:Int)) (.int .i64 (i:Int)) [] H=some (.int .i64 (Et L p a b (p.keys.drop i)),H'):=by
 intro m
 induction m with
 |zero =>
  intro i x4 x5 H hm hi hst
  have hlt:decide ((i:Int)<(p.keys.length:Int))=false:=by simp;omega
  have hd:p.keys.drop i=[]:=List.drop_eq_nil_iff.2 (by omega)
  refine⟨H,?_⟩
  rw[B4]
  simp only[go_sem,hlt,LQ,hd,Et]
 |succ m ih =>
  intro i x4 x5 H hm hi hst
  have hi1:i<p.keys.length:=by omega
  have hlt:decide ((i:Int)<(p.keys.length:Int))=true:=by simp;omega
  have hw:IntKind.i64.wrap ((i:Int)+1)=((i+1:Nat):Int):=by rw[Zr (by omega) (by omega)];omega
  have hmem:p.keys[i]∈p.keys:=List.getElem_mem hi1
  have hko:=hks _ hmem
  have hkf':=hkf _ hmem
  rw[List.drop_eq_getElem_cons hi1,Zd2]
  have hget:p.keys[i]?=some p.keys[i]:=List.getElem?_eq_getElem hi1
  generalize p.keys[i]=k at hko hkf' hget
  obtain⟨_,y,hy1,hy2⟩:=hst.fld
  obtain⟨H2,hfz⟩:=hst.frz k.cells
  obtain⟨H3,e1,_⟩:=Af ha hko p.sep H2
  obtain⟨H4,e2,_⟩:=Af hb hko p.sep H3
  have l1:=ZkP a (fields a p.sep) k
  have l2:=ZkP b (fields b p.sep) k
  have hn:Pu p k<32:=by unfold Pu;split <;> omega
  have hp:=ZbK hav hok hn (ex a (fields a p.sep) k) (ex b (fields b p.sep) k) (by omega) (by omega) H4
  have hJ5:∃ H',VZ (.str a) (.str b) x4 x5 (.ptr H.length 0) (.int .i64 (Pu p k:Int)) xk (.int .i64 (p.keys.length:Int)) (.int .i64 (i:Int)) [] (H++[.cells k.cells])=some (.int .i64 (if (VW L (Pu p k) (ex a (fields a p.sep) k) (ex b (fields b p.sep) k) != 0)=true then VW L (Pu p k) (ex a (fields a p.sep) k) (ex b (fields b p.sep) k) else Et L p a b (p.keys.drop (i+1))),H'):=by
   rw[LT,hfz]
   simp only[Zi5,HP,vpf,ZG,Zi6,Zkb,go_sem,e1,e2,hp]
   cases hc:(VW L (Pu p k) (ex a (fields a p.sep) k) (ex b (fields b p.sep) k) != 0) with
   |true=>exact⟨H4,by simp only[go_sem,if_true]⟩
   |false =>
    obtain⟨H5,q⟩:=ih (i+1) (.vp (L.cells x c e)) (.vp (p.cells xk)) H4 (by omega) (by omega) (.inl ⟨rfl,rfl⟩)
    exact⟨H5,by simp only[go_sem,Bool.false_eq_true,if_false,LS,hw,q]⟩
  obtain⟨H',hJ5⟩:=hJ5
  refine⟨H',?_⟩
  have hst5:=HS H k [.int .i64 0,.int .i64 0,.int .i64 0,.int .i64 0,.int .i64 0] rfl
  have hlf:Z4 false 1 (.ptr H.length (0+4)) (H++[.cells k.cells])=some (.int .i64 k.fl):=Zx H k.cells 4
  rw[B4]
  simp only[go_sem,hlt,LR,hk.key hget,HP,hst5,hlf]
  cases h0:(k.fl==0) with
  |true =>
   have hf:(p.flags:Int)=((Pu p k:Nat):Int):=by unfold Pu;rw[h0,if_pos rfl];omega
   simp only[go_sem,hy1,hy2,hf]
   exact hJ5
  |false =>
   have hf:(k.fl:Int)=((Pu p k:Nat):Int):=by unfold Pu;rw[h0,if_neg (by decide)];omega
   simp only[go_sem]
   rw[hf]
   exact hJ5
end
theorem Az {a:AV}{L:Loc}(h:LocAV a L)(hok:LocOk L){q:AV}{p:Spec}(hq:SpecAV q p)(hks:∀ k∈p.keys,KeOk k)(s t:List UInt8)(hs:s.length≤1048576)(ht:t.length≤1048576)(H:Hp) :
 Ze XU [a,q,.str s,.str t] H=some (.int .i64 (Xz L p s t),H):=by
 obtain⟨a1,h1,h2⟩:=h.close [] 0 2
 obtain⟨q1,g1,g2⟩:=hq.close [] 0 2
 have hav:=h2
 have hv:=fun H=>Zc9 g2 H
 obtain⟨x,c,e,rfl,hx,hc,he⟩:=h2
 obtain⟨xp,rfl,hxp⟩:=g2
 obtain⟨v',hv1,xv,rfl,hxv⟩:=hv [AObj.cells (L.cells x c e),.cells (p.cells xp)]
 obtain⟨hfl,hlen,hkf⟩:=ZdG p
 have hks':=Oe p hks
 suffices hs:∃ H1,XU [.agg (L.cells x c e),.agg (p.cells xp),.str s,.str t] []=some (.int .i64 (Xz L p s t),H1) by
  obtain⟨H1,hr⟩:=hs
  exact Zbk h1 g1 (c':=.str s) (d':=.str t) rfl rfl hr rfl
 have hl:Z4 true 5 (.ptr 1 0) [AObj.cells (L.cells x c e),.cells (p.cells xp)]=some (.agg (p.cells xp)):=by simp[Z4,Go.Am.apart,Spec.cells]
 have hst:Zh 5 (.ptr 1 0) (.agg ((Zs p).cells xv)) [AObj.cells (L.cells x c e),.cells (p.cells xp)]=some (.tuple [],[AObj.cells (L.cells x c e),.cells ((Zs p).cells xv)]):=by simp[Zh,Xe,AV.known,AV.cells,Spec.cells,splice]
 have hf0:Z4 false 1 (.ptr 1 (0+0)) [AObj.cells (L.cells x c e),.cells ((Zs p).cells xv)]=some xv:=ZV (l:=(Zs p).cells xv) rfl
 have hf2:Z4 false 1 (.ptr 1 (0+2)) [AObj.cells (L.cells x c e),.cells ((Zs p).cells xv)]=some (.int .i64 (Zs p).flags):=ZV (l:=(Zs p).cells xv) rfl
 have hlk:=hxv.len 149
 rw[List.length_map]at hlk
 have hloc:=Zfl L x c e [.cells ((Zs p).cells xv)]
 have hn:(Zs p).flags.toNat<32:=by omega
 have hfi:((Zs p).flags:Int)=(((Zs p).flags.toNat:Nat):Int):=by omega
 have hp:=ZbK hav hok hn s t hs ht [AObj.cells (L.cells x c e),.cells ((Zs p).cells xv)]
 rw[←hfi]at hp
 have hlen0:(((Zs p).keys.length:Int)==0)=((Zs p).keys.length==0):=by
  rw[Bool.eq_iff_iff,beq_iff_eq,beq_iff_eq];omega
 rw[E2]
 unfold Rw Xz ZbD
 cases h0:((Zs p).keys.length==0) with
 |true =>
  exact⟨[AObj.cells (L.cells x c e),.cells ((Zs p).cells xv)],by simp only[go_sem,X8,List.nil_append,List.length_nil,List.length_cons,List.cons_append,hl,hv1,hst,hf0,hlk,hlen0,h0,hloc,hf2,hp,if_true,Nat.zero_add,Nat.reduceAdd]⟩
 |false =>
  obtain⟨H',r⟩:=Zne hav hok hxv hlen hks' hkf hfl s t hs ht _ 0 (.ptr 0 0) (.ptr 1 0) _ rfl (Nat.zero_le _) (.inr ⟨rfl,rfl,rfl⟩)
  rw[List.drop_zero,show ((0:Nat):Int)=0 from rfl]at r
  refine⟨H',?_⟩
  simp only[go_sem,X8,List.nil_append,List.length_nil,List.length_cons,List.cons_append,hl,hv1,hst,hf0,hlk,hlen0,h0,LO,r,Bool.false_eq_true,if_false,Nat.zero_add,Nat.reduceAdd]
def ZN (L:Loc)(p:Spec)(s t:List UInt8):Int :=
 if (Xz L (Zs p) s t != 0 || (Zs p).stab || (Zs p).uniq)=true then Xz L (Zs p) s t else if (Zs p).flags.toNat.testBit 1 then -Kx L s t else Kx L s t
theorem Zfs {a:AV}{L:Loc}(h:LocAV a L)(hok:LocOk L){q:AV}{p:Spec}(hq:SpecAV q p)(hks:∀ k∈p.keys,KeOk k)(s t:List UInt8)(hs:s.length≤1048576)(ht:t.length≤1048576)(H:Hp) :
 Ze VG [a,q,.str s,.str t] H=some (.int .i64 (ZN L p s t),H):=by
 obtain⟨a1,h1,h2⟩:=h.close [] 0 2
 obtain⟨q1,g1,g2⟩:=hq.close [] 0 2
 have hav:=h2
 have hv:=fun H=>Zc9 g2 H
 obtain⟨x,c,e,rfl,hx,hc,he⟩:=h2
 obtain⟨xp,rfl,hxp⟩:=g2
 obtain⟨v',hv1,xv,rfl,hxv⟩:=hv [AObj.cells (L.cells x c e),.cells (p.cells xp)]
 obtain⟨hfl,hlen,hkf⟩:=ZdG p
 have hks':=Oe p hks
 suffices hs:∃ H1,VG [.agg (L.cells x c e),.agg (p.cells xp),.str s,.str t] []=some (.int .i64 (ZN L p s t),H1) by
  obtain⟨H1,hr⟩:=hs
  exact Zbk h1 g1 (c':=.str s) (d':=.str t) rfl rfl hr rfl
 have hl:Z4 true 5 (.ptr 1 0) [AObj.cells (L.cells x c e),.cells (p.cells xp)]=some (.agg (p.cells xp)):=by simp[Z4,Go.Am.apart,Spec.cells]
 have hst:Zh 5 (.ptr 1 0) (.agg ((Zs p).cells xv)) [AObj.cells (L.cells x c e),.cells (p.cells xp)]=some (.tuple [],[AObj.cells (L.cells x c e),.cells ((Zs p).cells xv)]):=by simp[Zh,Xe,AV.known,AV.cells,Spec.cells,splice]
 have hl2:Z4 true 5 (.ptr 1 0) [AObj.cells (L.cells x c e),.cells ((Zs p).cells xv)]=some (.agg ((Zs p).cells xv)):=by simp[Z4,Go.Am.apart,Spec.cells]
 have hf2:Z4 false 1 (.ptr 1 (0+2)) [AObj.cells (L.cells x c e),.cells ((Zs p).cells xv)]=some (.int .i64 (Zs p).flags):=ZV (l:=(Zs p).cells xv) rfl
 have hf3:Z4 false 1 (.ptr 1 (0+3)) [AObj.cells (L.cells x c e),.cells ((Zs p).cells xv)]=some (.bool (Zs p).uniq):=ZV (l:=(Zs p).cells xv) rfl
 have hf4:Z4 false 1 (.ptr 1 (0+4)) [AObj.cells (L.cells x c e),.cells ((Zs p).cells xv)]=some (.bool (Zs p).stab):=ZV (l:=(Zs p).cells xv) rfl
 have hloc:=Zfl L x c e [.cells ((Zs p).cells xv)]
 have hn:(Zs p).flags.toNat<32:=by omega
 have hfi:((Zs p).flags:Int)=(((Zs p).flags.toNat:Nat):Int):=by omega
 have hline:=Az hav hok (q:=.agg ((Zs p).cells xv)) ⟨xv,rfl,hxv⟩ hks' s t hs ht [AObj.cells (L.cells x c e),.cells ((Zs p).cells xv)]
 have hcmp:=Zdj hav hok s t hs ht [AObj.cells (L.cells x c e),.cells ((Zs p).cells xv)]
 have hneg:=Zq5 (ZeL L s t)
 have hbit:=ZmS hn
 have hJ1:GJ (.str s) (.str t) (.ptr 0 0) (.ptr 1 0) [] [AObj.cells (L.cells x c e),.cells ((Zs p).cells xv)]=some (.int .i64 (if (Zs p).flags.toNat.testBit 1 then -Kx L s t else Kx L s t),[AObj.cells (L.cells x c e),.cells ((Zs p).cells xv)]):=by
  rw[Cx]
  rw[hfi]at hf2
  cases hb:(Zs p).flags.toNat.testBit 1 with
  |true =>
   rw[hb]at hbit
   simp only[go_sem,hloc,hcmp,hf2,hbit,Zhg,hneg,if_true,show ((2:Int) != 0)=true from rfl]
  |false =>
   rw[hb]at hbit
   simp only[go_sem,hloc,hcmp,hf2,hbit,Cy,Bool.false_eq_true,if_false,bne_self_eq_false]
 refine⟨[AObj.cells (L.cells x c e),.cells ((Zs p).cells xv)],?_⟩
 rw[Hk]
 unfold Nx ZN
 simp only[go_sem,X8,List.nil_append,List.length_nil,List.length_cons,List.cons_append,hl,hv1,hst,hloc,hl2,hline,Nat.zero_add,Nat.reduceAdd]
 cases h0:(Xz L (Zs p) s t != 0) with
 |true=>simp only[go_sem,Bool.true_or,if_true]
 |false =>
  simp only[go_sem,hf4,hf3]
  cases h4:(Zs p).stab with
  |true=>simp only[go_sem,Bool.true_or,Bool.or_true,if_true]
  |false =>
   simp only[go_sem,hf3]
   cases h3:(Zs p).uniq with
   |true=>simp only[go_sem,Bool.true_or,Bool.or_true,if_true]
   |false=>simp only[go_sem,hJ1,Bool.or_false,Bool.false_eq_true,if_false]
end Go.Am
