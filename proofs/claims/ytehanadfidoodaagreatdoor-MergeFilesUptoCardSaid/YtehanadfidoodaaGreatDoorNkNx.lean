/-
  The order of strings in a locale.
-/
import Derived.Test.YtehanadfidoodaaGreatDoorNkMx
namespace Go.Am
set_option linter.unusedSimpArgs false
set_option linter.unusedVariables false
set_option maxRecDepth 100000
def LocCells (l:List AV)(L:Loc):Prop:=∃ x c e,l=L.cells x c e∧Sl 1 x (L.w.map (AV.int .i64))∧Sl 5 c (L.cls.map VI)∧Sl 2 e (L.els.map JH)
theorem LocCells.close {l:List AV}{L:Loc}(h:LocCells l L)(H:Hp)(n f:Nat):∃ l',l.mapM (Z9 H n (f+3))=some l'∧LocCells l' L:=by
 obtain⟨x,c,e,rfl,hx,hc,he⟩:=h
 obtain⟨x',hx1,hx2⟩:=hx.close (H:=H) (n:=n) (f:=f+2) (fun y hy=>by obtain⟨m,_,rfl⟩:=List.mem_map.1 hy;rfl)
 obtain⟨c',hc1,hc2⟩:=hc.close (H:=H) (n:=n) (f:=f+2) (fun y hy=>by obtain⟨m,_,rfl⟩:=List.mem_map.1 hy;exact MC m H n f)
 obtain⟨e',he1,he2⟩:=he.close (H:=H) (n:=n) (f:=f+2) (fun y hy=>by obtain⟨m,_,rfl⟩:=List.mem_map.1 hy;exact SP m H n f)
 refine⟨L.cells x' c' e',?_,x',c',e',rfl,hx2,hc2,he2⟩
 simp only[Loc.cells,List.mapM_cons,hx1,hc1,he1,List.mapM_nil]
 rfl
theorem Xt (H:Hp)(n f:Nat)(l:List AV):Z9 H n (f+1) (.vp l)=match l.mapM (Z9 H n f) with
 |some l=>some (.vp l)
 |none=>none:=(Eq.refl _).trans (Eq.refl _)
theorem Ru {f:List AV→Hp→Z3}{a a' b b' v v':AV}{H H1:Hp}(ha:Z9 [] 0 6 a=some a')(hb:Z9 [] 0 6 b=some b')(hc:f [a',b'] []=some (v,H1))(hv:Z9 H1 0 6 v=some v'):Ze f [a,b] H=some (v',H):=by
 unfold Ze
 simp[ha,hb,hc,hv]
theorem RowN.close {n:Nat}{H:Hp}{x:AV}{l:List Int}(h:RowN n H 1 x (l.map (AV.int .i64)))(H1:Hp):∃ x',Z9 H1 0 6 x=some x'∧Sl 1 x' (l.map (AV.int .i64)) :=
 h.sl.close (f:=5) (fun y hy=>by obtain⟨m,_,rfl⟩:=List.mem_map.1 hy;rfl)
theorem Ou {l:List AV}{L:Loc}(h:LocCells l L)(hw:L.w.length=256)(hnew:Zgb L.els)(hn:L.els.length≤1048576)(s:List UInt8)(hs:s.length≤1048576)(H:Hp) :
 ∃ v,Ze U0 [.str s,.vp l] H=some (v,H)∧Sl 1 v ((wS L s).map (AV.int .i64)):=by
 obtain⟨l',h1,x,c,e,rfl,hx,hc,he⟩:=h.close [] 0 2
 have hcl:Z9 [] 0 6 (.vp l)=some (.vp (L.cells x c e)):=by rw[Xt,h1]
 have hlen:=he.len 210
 rw[List.length_map]at hlen
 obtain⟨H1,es,k,q1,q2,q3,q4,q5,q6⟩:=Zp8 he hnew hn (.str s) (.fn (.func 150) [] [.ptr 0 0]) [AObj.cells [.nils]] L.els.length 0 [AObj.cells [.nils],.cells (L.cells x c e),.map [] 0] [] 0 (by omega) (by omega) rfl rfl (by simp)
 rw[show ((0:Nat):Int)=0 from rfl]at q1
 have hst:WSt L x c e es [] H1:=⟨⟨.nils,by rw[q2];rfl,RowN.nil _ _ _⟩,by rw[q3];rfl,⟨k,q4⟩,q6⟩
 obtain⟨H2,q7,⟨⟨y,q8,q9⟩,_,_,_⟩⟩:=ZmA hx hw q5 s hs [AObj.cells [.nils]] s.length [] s [] H1 (Nat.le_refl _) rfl (by simp) hst
 rw[List.length_nil,show ((0:Nat):Int)=0 from rfl]at q7
 rw[List.nil_append]at q9
 obtain⟨v,q10,q11⟩:=q9.close H2
 refine⟨v,Ru (a':=.str s) rfl hcl ?_ q10,q11⟩
 rw[Ea]
 unfold Ri
 have e1:RR [.agg (L.cells x c e),.str s,.fn (.func 150) [] [.ptr 0 0]] [AObj.cells [.nils]]=some (.tuple [],H2):=by
  rw[ZaU]
  unfold CK
  have hl5:Z4 false 1 (.ptr 1 5) [AObj.cells [.nils],.cells (L.cells x c e),.map [] 0]=some e:=by simp[Z4,Go.Am.apart,Loc.cells]
  simp only[go_sem,List.length_cons,List.length_nil,List.cons_append,List.nil_append,Nat.zero_add,hl5,hlen,q1,Za7,q7]
 simp only[go_sem,List.length_nil,List.nil_append,X2 6 (L.cells x c e) rfl,e1,Y1 q8,List.getElem?_cons_zero]
def Znb (r:List UInt8)(e:List UInt8×Int):Bool :=
 match r with
 |b::c::_=>e.1==[b,c]
 |_=>false
theorem Zt4 (L:Loc)(b c:UInt8)(r:List UInt8):wS L (b::c::r)=match L.els.find? (Znb (b::c::r)) with
 |some e=>e.2::wS L r
 |none=>wOf L b::wS L (c::r):=(Eq.refl _).trans (Eq.refl _)
set_option linter.unusedSectionVars false
def V1:List Int→List Int→Int
 |[],[]=>0
 |[],_::_=>-1
 |_::_,[]=>1
 |a::l,b::m=>if a<b then -1 else if b<a then 1 else V1 l m
theorem Q3 (a b:Int)(l m:List Int):V1 (a::l) (b::m)=if a<b then -1 else if b<a then 1 else V1 l m:=(Eq.refl _).trans (Eq.refl _)
theorem Znt {l m:List Int}(h:l=[]∨m=[]):V1 l m=if l.length<m.length then -1 else if m.length<l.length then 1 else 0:=by
 rcases h with rfl|rfl
 ·cases m <;> simp[V1]
 ·cases l <;> simp[V1]
theorem Zgw:∀ a b:List UInt8,V1 (a.map fun c=>(c.toNat:Int)) (b.map fun c=>(c.toNat:Int))=Qd a b:=by
 intro a
 induction a with
 |nil=>intro b;cases b <;> simp[V1,Qd]
 |cons x a ih =>
  intro b
  cases b with
  |nil=>simp[V1,Qd]
  |cons y b =>
   simp only[List.map_cons,Q3,Qd]
   by_cases h:x=y
   ·subst h
    simp[ih b]
   ·have hne:x.toNat≠y.toNat:=fun e=>h (UInt8.toNat_inj.1 e)
    by_cases hl:x<y
    ·have:(x.toNat:Int)<y.toNat:=by have:=UInt8.lt_iff_toNat_lt.1 hl;omega
     simp[h,hl,this]
    ·have h1:¬ (x.toNat:Int)<y.toNat:=by
      intro h'
      exact hl (UInt8.lt_iff_toNat_lt.2 (by omega))
     have h2:(y.toNat:Int)<x.toNat:=by omega
     simp[h,hl,h1,h2]
theorem ZnT (a b:List UInt8)(H:Hp):Ze G1 [.str a,.str b] H=some (.int .i64 (Qd a b),H):=by
 have h1:∀ H,Ze Xz [.str a,.str b] H=some (.int .i64 (Qd a b),H):=fun H=>by
  refine K9 (a':=.str a) (b':=.str b) (H1:=[]) rfl rfl ?_ rfl
  rw[K0]
  rfl
 refine K9 (a':=.str a) (b':=.str b) (H1:=[]) rfl rfl ?_ rfl
 rw[Sg]
 unfold Tp
 simp only[h1,go_sem]
section
variable {x y:AV}{a b:List Int}(hx:Sl 1 x (a.map (AV.int .i64)))(hy:Sl 1 y (b.map (AV.int .i64)))(ha:a.length≤4611686018427387904)(hb:b.length≤4611686018427387904)
include hx hy ha hb
theorem Znu (s t:List UInt8)(H0 H:Hp):∀ (k i:Nat),min a.length b.length-i=k→i≤min a.length b.length →
 UF (.str s) (.str t) x y (.int .i64 ((min a.length b.length:Nat):Int)) (.int .i64 (i:Int)) H0 H=some (.int .i64 (if (V1 (a.drop i) (b.drop i) != 0)=true then V1 (a.drop i) (b.drop i) else Qd s t),H):=by
 have hla:=hx.len 3
 have hlb:=hy.len 3
 rw[List.length_map]at hla hlb
 intro k
 induction k with
 |zero =>
  intro i hk hi
  rw[DC]
  have hlt:decide ((i:Int)<((min a.length b.length:Nat):Int))=false:=by simp;omega
  have he:a.drop i=[]∨b.drop i=[]:=by
   rcases Nat.le_total a.length b.length with h|h
   ·exact .inl (List.drop_eq_nil_iff.2 (by omega))
   ·exact .inr (List.drop_eq_nil_iff.2 (by omega))
  rw[Znt he]
  simp only[List.length_drop,go_sem,hlt,C6,hla,hlb]
  by_cases h1:a.length<b.length
  ·have c:decide ((a.length:Int)<(b.length:Int))=true:=by simp;omega
   have h1':a.length-i<b.length-i:=by omega
   simp only[c,go_sem,h1',if_true]
   rfl
  ·have c:decide ((a.length:Int)<(b.length:Int))=false:=by simp;omega
   have h1':¬ a.length-i<b.length-i:=by omega
   simp only[c,go_sem,h1',if_false,C7,hla,hlb]
   by_cases h2:b.length<a.length
   ·have c:decide ((b.length:Int)<(a.length:Int))=true:=by simp;omega
    have h2':b.length-i<a.length-i:=by omega
    simp only[c,go_sem,h2',if_true]
    rfl
   ·have c:decide ((b.length:Int)<(a.length:Int))=false:=by simp;omega
    have h2':¬ b.length-i<a.length-i:=by omega
    simp only[c,go_sem,h2',if_false,C8,ZnT]
    rfl
 |succ k ih =>
  intro i hk hi
  rw[DC]
  have hia:i<a.length:=by omega
  have hib:i<b.length:=by omega
  have hlt:decide ((i:Int)<((min a.length b.length:Nat):Int))=true:=by simp;omega
  have hw:IntKind.i64.wrap ((i:Int)+1)=((i+1:Nat):Int):=by rw[Zr (by omega) (by omega)];omega
  simp only[go_sem,hlt,C9,hx.ints hia,hy.ints hib,ZD]
  rw[List.drop_eq_getElem_cons hia,List.drop_eq_getElem_cons hib,Q3]
  by_cases c1:a[i]<b[i]
  ·simp only[decide_eq_true c1,go_sem,if_pos c1]
   rfl
  ·simp only[decide_eq_false c1,go_sem,if_neg c1,Cb,hx.ints hia,hy.ints hib,ZD]
   by_cases c2:b[i]<a[i]
   ·simp only[decide_eq_true c2,go_sem,if_pos c2]
    rfl
   ·simp only[decide_eq_false c2,go_sem,if_neg c2,Ca,hw]
    exact ih (i+1) (by omega) (by omega)
end
theorem Zoi (L:Loc):∀ (n:Nat) (s:List UInt8),s.length≤n→(wS L s).length≤s.length:=by
 intro n
 induction n with
 |zero=>intro s h;have:s=[]:=List.length_eq_zero_iff.1 (by omega);subst this;simp[wS]
 |succ n ih =>
  intro s h
  match s,h with
  |[],_=>simp[wS]
  |[b],_=>simp[wS]
  |b::c::r,h =>
   rw[Zt4]
   simp only[List.length_cons]at h
   cases L.els.find? (Znb (b::c::r)) with
   |none=>have:=ih (c::r) (by simp;omega);simp only[List.length_cons]at this ⊢;omega
   |some e=>have:=ih r (by omega);simp only[List.length_cons];omega
theorem ZdI (L:Loc):(Y6 L).els.length≤64:=by
 unfold Y6
 cases h:(XH L != 0) with
 |true=>simp[defL]
 |false =>
  simp only[XH,bne_eq_false_iff_eq]at h
  have:N9 L.els=0:=by
   split at h
   ·split at h
    ·cases h
    ·split at h
     ·cases h
     ·unfold Cz at h
      split at h
      ·rename_i h1;simp[h]at h1
      ·exact h
   ·cases h
  unfold N9 at this
  split at this
  ·cases this
  ·simp;omega
def G7 (L:Loc)(s t:List UInt8):Int:=if (V1 (wS (Y6 L) s) (wS (Y6 L) t) != 0)=true then V1 (wS (Y6 L) s) (wS (Y6 L) t) else Qd s t
theorem ZeX {v:AV}{L:Loc}(h:LocAV v L)(hok:LocOk L)(s t:List UInt8)(hs:s.length≤1048576)(ht:t.length≤1048576)(H:Hp):Ze Vl [v,.str s,.str t] H=some (.int .i64 (G7 L s t),H):=by
 obtain⟨a1,h1,h2⟩:=h.close [] 0 2
 have hv:=fun H=>ZdK h2 hok H
 obtain⟨x,c,e,rfl,hx,hc,he⟩:=h2
 obtain⟨v',hv1,xv,cv,ev,rfl,hxv,hcv,hev⟩:=hv [AObj.cells (L.cells x c e)]
 have hlc:LocCells ((Y6 L).cells xv cv ev) (Y6 L):=⟨xv,cv,ev,rfl,hxv,hcv,hev⟩
 obtain⟨w1,q1,q2⟩:=Ou hlc (ZhP L) (ZdJ L) (by have:=ZdI L;omega) s hs [AObj.dead]
 obtain⟨w2,q3,q4⟩:=Ou hlc (ZhP L) (ZdJ L) (by have:=ZdI L;omega) t ht [AObj.dead]
 have hl1:=Zoi (Y6 L) s.length s (Nat.le_refl _)
 have hl2:=Zoi (Y6 L) t.length t (Nat.le_refl _)
 have hrun:Vl [.agg (L.cells x c e),.str s,.str t] []=some (.int .i64 (G7 L s t),[AObj.dead]):=by
  rw[Hy]
  unfold PB
  have hl:Z4 true 6 (.ptr 0 0) [AObj.cells (L.cells x c e)]=some (.agg (L.cells x c e)):=by simp[Z4,Go.Am.apart,Loc.cells]
  have hst:Zi 6 (.ptr 0 0) (.agg ((Y6 L).cells xv cv ev)) [AObj.cells (L.cells x c e)]=some (.tuple [],[AObj.cells ((Y6 L).cells xv cv ev)]):=by simp[Zi,Xm,AV.known,AV.cells,Loc.cells,splice]
  have hfz:∀ k:AV→Hp→Z3,YU (.ptr 0 0) [AObj.cells ((Y6 L).cells xv cv ev)] k=k (.vp ((Y6 L).cells xv cv ev)) [AObj.dead]:=fun k=>rfl
  have a1:Zk (.slice 3) w1=some (.int .i64 (wS (Y6 L) s).length):=by have:=q2.len 3;rwa [List.length_map]at this
  have a2:Zk (.slice 3) w2=some (.int .i64 (wS (Y6 L) t).length):=by have:=q4.len 3;rwa [List.length_map]at this
  have hmin:U3 (.int .i64 ((wS (Y6 L) s).length:Int)) (.int .i64 ((wS (Y6 L) t).length:Int))=some (.int .i64 ((min (wS (Y6 L) s).length (wS (Y6 L) t).length:Nat):Int)):=by
   unfold U3
   simp only[if_true]
   congr 2
   split <;> omega
  have hlp:=Znu q2 q4 (by omega) (by omega) s t [] [AObj.dead] _ 0 rfl (Nat.zero_le _)
  rw[show ((0:Nat):Int)=0 from rfl,List.drop_zero,List.drop_zero]at hlp
  simp only[go_sem,List.length_nil,List.nil_append,hl,hv1,hst,hfz,I3,Ig,List.cons_append,q1,q3,a1,a2,hmin,hlp]
  rfl
 exact Nc (args':=[.agg (L.cells x c e),.str s,.str t]) (by simp[h1];rfl) hrun rfl
def ZtM (s:List UInt8):List Int:=s.map fun c=>(c.toNat:Int)
theorem Zh1 {s done r:List UInt8}{b:UInt8}(h:s=done++b::r):Zw (.str s) (.int .i64 (done.length:Int))=some (.int .u8 b.toNat) :=
 Y0 (by rw[h,List.getElem?_append_right (Nat.le_refl _)];simp)
def isD (b:UInt8):Bool:=decide (48≤(b.toNat:Int))&&decide ((b.toNat:Int)≤57)
def Zp (l:List UInt8):Nat:=(l.takeWhile isD).length
theorem ZnW:Zp []=0:=rfl
theorem ZdB (b:UInt8)(l:List UInt8):Zp (b::l)=if isD b then Zp l+1 else 0:=by
 unfold Zp;rw[List.takeWhile_cons];split <;> simp_all
theorem ZhB (l:List UInt8):Zp l≤l.length:=by
 induction l with
 |nil=>simp[Zp]
 |cons b l ih=>rw[ZdB];split <;> simp <;> omega
theorem Zik {s:List UInt8}(hs:s.length≤1048576)(H0 H:Hp):∀ (k p:Nat),s.length-p=k→p≤s.length →
 UD (.str s) (.int .i64 (p:Int)) H0 H=some (.int .i64 ((p+Zp (s.drop p):Nat):Int),H):=by
 intro k
 induction k with
 |zero =>
  intro p hk hp
  rw[Ds]
  have hlt:decide ((p:Int)<(s.length:Int))=false:=by simp;omega
  have hd:s.drop p=[]:=List.drop_eq_nil_iff.2 (by omega)
  simp only[go_sem,hlt,hd,ZnW,Nat.add_zero,Qf]
 |succ k ih =>
  intro p hk hp
  rw[Ds]
  have hlt:decide ((p:Int)<(s.length:Int))=true:=by simp;omega
  have hl:p<s.length:=by omega
  have hw:IntKind.i64.wrap ((p:Int)+1)=((p+1:Nat):Int):=by rw[Zr (by omega) (by omega)];omega
  simp only[go_sem,hlt,Y0 (List.getElem?_eq_getElem hl)]
  rw[U8 hl,ZdB]
  cases h1:decide (48≤((s[p].toNat:Int))) with
  |false=>simp only[isD,h1,go_sem,Bool.false_and,Bool.false_eq_true,if_false,Nat.add_zero,Qf]
  |true =>
   cases h2:decide (((s[p].toNat:Int))≤57) with
   |false=>simp only[isD,h1,h2,go_sem,Y0 (List.getElem?_eq_getElem hl),Bool.and_false,Bool.false_eq_true,if_false,Nat.add_zero,Qf]
   |true =>
    simp only[isD,h1,h2,go_sem,Y0 (List.getElem?_eq_getElem hl),Bool.and_true,if_true,SM,hw]
    rw[ih (p+1) (by omega) (by omega),show p+1+Zp (s.drop (p+1))=p+(Zp (s.drop (p+1))+1) by omega]
theorem ZaF (s:List UInt8)(hs:s.length≤1048576)(H:Hp):Ze Q5 [.str s] H=some (.int .i64 (Zp s:Int),H):=by
 refine XJ (a':=.str s) (H1:=[]) rfl ?_ rfl
 rw[Hx]
 have:=Zik hs [] [] s.length 0 rfl (by omega)
 rw[show ((0:Nat):Int)=0 from rfl,List.drop_zero,Nat.zero_add]at this
 exact this
def dg (b:UInt8):Int:=IntKind.u8.wrap ((b.toNat:Int)-48)
theorem XY (b:UInt8):0≤dg b∧dg b≤255:=by
 unfold dg
 have h:=b.toNat_lt
 show 0≤((b.toNat:Int)-48) % 256∧((b.toNat:Int)-48) % 256≤255
 omega
theorem ZqB (b:UInt8):YR .i64 (.int .u8 (IntKind.u8.wrap ((b.toNat:Int)-48)))=some (.int .i64 (dg b)):=by
 have:=XY b
 show some (AV.int .i64 (IntKind.i64.wrap (dg b)))=_
 rw[Zr (by omega) (by omega)]
def fr:Nat→List UInt8→Int→Int
 |0,_,d=>d
 |k+1,[],d=>fr k [] (d*10)
 |k+1,b::l,d=>fr k l (d*10+dg b)
theorem ZsA (k:Nat)(d:Int):fr (k+1) [] d=fr k [] (d*10):=(Eq.refl _).trans (Eq.refl _)
theorem Zro (k:Nat)(b:UInt8)(l:List UInt8)(d:Int):fr (k+1) (b::l) d=fr k l (d*10+dg b):=(Eq.refl _).trans (Eq.refl _)
theorem ZmR (s:List UInt8)(hs:s.length≤1048576)(H0 H:Hp):∀ (k i:Nat) (d p:Int),i+k=4→0≤d→d+1000≤2000000000*p→p*10 ^ k≤10000 →
 VK (.str s) (.int .i64 d) (.int .i64 (i:Int)) H0 H=some (.int .i64 (fr k (s.drop i) d),H):=by
 intro k
 induction k with
 |zero =>
  intro i d p hik h0 h1 h2
  rw[GB]
  have hlt:decide ((i:Int)<4)=false:=by simp;omega
  simp only[go_sem,hlt,LI,fr]
 |succ k ih =>
  intro i d p hik h0 h1 h2
  rw[GB]
  have hlt:decide ((i:Int)<4)=true:=by simp;omega
  have hwi:IntKind.i64.wrap ((i:Int)+1)=((i+1:Nat):Int):=by rw[Zr (by omega) (by omega)];omega
  have h2':p*10*10 ^ k≤10000:=by rw[Int.mul_assoc,show (10:Int)*10 ^ k=10 ^ (k+1) by rw[Int.pow_succ,Int.mul_comm]];exact h2
  have hpk:(1:Int)≤10 ^ k:=Int.add_one_le_iff.2 (Int.pow_pos (by decide))
  have hp:p*10≤10000:=by
   by_cases hp0:0≤p
   ·have:=Int.mul_le_mul_of_nonneg_left hpk (show 0≤p*10 by omega)
    omega
   ·omega
  have hwd:IntKind.i64.wrap (d*10)=d*10:=Zr (by omega) (by omega)
  simp only[go_sem,hlt,LJ,hwd,Ym]
  by_cases hi:i<s.length
  ·have hb:=XY s[i]
   have hlti:decide ((i:Int)<(s.length:Int))=true:=by simp;omega
   have hwd2:IntKind.i64.wrap (d*10+dg s[i])=d*10+dg s[i]:=Zr (by omega) (by omega)
   simp only[hlti,go_sem,Y0 (List.getElem?_eq_getElem hi),ZqB,hwd2,GA,hwi]
   rw[ih (i+1) _ (p*10) (by omega) (by omega) (by omega) h2',U8 hi,Zro]
  ·have hlti:decide ((i:Int)<(s.length:Int))=false:=by simp;omega
   have hd:s.drop i=[]:=List.drop_eq_nil_iff.2 (by omega)
   have hd1:s.drop (i+1)=[]:=List.drop_eq_nil_iff.2 (by omega)
   simp only[hlti,go_sem,GA,hwi]
   rw[ih (i+1) _ (p*10) (by omega) (by omega) (by omega) h2',hd,hd1,ZsA]
theorem ZmQ (s:List UInt8)(hs:s.length≤1048576)(H:Hp):Ze Js [.str s] H=some (.int .i64 (fr 4 s 0),H):=by
 refine XJ (a':=.str s) (H1:=[]) rfl ?_ rfl
 rw[E6]
 have:=ZmR s hs [] [] 4 0 0 1 rfl (by omega) (by omega) (by decide)
 rw[show ((0:Nat):Int)=0 from rfl,List.drop_zero]at this
 exact this
def Ot:List UInt8→Int→Option Int
 |[],d=>some d
 |b::l,d=>if 1000000000<d*10+dg b then none else Ot l (d*10+dg b)
theorem Zfp (b:UInt8)(l:List UInt8)(d:Int):Ot (b::l) d=if 1000000000<d*10+dg b then none else Ot l (d*10+dg b):=(Eq.refl _).trans (Eq.refl _)
theorem ZeP (l:List UInt8):0≤fr 4 l 0∧fr 4 l 0≤1000000:=by
 match l with
 |[]=>simp[fr]
 |[a]=>have:=XY a;simp[fr];omega
 |[a,b]=>have:=XY a;have:=XY b;simp[fr];omega
 |[a,b,c]=>have:=XY a;have:=XY b;have:=XY c;simp[fr];omega
 |a::b::c::d::l=>have:=XY a;have:=XY b;have:=XY c;have:=XY d;simp[fr];omega
def Zl7 (w f:List UInt8):Option Int:=match Ot w 0 with
 |none=>none
 |some d=>some (d*10000+fr 4 f 0)
def R0 (w f:List UInt8):Int:=match Zl7 w f with
 |none=>10000000000001
 |some n=>min 10000000000001 n
theorem ZlH (s f:List UInt8)(hs:s.length≤1048576)(hf:f.length≤1048576)(H0 H:Hp):∀ (r done:List UInt8) (d:Int),s=done++r→0≤d→d≤1000000000 →
 Qh (.str s) (.str f) (.int .i64 d) (.int .i64 (s.length:Int)) (.int .i64 (done.length:Int)) H0 H=some (.int .i64 (match Ot r d with
  |none=>10000000000001
  |some n=>min 10000000000001 (n*10000+fr 4 f 0)),H):=by
 intro r
 induction r with
 |nil =>
  intro done d hd h0 h1
  rw[List.append_nil]at hd
  subst hd
  rw[F8]
  have hlt:decide ((s.length:Int)<(s.length:Int))=false:=by simp
  have hfr:=ZeP f
  have hw1:IntKind.i64.wrap (d*10000)=d*10000:=Zr (by omega) (by omega)
  have hw2:IntKind.i64.wrap (d*10000+fr 4 f 0)=d*10000+fr 4 f 0:=Zr (by omega) (by omega)
  simp only[go_sem,hlt,HJ,hw1,ZmQ f hf,hw2,Ot]
 |cons b r ih =>
  intro done d hd h0 h1
  have hlen:s.length=done.length+(r.length+1):=by rw[hd];simp
  have hlt:decide ((done.length:Int)<(s.length:Int))=true:=by simp;omega
  have hwi:IntKind.i64.wrap ((done.length:Int)+1)=((done.length+1:Nat):Int):=by rw[Zr (by omega) (by omega)];omega
  have hb:=XY b
  have hw1:IntKind.i64.wrap (10*d)=d*10:=by rw[Zr (by omega) (by omega)];omega
  have hw2:IntKind.i64.wrap (d*10+dg b)=d*10+dg b:=Zr (by omega) (by omega)
  rw[F8,Zfp]
  simp only[go_sem,hlt,HK,hw1,Zh1 hd,ZqB,hw2]
  by_cases hg:1000000000<d*10+dg b
  ·simp only[decide_eq_true hg,go_sem,if_pos hg]
  ·have:=ih (done++[b]) (d*10+dg b) (by rw[hd];simp) (by omega) (by omega)
   rw[List.length_append,List.length_singleton]at this
   simp only[decide_eq_false hg,go_sem,if_neg hg,HL,hwi,this]
theorem ZlG (s f:List UInt8)(hs:s.length≤1048576)(hf:f.length≤1048576)(H:Hp):Ze BW [.str s,.str f] H=some (.int .i64 (R0 s f),H):=by
 refine K9 (a':=.str s) (b':=.str f) (H1:=[]) rfl rfl ?_ rfl
 rw[AI]
 unfold Mk
 have:=ZlH s f hs hf [] [] s [] 0 rfl (by omega) (by omega)
 rw[List.length_nil,show ((0:Nat):Int)=0 from rfl]at this
 simp only[go_sem,this]
 unfold R0 Zl7
 cases Ot s 0 <;> rfl
def SX (neg:Bool)(n:Nat)(w f:List UInt8):Int :=
 if n=0∧f=[] then 0 else if neg then -(min 10000000000000 (R0 w f)) else min 10000000000000 (R0 w f)
def LT (neg:Bool)(r:List UInt8):Int :=
 match r.drop (Zp r) with
 |[]=>SX neg (Zp r) (r.take (Zp r)) []
 |b::q=>if (((b.toNat:Int)==46)&&(decide (0<Zp r) || decide (0<Zp q)))=true then SX neg (Zp r) (r.take (Zp r)) (q.take (Zp q)) else SX neg (Zp r) (r.take (Zp r)) []
theorem Zq1 {neg:Bool}{r:List UInt8}(h:r.drop (Zp r)=[]):LT neg r=SX neg (Zp r) (r.take (Zp r)) []:=by unfold LT;rw[h]
theorem Zny {neg:Bool}{r:List UInt8}{b:UInt8}{q:List UInt8}(h:r.drop (Zp r)=b::q):LT neg r=if (((b.toNat:Int)==46)&&(decide (0<Zp r) || decide (0<Zp q)))=true then SX neg (Zp r) (r.take (Zp r)) (q.take (Zp q)) else SX neg (Zp r) (r.take (Zp r)) []:=by unfold LT;rw[h]
theorem ZlD:∀ (l:List UInt8) (d n:Int),0≤d→d≤1000000000→Ot l d=some n→0≤n∧n≤1000000000:=by
 intro l
 induction l with
 |nil=>intro d n h0 h1 h;injection h with h;subst h;exact⟨h0,h1⟩
 |cons b l ih =>
  intro d n h0 h1 h
  rw[Zfp]at h
  have:=XY b
  split at h
  ·cases h
  ·exact ih _ n (by omega) (by omega) h
theorem Zl8 {w f:List UInt8}{n:Int}(h:Zl7 w f=some n):0≤n∧n≤10000001000000:=by
 unfold Zl7 at h
 split at h
 ·cases h
 ·rename_i d hd
  injection h with h
  have:=ZlD w 0 d (by omega) (by omega) hd
  have:=ZeP f
  omega
theorem ZlC (w f:List UInt8):0≤R0 w f∧R0 w f≤10000000000001:=by
 unfold R0
 split
 ·omega
 ·rename_i n h
  have:=Zl8 h
  omega
theorem Zt6 (x y:AV):ZK (.tuple [x,y]) 0=some x:=rfl
theorem Zt7 (x y:AV):ZK (.tuple [x,y]) 1=some y:=rfl
theorem Zj0 (n:Int):XF .neg (.int .i64 n)=some (.int .i64 (IntKind.i64.wrap (0-n))):=(Eq.refl _).trans (Eq.refl _)
theorem Zds (neg:Bool)(n:Nat)(w f:List UInt8)(hw:w.length≤1048576)(hf:f.length≤1048576)(e:Int)(H0 H:Hp) :
 ∃ e',Wa (.bool neg) (.int .i64 (n:Int)) (.str w) (.str f) (.int .i64 e) H0 H=some (.tuple [.int .i64 (SX neg n w f),.int .i64 e'],H):=by
 have hv:=ZlC w f
 have hmin:U3 (.int .i64 10000000000000) (.int .i64 (R0 w f))=some (.int .i64 (min 10000000000000 (R0 w f))):=by
  unfold U3
  simp only[if_true]
  congr 2
  split <;> omega
 have hneg:IntKind.i64.wrap (0-min 10000000000000 (R0 w f))=-(min 10000000000000 (R0 w f)):=by rw[Zr (by omega) (by omega)];omega
 have hJ4:G9 (.bool neg) (.str w) (.str f) (.int .i64 e) H0 H=some (.tuple [.int .i64 (if neg then -(min 10000000000000 (R0 w f)) else min 10000000000000 (R0 w f)),.int .i64 e],H):=by
  rw[SL]
  simp only[go_sem,ZlG w f hw hf,hmin]
  cases neg with
  |true=>simp only[go_sem,Zj0,hneg,Dp,if_true]
  |false=>simp only[go_sem,Dp,Bool.false_eq_true,if_false]
 have hs:Yx .eql (.str f) (.str [])=some (.bool (f==[])):=rfl
 rw[SK]
 unfold SX
 cases n with
 |zero =>
  cases f with
  |nil=>exact⟨0,by simp[go_sem,Yx];rfl⟩
  |cons b f =>
   have hs:Yx .eql (.str (b::f)) (.str [])=some (.bool false):=rfl
   refine⟨e,?_⟩
   simp[go_sem,hs,hJ4]
 |succ n =>
  refine⟨e,?_⟩
  have h0:(((n+1:Nat):Int)==0)=false:=by
   rw[beq_eq_false_iff_ne];omega
  simp only[go_sem,h0,hJ4]
  simp
theorem ZhC {s:List UInt8}{i:Nat}(h:i≤s.length):Y9 (.str s) (some (.int .i64 (i:Int))) none none=some (.str (s.drop i)):=by
 rw[Sy .i64 (by omega) (by omega)];simp
theorem Zdr (s:List UInt8)(hs:s.length≤1048576)(neg:Bool){i:Nat}(hi:i≤s.length)(H0 H:Hp) :
 ∃ e,UB (.str s) (.int .i64 (i:Int)) (.bool neg) H0 H=some (.tuple [.int .i64 (LT neg (s.drop i)),.int .i64 e],H):=by
 have hr:(s.drop i).length=s.length-i:=List.length_drop
 have hn:=ZhB (s.drop i)
 have hwn:IntKind.i64.wrap ((i:Int)+(Zp (s.drop i):Int))=((i+Zp (s.drop i):Nat):Int):=by rw[Zr (by omega) (by omega)];omega
 have htk:(s.take (i+Zp (s.drop i))).drop i=(s.drop i).take (Zp (s.drop i)):=by rw[List.drop_take];congr 1;omega
 rw[SJ]
 simp only[go_sem,ZhC hi,ZaF _ (show (s.drop i).length≤1048576 by omega),hwn,Bj (show i≤i+Zp (s.drop i) by omega) (show i+Zp (s.drop i)≤s.length by omega),htk,Ym]
 have htl:((s.drop i).take (Zp (s.drop i))).length≤1048576:=by rw[List.length_take];omega
 by_cases hlt:i+Zp (s.drop i)<s.length
 ·have c1:decide (((i+Zp (s.drop i):Nat):Int)<(s.length:Int))=true:=by simp;omega
  have hd:(s.drop i).drop (Zp (s.drop i))=s[i+Zp (s.drop i)]::s.drop (i+Zp (s.drop i)+1):=by
   rw[List.drop_drop,U8 hlt]
  have hw1:IntKind.i64.wrap (((i+Zp (s.drop i):Nat):Int)+1)=((i+Zp (s.drop i)+1:Nat):Int):=by rw[Zr (by omega) (by omega)];omega
  have hq:(s.drop (i+Zp (s.drop i)+1)).length=s.length-(i+Zp (s.drop i)+1):=List.length_drop
  have hk:=ZhB (s.drop (i+Zp (s.drop i)+1))
  rw[Zny hd]
  simp only[c1,go_sem,Y0 (List.getElem?_eq_getElem hlt)]
  cases h46:((s[i+Zp (s.drop i)].toNat:Int)==46) with
  |false =>
   simp only[go_sem,Bool.false_and,Bool.false_eq_true,if_false]
   exact Zds neg _ _ _ htl (by simp) _ H0 H
  |true =>
   have hw2:IntKind.i64.wrap (((i+Zp (s.drop i)+1:Nat):Int)+(Zp (s.drop (i+Zp (s.drop i)+1)):Int))=((i+Zp (s.drop i)+1+Zp (s.drop (i+Zp (s.drop i)+1)):Nat):Int):=by rw[Zr (by omega) (by omega)];omega
   have hw3:IntKind.i64.wrap ((1:Int)+(Zp (s.drop (i+Zp (s.drop i)+1)):Int))=((1+Zp (s.drop (i+Zp (s.drop i)+1)):Nat):Int):=by rw[Zr (by omega) (by omega)];omega
   have htq:(s.take (i+Zp (s.drop i)+1+Zp (s.drop (i+Zp (s.drop i)+1)))).drop (i+Zp (s.drop i)+1)=(s.drop (i+Zp (s.drop i)+1)).take (Zp (s.drop (i+Zp (s.drop i)+1))):=by rw[List.drop_take];congr 1;omega
   have hfl:((s.drop (i+Zp (s.drop i)+1)).take (Zp (s.drop (i+Zp (s.drop i)+1)))).length≤1048576:=by rw[List.length_take];omega
   have hpos:∀ n:Nat,decide ((0:Int)<(n:Int))=decide (0<n):=fun n=>by simp
   simp only[go_sem,hw1,ZhC (show i+Zp (s.drop i)+1≤s.length by omega),ZaF _ (show (s.drop (i+Zp (s.drop i)+1)).length≤1048576 by omega),hpos,Bool.true_and]
   have hfin:∃ e,(Z0 (Z5 .add (.int .i64 ((i+Zp (s.drop i):Nat):Int)) (.int .i64 1)) fun t91_34 =>
    Z0 (Z5 .add (.int .i64 ((i+Zp (s.drop i):Nat):Int)) (.int .i64 1)) fun t93_35 =>
    Z0 (Z5 .add t93_35 (.int .i64 (Zp (s.drop (i+Zp (s.drop i)+1)):Int))) fun t95_36 =>
    Z0 (Y9 (.str s) (some t91_34) (some t95_36) none) fun t96_37 =>
    Z0 (Z5 .add (.int .i64 1) (.int .i64 (Zp (s.drop (i+Zp (s.drop i)+1)):Int))) fun t99_38 =>
    Z0 (Z5 .add (.int .i64 ((i+Zp (s.drop i):Nat):Int)) t99_38) fun t100_39 =>
    Wa (.bool neg) (.int .i64 (Zp (s.drop i):Int)) (.str ((s.drop i).take (Zp (s.drop i)))) t96_37 t100_39 H0 H)=some (.tuple [.int .i64 (SX neg (Zp (s.drop i)) ((s.drop i).take (Zp (s.drop i))) ((s.drop (i+Zp (s.drop i)+1)).take (Zp (s.drop (i+Zp (s.drop i)+1))))),.int .i64 e],H):=by
    simp only[go_sem,hw1,hw2,hw3,Bj (show i+Zp (s.drop i)+1≤i+Zp (s.drop i)+1+Zp (s.drop (i+Zp (s.drop i)+1)) by omega) (show i+Zp (s.drop i)+1+Zp (s.drop (i+Zp (s.drop i)+1))≤s.length by omega),htq]
    exact Zds neg _ _ _ htl hfl _ H0 H
   simp only[go_sem,hw1,hw2,hw3,Bj (show i+Zp (s.drop i)+1≤i+Zp (s.drop i)+1+Zp (s.drop (i+Zp (s.drop i)+1)) by omega) (show i+Zp (s.drop i)+1+Zp (s.drop (i+Zp (s.drop i)+1))≤s.length by omega),htq]at hfin
   cases hn0:decide (0<Zp (s.drop i)) with
   |true =>
    simp only[go_sem,Bool.true_or,if_true,hw1,hw2,hw3,Bj (show i+Zp (s.drop i)+1≤i+Zp (s.drop i)+1+Zp (s.drop (i+Zp (s.drop i)+1)) by omega) (show i+Zp (s.drop i)+1+Zp (s.drop (i+Zp (s.drop i)+1))≤s.length by omega),htq]
    exact hfin
   |false =>
    cases hk0:decide (0<Zp (s.drop (i+Zp (s.drop i)+1))) with
    |true =>
     simp only[go_sem,hpos,hk0,Bool.or_true,if_true,hw1,hw2,hw3,Bj (show i+Zp (s.drop i)+1≤i+Zp (s.drop i)+1+Zp (s.drop (i+Zp (s.drop i)+1)) by omega) (show i+Zp (s.drop i)+1+Zp (s.drop (i+Zp (s.drop i)+1))≤s.length by omega),htq]
     exact hfin
    |false =>
     simp only[go_sem,hpos,hk0,Bool.or_false,Bool.false_eq_true,if_false]
     exact Zds neg _ _ _ htl (by simp) _ H0 H
 ·have c1:decide (((i+Zp (s.drop i):Nat):Int)<(s.length:Int))=false:=by simp;omega
  have hd:(s.drop i).drop (Zp (s.drop i))=[]:=List.drop_eq_nil_iff.2 (by omega)
  rw[Zq1 hd]
  simp only[c1,go_sem]
  exact Zds neg _ _ _ htl (by simp) _ H0 H
def Zlf:List UInt8→Int
 |[]=>LT false []
 |b::r=>if (((b.toNat:Int)==45) || ((b.toNat:Int)==43))=true then LT ((b.toNat:Int)==45) r else LT ((b.toNat:Int)==45) (b::r)
theorem Znx (b:UInt8)(r:List UInt8):Zlf (b::r)=if (((b.toNat:Int)==45) || ((b.toNat:Int)==43))=true then LT ((b.toNat:Int)==45) r else LT ((b.toNat:Int)==45) (b::r):=(Eq.refl _).trans (Eq.refl _)
def Zlg (s:List UInt8):Int:=Zlf (s.drop (Yg s))
theorem Znz (s:List UInt8)(hs:s.length≤1048576){i:Nat}(hi:i≤s.length)(H0 H:Hp) :
 ∃ e,G8 (.str s) (.int .i64 (i:Int)) H0 H=some (.tuple [.int .i64 (Zlf (s.drop i)),.int .i64 e],H):=by
 rw[SI]
 by_cases hlt:i<s.length
 ·have c1:decide ((i:Int)<(s.length:Int))=true:=by simp;omega
  have hw1:IntKind.i64.wrap ((i:Int)+1)=((i+1:Nat):Int):=by rw[Zr (by omega) (by omega)];omega
  have hix:=Y0 (List.getElem?_eq_getElem hlt)
  rw[U8 hlt]
  simp only[Ym,go_sem,c1,hix,Znx]
  cases h45:((s[i].toNat:Int)==45) with
  |true =>
   simp only[go_sem,c1,hix,hw1,Bool.true_or,if_true]
   exact Zdr s hs true (by omega) H0 H
  |false =>
   simp only[go_sem,Ym,c1,hix]
   cases h43:((s[i].toNat:Int)==43) with
   |true =>
    simp only[go_sem,c1,hix,hw1,Bool.or_true,if_true]
    exact Zdr s hs false (by omega) H0 H
   |false =>
    simp only[go_sem,Bool.or_false,Bool.or_self,Bool.false_eq_true,if_false]
    rw[←U8 hlt]
    exact Zdr s hs false (by omega) H0 H
 ·have c1:decide ((i:Int)<(s.length:Int))=false:=by simp;omega
  have hd:s.drop i=[]:=List.drop_eq_nil_iff.2 (by omega)
  simp only[Ym,go_sem,c1,hd]
  have:=Zdr s hs false hi H0 H
  rw[hd]at this
  exact this
theorem ZsR (s:List UInt8)(hs:s.length≤1048576)(H0 H:Hp):∀ (k i:Nat),s.length-i=k→i≤s.length →
 ∃ e,UC (.str s) (.int .i64 (i:Int)) H0 H=some (.tuple [.int .i64 (Zlf ((s.drop i).drop (Yg (s.drop i)))),.int .i64 e],H):=by
 intro k
 induction k with
 |zero =>
  intro i hk hi
  have hlt:decide ((i:Int)<(s.length:Int))=false:=by simp;omega
  have hd:s.drop i=[]:=List.drop_eq_nil_iff.2 (by omega)
  rw[Dr]
  simp only[Ym,go_sem,hlt]
  have:=Znz s hs hi H0 H
  rw[hd]at this ⊢
  exact this
 |succ k ih =>
  intro i hk hi
  have hl:i<s.length:=by omega
  have hlt:decide ((i:Int)<(s.length:Int))=true:=by simp;omega
  have hw1:IntKind.i64.wrap ((i:Int)+1)=((i+1:Nat):Int):=by rw[Zr (by omega) (by omega)];omega
  have hix:=Y0 (List.getElem?_eq_getElem hl)
  have ih':=ih (i+1) (by omega) (by omega)
  have hnext:X6 s[i]=true→(s.drop i).drop (Yg (s.drop i))=(s.drop (i+1)).drop (Yg (s.drop (i+1))):=fun h=>by
   rw[U8 hl,V3,h,if_pos rfl,List.drop_succ_cons]
  have hstop:X6 s[i]=false→(s.drop i).drop (Yg (s.drop i))=s.drop i:=fun h=>by
   rw[U8 hl,V3,h];simp
  have hb:X6 s[i]=(((s[i].toNat:Int)==32) || ((s[i].toNat:Int)==9)):=by
   rw[X6,(MA s[i]).1,(MA s[i]).2]
  rw[Dr]
  simp only[Ym,go_sem,hlt,hix]
  cases h32:((s[i].toNat:Int)==32) with
  |true =>
   simp only[go_sem,Dq,hw1]
   rw[hnext (by rw[hb,h32];rfl)]
   exact ih'
  |false =>
   simp only[go_sem,hix]
   cases h9:((s[i].toNat:Int)==9) with
   |true =>
    simp only[go_sem,Dq,hw1]
    rw[hnext (by rw[hb,h32,h9];rfl)]
    exact ih'
   |false =>
    simp only[go_sem]
    rw[hstop (by rw[hb,h32,h9];rfl)]
    exact Znz s hs hi H0 H
theorem Zhg (s:List UInt8)(hs:s.length≤1048576)(H:Hp):∃ e,Ze Q4 [.str s] H=some (.tuple [.int .i64 (Zlg s),.int .i64 e],H):=by
 obtain⟨e,h⟩:=ZsR s hs [] [] _ 0 rfl (Nat.zero_le _)
 rw[show ((0:Nat):Int)=0 from rfl,List.drop_zero]at h
 refine⟨e,XJ (a':=.str s) (H1:=[]) rfl ?_ rfl⟩
 rw[Hw]
 exact h
def LU (a b:Int):Int:=if a<b then -1 else if b<a then 1 else 0
theorem ZnU (a b:Int)(H:Hp):Ze Fz [.int .i64 a,.int .i64 b] H=some (.int .i64 (LU a b),H):=by
 refine K9 (a':=.int .i64 a) (b':=.int .i64 b) (H1:=[]) rfl rfl ?_ rfl
 rw[OU]
 unfold Eg LU
 by_cases h:a<b
 ·simp only[go_sem,decide_eq_true h,if_pos h]
 ·by_cases h2:b<a
  ·simp only[go_sem,decide_eq_false h,if_neg h,decide_eq_true h2,if_pos h2]
  ·simp only[go_sem,decide_eq_false h,if_neg h,decide_eq_false h2,if_neg h2,On]
def OB (b:UInt8):Bool:=X6 b || Zn7 b.toNat || R8 b.toNat
def B6 (s:List UInt8):List UInt8:=s.filter OB
theorem Zmw:((List.range 256).all fun n=>(Dl (Zg5 (.bool (X6 (UInt8.ofNat n))) (.int .u8 (n:Int)))==some (OB (UInt8.ofNat n)))&&(Dl (ZnD (.bool (X6 (UInt8.ofNat n))) (.int .u8 (n:Int)))==some (OB (UInt8.ofNat n))))=true:=by kernel_rfl
theorem Zp5 (b:UInt8):Zg5 (.bool (X6 b)) (.int .u8 b.toNat)=some (.bool (OB b))∧ZnD (.bool (X6 b)) (.int .u8 b.toNat)=some (.bool (OB b)):=by
 have:=UZ Zmw (OM b)
 rw[UInt8.ofNat_toNat,Bool.and_eq_true,beq_iff_eq,beq_iff_eq]at this
 exact⟨Up this.1,Up this.2⟩
theorem ZoQ (acc:List UInt8)(b:UInt8)(h:acc.length≤1048576):byteE.run [.ptr 0 0,.int .u8 b.toNat] [AObj.bld 192 5 acc]=some (.nili,[AObj.bld 192 5 (acc++[b])]):=by
 have hb:=b.toNat_lt
 have h2:acc.length+1≤Zbz:=by unfold Zbz;omega
 have hby:ZcJ [.int .u8 b.toNat]=some fun l=>if l.length+1≤Zbz then some (.nili,l++[UInt8.ofNat (b.toNat:Int).toNat]) else none:=by
  simp only[ZcJ,if_pos (show (0:Int)≤(b.toNat:Int)∧(b.toNat:Int)<256 by omega)]
 simp only[byteE,Zqw,Ze5,N0,hby,List.getElem?_cons_zero,Zbe,FF,FG,and_self,if_true,if_pos h2,List.set_cons_zero,Int.toNat_natCast,UInt8.ofNat_toNat]
theorem ZdE (acc:List UInt8):stringE.run [.ptr 0 0] [AObj.bld 192 5 acc]=some (.str acc,[AObj.bld 192 5 acc]):=rfl
theorem Zmy (s:List UInt8)(hs:s.length≤1048576)(H0:Hp):∀ (r done:List UInt8) (acc:List UInt8),s=done++r→acc.length≤done.length →
 ∃ H',Jl (.str s) (.ptr 0 0) (.int .i64 (s.length:Int)) (.int .i64 (done.length:Int)) H0 [AObj.bld 192 5 acc]=some (.str (acc++B6 r),H'):=by
 intro r
 induction r with
 |nil =>
  intro done acc hd ha
  rw[List.append_nil]at hd
  subst hd
  have hlt:decide ((s.length:Int)<(s.length:Int))=false:=by simp
  refine⟨[AObj.bld 192 5 acc],?_⟩
  rw[RP]
  simp only[go_sem,hlt,Ol,ZdE]
  simp[B6]
 |cons b r ih =>
  intro done acc hd ha
  have hlen:s.length=done.length+(r.length+1):=by rw[hd];simp
  have hlt:decide ((done.length:Int)<(s.length:Int))=true:=by simp;omega
  have hw1:IntKind.i64.wrap ((done.length:Int)+1)=((done.length+1:Nat):Int):=by rw[Zr (by omega) (by omega)];omega
  rw[RP]
  simp only[go_sem,hlt,Cq,Zh1 hd,Sz,(Zp5 b).1]
  cases hb:OB b with
  |true =>
   obtain⟨H',h⟩:=ih (done++[b]) (acc++[b]) (by rw[hd];simp) (by simp;omega)
   rw[List.length_append,List.length_singleton]at h
   refine⟨H',?_⟩
   simp only[go_sem,ZoQ acc b (by omega),RO,hw1,h,B6,List.filter_cons,hb,if_true,List.append_assoc,List.singleton_append]
  |false =>
   obtain⟨H',h⟩:=ih (done++[b]) acc (by rw[hd];simp) (by simp;omega)
   rw[List.length_append,List.length_singleton]at h
   refine⟨H',?_⟩
   simp only[go_sem,RO,hw1,h,B6,List.filter_cons,hb,Bool.false_eq_true,if_false]
theorem Zmx (s:List UInt8)(hs:s.length≤1048576)(H:Hp):Ze Fy [.str s] H=some (.str (B6 s),H):=by
 obtain⟨H',h⟩:=Zmy s hs [] s [] [] rfl (Nat.le_refl _)
 rw[List.length_nil,show ((0:Nat):Int)=0 from rfl,List.nil_append]at h
 refine XJ (a':=.str s) (H1:=H') rfl ?_ rfl
 rw[OT]
 unfold Ef
 simp only[go_sem,List.length_nil,List.nil_append,h]
theorem FI (s:List UInt8):(B6 s).length≤s.length:=List.length_filter_le _ _
def X3 (s:List UInt8):List UInt8:=s.drop (Yg s)
theorem SN (s:List UInt8):(X3 s).length≤s.length:=by unfold X3;rw[List.length_drop];omega
theorem Zil (b:UInt8)(s:List UInt8):X3 (b::s)=if X6 b then X3 s else b::s:=by
 unfold X3
 rw[V3]
 split <;> simp
theorem Zlz (s:List UInt8):Go.Lib.trimLeftS s [32,9]=X3 s:=by
 unfold Go.Lib.trimLeftS
 induction s with
 |nil=>rfl
 |cons b s ih =>
  rw[Zil,List.dropWhile_cons]
  have:([32,9]:List UInt8).contains b=X6 b:=by
   rw[List.contains_cons,List.contains_cons,X6]
   simp
  rw[this,ih]
theorem Zoc (s:List UInt8)(H:Hp):Ze KZ [.str s] H=some (.str (X3 s),H):=by
 refine XJ (a':=.str s) (H1:=[]) rfl ?_ rfl
 rw[Se]
 unfold Tn
 have:OL [.str s,.str [32,9]]=some (.str (X3 s)):=by
  unfold OL
  dsimp only
  rw[if_pos ⟨by decide,by decide⟩,Zlz]
 simp only[go_sem,Cy,this]
theorem Zt3 (L:Loc)(s:List UInt8):(upS L s).length=s.length:=by simp[upS,Wz]
theorem ZmO {l:List AV}{L:Loc}(h:LocCells l L)(hok:LocOk L)(s:List UInt8)(hs:s.length≤1048576)(H:Hp):Ze G0 [.str s,.vp l] H=some (.str (upS L s),H):=by
 obtain⟨l',h1,x,c,e,rfl,hx,hc,he⟩:=h.close [] 0 2
 have hcl:Z9 [] 0 6 (.vp l)=some (.vp (L.cells x c e)):=by rw[Xt,h1]
 refine K9 (a':=.str s) rfl hcl (H1:=[]) ?_ rfl
 rw[Sf]
 unfold To
 have hu:=ZlA (L:=L) ⟨x,c,e,rfl,hx,hc,he⟩ hok s hs []
 simp only[go_sem,X2 6 (L.cells x c e) rfl,hu.1]
def Ui (L:Loc)(n:Nat)(s:List UInt8):List UInt8 :=
 let s1:=if n.testBit 3 then X3 s else s
 let s2:=if n.testBit 4 then B6 s1 else s1
 if n.testBit 2 then upS L s2 else s2
theorem Zfi (L:Loc)(n:Nat)(s:List UInt8):(Ui L n s).length≤s.length:=by
 have h1:=SN s
 have h2:=FI s
 have h3:=FI (X3 s)
 simp only[Ui]
 split <;> split <;> split <;> (try rw[Zt3]) <;> omega
theorem ZbF:∀ a b:List Int,V1 a b=-1∨V1 a b=0∨V1 a b=1:=by
 intro a
 induction a with
 |nil=>intro b;cases b <;> simp[V1]
 |cons x a ih =>
  intro b
  cases b with
  |nil=>simp[V1]
  |cons y b =>
   rw[Q3]
   split
   ·simp
   ·split
    ·simp
    ·exact ih b
theorem ZoX (a b:List UInt8):Qd a b=-1∨Qd a b=0∨Qd a b=1:=by rw[←Zgw];exact ZbF _ _
theorem Zgx (L:Loc)(a b:List UInt8):G7 L a b=-1∨G7 L a b=0∨G7 L a b=1:=by
 unfold G7
 split
 ·exact ZbF _ _
 ·exact ZoX _ _
theorem ZhA (a b:Int):LU a b=-1∨LU a b=0∨LU a b=1:=by
 unfold LU
 split
 ·simp
 ·split <;> simp
def RG (L:Loc)(n:Nat)(x y:List UInt8):Int:=if n.testBit 0 then LU (Zlg x) (Zlg y) else G7 L (Ui L n x) (Ui L n y)
def Uh (L:Loc)(n:Nat)(x y:List UInt8):Int:=if n.testBit 1 then -RG L n x y else RG L n x y
theorem ZhN {c t:Int}(hc:c=-1∨c=0∨c=1)(ht:t=1∨t=-1):IntKind.i64.wrap (t*c)=if t=-1 then -c else c:=by
 rcases ht with rfl|rfl <;> rcases hc with rfl|rfl|rfl <;> decide
section
variable {n:Nat}(hn:n<32)
include hn
theorem Zsd:Z5 .and (.int .i64 n) (.int .i64 1)=some (.int .i64 (if n.testBit 0 then 1 else 0)):=Ip (j:=0) hn (by decide)
theorem ZoD:Z5 .and (.int .i64 n) (.int .i64 2)=some (.int .i64 (if n.testBit 1 then 2 else 0)):=Ip (j:=1) hn (by decide)
theorem ZtG:Z5 .and (.int .i64 n) (.int .i64 4)=some (.int .i64 (if n.testBit 2 then 4 else 0)):=Ip (j:=2) hn (by decide)
theorem ZtH:Z5 .and (.int .i64 n) (.int .i64 8)=some (.int .i64 (if n.testBit 3 then 8 else 0)):=Ip (j:=3) hn (by decide)
theorem Zta:Z5 .and (.int .i64 n) (.int .i64 16)=some (.int .i64 (if n.testBit 4 then 16 else 0)):=Ip (j:=4) hn (by decide)
end
theorem SZ {f:List AV→Hp→Z3}{a a' b b' c c' d d' v:AV}{H H1:Hp}(ha:Z9 [] 0 6 a=some a')(hb:Z9 [] 0 6 b=some b')(hd:Z9 [] 0 6 c=some c')(he:Z9 [] 0 6 d=some d')(hc:f [a',b',c',d'] []=some (v,H1))(hv:Ka 3 v=true):Ze f [a,b,c,d] H=some (v,H) :=
 Nc (args':=[a',b',c',d']) (by simp[ha,hb,hd,he]) hc hv
theorem Zh7 (L:Loc)(x c e:AV)(r:List AObj):Z4 true 6 (.ptr 0 0) (AObj.cells (L.cells x c e)::r)=some (.agg (L.cells x c e)):=by simp[Z4,Go.Am.apart,Loc.cells]
theorem ZrE {c:Int}(hc:c=-1∨c=0∨c=1):IntKind.i64.wrap (0-c)=-c:=by rcases hc with rfl|rfl|rfl <;> decide
def JU (z:AObj)(n:Nat)(x y:List UInt8):Hp:=[z,.cells [.int .i64 n],.cells [.str x],.cells [.str y]]
theorem LC {z:AObj}{n:Nat}{x y:List UInt8}{fnv:AV}{g:List UInt8→List UInt8}{m:Int}{bit:Bool}(hand:Z5 .and (.int .i64 n) (.int .i64 m)=some (.int .i64 (if bit then m else 0)))(hm:(m != 0)=true)
 (hf:∀ s:List UInt8,(s=x∨s=y)→∀ H,Xl cfg (Za cfg) fnv [.str s] H=some (.str (g s),H)) :
 KY [.int .i64 m,fnv,.ptr 1 0,.ptr 2 0,.ptr 3 0] (JU z n x y)=some (.tuple [],JU z n (if bit then g x else x) (if bit then g y else y)):=by
 have l1:Z4 false 1 (.ptr 1 0) (JU z n x y)=some (.int .i64 n):=Y1 (l:=[.int .i64 n]) rfl
 have l2:Z4 false 1 (.ptr 2 0) (JU z n x y)=some (.str x):=Y1 (l:=[.str x]) rfl
 have l3:Z4 false 1 (.ptr 3 0) (JU z n x y)=some (.str y):=Y1 (l:=[.str y]) rfl
 have s1:Zi 1 (.ptr 2 0) (.str (g x)) (JU z n x y)=some (.tuple [],JU z n (g x) y):=by simp[Zi,Xm,JU,AV.known,AV.cells,splice]
 have s2:Zi 1 (.ptr 3 0) (.str (g y)) (JU z n (g x) y)=some (.tuple [],JU z n (g x) (g y)):=by simp[Zi,Xm,JU,AV.known,AV.cells,splice]
 rw[Sd]
 unfold Tm
 cases bit with
 |true=>simp only[go_sem,l1,hand,if_true,hm,l2,hf x (.inl rfl),l3,hf y (.inr rfl),s1,s2]
 |false=>simp only[go_sem,l1,hand,Bool.false_eq_true,if_false,bne_self_eq_false]
theorem Zdp {a:AV}{L:Loc}(h:LocAV a L)(hok:LocOk L){n:Nat}(hn:n<32)(s t:List UInt8)(hs:s.length≤1048576)(ht:t.length≤1048576)(H:Hp):Ze U2 [a,.int .i64 n,.str s,.str t] H=some (.int .i64 (Uh L n s t),H):=by
 obtain⟨a1,h1,h2⟩:=h.close [] 0 2
 have h2':=h2
 obtain⟨x,c,e,rfl,hx,hc,he⟩:=h2
 have hcl:LocCells (L.cells x c e) L:=⟨x,c,e,rfl,hx,hc,he⟩
 suffices hs:∃ H1,U2 [.agg (L.cells x c e),.int .i64 n,.str s,.str t] []=some (.int .i64 (Uh L n s t),H1) by
  obtain⟨H1,hr⟩:=hs
  exact SZ h1 (b':=.int .i64 n) (c':=.str s) (d':=.str t) rfl rfl rfl hr rfl
 have l1:∀ z x y,Z4 false 1 (.ptr 1 0) (JU z n x y)=some (.int .i64 n):=fun z x y=>Y1 (l:=[.int .i64 n]) rfl
 have l2:∀ z x y,Z4 false 1 (.ptr 2 0) (JU z n x y)=some (.str x):=fun z x y=>Y1 (l:=[.str x]) rfl
 have l3:∀ z x y,Z4 false 1 (.ptr 3 0) (JU z n x y)=some (.str y):=fun z x y=>Y1 (l:=[.str y]) rfl
 have hJ2:∀ (z:Int) (hz:z=1∨z=-1),∃ H1,Bs (.ptr 0 0) (.ptr 1 0) (.ptr 2 0) (.ptr 3 0) (.int .i64 z) [] (JU (.cells (L.cells x c e)) n s t)=some (.int .i64 (if z=-1 then -G7 L (Ui L n s) (Ui L n t) else G7 L (Ui L n s) (Ui L n t)),H1):=fun z hz=>by
  have e1:=LC (z:=.cells (L.cells x c e)) (n:=n) (x:=s) (y:=t) (fnv:=.fn (.func 155) [] []) (g:=X3) (m:=8) (ZtH hn) rfl (fun r _ H=>by rw[OZ];exact Zoc r H)
  have d1:=SN s
  have d2:=SN t
  have e2:=LC (z:=.cells (L.cells x c e)) (n:=n) (x:=if n.testBit 3 then X3 s else s) (y:=if n.testBit 3 then X3 t else t) (fnv:=.fn (.func 157) [] []) (g:=B6) (m:=16) (Zta hn) rfl (fun r hr H=>by
   rw[Ze0]
   refine Zmx r ?_ H
   rcases hr with rfl|rfl <;> split <;> omega)
  have e3:=LC (z:=.dead) (n:=n) (x:=if n.testBit 4 then B6 (if n.testBit 3 then X3 s else s) else (if n.testBit 3 then X3 s else s)) (y:=if n.testBit 4 then B6 (if n.testBit 3 then X3 t else t) else (if n.testBit 3 then X3 t else t)) (fnv:=.fn (.func 158) [] [.vp (L.cells x c e)]) (g:=upS L) (m:=4) (ZtG hn) rfl (fun r hr H=>by
   rw[Za0]
   refine ZmO hcl hok r ?_ H
   have:=FI s
   have:=FI t
   have:=FI (X3 s)
   have:=FI (X3 t)
   rcases hr with rfl|rfl <;> split <;> split <;> omega)
  have hl1:=Zfi L n s
  have hl2:=Zfi L n t
  have hfz:∀ (x' y':List UInt8) (k:AV→Hp→Z3),YU (.ptr 0 0) (JU (.cells (L.cells x c e)) n x' y') k=k (.vp (L.cells x c e)) (JU .dead n x' y'):=fun x' y' k=>rfl
  refine⟨JU .dead n (Ui L n s) (Ui L n t),?_⟩
  rw[At]
  simp only[go_sem,Za4,List.nil_append,List.cons_append,e1,e2,hfz,e3,X2 6 (L.cells x c e) rfl,l2,l3]
  have hsh:∀ r,(if n.testBit 2=true then upS L (if n.testBit 4=true then B6 (if n.testBit 3=true then X3 r else r) else if n.testBit 3=true then X3 r else r) else if n.testBit 4=true then B6 (if n.testBit 3=true then X3 r else r) else if n.testBit 3=true then X3 r else r)=Ui L n r:=fun r=>rfl
  simp only[hsh,ZeX h2' hok (Ui L n s) (Ui L n t) (by omega) (by omega),go_sem,ZhN (Zgx _ _ _) hz]
 have hJ1:∀ (z:Int) (hz:z=1∨z=-1),∃ H1,QH (.ptr 0 0) (.ptr 1 0) (.ptr 2 0) (.ptr 3 0) (.int .i64 z) [] (JU (.cells (L.cells x c e)) n s t)=some (.int .i64 (if z=-1 then -RG L n s t else RG L n s t),H1):=fun z hz=>by
  rw[As]
  unfold RG
  cases hb:n.testBit 0 with
  |true =>
   obtain⟨e1,p1⟩:=Zhg s hs (JU (.cells (L.cells x c e)) n s t)
   obtain⟨e2,p2⟩:=Zhg t ht (JU (.cells (L.cells x c e)) n s t)
   refine⟨JU (.cells (L.cells x c e)) n s t,?_⟩
   simp only[go_sem,l1,Zsd hn,hb,if_true,show ((1:Int) != 0)=true from rfl,l2,l3,p1,p2,Zt6,Zt7,ZnU,ZhN (ZhA _ _) hz]
  |false =>
   obtain⟨H1,q⟩:=hJ2 z hz
   refine⟨H1,?_⟩
   simp only[go_sem,l1,Zsd hn,hb,Bool.false_eq_true,if_false,bne_self_eq_false]
   exact q
 have b1:∀ (k:Int) (H:Hp),Y4 (.int .i64 k) H=some (.ptr H.length 0,H++[.cells [.int .i64 k]]):=fun k H=>FC rfl
 have b2:∀ (k:List UInt8) (H:Hp),Y4 (.str k) H=some (.ptr H.length 0,H++[.cells [.str k]]):=fun k H=>FC rfl
 rw[AW]
 unfold Mr
 have hst:[AObj.cells (L.cells x c e),.cells [.int .i64 n],.cells [.str s],.cells [.str t]]=JU (.cells (L.cells x c e)) n s t:=rfl
 unfold Uh
 cases hb:n.testBit 1 with
 |true =>
  obtain⟨H1,q⟩:=hJ1 (-1) (.inr rfl)
  refine⟨H1,?_⟩
  simp only[go_sem,b1,b2,List.length_nil,List.length_cons,List.nil_append,List.cons_append,Nat.zero_add,Nat.reduceAdd,hst,l1,ZoD hn,hb,if_true,show ((2:Int) != 0)=true from rfl]
  simpa using q
 |false =>
  obtain⟨H1,q⟩:=hJ1 1 (.inl rfl)
  refine⟨H1,?_⟩
  simp only[go_sem,b1,b2,List.length_nil,List.length_cons,List.nil_append,List.cons_append,Nat.zero_add,Nat.reduceAdd,hst,l1,ZoD hn,hb,Bool.false_eq_true,if_false,bne_self_eq_false]
  simpa using q
def plainP:Spec:=⟨[],-1,0,false,false⟩
def Zt (p:Spec):Spec:=if (ZM p != 0)=true then plainP else p
theorem Sl.known {k:Nat}{x:AV}{l:List AV}(h:Sl k x l):x.known=true:=by
 rcases h with ⟨rfl,_⟩|⟨tok,rfl⟩ <;> rfl
theorem ZdM {a:AV}{p:Spec}(h:SpecAV a p)(H:Hp):∃ a',Ze WH [a] H=some (a',H)∧SpecAV a' (Zt p):=by
 obtain⟨a1,h1,h2⟩:=h.close [] 0 2
 have hck:=fun H=>Dn h2 H
 obtain⟨x,rfl,hx⟩:=h2
 have hl:Z4 true 5 (.ptr 0 0) [AObj.cells (p.cells x),.cells [.nils,.int .i64 0,.int .i64 0,.bool false,.bool false]]=some (.agg (p.cells x)):=by simp[Z4,Go.Am.apart,Spec.cells]
 unfold Zt
 cases hb:(ZM p != 0) with
 |true =>
  have hfill:(YZ [(1,1,(.int .i64 (-1)))] [.nils,(.int .i64 0),(.int .i64 0),(.bool false),(.bool false)]).map AV.agg=some (.agg (plainP.cells .nils)):=rfl
  have hst:Zi 5 (.ptr 1 0) (.agg (plainP.cells .nils)) [AObj.cells (p.cells x),.cells [.nils,.int .i64 0,.int .i64 0,.bool false,.bool false]]=some (.tuple [],[AObj.cells (p.cells x),.cells (plainP.cells .nils)]):=by simp[Zi,Xm,AV.known,AV.cells,Spec.cells,splice]
  have hl2:Z4 true 5 (.ptr 1 0) [AObj.cells (p.cells x),.cells (plainP.cells .nils)]=some (.agg (plainP.cells .nils)):=by simp[Z4,Go.Am.apart,Spec.cells]
  have hrun:WH [.agg (p.cells x)] []=some (.agg (plainP.cells .nils),[AObj.cells (p.cells x),.cells (plainP.cells .nils)]):=by
   rw[Rm]
   unfold D2
   simp only[go_sem,List.nil_append,List.length_nil,List.length_cons,List.cons_append,Nat.zero_add,hl,hck,hb,hfill,hst,hl2]
  obtain⟨a',q1,q2⟩:=SpecAV.close (a:=.agg (plainP.cells .nils)) (p:=plainP) ⟨.nils,rfl,.inl ⟨rfl,rfl⟩⟩ [AObj.cells (p.cells x),.cells (plainP.cells .nils)] 0 2
  exact⟨a',FK h1 hrun q1,by simpa using q2⟩
 |false =>
  have hst:Zi 5 (.ptr 1 0) (.agg (p.cells x)) [AObj.cells (p.cells x),.cells [.nils,.int .i64 0,.int .i64 0,.bool false,.bool false]]=some (.tuple [],[AObj.cells (p.cells x),.cells (p.cells x)]):=by simp[Zi,Xm,AV.known,AV.cells,Spec.cells,splice]
  have hl2:Z4 true 5 (.ptr 1 0) [AObj.cells (p.cells x),.cells (p.cells x)]=some (.agg (p.cells x)):=by simp[Z4,Go.Am.apart,Spec.cells]
  have hrun:WH [.agg (p.cells x)] []=some (.agg (p.cells x),[AObj.cells (p.cells x),.cells (p.cells x)]):=by
   rw[Rm]
   unfold D2
   simp only[go_sem,List.nil_append,List.length_nil,List.length_cons,List.cons_append,Nat.zero_add,hl,hck,hb,Au,hst,hl2]
  obtain⟨a',q1,q2⟩:=SpecAV.close (a:=.agg (p.cells x)) (p:=p) ⟨x,rfl,hx⟩ [AObj.cells (p.cells x),.cells (p.cells x)] 0 2
  exact⟨a',FK h1 hrun q1,by simpa using q2⟩
theorem Zfr (p:Spec):(0≤(Zt p).flags∧(Zt p).flags≤31)∧(Zt p).keys.length≤8∧∀ k∈(Zt p).keys,0≤k.fl∧k.fl≤31:=by
 unfold Zt
 cases hb:(ZM p != 0) with
 |true=>simp[plainP]
 |false =>
  rw[bne_eq_false_iff_eq]at hb
  unfold ZM at hb
  split at hb
  ·cases hb
  ·split at hb
   ·cases hb
   ·split at hb
    ·cases hb
    ·rename_i h1 h2 h3
     simp only[Bool.or_eq_true,decide_eq_true_eq,not_or]at h2
     simp only[Bool.false_eq_true,if_false]
     refine⟨by omega,by omega,fun k hk=>?_⟩
     have h4:¬ Nh k=true:=fun h=>h3 (List.any_eq_true.2 ⟨k,hk,h⟩)
     simp only[Nh,Bool.or_eq_true,decide_eq_true_eq,not_or]at h4
     omega
theorem ZaN (p:Spec)(h:∀ k∈p.keys,KeOk k):∀ k∈(Zt p).keys,KeOk k:=by
 unfold Zt
 split
 ·intro k hk;cases hk
 ·exact h
theorem ZmC (line:List UInt8)(fs:List (Nat×Nat))(k:Ke):(ex line fs k).length≤line.length:=by
 unfold ex
 split
 ·dsimp only
  split
  ·simp
  ·rw[List.length_drop,List.length_take];omega
 ·simp
def Nd (p:Spec)(k:Ke):Nat:=if (k.fl==0)=true then p.flags.toNat else k.fl.toNat
def SD (L:Loc)(p:Spec)(a b:List UInt8):List Ke→Int
 |[]=>0
 |k::l=>if (Uh L (Nd p k) (ex a (fields a p.sep) k) (ex b (fields b p.sep) k) != 0)=true then Uh L (Nd p k) (ex a (fields a p.sep) k) (ex b (fields b p.sep) k) else SD L p a b l
theorem ZeG (L:Loc)(p:Spec)(a b:List UInt8)(k:Ke)(l:List Ke):SD L p a b (k::l)=if (Uh L (Nd p k) (ex a (fields a p.sep) k) (ex b (fields b p.sep) k) != 0)=true then Uh L (Nd p k) (ex a (fields a p.sep) k) (ex b (fields b p.sep) k) else SD L p a b l:=(Eq.refl _).trans (Eq.refl _)
def Zde (L:Loc)(p:Spec)(a b:List UInt8):Int:=if (p.keys.length==0)=true then Uh L p.flags.toNat a b else SD L p a b p.keys
def Xu (L:Loc)(p:Spec)(a b:List UInt8):Int:=Zde L (Zt p) a b
def CSt (lc sc:List AV)(x4 x5:AV)(H:Hp):Prop:=(x4=.vp lc∧x5=.vp sc)∨(x4=.ptr 0 0∧x5=.ptr 1 0∧H=[.cells lc,.cells sc])
theorem CSt.frz {lc sc:List AV}{x4 x5:AV}{H:Hp}(h:CSt lc sc x4 x5 H)(kc:List AV):∃ H2,∀ K:AV→AV→AV→Hp→Z3,
 (YU x4 (H++[.cells kc]) fun z4 h4=>YU x5 h4 fun z5 h5=>YU (.ptr H.length 0) h5 fun z10 h10=>K z4 z5 z10 h10)=K (.vp lc) (.vp sc) (.vp kc) H2:=by
 rcases h with ⟨rfl,rfl⟩|⟨rfl,rfl,rfl⟩
 ·refine⟨H++[.dead],fun K=>?_⟩
  have hv:∀ (l:List AV) (H:Hp) (k:AV→Hp→Z3),YU (.vp l) H k=k (.vp l) H:=fun l H k=>rfl
  rw[hv,hv,Zpp]
 ·exact⟨[.dead,.dead,.dead],fun K=>rfl⟩
theorem CSt.fld {lc:List AV}{x:AV}{p:Spec}{x4 x5:AV}{H:Hp}(h:CSt lc (p.cells x) x4 x5 H) :
 (∃ y,Z8 0 x5=some y∧∀ r,Z4 false 1 y (H++r)=some x)∧(∃ y,Z8 2 x5=some y∧∀ r,Z4 false 1 y (H++r)=some (.int .i64 p.flags)):=by
 rcases h with ⟨rfl,rfl⟩|⟨rfl,rfl,rfl⟩
 ·exact⟨⟨.vp (p.cells x),rfl,fun r=>by simp only[Spec.cells,ZD]⟩,⟨.vp [.int .i64 p.flags,.bool p.uniq,.bool p.stab],rfl,fun r=>by simp only[ZD]⟩⟩
 ·exact⟨⟨.ptr 1 0,rfl,fun r=>Y1 (l:=p.cells x) rfl⟩,⟨.ptr 1 2,rfl,fun r=>Y1 (l:=p.cells x) rfl⟩⟩
theorem vpf (x:AV)(p:Spec):Z8 1 (.vp (p.cells x))=some (.vp [.int .i64 p.sep,.int .i64 p.flags,.bool p.uniq,.bool p.stab]):=rfl
theorem ZjO (L:Loc)(x c e:AV):YE true 6 (.vp (L.cells x c e))=some (.agg (L.cells x c e)):=rfl
theorem ZlY (k:Ke):YE true 5 (.vp k.cells)=some (.agg k.cells):=rfl
section
variable {L:Loc}{x c e:AV}(hav:LocAV (.agg (L.cells x c e)) L)(hok:LocOk L){p:Spec}{xk:AV}(hk:Sl 5 xk (p.keys.map Ke.av))(hlen:p.keys.length≤8)
 (hks:∀ k∈p.keys,KeOk k) (hkf:∀ k∈p.keys,0≤k.fl∧k.fl≤31) (hfl:0≤p.flags∧p.flags≤31) (a b:List UInt8) (ha:a.length≤1048576) (hb:b.length≤1048576)
include hav hok hk hlen hks hkf hfl ha hb
theorem ZoY:∀ (m i:Nat) (x4 x5:AV) (H:Hp),p.keys.length-i=m→i≤p.keys.length→CSt (L.cells x c e) (p.cells xk) x4 x5 H →
 ∃ H',Ul (.str a) (.str b) x4 x5 xk (.int .i64 (p.keys.length:Int)) (.int .i64 (i:Int)) [] H=some (.int .i64 (SD L p a b (p.keys.drop i)),H'):=by
 intro m
 induction m with
 |zero =>
  intro i x4 x5 H hm hi hst
  have hlt:decide ((i:Int)<(p.keys.length:Int))=false:=by simp;omega
  have hd:p.keys.drop i=[]:=List.drop_eq_nil_iff.2 (by omega)
  refine⟨H,?_⟩
  rw[BJ]
  simp only[go_sem,hlt,ES,hd,SD]
 |succ m ih =>
  intro i x4 x5 H hm hi hst
  have hi1:i<p.keys.length:=by omega
  have hlt:decide ((i:Int)<(p.keys.length:Int))=true:=by simp;omega
  have hw:IntKind.i64.wrap ((i:Int)+1)=((i+1:Nat):Int):=by rw[Zr (by omega) (by omega)];omega
  have hmem:p.keys[i]∈p.keys:=List.getElem_mem hi1
  have hko:=hks _ hmem
  have hkf':=hkf _ hmem
  rw[List.drop_eq_getElem_cons hi1,ZeG]
  have hget:p.keys[i]?=some p.keys[i]:=List.getElem?_eq_getElem hi1
  generalize p.keys[i]=k at hko hkf' hget
  obtain⟨_,y,hy1,hy2⟩:=hst.fld
  obtain⟨H2,hfz⟩:=hst.frz k.cells
  obtain⟨H3,e1,_⟩:=IH ha hko p.sep H2
  obtain⟨H4,e2,_⟩:=IH hb hko p.sep H3
  have l1:=ZmC a (fields a p.sep) k
  have l2:=ZmC b (fields b p.sep) k
  have hn:Nd p k<32:=by unfold Nd;split <;> omega
  have hp:=Zdp hav hok hn (ex a (fields a p.sep) k) (ex b (fields b p.sep) k) (by omega) (by omega) H4
  have hJ5:∃ H',Uk (.str a) (.str b) x4 x5 (.ptr H.length 0) (.int .i64 (Nd p k:Int)) xk (.int .i64 (p.keys.length:Int)) (.int .i64 (i:Int)) [] (H++[.cells k.cells])=some (.int .i64 (if (Uh L (Nd p k) (ex a (fields a p.sep) k) (ex b (fields b p.sep) k) != 0)=true then Uh L (Nd p k) (ex a (fields a p.sep) k) (ex b (fields b p.sep) k) else SD L p a b (p.keys.drop (i+1))),H'):=by
   rw[EV,hfz]
   simp only[ZjO,Io,vpf,ZD,ZjP,ZlY,go_sem,e1,e2,hp]
   cases hc:(Uh L (Nd p k) (ex a (fields a p.sep) k) (ex b (fields b p.sep) k) != 0) with
   |true=>exact⟨H4,by simp only[go_sem,if_true]⟩
   |false =>
    obtain⟨H5,q⟩:=ih (i+1) (.vp (L.cells x c e)) (.vp (p.cells xk)) H4 (by omega) (by omega) (.inl ⟨rfl,rfl⟩)
    exact⟨H5,by simp only[go_sem,Bool.false_eq_true,if_false,EU,hw,q]⟩
  obtain⟨H',hJ5⟩:=hJ5
  refine⟨H',?_⟩
  have hst5:=Ir H k [.int .i64 0,.int .i64 0,.int .i64 0,.int .i64 0,.int .i64 0] rfl
  have hlf:Z4 false 1 (.ptr H.length (0+4)) (H++[.cells k.cells])=some (.int .i64 k.fl):=Zz H k.cells 4
  rw[BJ]
  simp only[go_sem,hlt,ET,hk.key hget,Io,hst5,hlf]
  cases h0:(k.fl==0) with
  |true =>
   have hf:(p.flags:Int)=((Nd p k:Nat):Int):=by unfold Nd;rw[h0,if_pos rfl];omega
   simp only[go_sem,hy1,hy2,hf]
   exact hJ5
  |false =>
   have hf:(k.fl:Int)=((Nd p k:Nat):Int):=by unfold Nd;rw[h0,if_neg (by decide)];omega
   simp only[go_sem]
   rw[hf]
   exact hJ5
end
theorem MR {a:AV}{L:Loc}(h:LocAV a L)(hok:LocOk L){q:AV}{p:Spec}(hq:SpecAV q p)(hks:∀ k∈p.keys,KeOk k)(s t:List UInt8)(hs:s.length≤1048576)(ht:t.length≤1048576)(H:Hp) :
 Ze Xe [a,q,.str s,.str t] H=some (.int .i64 (Xu L p s t),H):=by
 obtain⟨a1,h1,h2⟩:=h.close [] 0 2
 obtain⟨q1,g1,g2⟩:=hq.close [] 0 2
 have hav:=h2
 have hv:=fun H=>ZdM g2 H
 obtain⟨x,c,e,rfl,hx,hc,he⟩:=h2
 obtain⟨xp,rfl,hxp⟩:=g2
 obtain⟨v',hv1,xv,rfl,hxv⟩:=hv [AObj.cells (L.cells x c e),.cells (p.cells xp)]
 obtain⟨hfl,hlen,hkf⟩:=Zfr p
 have hks':=ZaN p hks
 suffices hs:∃ H1,Xe [.agg (L.cells x c e),.agg (p.cells xp),.str s,.str t] []=some (.int .i64 (Xu L p s t),H1) by
  obtain⟨H1,hr⟩:=hs
  exact SZ h1 g1 (c':=.str s) (d':=.str t) rfl rfl hr rfl
 have hl:Z4 true 5 (.ptr 1 0) [AObj.cells (L.cells x c e),.cells (p.cells xp)]=some (.agg (p.cells xp)):=by simp[Z4,Go.Am.apart,Spec.cells]
 have hst:Zi 5 (.ptr 1 0) (.agg ((Zt p).cells xv)) [AObj.cells (L.cells x c e),.cells (p.cells xp)]=some (.tuple [],[AObj.cells (L.cells x c e),.cells ((Zt p).cells xv)]):=by simp[Zi,Xm,AV.known,AV.cells,Spec.cells,splice]
 have hf0:Z4 false 1 (.ptr 1 (0+0)) [AObj.cells (L.cells x c e),.cells ((Zt p).cells xv)]=some xv:=Y1 (l:=(Zt p).cells xv) rfl
 have hf2:Z4 false 1 (.ptr 1 (0+2)) [AObj.cells (L.cells x c e),.cells ((Zt p).cells xv)]=some (.int .i64 (Zt p).flags):=Y1 (l:=(Zt p).cells xv) rfl
 have hlk:=hxv.len 149
 rw[List.length_map]at hlk
 have hloc:=Zh7 L x c e [.cells ((Zt p).cells xv)]
 have hn:(Zt p).flags.toNat<32:=by omega
 have hfi:((Zt p).flags:Int)=(((Zt p).flags.toNat:Nat):Int):=by omega
 have hp:=Zdp hav hok hn s t hs ht [AObj.cells (L.cells x c e),.cells ((Zt p).cells xv)]
 rw[←hfi]at hp
 have hlen0:(((Zt p).keys.length:Int)==0)=((Zt p).keys.length==0):=by
  rw[Bool.eq_iff_iff,beq_iff_eq,beq_iff_eq];omega
 rw[Sa]
 unfold Tk Xu Zde
 cases h0:((Zt p).keys.length==0) with
 |true =>
  exact⟨[AObj.cells (L.cells x c e),.cells ((Zt p).cells xv)],by simp only[go_sem,X1,List.nil_append,List.length_nil,List.length_cons,List.cons_append,hl,hv1,hst,hf0,hlk,hlen0,h0,hloc,hf2,hp,if_true,Nat.zero_add,Nat.reduceAdd]⟩
 |false =>
  obtain⟨H',r⟩:=ZoY hav hok hxv hlen hks' hkf hfl s t hs ht _ 0 (.ptr 0 0) (.ptr 1 0) _ rfl (Nat.zero_le _) (.inr ⟨rfl,rfl,rfl⟩)
  rw[List.drop_zero,show ((0:Nat):Int)=0 from rfl]at r
  refine⟨H',?_⟩
  simp only[go_sem,X1,List.nil_append,List.length_nil,List.length_cons,List.cons_append,hl,hv1,hst,hf0,hlk,hlen0,h0,ER,r,Bool.false_eq_true,if_false,Nat.zero_add,Nat.reduceAdd]
def ZP (L:Loc)(p:Spec)(s t:List UInt8):Int :=
 if (Xu L (Zt p) s t != 0 || (Zt p).stab || (Zt p).uniq)=true then Xu L (Zt p) s t else if (Zt p).flags.toNat.testBit 1 then -G7 L s t else G7 L s t
theorem ZbG {a:AV}{L:Loc}(h:LocAV a L)(hok:LocOk L){q:AV}{p:Spec}(hq:SpecAV q p)(hks:∀ k∈p.keys,KeOk k)(s t:List UInt8)(hs:s.length≤1048576)(ht:t.length≤1048576)(H:Hp) :
 Ze WF [a,q,.str s,.str t] H=some (.int .i64 (ZP L p s t),H):=by
 obtain⟨a1,h1,h2⟩:=h.close [] 0 2
 obtain⟨q1,g1,g2⟩:=hq.close [] 0 2
 have hav:=h2
 have hv:=fun H=>ZdM g2 H
 obtain⟨x,c,e,rfl,hx,hc,he⟩:=h2
 obtain⟨xp,rfl,hxp⟩:=g2
 obtain⟨v',hv1,xv,rfl,hxv⟩:=hv [AObj.cells (L.cells x c e),.cells (p.cells xp)]
 obtain⟨hfl,hlen,hkf⟩:=Zfr p
 have hks':=ZaN p hks
 suffices hs:∃ H1,WF [.agg (L.cells x c e),.agg (p.cells xp),.str s,.str t] []=some (.int .i64 (ZP L p s t),H1) by
  obtain⟨H1,hr⟩:=hs
  exact SZ h1 g1 (c':=.str s) (d':=.str t) rfl rfl hr rfl
 have hl:Z4 true 5 (.ptr 1 0) [AObj.cells (L.cells x c e),.cells (p.cells xp)]=some (.agg (p.cells xp)):=by simp[Z4,Go.Am.apart,Spec.cells]
 have hst:Zi 5 (.ptr 1 0) (.agg ((Zt p).cells xv)) [AObj.cells (L.cells x c e),.cells (p.cells xp)]=some (.tuple [],[AObj.cells (L.cells x c e),.cells ((Zt p).cells xv)]):=by simp[Zi,Xm,AV.known,AV.cells,Spec.cells,splice]
 have hl2:Z4 true 5 (.ptr 1 0) [AObj.cells (L.cells x c e),.cells ((Zt p).cells xv)]=some (.agg ((Zt p).cells xv)):=by simp[Z4,Go.Am.apart,Spec.cells]
 have hf2:Z4 false 1 (.ptr 1 (0+2)) [AObj.cells (L.cells x c e),.cells ((Zt p).cells xv)]=some (.int .i64 (Zt p).flags):=Y1 (l:=(Zt p).cells xv) rfl
 have hf3:Z4 false 1 (.ptr 1 (0+3)) [AObj.cells (L.cells x c e),.cells ((Zt p).cells xv)]=some (.bool (Zt p).uniq):=Y1 (l:=(Zt p).cells xv) rfl
 have hf4:Z4 false 1 (.ptr 1 (0+4)) [AObj.cells (L.cells x c e),.cells ((Zt p).cells xv)]=some (.bool (Zt p).stab):=Y1 (l:=(Zt p).cells xv) rfl
 have hloc:=Zh7 L x c e [.cells ((Zt p).cells xv)]
 have hn:(Zt p).flags.toNat<32:=by omega
 have hfi:((Zt p).flags:Int)=(((Zt p).flags.toNat:Nat):Int):=by omega
 have hline:=MR hav hok (q:=.agg ((Zt p).cells xv)) ⟨xv,rfl,hxv⟩ hks' s t hs ht [AObj.cells (L.cells x c e),.cells ((Zt p).cells xv)]
 have hcmp:=ZeX hav hok s t hs ht [AObj.cells (L.cells x c e),.cells ((Zt p).cells xv)]
 have hneg:=ZrE (Zgx L s t)
 have hbit:=ZoD hn
 have hJ1:Bm (.str s) (.str t) (.ptr 0 0) (.ptr 1 0) [] [AObj.cells (L.cells x c e),.cells ((Zt p).cells xv)]=some (.int .i64 (if (Zt p).flags.toNat.testBit 1 then -G7 L s t else G7 L s t),[AObj.cells (L.cells x c e),.cells ((Zt p).cells xv)]):=by
  rw[Ae]
  rw[hfi]at hf2
  cases hb:(Zt p).flags.toNat.testBit 1 with
  |true =>
   rw[hb]at hbit
   simp only[go_sem,hloc,hcmp,hf2,hbit,Zj0,hneg,if_true,show ((2:Int) != 0)=true from rfl]
  |false =>
   rw[hb]at hbit
   simp only[go_sem,hloc,hcmp,hf2,hbit,Af,Bool.false_eq_true,if_false,bne_self_eq_false]
 refine⟨[AObj.cells (L.cells x c e),.cells ((Zt p).cells xv)],?_⟩
 rw[AR]
 unfold Mo ZP
 simp only[go_sem,X1,List.nil_append,List.length_nil,List.length_cons,List.cons_append,hl,hv1,hst,hloc,hl2,hline,Nat.zero_add,Nat.reduceAdd]
 cases h0:(Xu L (Zt p) s t != 0) with
 |true=>simp only[go_sem,Bool.true_or,if_true]
 |false =>
  simp only[go_sem,hf4,hf3]
  cases h4:(Zt p).stab with
  |true=>simp only[go_sem,Bool.true_or,Bool.or_true,if_true]
  |false =>
   simp only[go_sem,hf3]
   cases h3:(Zt p).uniq with
   |true=>simp only[go_sem,Bool.true_or,Bool.or_true,if_true]
   |false=>simp only[go_sem,hJ1,Bool.or_false,Bool.false_eq_true,if_false]
end Go.Am
