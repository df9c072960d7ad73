/-
  The order of strings in a locale.
-/
import Derived.Test.YtehanadfidoodaaGreatDoorNkMx
namespace Go.Am
set_option maxRecDepth 100000
def LocCells (l:List AV)(L:Loc):Prop:=∃ x c e,l=L.cells x c e∧Sl 1 x (L.w.map (AV.int .i64))∧Sl 5 c (L.cls.map WT)∧Sl 2 e (L.els.map Q6)
theorem LocCells.close {l:List AV}{L:Loc}(h:LocCells l L)(H:Hp)(n f:Nat):∃ l',l.mapM (Ze H n (f+3))=some l'∧LocCells l' L:=by
 obtain⟨x,c,e,rfl,hx,hc,he⟩:=h
 obtain⟨x',hx1,hx2⟩:=hx.close (H:=H) (n:=n) (f:=f+2) (fun y hy=>by obtain⟨m,_,rfl⟩:=List.mem_map.1 hy;rfl)
 obtain⟨c',hc1,hc2⟩:=hc.close (H:=H) (n:=n) (f:=f+2) (fun y hy=>by obtain⟨m,_,rfl⟩:=List.mem_map.1 hy;exact LA m H n f)
 obtain⟨e',he1,he2⟩:=he.close (H:=H) (n:=n) (f:=f+2) (fun y hy=>by obtain⟨m,_,rfl⟩:=List.mem_map.1 hy;exact CZ m H n f)
 refine⟨L.cells x' c' e',?_,x',c',e',rfl,hx2,hc2,he2⟩
 simp only[Loc.cells,List.mapM_cons,hx1,hc1,he1,List.mapM_nil]
 rfl
theorem VQ (H:Hp)(n f:Nat)(l:List AV):Ze H n (f+1) (.vp l)=match l.mapM (Ze H n f) with
 |some l=>some (.vp l)
 |none=>none:=(Eq.refl _).trans (Eq.refl _)
theorem Bs {f:List AV→Hp→Z4}{a a' b b' v v':AV}{H H1:Hp}(ha:Ze [] 0 6 a=some a')(hb:Ze [] 0 6 b=some b')(hc:f [a',b'] []=some (v,H1))(hv:Ze H1 0 6 v=some v'):Zc f [a,b] H=some (v',H):=by
 unfold Zc
 simp[ha,hb,hc,hv]
theorem RowN.close {n:Nat}{H:Hp}{x:AV}{l:List Int}(h:RowN n H 1 x (l.map (AV.int .i64)))(H1:Hp):∃ x',Ze H1 0 6 x=some x'∧Sl 1 x' (l.map (AV.int .i64)) :=
 h.sl.close (f:=5) (fun y hy=>by obtain⟨m,_,rfl⟩:=List.mem_map.1 hy;rfl)
theorem Zba {l:List AV}{L:Loc}(h:LocCells l L)(hw:L.w.length=256)(hnew:ZjP L.els)(hn:L.els.length≤1048576)(s:List UInt8)(hs:s.length≤1048576)(H:Hp) :
 ∃ v,Zc VK [.str s,.vp l] H=some (v,H)∧Sl 1 v ((wS L s).map (AV.int .i64)):=by
 obtain⟨l',h1,x,c,e,rfl,hx,hc,he⟩:=h.close [] 0 2
 have hcl:Ze [] 0 6 (.vp l)=some (.vp (L.cells x c e)):=by rw[VQ,h1]
 have hlen:=he.len 210
 rw[List.length_map]at hlen
 obtain⟨H1,es,k,q1,q2,q3,q4,q5,q6⟩:=ZsH he hnew hn (.str s) (.fn (.func 150) [] [.ptr 0 0]) [AObj.cells [.nils]] L.els.length 0 [AObj.cells [.nils],.cells (L.cells x c e),.map [] 0] [] 0 (by omega) (by omega) rfl rfl (by simp)
 rw[show ((0:Nat):Int)=0 from rfl]at q1
 have hst:WSt L x c e es [] H1:=⟨⟨.nils,by rw[q2];rfl,RowN.nil _ _ _⟩,by rw[q3];rfl,⟨k,q4⟩,q6⟩
 obtain⟨H2,q7,⟨⟨y,q8,q9⟩,_,_,_⟩⟩:=Zq5 hx hw q5 s hs [AObj.cells [.nils]] s.length [] s [] H1 (Nat.le_refl _) rfl (by simp) hst
 rw[List.length_nil,show ((0:Nat):Int)=0 from rfl]at q7
 rw[List.nil_append]at q9
 obtain⟨v,q10,q11⟩:=q9.close H2
 refine⟨v,Bs (a':=.str s) rfl hcl ?_ q10,q11⟩
 rw[Sh]
 unfold Ry
 have e1:T9 [.agg (L.cells x c e),.str s,.fn (.func 150) [] [.ptr 0 0]] [AObj.cells [.nils]]=some (.tuple [],H2):=by
  rw[Zd9]
  unfold Ab
  have hl5:Z3 false 1 (.ptr 1 5) [AObj.cells [.nils],.cells (L.cells x c e),.map [] 0]=some e:=by simp[Z3,Go.Am.apart,Loc.cells]
  simp only[go_sem,List.length_cons,List.length_nil,List.cons_append,List.nil_append,Nat.zero_add,hl5,hlen,q1,Zc9,q7]
 simp only[go_sem,List.length_nil,List.nil_append,Xy 6 (L.cells x c e) rfl,e1,ZF q8,List.getElem?_cons_zero]
def UJ (r:List UInt8)(e:List UInt8×Int):Bool :=
 match r with
 |b::c::_=>e.1==[b,c]
 |_=>false
def DB (r:List UInt8):List (List UInt8×Int)→Nat→Int
 |[],_=>-1
 |e::l,k=>if UJ r e then (k:Int) else DB r l (k+1)
theorem Zql {x c e:AV}{L:Loc}(he:Sl 2 e (L.els.map Q6))(hl:L.els.length≤1048576)(s done r:List UInt8)(hs:s.length≤1048576)(hd:s=done++r)(H0 H:Hp){o:Nat}(ho:H[o]?=some (.cells (L.cells x c e))):∀ (n k:Nat),L.els.length-k=n→k≤L.els.length →
 Rg (.str s) (.int .i64 (done.length:Int)) (.ptr o 0) (.int .i64 (k:Int)) H0 H=some (.int .i64 (DB r (L.els.drop k) k),H):=by
 have hlen:=he.len 210
 rw[List.length_map]at hlen
 have hsl:s.length=done.length+r.length:=by rw[hd];simp
 have hw2:IntKind.i64.wrap ((done.length:Int)+2)=((done.length+2:Nat):Int):=by rw[Zq (by omega) (by omega)];omega
 intro n
 induction n with
 |zero =>
  intro k hn hk
  rw[Sz]
  have hlt:decide ((k:Int)<(L.els.length:Int))=false:=by simp;omega
  have hdr:L.els.drop k=[]:=List.drop_eq_nil_iff.2 (by omega)
  simp only[go_sem,Nat.zero_add,ZF ho,Loc.cells,List.getElem?_cons_zero,List.getElem?_cons_succ,hlen,hlt,Zhw,hdr]
  rfl
 |succ n ih =>
  intro k hn hk
  rw[Sz]
  have hk1:k<L.els.length:=by omega
  have hlt:decide ((k:Int)<(L.els.length:Int))=true:=by simp;omega
  have hwk:IntKind.i64.wrap ((k:Int)+1)=((k+1:Nat):Int):=by rw[Zq (by omega) (by omega)];omega
  rw[List.drop_eq_getElem_cons hk1]
  simp only[go_sem,Nat.zero_add,ZF ho,Loc.cells,List.getElem?_cons_zero,List.getElem?_cons_succ,hlen,hlt,Zhx,hw2,ZJ]
  have h3:=ih (k+1) (by omega) (by omega)
  match r,hd,hsl,h3 with
  |[],hd,hsl,h3 =>
   have hle:decide (((done.length+2:Nat):Int)≤(s.length:Int))=false:=by simp at hsl ⊢;omega
   simp only[hle,go_sem,FG,hwk,h3]
   simp[DB,UJ]
  |[b],hd,hsl,h3 =>
   have hle:decide (((done.length+2:Nat):Int)≤(s.length:Int))=false:=by simp at hsl ⊢;omega
   simp only[hle,go_sem,FG,hwk,h3]
   simp[DB,UJ]
  |b::b2::r,hd,hsl,h3 =>
   have hle:decide (((done.length+2:Nat):Int)≤(s.length:Int))=true:=by simp at hsl ⊢;omega
   have hs2:(s.take (done.length+2)).drop done.length=[b,b2]:=by rw[hd,List.take_append];simp
   have hsb:Yq .eql (.str [b,b2]) (.str L.els[k].1)=some (.bool (UJ (b::b2::r) L.els[k])):=by
    show some (AV.bool ([b,b2]==L.els[k].1))=some (.bool (L.els[k].1==[b,b2]))
    congr 2
    rw[Bool.eq_iff_iff,beq_iff_eq,beq_iff_eq];exact eq_comm
   simp only[hle,go_sem,Ug (show done.length≤done.length+2 by omega) (show done.length+2≤s.length by simp at hsl;omega),hs2,Nat.zero_add,hw2,ZF ho,Loc.cells,List.getElem?_cons_zero,List.getElem?_cons_succ,he.els (List.getElem?_eq_getElem hk1),Do,Zw,hsb]
   have hfr:DB (b::b2::r) (L.els[k]::L.els.drop (k+1)) k=if UJ (b::b2::r) L.els[k] then (k:Int) else DB (b::b2::r) (L.els.drop (k+1)) (k+1):=rfl
   rw[hfr]
   cases hm:UJ (b::b2::r) L.els[k] with
   |true=>simp only[go_sem,if_true]
   |false=>simp only[go_sem,Bool.false_eq_true,if_false,FG,hwk,h3]
theorem Zlz (L:Loc)(b c:UInt8)(r:List UInt8):wS L (b::c::r)=match L.els.find? (UJ (b::c::r)) with
 |some e=>e.2::wS L r
 |none=>AZ L b::wS L (c::r):=(Eq.refl _).trans (Eq.refl _)
theorem Zqk {a:AV}{L:Loc}(h:LocAV a L)(hl:L.els.length≤1048576)(s done r:List UInt8)(hs:s.length≤1048576)(hd:s=done++r)(H:Hp):Zc Pc [a,.str s,.int .i64 (done.length:Int)] H=some (.int .i64 (DB r L.els 0),H):=by
 obtain⟨a1,h1,x,c,e,rfl,hx,hc,he⟩:=h.close [] 0 2
 have hrun:Pc [.agg (L.cells x c e),.str s,.int .i64 (done.length:Int)] []=some (.int .i64 (DB r L.els 0),[AObj.cells (L.cells x c e)]):=by
  rw[ZiZ]
  unfold Zeu
  have:=Zql (x:=x) (c:=c) he hl s done r hs hd [] [AObj.cells (L.cells x c e)] (o:=0) rfl L.els.length 0 (by omega) (by omega)
  rw[List.drop_zero,show ((0:Nat):Int)=0 from rfl]at this
  simp only[go_sem,List.length_nil,List.nil_append,this]
 exact Ju (args':=[.agg (L.cells x c e),.str s,.int .i64 (done.length:Int)]) (by simp[h1];rfl) hrun rfl
theorem Zo9 (r:List UInt8):∀ (l:List (List UInt8×Int)) (k:Nat),match l.find? (UJ r) with
 |some e=>∃ i,DB r l k=((k+i:Nat):Int)∧l[i]?=some e
 |none=>DB r l k=-1:=by
 intro l
 induction l with
 |nil=>intro k;rfl
 |cons e l ih =>
  intro k
  rw[List.find?_cons]
  unfold DB
  cases hm:UJ r e with
  |true=>exact⟨0,by simp,rfl⟩
  |false =>
   have:=ih (k+1)
   simp only
   cases hf:l.find? (UJ r) with
   |none=>rw[hf]at this;simpa using this
   |some e' =>
    rw[hf]at this
    obtain⟨i,q1,q2⟩:=this
    exact⟨i+1,by simp only[Bool.false_eq_true,if_false];rw[q1];congr 1;omega,by simpa using q2⟩
theorem Zju {x c e:AV}{L:Loc}(hx:Sl 1 x (L.w.map (AV.int .i64)))(hc:Sl 5 c (L.cls.map WT))(he:Sl 2 e (L.els.map Q6))(hw:L.w.length=256)(hl:L.els.length≤1048576)(s:List UInt8)(hs:s.length≤1048576)(H0:Hp):∀ (n:Nat) (done r:List UInt8) (acc:List Int) (y:AV) (H:Hp),r.length≤n→s=done++r→acc.length≤done.length→H[0]?=some (.cells (L.cells x c e))→1≤H.length→RowN 1 H 1 y (acc.map (AV.int .i64)) →
 ∃ y' H',UB (.str s) (.ptr 0 0) y (.int .i64 (done.length:Int)) H0 H=some (y',H')∧RowN 1 H' 1 y' ((acc++wS L r).map (AV.int .i64)):=by
 intro n
 induction n with
 |zero =>
  intro done r acc y H hr hd ha h0 hlen hrow
  have:r=[]:=List.length_eq_zero_iff.1 (by omega)
  subst this
  rw[List.append_nil]at hd
  subst hd
  rw[KA]
  have hlt:decide ((s.length:Int)<(s.length:Int))=false:=by simp
  simp only[go_sem,ZJ,hlt,TQ]
  exact⟨y,H,rfl,by simpa[wS]using hrow⟩
 |succ n ih =>
  intro done r acc y H hr hd ha h0 hlen hrow
  cases r with
  |nil =>
   rw[List.append_nil]at hd
   subst hd
   rw[KA]
   have hlt:decide ((s.length:Int)<(s.length:Int))=false:=by simp
   simp only[go_sem,ZJ,hlt,TQ]
   exact⟨y,H,rfl,by simpa[wS]using hrow⟩
  |cons b r =>
   have hl0:done.length<s.length:=by rw[hd];simp
   have hsl:s.length=done.length+(r.length+1):=by rw[hd];simp
   have hlt:decide ((done.length:Int)<(s.length:Int))=true:=by simp;omega
   have hw1:IntKind.i64.wrap ((done.length:Int)+1)=((done.length+1:Nat):Int):=by rw[Zq (by omega) (by omega)];omega
   have hw2:IntKind.i64.wrap ((done.length:Int)+2)=((done.length+2:Nat):Int):=by rw[Zq (by omega) (by omega)];omega
   have hb:s[done.length]?=some b:=by rw[hd,List.getElem?_append_right (by omega)];simp
   have hav:LocAV (.agg (L.cells x c e)) L:=⟨x,c,e,rfl,hx,hc,he⟩
   have hf:=Zqk hav hl s done (b::r) hs hd H
   have hagg:Z3 true 6 (.ptr 0 0) H=some (.agg (L.cells x c e)):=by rw[Wf h0];simp[Go.Am.apart,Loc.cells]
   have app:∀ w:Int,∃ y' H',ZS 1 8 y (.vs 1 .clip [.int .i64 w]) H=some (y',H')∧RowN 1 H' 1 y' ((acc++[w]).map (AV.int .i64))∧1≤H'.length∧H'[0]?=some (.cells (L.cells x c e)):=fun w=>by
    obtain⟨y',H',q1,q2,q3,q4,q5⟩:=hrow.app hlen 8 (.vs 1 .clip [.int .i64 w]) [.int .i64 w] (by simp[elems]) (by simp;omega)
    exact⟨y',H',q1,by simpa using q2,q3,q5 _ _ h0⟩
   rw[KA]
   simp only[go_sem,ZJ,hlt,ZbQ,hagg,hf]
   have hsp:=Zo9 (b::r) L.els 0
   cases hfd:L.els.find? (UJ (b::r)) with
   |none =>
    rw[hfd]at hsp
    simp only at hsp
    have hwS:wS L (b::r)=AZ L b::wS L r:=by
     cases r with
     |nil=>rfl
     |cons b2 r =>
      rw[Zlz,hfd]
    obtain⟨y',H',q1,q2,q3,q4⟩:=app (AZ L b)
    obtain⟨y2,H2,q5,q6⟩:=ih (done++[b]) r (acc++[AZ L b]) y' H' (by simp at hr;omega) (by rw[hd];simp) (by simp;omega) q4 q3 q2
    rw[List.length_append,List.length_singleton]at q5
    have hneg:decide ((-1:Int)<0)=true:=rfl
    rw[hsp,hwS]
    simp only[go_sem,hneg,Nat.zero_add,ZF h0,Loc.cells,List.getElem?_cons_zero,List.getElem?_cons_succ,ZC hb,Zuu hx hw,Zw,C5,q1,hw1,q5]
    exact⟨y2,H2,rfl,by simpa using q6⟩
   |some el =>
    rw[hfd]at hsp
    simp only at hsp
    obtain⟨i,q7,q8⟩:=hsp
    cases r with
    |nil =>
     have:=List.find?_some hfd
     simp[UJ]at this
    |cons b2 r =>
     have hwS:wS L (b::b2::r)=el.2::wS L r:=by
      rw[Zlz,hfd]
     obtain⟨y',H',q1,q2,q3,q4⟩:=app el.2
     obtain⟨y2,H2,q5,q6⟩:=ih (done++[b,b2]) r (acc++[el.2]) y' H' (by simp at hr;omega) (by rw[hd];simp) (by simp;omega) q4 q3 q2
     rw[List.length_append,show ([b,b2]:List UInt8).length=2 from rfl]at q5
     rw[q7,hwS,Nat.zero_add]
     have hneg:decide ((i:Int)<0)=false:=by simp
     simp only[go_sem,hneg,Nat.zero_add,ZF h0,Loc.cells,List.getElem?_cons_zero,List.getElem?_cons_succ,he.els q8,ZfE,Zw,C5,q1,hw2,q5]
     exact⟨y2,H2,rfl,by simpa using q6⟩
theorem AY {a:AV}{L:Loc}(h:LocAV a L)(hw:L.w.length=256)(hl:L.els.length≤1048576)(s:List UInt8)(hs:s.length≤1048576)(H:Hp) :
 ∃ v,Zc Gu [a,.str s] H=some (v,H)∧Sl 1 v ((wS L s).map (AV.int .i64)):=by
 obtain⟨a1,h1,x,c,e,rfl,hx,hc,he⟩:=h.close [] 0 2
 obtain⟨y',H',q1,q2⟩:=Zju hx hc he hw hl s hs [] s.length [] s [] .nils [AObj.cells (L.cells x c e)] (Nat.le_refl _) rfl (by simp) rfl (by simp) (RowN.nil _ _ _)
 rw[List.length_nil,show ((0:Nat):Int)=0 from rfl]at q1
 rw[List.nil_append]at q2
 obtain⟨v,q3,q4⟩:=q2.close H'
 refine⟨v,Bs h1 (b':=.str s) rfl ?_ q3,q4⟩
 rw[Zd3]
 unfold HZ
 simp only[go_sem,List.length_nil,List.nil_append,q1]
set_option linter.unusedSectionVars false
def Xo:List Int→List Int→Int
 |[],[]=>0
 |[],_::_=>-1
 |_::_,[]=>1
 |a::l,b::m=>if a<b then -1 else if b<a then 1 else Xo l m
theorem U1 (a b:Int)(l m:List Int):Xo (a::l) (b::m)=if a<b then -1 else if b<a then 1 else Xo l m:=(Eq.refl _).trans (Eq.refl _)
theorem ZiH {l m:List Int}(h:l=[]∨m=[]):Xo l m=if l.length<m.length then -1 else if m.length<l.length then 1 else 0:=by
 rcases h with rfl|rfl
 ·cases m <;> simp[Xo]
 ·cases l <;> simp[Xo]
theorem ZdN:∀ a b:List UInt8,Xo (a.map fun c=>(c.toNat:Int)) (b.map fun c=>(c.toNat:Int))=Ub a b:=by
 intro a
 induction a with
 |nil=>intro b;cases b <;> simp[Xo,Ub]
 |cons x a ih =>
  intro b
  cases b with
  |nil=>simp[Xo,Ub]
  |cons y b =>
   simp only[List.map_cons,U1,Ub]
   by_cases h:x=y
   ·subst h
    simp[ih b]
   ·have hne:x.toNat≠y.toNat:=fun e=>h (UInt8.toNat_inj.1 e)
    by_cases hl:x<y
    ·have:(x.toNat:Int)<y.toNat:=by have:=UInt8.lt_iff_toNat_lt.1 hl;omega
     simp[h,hl,this]
    ·have h1:¬ (x.toNat:Int)<y.toNat:=by
      intro h'
      exact hl (UInt8.lt_iff_toNat_lt.2 (by omega))
     have h2:(y.toNat:Int)<x.toNat:=by omega
     simp[h,hl,h1,h2]
theorem Zrv (a b:List UInt8)(H:Hp):Zc Ky [.str a,.str b] H=some (.int .i64 (Ub a b),H):=by
 have h1:∀ H,Zc Xt [.str a,.str b] H=some (.int .i64 (Ub a b),H):=fun H=>by
  refine WH (a':=.str a) (b':=.str b) (H1:=[]) rfl rfl ?_ rfl
  rw[JF]
  rfl
 refine WH (a':=.str a) (b':=.str b) (H1:=[]) rfl rfl ?_ rfl
 rw[Ct]
 unfold TM
 simp only[h1,go_sem]
section
variable {x y:AV}{a b:List Int}(hx:Sl 1 x (a.map (AV.int .i64)))(hy:Sl 1 y (b.map (AV.int .i64)))(ha:a.length≤4611686018427387904)(hb:b.length≤4611686018427387904)
include hx hy ha hb
theorem ZoG (H0 H:Hp):∀ (k i:Nat),a.length-i=k→i≤a.length→i≤b.length →
 D9 x y (.int .i64 (i:Int)) H0 H=some (.int .i64 (Xo (a.drop i) (b.drop i)),H):=by
 have hla:=hx.len 3
 have hlb:=hy.len 3
 rw[List.length_map]at hla hlb
 have fin:∀ i,i≤a.length→i≤b.length→(i=a.length∨i=b.length)→Ny x y H0 H=some (.int .i64 (Xo (a.drop i) (b.drop i)),H):=by
  intro i h1 h2 h3
  have he:a.drop i=[]∨b.drop i=[]:=h3.imp (fun h=>List.drop_eq_nil_iff.2 (by omega)) (fun h=>List.drop_eq_nil_iff.2 (by omega))
  rw[ZiH he,Zf8]
  simp only[List.length_drop,go_sem,hla,hlb]
  by_cases hlt:a.length<b.length
  ·have c:decide ((a.length:Int)<(b.length:Int))=true:=by simp;omega
   simp only[c,go_sem]
   rw[if_pos (by omega)]
  ·have c:decide ((a.length:Int)<(b.length:Int))=false:=by simp;omega
   simp only[c,go_sem,Zf9,hla,hlb]
   rw[if_neg (by omega)]
   by_cases hgt:b.length<a.length
   ·have c:decide ((b.length:Int)<(a.length:Int))=true:=by simp;omega
    simp only[c,go_sem]
    rw[if_pos (by omega)]
   ·have c:decide ((b.length:Int)<(a.length:Int))=false:=by simp;omega
    simp only[c,go_sem,Zfa]
    rw[if_neg (by omega)]
 intro k
 induction k with
 |zero =>
  intro i hk h1 h2
  rw[Lt]
  have hlt:decide ((i:Int)<(a.length:Int))=false:=by simp;omega
  simp only[go_sem,hla,hlt]
  exact fin i h1 h2 (.inl (by omega))
 |succ k ih =>
  intro i hk h1 h2
  rw[Lt]
  have hi:i<a.length:=by omega
  have hlt:decide ((i:Int)<(a.length:Int))=true:=by simp;omega
  have hw:IntKind.i64.wrap ((i:Int)+1)=((i+1:Nat):Int):=by rw[Zq (by omega) (by omega)];omega
  simp only[go_sem,hla,hlb,hlt]
  by_cases hib:i<b.length
  ·have hltb:decide ((i:Int)<(b.length:Int))=true:=by simp;omega
   simp only[hltb,go_sem,Zfb,hx.ints hi,hy.ints hib,Zw]
   rw[List.drop_eq_getElem_cons hi,List.drop_eq_getElem_cons hib,U1]
   by_cases c1:a[i]<b[i]
   ·simp only[decide_eq_true c1,go_sem,if_pos c1]
   ·simp only[decide_eq_false c1,go_sem,if_neg c1,Zfd,hx.ints hi,hy.ints hib,Zw]
    by_cases c2:b[i]<a[i]
    ·simp only[decide_eq_true c2,go_sem,if_pos c2]
    ·simp only[decide_eq_false c2,go_sem,if_neg c2,Zfc,hw]
     exact ih (i+1) (by omega) (by omega) (by omega)
  ·have hltb:decide ((i:Int)<(b.length:Int))=false:=by simp;omega
   simp only[hltb,go_sem]
   exact fin i h1 h2 (.inr (by omega))
theorem ZoH (H:Hp):KR [x,y] H=some (.int .i64 (Xo a b),H):=by
 rw[Zhh]
 unfold Zck
 have:=ZoG hx hy ha hb H H a.length 0 rfl (by omega) (by omega)
 rw[show ((0:Nat):Int)=0 from rfl,List.drop_zero,List.drop_zero]at this
 exact this
theorem Zr8 (s t:List UInt8)(H0 H:Hp):∀ (k i:Nat),min a.length b.length-i=k→i≤min a.length b.length →
 Uq (.str s) (.str t) x y (.int .i64 ((min a.length b.length:Nat):Int)) (.int .i64 (i:Int)) H0 H=some (.int .i64 (if (Xo (a.drop i) (b.drop i) != 0)=true then Xo (a.drop i) (b.drop i) else Ub s t),H):=by
 have hla:=hx.len 3
 have hlb:=hy.len 3
 rw[List.length_map]at hla hlb
 intro k
 induction k with
 |zero =>
  intro i hk hi
  rw[DI]
  have hlt:decide ((i:Int)<((min a.length b.length:Nat):Int))=false:=by simp;omega
  have he:a.drop i=[]∨b.drop i=[]:=by
   rcases Nat.le_total a.length b.length with h|h
   ·exact .inl (List.drop_eq_nil_iff.2 (by omega))
   ·exact .inr (List.drop_eq_nil_iff.2 (by omega))
  rw[ZiH he]
  simp only[List.length_drop,go_sem,hlt,Hg,hla,hlb]
  by_cases h1:a.length<b.length
  ·have c:decide ((a.length:Int)<(b.length:Int))=true:=by simp;omega
   have h1':a.length-i<b.length-i:=by omega
   simp only[c,go_sem,h1',if_true]
   rfl
  ·have c:decide ((a.length:Int)<(b.length:Int))=false:=by simp;omega
   have h1':¬ a.length-i<b.length-i:=by omega
   simp only[c,go_sem,h1',if_false,Hh,hla,hlb]
   by_cases h2:b.length<a.length
   ·have c:decide ((b.length:Int)<(a.length:Int))=true:=by simp;omega
    have h2':b.length-i<a.length-i:=by omega
    simp only[c,go_sem,h2',if_true]
    rfl
   ·have c:decide ((b.length:Int)<(a.length:Int))=false:=by simp;omega
    have h2':¬ b.length-i<a.length-i:=by omega
    simp only[c,go_sem,h2',if_false,Hi,Zrv]
    rfl
 |succ k ih =>
  intro i hk hi
  rw[DI]
  have hia:i<a.length:=by omega
  have hib:i<b.length:=by omega
  have hlt:decide ((i:Int)<((min a.length b.length:Nat):Int))=true:=by simp;omega
  have hw:IntKind.i64.wrap ((i:Int)+1)=((i+1:Nat):Int):=by rw[Zq (by omega) (by omega)];omega
  simp only[go_sem,hlt,Hk,hx.ints hia,hy.ints hib,Zw]
  rw[List.drop_eq_getElem_cons hia,List.drop_eq_getElem_cons hib,U1]
  by_cases c1:a[i]<b[i]
  ·simp only[decide_eq_true c1,go_sem,if_pos c1]
   rfl
  ·simp only[decide_eq_false c1,go_sem,if_neg c1,Hm,hx.ints hia,hy.ints hib,Zw]
   by_cases c2:b[i]<a[i]
   ·simp only[decide_eq_true c2,go_sem,if_pos c2]
    rfl
   ·simp only[decide_eq_false c2,go_sem,if_neg c2,Hl,hw]
    exact ih (i+1) (by omega) (by omega)
end
theorem Zh8 (L:Loc):∀ (n:Nat) (s:List UInt8),s.length≤n→(wS L s).length≤s.length:=by
 intro n
 induction n with
 |zero=>intro s h;have:s=[]:=List.length_eq_zero_iff.1 (by omega);subst this;simp[wS]
 |succ n ih =>
  intro s h
  match s,h with
  |[],_=>simp[wS]
  |[b],_=>simp[wS]
  |b::c::r,h =>
   rw[Zlz]
   simp only[List.length_cons]at h
   cases L.els.find? (UJ (b::c::r)) with
   |none=>have:=ih (c::r) (by simp;omega);simp only[List.length_cons]at this ⊢;omega
   |some e=>have:=ih r (by omega);simp only[List.length_cons];omega
theorem PM (L:Loc):(ZR L).els.length≤64:=by
 unfold ZR
 cases h:(XB L != 0) with
 |true=>simp[defL]
 |false =>
  simp only[XB,bne_eq_false_iff_eq]at h
  have:NW L.els=0:=by
   split at h
   ·split at h
    ·cases h
    ·split at h
     ·cases h
     ·unfold HN at h
      split at h
      ·rename_i h1;simp[h]at h1
      ·exact h
   ·cases h
  unfold NW at this
  split at this
  ·cases this
  ·simp;omega
def Uc (L:Loc)(s t:List UInt8):Int:=if (Xo (wS (ZR L) s) (wS (ZR L) t) != 0)=true then Xo (wS (ZR L) s) (wS (ZR L) t) else Ub s t
theorem Ziy {v:AV}{L:Loc}(h:LocAV v L)(hok:LocOk L)(s t:List UInt8)(hs:s.length≤1048576)(ht:t.length≤1048576)(H:Hp):Zc V8 [v,.str s,.str t] H=some (.int .i64 (Uc L s t),H):=by
 obtain⟨a1,h1,h2⟩:=h.close [] 0 2
 have hv:=fun H=>Zh5 h2 hok H
 obtain⟨x,c,e,rfl,hx,hc,he⟩:=h2
 obtain⟨v',hv1,xv,cv,ev,rfl,hxv,hcv,hev⟩:=hv [AObj.cells (L.cells x c e)]
 have hlc:LocCells ((ZR L).cells xv cv ev) (ZR L):=⟨xv,cv,ev,rfl,hxv,hcv,hev⟩
 obtain⟨w1,q1,q2⟩:=Zba hlc (HU L) (Zh4 L) (by have:=PM L;omega) s hs [AObj.dead]
 obtain⟨w2,q3,q4⟩:=Zba hlc (HU L) (Zh4 L) (by have:=PM L;omega) t ht [AObj.dead]
 have hl1:=Zh8 (ZR L) s.length s (Nat.le_refl _)
 have hl2:=Zh8 (ZR L) t.length t (Nat.le_refl _)
 have hrun:V8 [.agg (L.cells x c e),.str s,.str t] []=some (.int .i64 (Uc L s t),[AObj.dead]):=by
  rw[I3]
  unfold N5
  have hl:Z3 true 6 (.ptr 0 0) [AObj.cells (L.cells x c e)]=some (.agg (L.cells x c e)):=by simp[Z3,Go.Am.apart,Loc.cells]
  have hst:Zi 6 (.ptr 0 0) (.agg ((ZR L).cells xv cv ev)) [AObj.cells (L.cells x c e)]=some (.tuple [],[AObj.cells ((ZR L).cells xv cv ev)]):=by simp[Zi,YB,AV.known,AV.cells,Loc.cells,splice]
  have hfz:∀ k:AV→Hp→Z4,Xl (.ptr 0 0) [AObj.cells ((ZR L).cells xv cv ev)] k=k (.vp ((ZR L).cells xv cv ev)) [AObj.dead]:=fun k=>rfl
  have a1:Zj (.slice 3) w1=some (.int .i64 (wS (ZR L) s).length):=by have:=q2.len 3;rwa [List.length_map]at this
  have a2:Zj (.slice 3) w2=some (.int .i64 (wS (ZR L) t).length):=by have:=q4.len 3;rwa [List.length_map]at this
  have hmin:VO (.int .i64 ((wS (ZR L) s).length:Int)) (.int .i64 ((wS (ZR L) t).length:Int))=some (.int .i64 ((min (wS (ZR L) s).length (wS (ZR L) t).length:Nat):Int)):=by
   unfold VO
   simp only[if_true]
   congr 2
   split <;> omega
  have hlp:=Zr8 q2 q4 (by omega) (by omega) s t [] [AObj.dead] _ 0 rfl (Nat.zero_le _)
  rw[show ((0:Nat):Int)=0 from rfl,List.drop_zero,List.drop_zero]at hlp
  simp only[go_sem,List.length_nil,List.nil_append,hl,hv1,hst,hfz,Oj,Za7,List.cons_append,q1,q3,a1,a2,hmin,hlp]
  rfl
 exact Ju (args':=[.agg (L.cells x c e),.str s,.str t]) (by simp[h1];rfl) hrun rfl
def R1 (s:List UInt8):List Int:=s.map fun c=>(c.toNat:Int)
theorem Zui (b:UInt8):Yg .i64 (.int .u8 b.toNat)=some (.int .i64 (b.toNat:Int)):=by
 have:=b.toNat_lt
 simp only[Yg,Zq (show -(9223372036854775808:Int)≤(b.toNat:Int) by omega) (by omega)]
theorem FQ {s done r:List UInt8}{b:UInt8}(h:s=done++b::r):Zr (.str s) (.int .i64 (done.length:Int))=some (.int .u8 b.toNat) :=
 ZC (by rw[h,List.getElem?_append_right (Nat.le_refl _)];simp)
theorem RowN.appInt {n:Nat}{H:Hp}{y:AV}{acc:List Int}(h:RowN n H 1 y (acc.map (AV.int .i64)))(hn:n≤H.length)(hl:acc.length≤1048576)(w:Int) :
 ∃ y' H',ZS 1 8 y (.vs 1 .clip [.int .i64 w]) H=some (y',H')∧RowN n H' 1 y' ((acc++[w]).map (AV.int .i64))∧n≤H'.length∧(∀ i x,H[i]?=some x→i<n→H'[i]?=some x):=by
 obtain⟨y',H',q1,q2,q3,q4,q5⟩:=h.app hn 8 (.vs 1 .clip [.int .i64 w]) [.int .i64 w] (by simp[elems]) (by simp;omega)
 exact⟨y',H',q1,by simpa using q2,q3,fun i x hi hin=>(q4 i hin).trans hi⟩
theorem ZgC {x y:AV}{a b:List Int}(hx:Sl 1 x (a.map (AV.int .i64)))(hy:Sl 1 y (b.map (AV.int .i64)))(ha:a.length≤4611686018427387904)(hb:b.length≤4611686018427387904)(H:Hp) :
 Zc KR [x,y] H=some (.int .i64 (Xo a b),H):=by
 obtain⟨x',hx1,hx2⟩:=hx.close (H:=[]) (n:=0) (f:=5) (fun y hy=>by obtain⟨m,_,rfl⟩:=List.mem_map.1 hy;rfl)
 obtain⟨y',hy1,hy2⟩:=hy.close (H:=[]) (n:=0) (f:=5) (fun y hy=>by obtain⟨m,_,rfl⟩:=List.mem_map.1 hy;rfl)
 exact WH hx1 hy1 (ZoH hx2 hy2 ha hb []) rfl
theorem Hs (s:List UInt8):(R1 s).length=s.length:=by simp[R1]
theorem ZiD (s:List UInt8)(b:UInt8):R1 (s++[b])=R1 s++[(b.toNat:Int)]:=by simp[R1]
theorem Zsp {x5:AV}{a:List Int}(hx:Sl 1 x5 (a.map (AV.int .i64)))(t:List UInt8)(ht:t.length≤1048576)(ha:a.length≤1048576)(H0:Hp):∀ (r done:List UInt8) (y:AV) (H:Hp),t=done++r→RowN 0 H 1 y ((R1 done).map (AV.int .i64)) →
 ∃ H',BY (.str t) x5 y (.int .i64 (done.length:Int)) H0 H=some (.int .i64 (Xo a (R1 t)),H'):=by
 intro r
 induction r with
 |nil =>
  intro done y H hd hy
  rw[List.append_nil]at hd
  subst hd
  refine⟨H,?_⟩
  rw[Lq]
  have hlt:decide ((t.length:Int)<(t.length:Int))=false:=by simp
  simp only[go_sem,ZJ,hlt,ZeW,ZgC hx hy.sl (by omega) (by rw[Hs];omega)]
 |cons b r ih =>
  intro done y H hd hy
  have hlen:t.length=done.length+(r.length+1):=by rw[hd];simp
  have hlt:decide ((done.length:Int)<(t.length:Int))=true:=by simp;omega
  have hw1:IntKind.i64.wrap ((done.length:Int)+1)=((done.length+1:Nat):Int):=by rw[Zq (by omega) (by omega)];omega
  obtain⟨y',H1,q1,q2,q3,q4⟩:=hy.appInt (Nat.zero_le _) (by rw[Hs];omega) (b.toNat:Int)
  obtain⟨H2,q5⟩:=ih (done++[b]) y' H1 (by rw[hd];simp) (by rw[ZiD];exact q2)
  rw[List.length_append,List.length_singleton]at q5
  refine⟨H2,?_⟩
  rw[Lq]
  simp only[go_sem,ZJ,hlt,ZeX,FQ hd,Zui,C5,q1,ZeY,hw1,q5]
theorem Zsq (s t:List UInt8)(hs:s.length≤1048576)(ht:t.length≤1048576)(H0:Hp):∀ (r done:List UInt8) (y:AV) (H:Hp),s=done++r→RowN 0 H 1 y ((R1 done).map (AV.int .i64)) →
 ∃ H',BZ (.str s) (.str t) y .nils (.int .i64 (done.length:Int)) H0 H=some (.int .i64 (Xo (R1 s) (R1 t)),H'):=by
 intro r
 induction r with
 |nil =>
  intro done y H hd hy
  rw[List.append_nil]at hd
  subst hd
  obtain⟨H',h⟩:=Zsp hy.sl t ht (by rw[Hs];omega) H0 t [] .nils H rfl (RowN.nil _ _ _)
  rw[List.length_nil,show ((0:Nat):Int)=0 from rfl]at h
  refine⟨H',?_⟩
  rw[Lr]
  have hlt:decide ((s.length:Int)<(s.length:Int))=false:=by simp
  simp only[go_sem,ZJ,hlt,ZeV,h]
 |cons b r ih =>
  intro done y H hd hy
  have hlen:s.length=done.length+(r.length+1):=by rw[hd];simp
  have hlt:decide ((done.length:Int)<(s.length:Int))=true:=by simp;omega
  have hw1:IntKind.i64.wrap ((done.length:Int)+1)=((done.length+1:Nat):Int):=by rw[Zq (by omega) (by omega)];omega
  obtain⟨y',H1,q1,q2,q3,q4⟩:=hy.appInt (Nat.zero_le _) (by rw[Hs];omega) (b.toNat:Int)
  obtain⟨H2,q5⟩:=ih (done++[b]) y' H1 (by rw[hd];simp) (by rw[ZiD];exact q2)
  rw[List.length_append,List.length_singleton]at q5
  refine⟨H2,?_⟩
  rw[Lr]
  simp only[go_sem,ZJ,hlt,ZeZ,FQ hd,Zui,C5,q1,Zf0,hw1,q5]
theorem ZnF (s t:List UInt8)(hs:s.length≤1048576)(ht:t.length≤1048576)(H:Hp):Zc Ee [.str s,.str t] H=some (.int .i64 (Ub s t),H):=by
 obtain⟨H',h⟩:=Zsq s t hs ht [] s [] .nils [] rfl (RowN.nil _ _ _)
 rw[List.length_nil,show ((0:Nat):Int)=0 from rfl,show Xo (R1 s) (R1 t)=Ub s t from ZdN s t]at h
 refine WH (a':=.str s) (b':=.str t) (H1:=H') rfl rfl ?_ rfl
 rw[Zhd]
 exact h
theorem ZiP {v:AV}{L:Loc}(h:LocAV v L)(hok:LocOk L)(s t:List UInt8)(hs:s.length≤1048576)(ht:t.length≤1048576)(H:Hp):Zc Qr [v,.str s,.str t] H=some (.int .i64 (Uc L s t),H):=by
 obtain⟨a1,h1,h2⟩:=h.close [] 0 2
 have hv:=fun H=>ZcU h2 hok H
 obtain⟨x,c,e,rfl,hx,hc,he⟩:=h2
 obtain⟨v',hv1,xv,cv,ev,rfl,hxv,hcv,hev⟩:=hv [AObj.cells (L.cells x c e)]
 have hlv:LocAV (.agg ((ZR L).cells xv cv ev)) (ZR L):=⟨xv,cv,ev,rfl,hxv,hcv,hev⟩
 obtain⟨w1,q1,q2⟩:=AY hlv (HU L) (by have:=PM L;omega) s hs [AObj.cells ((ZR L).cells xv cv ev)]
 obtain⟨w2,q3,q4⟩:=AY hlv (HU L) (by have:=PM L;omega) t ht [AObj.cells ((ZR L).cells xv cv ev)]
 have hl1:=Zh8 (ZR L) s.length s (Nat.le_refl _)
 have hl2:=Zh8 (ZR L) t.length t (Nat.le_refl _)
 have hrun:Qr [.agg (L.cells x c e),.str s,.str t] []=some (.int .i64 (Uc L s t),[AObj.cells ((ZR L).cells xv cv ev)]):=by
  rw[Zd2]
  unfold HY
  have hl:Z3 true 6 (.ptr 0 0) [AObj.cells (L.cells x c e)]=some (.agg (L.cells x c e)):=by simp[Z3,Go.Am.apart,Loc.cells]
  have hst:Zi 6 (.ptr 0 0) (.agg ((ZR L).cells xv cv ev)) [AObj.cells (L.cells x c e)]=some (.tuple [],[AObj.cells ((ZR L).cells xv cv ev)]):=by simp[Zi,YB,AV.known,AV.cells,Loc.cells,splice]
  have hl2':Z3 true 6 (.ptr 0 0) [AObj.cells ((ZR L).cells xv cv ev)]=some (.agg ((ZR L).cells xv cv ev)):=by simp[Z3,Go.Am.apart,Loc.cells]
  unfold Uc
  simp only[go_sem,List.length_nil,List.nil_append,hl,hv1,hst,hl2',q1,q3,ZgC q2 q4 (by omega) (by omega)]
  cases hc:(Xo (wS (ZR L) s) (wS (ZR L) t) != 0) with
  |true=>rfl
  |false=>simp only[go_sem,ZbO,ZnF s t hs ht,Bool.false_eq_true,if_false]
 exact Ju (args':=[.agg (L.cells x c e),.str s,.str t]) (by simp[h1];rfl) hrun rfl
def isD (b:UInt8):Bool:=decide (48≤(b.toNat:Int))&&decide ((b.toNat:Int)≤57)
def Zh (l:List UInt8):Nat:=(l.takeWhile isD).length
theorem ZiV:Zh []=0:=rfl
theorem HC (b:UInt8)(l:List UInt8):Zh (b::l)=if isD b then Zh l+1 else 0:=by
 unfold Zh;rw[List.takeWhile_cons];split <;> simp_all
theorem HD (l:List UInt8):Zh l≤l.length:=by
 induction l with
 |nil=>simp[Zh]
 |cons b l ih=>rw[HC];split <;> simp <;> omega
theorem Zm4 {s:List UInt8}(hs:s.length≤1048576)(H0 H:Hp):∀ (k p:Nat),s.length-p=k→p≤s.length →
 Uo (.str s) (.int .i64 (p:Int)) H0 H=some (.int .i64 ((p+Zh (s.drop p):Nat):Int),H):=by
 intro k
 induction k with
 |zero =>
  intro p hk hp
  rw[Dx]
  have hlt:decide ((p:Int)<(s.length:Int))=false:=by simp;omega
  have hd:s.drop p=[]:=List.drop_eq_nil_iff.2 (by omega)
  simp only[go_sem,hlt,hd,ZiV,Nat.add_zero,Q3]
 |succ k ih =>
  intro p hk hp
  rw[Dx]
  have hlt:decide ((p:Int)<(s.length:Int))=true:=by simp;omega
  have hl:p<s.length:=by omega
  have hw:IntKind.i64.wrap ((p:Int)+1)=((p+1:Nat):Int):=by rw[Zq (by omega) (by omega)];omega
  simp only[go_sem,hlt,ZC (List.getElem?_eq_getElem hl)]
  rw[Yu hl,HC]
  cases h1:decide (48≤((s[p].toNat:Int))) with
  |false=>simp only[isD,h1,go_sem,Bool.false_and,Bool.false_eq_true,if_false,Nat.add_zero,Q3]
  |true =>
   cases h2:decide (((s[p].toNat:Int))≤57) with
   |false=>simp only[isD,h1,h2,go_sem,ZC (List.getElem?_eq_getElem hl),Bool.and_false,Bool.false_eq_true,if_false,Nat.add_zero,Q3]
   |true =>
    simp only[isD,h1,h2,go_sem,ZC (List.getElem?_eq_getElem hl),Bool.and_true,if_true,CU,hw]
    rw[ih (p+1) (by omega) (by omega),show p+1+Zh (s.drop (p+1))=p+(Zh (s.drop (p+1))+1) by omega]
theorem ZcL (s:List UInt8)(hs:s.length≤1048576)(H:Hp):Zc UV [.str s] H=some (.int .i64 (Zh s:Int),H):=by
 refine YZ (a':=.str s) (H1:=[]) rfl ?_ rfl
 rw[I2]
 have:=Zm4 hs [] [] s.length 0 rfl (by omega)
 rw[show ((0:Nat):Int)=0 from rfl,List.drop_zero,Nat.zero_add]at this
 exact this
theorem Zl3 {s:List UInt8}(hs:s.length≤1048576)(H0 H:Hp):∀ (k p:Nat),s.length-p=k→p≤s.length →
 GC (.str s) (.int .i64 (p:Int)) H0 H=some (.int .i64 ((p+Zh (s.drop p):Nat):Int),H):=by
 intro k
 induction k with
 |zero =>
  intro p hk hp
  rw[Nn]
  have hlt:decide ((p:Int)<(s.length:Int))=false:=by simp;omega
  have hd:s.drop p=[]:=List.drop_eq_nil_iff.2 (by omega)
  simp only[go_sem,hlt,hd,ZiV,Nat.add_zero,GW]
 |succ k ih =>
  intro p hk hp
  rw[Nn]
  have hlt:decide ((p:Int)<(s.length:Int))=true:=by simp;omega
  have hl:p<s.length:=by omega
  have hw:IntKind.i64.wrap ((p:Int)+1)=((p+1:Nat):Int):=by rw[Zq (by omega) (by omega)];omega
  simp only[go_sem,hlt,ZC (List.getElem?_eq_getElem hl)]
  rw[Yu hl,HC]
  cases h1:decide (48≤((s[p].toNat:Int))) with
  |false=>simp only[isD,h1,go_sem,Bool.false_and,Bool.false_eq_true,if_false,Nat.add_zero,GW]
  |true =>
   cases h2:decide (((s[p].toNat:Int))≤57) with
   |false=>simp only[isD,h1,h2,go_sem,ZC (List.getElem?_eq_getElem hl),Bool.and_false,Bool.false_eq_true,if_false,Nat.add_zero,GW]
   |true =>
    simp only[isD,h1,h2,go_sem,ZC (List.getElem?_eq_getElem hl),Bool.and_true,if_true,Zdl,hw]
    rw[ih (p+1) (by omega) (by omega),show p+1+Zh (s.drop (p+1))=p+(Zh (s.drop (p+1))+1) by omega]
theorem ZaY (s:List UInt8)(hs:s.length≤1048576){p:Nat}(hp:p≤s.length)(H:Hp):Zc BH [.str s,.int .i64 (p:Int)] H=some (.int .i64 ((p+Zh (s.drop p):Nat):Int),H):=by
 refine WH (a':=.str s) (b':=.int .i64 (p:Int)) (H1:=[]) rfl rfl ?_ rfl
 rw[Zes]
 exact Zl3 hs [] [] _ p rfl hp
def dg (b:UInt8):Int:=IntKind.u8.wrap ((b.toNat:Int)-48)
theorem Xf (b:UInt8):0≤dg b∧dg b≤255:=by
 unfold dg
 have h:=b.toNat_lt
 show 0≤((b.toNat:Int)-48) % 256∧((b.toNat:Int)-48) % 256≤255
 omega
theorem ZjI (b:UInt8):Yg .i64 (.int .u8 (IntKind.u8.wrap ((b.toNat:Int)-48)))=some (.int .i64 (dg b)):=by
 have:=Xf b
 show some (AV.int .i64 (IntKind.i64.wrap (dg b)))=_
 rw[Zq (by omega) (by omega)]
def fr:Nat→List UInt8→Int→Int
 |0,_,d=>d
 |k+1,[],d=>fr k [] (d*10)
 |k+1,b::l,d=>fr k l (d*10+dg b)
theorem Zge (k:Nat)(d:Int):fr (k+1) [] d=fr k [] (d*10):=(Eq.refl _).trans (Eq.refl _)
theorem Zbl (k:Nat)(b:UInt8)(l:List UInt8)(d:Int):fr (k+1) (b::l) d=fr k l (d*10+dg b):=(Eq.refl _).trans (Eq.refl _)
theorem Zqs (s:List UInt8)(hs:s.length≤1048576)(H0 H:Hp):∀ (k i:Nat) (d p:Int),i+k=4→0≤d→d+1000≤2000000000*p→p*10 ^ k≤10000 →
 Vv (.str s) (.int .i64 d) (.int .i64 (i:Int)) H0 H=some (.int .i64 (fr k (s.drop i) d),H):=by
 intro k
 induction k with
 |zero =>
  intro i d p hik h0 h1 h2
  rw[G4]
  have hlt:decide ((i:Int)<4)=false:=by simp;omega
  simp only[go_sem,hlt,EL,fr]
 |succ k ih =>
  intro i d p hik h0 h1 h2
  rw[G4]
  have hlt:decide ((i:Int)<4)=true:=by simp;omega
  have hwi:IntKind.i64.wrap ((i:Int)+1)=((i+1:Nat):Int):=by rw[Zq (by omega) (by omega)];omega
  have h2':p*10*10 ^ k≤10000:=by rw[Int.mul_assoc,show (10:Int)*10 ^ k=10 ^ (k+1) by rw[Int.pow_succ,Int.mul_comm]];exact h2
  have hpk:(1:Int)≤10 ^ k:=Int.add_one_le_iff.2 (Int.pow_pos (by decide))
  have hp:p*10≤10000:=by
   by_cases hp0:0≤p
   ·have:=Int.mul_le_mul_of_nonneg_left hpk (show 0≤p*10 by omega)
    omega
   ·omega
  have hwd:IntKind.i64.wrap (d*10)=d*10:=Zq (by omega) (by omega)
  simp only[go_sem,hlt,EM,hwd,ZJ]
  by_cases hi:i<s.length
  ·have hb:=Xf s[i]
   have hlti:decide ((i:Int)<(s.length:Int))=true:=by simp;omega
   have hwd2:IntKind.i64.wrap (d*10+dg s[i])=d*10+dg s[i]:=Zq (by omega) (by omega)
   simp only[hlti,go_sem,ZC (List.getElem?_eq_getElem hi),ZjI,hwd2,G3,hwi]
   rw[ih (i+1) _ (p*10) (by omega) (by omega) (by omega) h2',Yu hi,Zbl]
  ·have hlti:decide ((i:Int)<(s.length:Int))=false:=by simp;omega
   have hd:s.drop i=[]:=List.drop_eq_nil_iff.2 (by omega)
   have hd1:s.drop (i+1)=[]:=List.drop_eq_nil_iff.2 (by omega)
   simp only[hlti,go_sem,G3,hwi]
   rw[ih (i+1) _ (p*10) (by omega) (by omega) (by omega) h2',hd,hd1,Zge]
theorem Zqr (s:List UInt8)(hs:s.length≤1048576)(H:Hp):Zc Ja [.str s] H=some (.int .i64 (fr 4 s 0),H):=by
 refine YZ (a':=.str s) (H1:=[]) rfl ?_ rfl
 rw[Sd]
 have:=Zqs s hs [] [] 4 0 0 1 rfl (by omega) (by omega) (by decide)
 rw[show ((0:Nat):Int)=0 from rfl,List.drop_zero]at this
 exact this
theorem ZoQ (s:List UInt8)(hs:s.length≤1048576)(H0 H:Hp):∀ (k i:Nat) (d p:Int),i+k=4→0≤d→d+1000≤2000000000*p→p*10 ^ k≤10000 →
 GF (.str s) (.int .i64 d) (.int .i64 (i:Int)) H0 H=some (.tuple [.int .i64 (fr k (s.drop i) d),.bool (decide (fr k (s.drop i) d≤10000000000000))],H):=by
 intro k
 induction k with
 |zero =>
  intro i d p hik h0 h1 h2
  rw[Np]
  have hlt:decide ((i:Int)<4)=false:=by simp;omega
  simp only[go_sem,hlt,Zdn,fr]
  rfl
 |succ k ih =>
  intro i d p hik h0 h1 h2
  rw[Np]
  have hlt:decide ((i:Int)<4)=true:=by simp;omega
  have hwi:IntKind.i64.wrap ((i:Int)+1)=((i+1:Nat):Int):=by rw[Zq (by omega) (by omega)];omega
  have h2':p*10*10 ^ k≤10000:=by rw[Int.mul_assoc,show (10:Int)*10 ^ k=10 ^ (k+1) by rw[Int.pow_succ,Int.mul_comm]];exact h2
  have hpk:(1:Int)≤10 ^ k:=Int.add_one_le_iff.2 (Int.pow_pos (by decide))
  have hp:p*10≤10000:=by
   by_cases hp0:0≤p
   ·have:=Int.mul_le_mul_of_nonneg_left hpk (show 0≤p*10 by omega)
    omega
   ·omega
  have hwd:IntKind.i64.wrap (d*10)=d*10:=Zq (by omega) (by omega)
  simp only[go_sem,hlt,Zdo,hwd,ZJ]
  by_cases hi:i<s.length
  ·have hb:=Xf s[i]
   have hlti:decide ((i:Int)<(s.length:Int))=true:=by simp;omega
   have hwd2:IntKind.i64.wrap (d*10+dg s[i])=d*10+dg s[i]:=Zq (by omega) (by omega)
   simp only[hlti,go_sem,ZC (List.getElem?_eq_getElem hi),ZjI,hwd2,No,hwi]
   rw[ih (i+1) _ (p*10) (by omega) (by omega) (by omega) h2',Yu hi,Zbl]
  ·have hlti:decide ((i:Int)<(s.length:Int))=false:=by simp;omega
   have hd:s.drop i=[]:=List.drop_eq_nil_iff.2 (by omega)
   have hd1:s.drop (i+1)=[]:=List.drop_eq_nil_iff.2 (by omega)
   simp only[hlti,go_sem,No,hwi]
   rw[ih (i+1) _ (p*10) (by omega) (by omega) (by omega) h2',hd,hd1,Zge]
def MI:List UInt8→Int→Option Int
 |[],d=>some d
 |b::l,d=>if 1000000000<d*10+dg b then none else MI l (d*10+dg b)
theorem Zb9 (b:UInt8)(l:List UInt8)(d:Int):MI (b::l) d=if 1000000000<d*10+dg b then none else MI l (d*10+dg b):=(Eq.refl _).trans (Eq.refl _)
theorem Zt0:∀ (k:Nat) (l:List UInt8) (d:Int),fr k l d=d*10 ^ k+fr k l 0:=by
 intro k
 induction k with
 |zero=>intro l d;simp[fr]
 |succ k ih =>
  intro l d
  cases l with
  |nil=>rw[Zge,Zge,ih,ih _ (0*10),Int.pow_succ];simp only[Int.zero_mul,Int.zero_add];rw[Int.mul_assoc,Int.mul_comm 10]
  |cons b l=>rw[Zbl,Zbl,ih,ih _ (0*10+dg b),Int.pow_succ,Int.add_mul];simp only[Int.zero_mul,Int.zero_add];rw[Int.mul_assoc,Int.mul_comm 10];omega
theorem Ziq (l:List UInt8):0≤fr 4 l 0∧fr 4 l 0≤1000000:=by
 match l with
 |[]=>simp[fr]
 |[a]=>have:=Xf a;simp[fr];omega
 |[a,b]=>have:=Xf a;have:=Xf b;simp[fr];omega
 |[a,b,c]=>have:=Xf a;have:=Xf b;have:=Xf c;simp[fr];omega
 |a::b::c::d::l=>have:=Xf a;have:=Xf b;have:=Xf c;have:=Xf d;simp[fr];omega
theorem ZsZ (l:List UInt8):fr 4 (l.take 4) 0=fr 4 l 0:=by
 match l with
 |[]=>rfl
 |[a]=>rfl
 |[a,b]=>rfl
 |[a,b,c]=>rfl
 |a::b::c::d::l=>rfl
def EV (w f:List UInt8):Option Int:=match MI w 0 with
 |none=>none
 |some d=>some (d*10000+fr 4 f 0)
def QO (w f:List UInt8):Int:=match EV w f with
 |none=>10000000000001
 |some n=>min 10000000000001 n
theorem Zpf (s f:List UInt8)(hs:s.length≤1048576)(hf:f.length≤1048576)(H0 H:Hp):∀ (r done:List UInt8) (d:Int),s=done++r→0≤d→d≤1000000000 →
 Q5 (.str s) (.str f) (.int .i64 d) (.int .i64 (s.length:Int)) (.int .i64 (done.length:Int)) H0 H=some (.int .i64 (match MI r d with
  |none=>10000000000001
  |some n=>min 10000000000001 (n*10000+fr 4 f 0)),H):=by
 intro r
 induction r with
 |nil =>
  intro done d hd h0 h1
  rw[List.append_nil]at hd
  subst hd
  rw[Fe]
  have hlt:decide ((s.length:Int)<(s.length:Int))=false:=by simp
  have hfr:=Ziq f
  have hw1:IntKind.i64.wrap (d*10000)=d*10000:=Zq (by omega) (by omega)
  have hw2:IntKind.i64.wrap (d*10000+fr 4 f 0)=d*10000+fr 4 f 0:=Zq (by omega) (by omega)
  simp only[go_sem,hlt,Ig,hw1,Zqr f hf,hw2,MI]
 |cons b r ih =>
  intro done d hd h0 h1
  have hlen:s.length=done.length+(r.length+1):=by rw[hd];simp
  have hlt:decide ((done.length:Int)<(s.length:Int))=true:=by simp;omega
  have hwi:IntKind.i64.wrap ((done.length:Int)+1)=((done.length+1:Nat):Int):=by rw[Zq (by omega) (by omega)];omega
  have hb:=Xf b
  have hw1:IntKind.i64.wrap (10*d)=d*10:=by rw[Zq (by omega) (by omega)];omega
  have hw2:IntKind.i64.wrap (d*10+dg b)=d*10+dg b:=Zq (by omega) (by omega)
  rw[Fe,Zb9]
  simp only[go_sem,hlt,Ih,hw1,FQ hd,ZjI,hw2]
  by_cases hg:1000000000<d*10+dg b
  ·simp only[decide_eq_true hg,go_sem,if_pos hg]
  ·have:=ih (done++[b]) (d*10+dg b) (by rw[hd];simp) (by omega) (by omega)
   rw[List.length_append,List.length_singleton]at this
   simp only[decide_eq_false hg,go_sem,if_neg hg,Ii,hwi,this]
theorem Zpe (s f:List UInt8)(hs:s.length≤1048576)(hf:f.length≤1048576)(H:Hp):Zc BJ [.str s,.str f] H=some (.int .i64 (QO s f),H):=by
 refine WH (a':=.str s) (b':=.str f) (H1:=[]) rfl rfl ?_ rfl
 rw[O2]
 unfold Lb
 have:=Zpf s f hs hf [] [] s [] 0 rfl (by omega) (by omega)
 rw[List.length_nil,show ((0:Nat):Int)=0 from rfl]at this
 simp only[go_sem,this]
 unfold QO EV
 cases MI s 0 <;> rfl
theorem Zlf (s f:List UInt8)(hs:s.length≤1048576)(hf:f.length≤1048576)(H0 H:Hp):∀ (r done:List UInt8) (d:Int),s=done++r→0≤d→d≤1000000000 →
 GG (.str s) (.str f) (.int .i64 d) (.int .i64 (done.length:Int)) H0 H=some (match MI r d with
  |none=>.tuple [.int .i64 0,.bool false]
  |some n=>.tuple [.int .i64 (n*10000+fr 4 f 0),.bool (decide (n*10000+fr 4 f 0≤10000000000000))],H):=by
 intro r
 induction r with
 |nil =>
  intro done d hd h0 h1
  rw[List.append_nil]at hd
  subst hd
  rw[Nq]
  have hlt:decide ((s.length:Int)<(s.length:Int))=false:=by simp
  have:=ZoQ f hf H0 H 4 0 d 1 rfl h0 (by omega) (by decide)
  rw[show ((0:Nat):Int)=0 from rfl,List.drop_zero,Zt0 4 f d]at this
  simp only[go_sem,hlt,Zdm,this,MI]
  rfl
 |cons b r ih =>
  intro done d hd h0 h1
  have hlen:s.length=done.length+(r.length+1):=by rw[hd];simp
  have hlt:decide ((done.length:Int)<(s.length:Int))=true:=by simp;omega
  have hwi:IntKind.i64.wrap ((done.length:Int)+1)=((done.length+1:Nat):Int):=by rw[Zq (by omega) (by omega)];omega
  have hb:=Xf b
  have hw1:IntKind.i64.wrap (d*10)=d*10:=Zq (by omega) (by omega)
  have hw2:IntKind.i64.wrap (d*10+dg b)=d*10+dg b:=Zq (by omega) (by omega)
  rw[Nq,Zb9]
  simp only[go_sem,hlt,Zdp,hw1,FQ hd,ZjI,hw2]
  by_cases hg:1000000000<d*10+dg b
  ·simp only[decide_eq_true hg,go_sem,if_pos hg]
  ·have:=ih (done++[b]) (d*10+dg b) (by rw[hd];simp) (by omega) (by omega)
   rw[List.length_append,List.length_singleton]at this
   simp only[decide_eq_false hg,go_sem,if_neg hg,Zdq,hwi,this]
theorem Zle (s f:List UInt8)(hs:s.length≤1048576)(hf:f.length≤1048576)(H:Hp):Zc PT [.str s,.str f] H=some (match EV s f with
 |none=>.tuple [.int .i64 0,.bool false]
 |some n=>.tuple [.int .i64 n,.bool (decide (n≤10000000000000))],H):=by
 have:=Zlf s f hs hf [] [] s [] 0 rfl (by omega) (by omega)
 rw[List.length_nil,show ((0:Nat):Int)=0 from rfl]at this
 unfold EV
 cases h:MI s 0 with
 |none =>
  rw[h]at this
  refine WH (a':=.str s) (b':=.str f) (H1:=[]) rfl rfl ?_ rfl
  rw[L9]
  exact this
 |some n =>
  rw[h]at this
  refine WH (a':=.str s) (b':=.str f) (H1:=[]) rfl rfl ?_ rfl
  rw[L9]
  exact this
def NZ (neg:Bool)(n:Nat)(w f:List UInt8):Int :=
 if n=0∧f=[] then 0 else if neg then -(min 10000000000000 (QO w f)) else min 10000000000000 (QO w f)
def Mh (neg:Bool)(r:List UInt8):Int :=
 match r.drop (Zh r) with
 |[]=>NZ neg (Zh r) (r.take (Zh r)) []
 |b::q=>if (((b.toNat:Int)==46)&&(decide (0<Zh r) || decide (0<Zh q)))=true then NZ neg (Zh r) (r.take (Zh r)) (q.take (Zh q)) else NZ neg (Zh r) (r.take (Zh r)) []
theorem ZkX {neg:Bool}{r:List UInt8}(h:r.drop (Zh r)=[]):Mh neg r=NZ neg (Zh r) (r.take (Zh r)) []:=by unfold Mh;rw[h]
theorem ZiN {neg:Bool}{r:List UInt8}{b:UInt8}{q:List UInt8}(h:r.drop (Zh r)=b::q):Mh neg r=if (((b.toNat:Int)==46)&&(decide (0<Zh r) || decide (0<Zh q)))=true then NZ neg (Zh r) (r.take (Zh r)) (q.take (Zh q)) else NZ neg (Zh r) (r.take (Zh r)) []:=by unfold Mh;rw[h]
theorem Zpb:∀ (l:List UInt8) (d n:Int),0≤d→d≤1000000000→MI l d=some n→0≤n∧n≤1000000000:=by
 intro l
 induction l with
 |nil=>intro d n h0 h1 h;injection h with h;subst h;exact⟨h0,h1⟩
 |cons b l ih =>
  intro d n h0 h1 h
  rw[Zb9]at h
  have:=Xf b
  split at h
  ·cases h
  ·exact ih _ n (by omega) (by omega) h
theorem Zgy {w f:List UInt8}{n:Int}(h:EV w f=some n):0≤n∧n≤10000001000000:=by
 unfold EV at h
 split at h
 ·cases h
 ·rename_i d hd
  injection h with h
  have:=Zpb w 0 d (by omega) (by omega) hd
  have:=Ziq f
  omega
theorem Zh3 (w f:List UInt8):0≤QO w f∧QO w f≤10000000000001:=by
 unfold QO
 split
 ·omega
 ·rename_i n h
  have:=Zgy h
  omega
theorem Zjz (x y:AV):ZM (.tuple [x,y]) 0=some x:=rfl
theorem ZjA (x y:AV):ZM (.tuple [x,y]) 1=some y:=rfl
theorem SP (n:Int):X9 .neg (.int .i64 n)=some (.int .i64 (IntKind.i64.wrap (0-n))):=(Eq.refl _).trans (Eq.refl _)
theorem ZgH (neg:Bool)(n:Nat)(w f:List UInt8)(hw:w.length≤1048576)(hf:f.length≤1048576)(e:Int)(H0 H:Hp) :
 ∃ e',W3 (.bool neg) (.int .i64 (n:Int)) (.str w) (.str f) (.int .i64 e) H0 H=some (.tuple [.int .i64 (NZ neg n w f),.int .i64 e'],H):=by
 have hv:=Zh3 w f
 have hmin:VO (.int .i64 10000000000000) (.int .i64 (QO w f))=some (.int .i64 (min 10000000000000 (QO w f))):=by
  unfold VO
  simp only[if_true]
  congr 2
  split <;> omega
 have hneg:IntKind.i64.wrap (0-min 10000000000000 (QO w f))=-(min 10000000000000 (QO w f)):=by rw[Zq (by omega) (by omega)];omega
 have hJ4:KD (.bool neg) (.str w) (.str f) (.int .i64 e) H0 H=some (.tuple [.int .i64 (if neg then -(min 10000000000000 (QO w f)) else min 10000000000000 (QO w f)),.int .i64 e],H):=by
  rw[CT]
  simp only[go_sem,Zpe w f hw hf,hmin]
  cases neg with
  |true=>simp only[go_sem,SP,hneg,Du,if_true]
  |false=>simp only[go_sem,Du,Bool.false_eq_true,if_false]
 have hs:Yq .eql (.str f) (.str [])=some (.bool (f==[])):=rfl
 rw[CS]
 unfold NZ
 cases n with
 |zero =>
  cases f with
  |nil=>exact⟨0,by simp[go_sem,Yq];rfl⟩
  |cons b f =>
   have hs:Yq .eql (.str (b::f)) (.str [])=some (.bool false):=rfl
   refine⟨e,?_⟩
   simp[go_sem,hs,hJ4]
 |succ n =>
  refine⟨e,?_⟩
  have h0:(((n+1:Nat):Int)==0)=false:=by
   rw[beq_eq_false_iff_ne];omega
  simp only[go_sem,h0,hJ4]
  simp
theorem Zej {s:List UInt8}{i:Nat}(h:i≤s.length):ZX (.str s) (some (.int .i64 (i:Int))) none none=some (.str (s.drop i)):=by
 rw[CF .i64 (by omega) (by omega)];simp
theorem ZgG (s:List UInt8)(hs:s.length≤1048576)(neg:Bool){i:Nat}(hi:i≤s.length)(H0 H:Hp) :
 ∃ e,Um (.str s) (.int .i64 (i:Int)) (.bool neg) H0 H=some (.tuple [.int .i64 (Mh neg (s.drop i)),.int .i64 e],H):=by
 have hr:(s.drop i).length=s.length-i:=List.length_drop
 have hn:=HD (s.drop i)
 have hwn:IntKind.i64.wrap ((i:Int)+(Zh (s.drop i):Int))=((i+Zh (s.drop i):Nat):Int):=by rw[Zq (by omega) (by omega)];omega
 have htk:(s.take (i+Zh (s.drop i))).drop i=(s.drop i).take (Zh (s.drop i)):=by rw[List.drop_take];congr 1;omega
 rw[CR]
 simp only[go_sem,Zej hi,ZcL _ (show (s.drop i).length≤1048576 by omega),hwn,Ug (show i≤i+Zh (s.drop i) by omega) (show i+Zh (s.drop i)≤s.length by omega),htk,ZJ]
 have htl:((s.drop i).take (Zh (s.drop i))).length≤1048576:=by rw[List.length_take];omega
 by_cases hlt:i+Zh (s.drop i)<s.length
 ·have c1:decide (((i+Zh (s.drop i):Nat):Int)<(s.length:Int))=true:=by simp;omega
  have hd:(s.drop i).drop (Zh (s.drop i))=s[i+Zh (s.drop i)]::s.drop (i+Zh (s.drop i)+1):=by
   rw[List.drop_drop,Yu hlt]
  have hw1:IntKind.i64.wrap (((i+Zh (s.drop i):Nat):Int)+1)=((i+Zh (s.drop i)+1:Nat):Int):=by rw[Zq (by omega) (by omega)];omega
  have hq:(s.drop (i+Zh (s.drop i)+1)).length=s.length-(i+Zh (s.drop i)+1):=List.length_drop
  have hk:=HD (s.drop (i+Zh (s.drop i)+1))
  rw[ZiN hd]
  simp only[c1,go_sem,ZC (List.getElem?_eq_getElem hlt)]
  cases h46:((s[i+Zh (s.drop i)].toNat:Int)==46) with
  |false =>
   simp only[go_sem,Bool.false_and,Bool.false_eq_true,if_false]
   exact ZgH neg _ _ _ htl (by simp) _ H0 H
  |true =>
   have hw2:IntKind.i64.wrap (((i+Zh (s.drop i)+1:Nat):Int)+(Zh (s.drop (i+Zh (s.drop i)+1)):Int))=((i+Zh (s.drop i)+1+Zh (s.drop (i+Zh (s.drop i)+1)):Nat):Int):=by rw[Zq (by omega) (by omega)];omega
   have hw3:IntKind.i64.wrap ((1:Int)+(Zh (s.drop (i+Zh (s.drop i)+1)):Int))=((1+Zh (s.drop (i+Zh (s.drop i)+1)):Nat):Int):=by rw[Zq (by omega) (by omega)];omega
   have htq:(s.take (i+Zh (s.drop i)+1+Zh (s.drop (i+Zh (s.drop i)+1)))).drop (i+Zh (s.drop i)+1)=(s.drop (i+Zh (s.drop i)+1)).take (Zh (s.drop (i+Zh (s.drop i)+1))):=by rw[List.drop_take];congr 1;omega
   have hfl:((s.drop (i+Zh (s.drop i)+1)).take (Zh (s.drop (i+Zh (s.drop i)+1)))).length≤1048576:=by rw[List.length_take];omega
   have hpos:∀ n:Nat,decide ((0:Int)<(n:Int))=decide (0<n):=fun n=>by simp
   simp only[go_sem,hw1,Zej (show i+Zh (s.drop i)+1≤s.length by omega),ZcL _ (show (s.drop (i+Zh (s.drop i)+1)).length≤1048576 by omega),hpos,Bool.true_and]
   have hfin:∃ e,(Z0 (Z5 .add (.int .i64 ((i+Zh (s.drop i):Nat):Int)) (.int .i64 1)) fun t91_34 =>
    Z0 (Z5 .add (.int .i64 ((i+Zh (s.drop i):Nat):Int)) (.int .i64 1)) fun t93_35 =>
    Z0 (Z5 .add t93_35 (.int .i64 (Zh (s.drop (i+Zh (s.drop i)+1)):Int))) fun t95_36 =>
    Z0 (ZX (.str s) (some t91_34) (some t95_36) none) fun t96_37 =>
    Z0 (Z5 .add (.int .i64 1) (.int .i64 (Zh (s.drop (i+Zh (s.drop i)+1)):Int))) fun t99_38 =>
    Z0 (Z5 .add (.int .i64 ((i+Zh (s.drop i):Nat):Int)) t99_38) fun t100_39 =>
    W3 (.bool neg) (.int .i64 (Zh (s.drop i):Int)) (.str ((s.drop i).take (Zh (s.drop i)))) t96_37 t100_39 H0 H)=some (.tuple [.int .i64 (NZ neg (Zh (s.drop i)) ((s.drop i).take (Zh (s.drop i))) ((s.drop (i+Zh (s.drop i)+1)).take (Zh (s.drop (i+Zh (s.drop i)+1))))),.int .i64 e],H):=by
    simp only[go_sem,hw1,hw2,hw3,Ug (show i+Zh (s.drop i)+1≤i+Zh (s.drop i)+1+Zh (s.drop (i+Zh (s.drop i)+1)) by omega) (show i+Zh (s.drop i)+1+Zh (s.drop (i+Zh (s.drop i)+1))≤s.length by omega),htq]
    exact ZgH neg _ _ _ htl hfl _ H0 H
   simp only[go_sem,hw1,hw2,hw3,Ug (show i+Zh (s.drop i)+1≤i+Zh (s.drop i)+1+Zh (s.drop (i+Zh (s.drop i)+1)) by omega) (show i+Zh (s.drop i)+1+Zh (s.drop (i+Zh (s.drop i)+1))≤s.length by omega),htq]at hfin
   cases hn0:decide (0<Zh (s.drop i)) with
   |true =>
    simp only[go_sem,Bool.true_or,if_true,hw1,hw2,hw3,Ug (show i+Zh (s.drop i)+1≤i+Zh (s.drop i)+1+Zh (s.drop (i+Zh (s.drop i)+1)) by omega) (show i+Zh (s.drop i)+1+Zh (s.drop (i+Zh (s.drop i)+1))≤s.length by omega),htq]
    exact hfin
   |false =>
    cases hk0:decide (0<Zh (s.drop (i+Zh (s.drop i)+1))) with
    |true =>
     simp only[go_sem,hpos,hk0,Bool.or_true,if_true,hw1,hw2,hw3,Ug (show i+Zh (s.drop i)+1≤i+Zh (s.drop i)+1+Zh (s.drop (i+Zh (s.drop i)+1)) by omega) (show i+Zh (s.drop i)+1+Zh (s.drop (i+Zh (s.drop i)+1))≤s.length by omega),htq]
     exact hfin
    |false =>
     simp only[go_sem,hpos,hk0,Bool.or_false,Bool.false_eq_true,if_false]
     exact ZgH neg _ _ _ htl (by simp) _ H0 H
 ·have c1:decide (((i+Zh (s.drop i):Nat):Int)<(s.length:Int))=false:=by simp;omega
  have hd:(s.drop i).drop (Zh (s.drop i))=[]:=List.drop_eq_nil_iff.2 (by omega)
  rw[ZkX hd]
  simp only[c1,go_sem]
  exact ZgH neg _ _ _ htl (by simp) _ H0 H
def ZhZ:List UInt8→Int
 |[]=>Mh false []
 |b::r=>if (((b.toNat:Int)==45) || ((b.toNat:Int)==43))=true then Mh ((b.toNat:Int)==45) r else Mh ((b.toNat:Int)==45) (b::r)
theorem ZiM (b:UInt8)(r:List UInt8):ZhZ (b::r)=if (((b.toNat:Int)==45) || ((b.toNat:Int)==43))=true then Mh ((b.toNat:Int)==45) r else Mh ((b.toNat:Int)==45) (b::r):=(Eq.refl _).trans (Eq.refl _)
def Mg (s:List UInt8):Int:=ZhZ (s.drop (Y9 s))
theorem Zrb (s:List UInt8)(hs:s.length≤1048576){i:Nat}(hi:i≤s.length)(H0 H:Hp) :
 ∃ e,KC (.str s) (.int .i64 (i:Int)) H0 H=some (.tuple [.int .i64 (ZhZ (s.drop i)),.int .i64 e],H):=by
 rw[CQ]
 by_cases hlt:i<s.length
 ·have c1:decide ((i:Int)<(s.length:Int))=true:=by simp;omega
  have hw1:IntKind.i64.wrap ((i:Int)+1)=((i+1:Nat):Int):=by rw[Zq (by omega) (by omega)];omega
  have hix:=ZC (List.getElem?_eq_getElem hlt)
  rw[Yu hlt]
  simp only[ZJ,go_sem,c1,hix,ZiM]
  cases h45:((s[i].toNat:Int)==45) with
  |true =>
   simp only[go_sem,c1,hix,hw1,Bool.true_or,if_true]
   exact ZgG s hs true (by omega) H0 H
  |false =>
   simp only[go_sem,ZJ,c1,hix]
   cases h43:((s[i].toNat:Int)==43) with
   |true =>
    simp only[go_sem,c1,hix,hw1,Bool.or_true,if_true]
    exact ZgG s hs false (by omega) H0 H
   |false =>
    simp only[go_sem,Bool.or_false,Bool.or_self,Bool.false_eq_true,if_false]
    rw[←Yu hlt]
    exact ZgG s hs false (by omega) H0 H
 ·have c1:decide ((i:Int)<(s.length:Int))=false:=by simp;omega
  have hd:s.drop i=[]:=List.drop_eq_nil_iff.2 (by omega)
  simp only[ZJ,go_sem,c1,hd]
  have:=ZgG s hs false hi H0 H
  rw[hd]at this
  exact this
theorem ZwF (s:List UInt8)(hs:s.length≤1048576)(H0 H:Hp):∀ (k i:Nat),s.length-i=k→i≤s.length →
 ∃ e,Un (.str s) (.int .i64 (i:Int)) H0 H=some (.tuple [.int .i64 (ZhZ ((s.drop i).drop (Y9 (s.drop i)))),.int .i64 e],H):=by
 intro k
 induction k with
 |zero =>
  intro i hk hi
  have hlt:decide ((i:Int)<(s.length:Int))=false:=by simp;omega
  have hd:s.drop i=[]:=List.drop_eq_nil_iff.2 (by omega)
  rw[Dw]
  simp only[ZJ,go_sem,hlt]
  have:=Zrb s hs hi H0 H
  rw[hd]at this ⊢
  exact this
 |succ k ih =>
  intro i hk hi
  have hl:i<s.length:=by omega
  have hlt:decide ((i:Int)<(s.length:Int))=true:=by simp;omega
  have hw1:IntKind.i64.wrap ((i:Int)+1)=((i+1:Nat):Int):=by rw[Zq (by omega) (by omega)];omega
  have hix:=ZC (List.getElem?_eq_getElem hl)
  have ih':=ih (i+1) (by omega) (by omega)
  have hnext:Yf s[i]=true→(s.drop i).drop (Y9 (s.drop i))=(s.drop (i+1)).drop (Y9 (s.drop (i+1))):=fun h=>by
   rw[Yu hl,XX,h,if_pos rfl,List.drop_succ_cons]
  have hstop:Yf s[i]=false→(s.drop i).drop (Y9 (s.drop i))=s.drop i:=fun h=>by
   rw[Yu hl,XX,h];simp
  have hb:Yf s[i]=(((s[i].toNat:Int)==32) || ((s[i].toNat:Int)==9)):=by
   rw[Yf,(UP s[i]).1,(UP s[i]).2]
  rw[Dw]
  simp only[ZJ,go_sem,hlt,hix]
  cases h32:((s[i].toNat:Int)==32) with
  |true =>
   simp only[go_sem,Dv,hw1]
   rw[hnext (by rw[hb,h32];rfl)]
   exact ih'
  |false =>
   simp only[go_sem,hix]
   cases h9:((s[i].toNat:Int)==9) with
   |true =>
    simp only[go_sem,Dv,hw1]
    rw[hnext (by rw[hb,h32,h9];rfl)]
    exact ih'
   |false =>
    simp only[go_sem]
    rw[hstop (by rw[hb,h32,h9];rfl)]
    exact Zrb s hs hi H0 H
theorem ZkY (s:List UInt8)(hs:s.length≤1048576)(H:Hp):∃ e,Zc UU [.str s] H=some (.tuple [.int .i64 (Mg s),.int .i64 e],H):=by
 obtain⟨e,h⟩:=ZwF s hs [] [] _ 0 rfl (Nat.zero_le _)
 rw[show ((0:Nat):Int)=0 from rfl,List.drop_zero]at h
 refine⟨e,YZ (a':=.str s) (H1:=[]) rfl ?_ rfl⟩
 rw[I1]
 exact h
theorem Zbu (s:List UInt8)(hs:s.length≤1048576)(neg:Bool){i n:Nat}(hn:i+n≤s.length)(f:List UInt8)(hf:f.length≤1048576)(e:Int)(he:e=(i:Int)↔n=0∧f=[])(H0 H:Hp) :
 ∃ e',Qu (.str s) (.int .i64 (i:Int)) (.bool neg) (.int .i64 ((i+n:Nat):Int)) (.int .i64 e) (.str f) H0 H=some (.tuple [.int .i64 (NZ neg n ((s.drop i).take n) f),.int .i64 e'],H):=by
 have htk:(s.take (i+n)).drop i=(s.drop i).take n:=by rw[List.drop_take];congr 1;omega
 have hwl:((s.drop i).take n).length≤1048576:=by rw[List.length_take,List.length_drop];omega
 have hv:=Zh3 ((s.drop i).take n) f
 have hneg:∀ m:Int,0≤m→m≤10000000000000→IntKind.i64.wrap (0-m)=-m:=fun m h0 h1=>by rw[Zq (by omega) (by omega)];omega
 have hJ6:∀ m:Int,0≤m→m≤10000000000000→GA (.bool neg) (.int .i64 e) (.int .i64 m) H0 H=some (.tuple [.int .i64 (if neg then -m else m),.int .i64 e],H):=fun m h0 h1=>by
  rw[Zdk]
  cases neg with
  |true=>simp only[go_sem,SP,hneg m h0 h1,Nj,if_true]
  |false=>simp only[go_sem,Nj,Bool.false_eq_true,if_false]
 have hJ5:∀ f':List UInt8,f'.length≤1048576→fr 4 f' 0=fr 4 f 0→Gz (.str s) (.int .i64 (i:Int)) (.bool neg) (.int .i64 ((i+n:Nat):Int)) (.int .i64 e) (.str f') H0 H=some (.tuple [.int .i64 (if neg then -(min 10000000000000 (QO ((s.drop i).take n) f)) else min 10000000000000 (QO ((s.drop i).take n) f)),.int .i64 e],H):=fun f' h1 h2=>by
  have hnum:EV ((s.drop i).take n) f'=EV ((s.drop i).take n) f:=by unfold EV;rw[h2]
  rw[Zdj]
  simp only[go_sem,Ug (show i≤i+n by omega) hn,htk,Zle _ f' hwl h1,hnum]
  unfold QO
  cases hN:EV ((s.drop i).take n) f with
  |none =>
   simp only[go_sem,Zjz,ZjA,Bool.not_false]
   exact hJ6 _ (by omega) (by omega)
  |some m =>
   have hm:=Zgy hN
   simp only[go_sem,Zjz,ZjA]
   by_cases hle:m≤10000000000000
   ·simp only[decide_eq_true hle,Bool.not_true,go_sem]
    rw[hJ6 m hm.1 hle,show min 10000000000000 (min 10000000000001 m)=m by omega]
   ·simp only[decide_eq_false hle,Bool.not_false,go_sem]
    rw[hJ6 _ (by omega) (by omega),show min 10000000000000 (min 10000000000001 m)=(10000000000000:Int) by omega]
 have hJ4:Tf (.str s) (.int .i64 (i:Int)) (.bool neg) (.int .i64 ((i+n:Nat):Int)) (.int .i64 e) (.str f) H0 H=some (.tuple [.int .i64 (if neg then -(min 10000000000000 (QO ((s.drop i).take n) f)) else min 10000000000000 (QO ((s.drop i).take n) f)),.int .i64 e],H):=by
  rw[Zdi]
  simp only[go_sem,ZJ]
  by_cases h4:4<f.length
  ·have c:decide ((4:Int)<(f.length:Int))=true:=by simp;omega
   have hsl:ZX (.str f) none (some (.int .i64 4)) none=some (.str (f.take 4)):=ZfL .i64 (by omega) (by omega)
   simp only[c,go_sem,hsl]
   exact hJ5 _ (by rw[List.length_take];omega) (ZsZ f)
  ·have c:decide ((4:Int)<(f.length:Int))=false:=by simp;omega
   simp only[c,go_sem]
   exact hJ5 _ hf rfl
 rw[Zdh]
 unfold NZ
 by_cases hz:e=(i:Int)
 ·have c:(e==(i:Int))=true:=by rw[beq_iff_eq];exact hz
  refine⟨0,?_⟩
  simp only[go_sem,c,if_pos (he.1 hz)]
 ·have c:(e==(i:Int))=false:=by rw[beq_eq_false_iff_ne];exact hz
  refine⟨e,?_⟩
  simp only[go_sem,c,if_neg (fun h=>hz (he.2 h)),hJ4]
theorem Zbt (s:List UInt8)(hs:s.length≤1048576)(neg:Bool){i:Nat}(hi:i≤s.length)(H0 H:Hp) :
 ∃ e,Gy (.str s) (.int .i64 (i:Int)) (.bool neg) H0 H=some (.tuple [.int .i64 (Mh neg (s.drop i)),.int .i64 e],H):=by
 have hr:(s.drop i).length=s.length-i:=List.length_drop
 have hn:=HD (s.drop i)
 have hzero:((i+Zh (s.drop i):Nat):Int)=(i:Int)↔Zh (s.drop i)=0∧([]:List UInt8)=[]:=⟨fun h=>⟨by omega,rfl⟩,fun h=>by omega⟩
 rw[Zdg]
 simp only[go_sem,ZaY s hs hi,ZJ]
 by_cases hlt:i+Zh (s.drop i)<s.length
 ·have c1:decide (((i+Zh (s.drop i):Nat):Int)<(s.length:Int))=true:=by simp;omega
  have hd:(s.drop i).drop (Zh (s.drop i))=s[i+Zh (s.drop i)]::s.drop (i+Zh (s.drop i)+1):=by
   rw[List.drop_drop,Yu hlt]
  have hw1:IntKind.i64.wrap (((i+Zh (s.drop i):Nat):Int)+1)=((i+Zh (s.drop i)+1:Nat):Int):=by rw[Zq (by omega) (by omega)];omega
  have hq:(s.drop (i+Zh (s.drop i)+1)).length=s.length-(i+Zh (s.drop i)+1):=List.length_drop
  have hk:=HD (s.drop (i+Zh (s.drop i)+1))
  rw[ZiN hd]
  simp only[c1,go_sem,ZC (List.getElem?_eq_getElem hlt)]
  cases h46:((s[i+Zh (s.drop i)].toNat:Int)==46) with
  |false =>
   simp only[go_sem,Bool.false_and,Bool.false_eq_true,if_false]
   exact Zbu s hs neg (by omega) [] (by simp) _ hzero H0 H
  |true =>
   have htq:(s.take (i+Zh (s.drop i)+1+Zh (s.drop (i+Zh (s.drop i)+1)))).drop (i+Zh (s.drop i)+1)=(s.drop (i+Zh (s.drop i)+1)).take (Zh (s.drop (i+Zh (s.drop i)+1))):=by rw[List.drop_take];congr 1;omega
   have hfl:((s.drop (i+Zh (s.drop i)+1)).take (Zh (s.drop (i+Zh (s.drop i)+1)))).length≤1048576:=by rw[List.length_take];omega
   have hp1:decide ((i:Int)<((i+Zh (s.drop i):Nat):Int))=decide (0<Zh (s.drop i)):=by
    rw[decide_eq_decide];omega
   have hp2:decide (((i+Zh (s.drop i)+1:Nat):Int)<((i+Zh (s.drop i)+1+Zh (s.drop (i+Zh (s.drop i)+1)):Nat):Int))=decide (0<Zh (s.drop (i+Zh (s.drop i)+1))):=by
    rw[decide_eq_decide];omega
   have hsl:=Ug (s:=s) (show i+Zh (s.drop i)+1≤i+Zh (s.drop i)+1+Zh (s.drop (i+Zh (s.drop i)+1)) by omega) (show i+Zh (s.drop i)+1+Zh (s.drop (i+Zh (s.drop i)+1))≤s.length by omega)
   rw[htq]at hsl
   have hlast:=fun he=>Zbu s hs neg (i:=i) (n:=Zh (s.drop i)) (by omega) ((s.drop (i+Zh (s.drop i)+1)).take (Zh (s.drop (i+Zh (s.drop i)+1)))) hfl ((i+Zh (s.drop i)+1+Zh (s.drop (i+Zh (s.drop i)+1)):Nat):Int) he H0 H
   have he:(decide (0<Zh (s.drop i)) || decide (0<Zh (s.drop (i+Zh (s.drop i)+1))))=true→(((i+Zh (s.drop i)+1+Zh (s.drop (i+Zh (s.drop i)+1)):Nat):Int)=(i:Int)↔Zh (s.drop i)=0∧(s.drop (i+Zh (s.drop i)+1)).take (Zh (s.drop (i+Zh (s.drop i)+1)))=[]):=fun hor=>by
    rw[Bool.or_eq_true,decide_eq_true_eq,decide_eq_true_eq]at hor
    constructor
    ·intro h;omega
    ·rintro⟨h1,h2⟩
     have:=congrArg List.length h2
     rw[List.length_take,List.length_nil]at this
     omega
   simp only[go_sem,hw1,ZaY s hs (show i+Zh (s.drop i)+1≤s.length by omega),hp1,Bool.true_and]
   cases hn0:decide (0<Zh (s.drop i)) with
   |true =>
    simp only[go_sem,Bool.true_or,if_true,hw1,hsl]
    exact hlast (he (by rw[hn0];rfl))
   |false =>
    cases hk0:decide (0<Zh (s.drop (i+Zh (s.drop i)+1))) with
    |true =>
     simp only[go_sem,hw1,hp2,hk0,Bool.or_true,if_true,hsl]
     exact hlast (he (by rw[hk0,Bool.or_true]))
    |false =>
     simp only[go_sem,hw1,hp2,hk0,Bool.or_false,Bool.false_eq_true,if_false]
     exact Zbu s hs neg (by omega) [] (by simp) _ hzero H0 H
 ·have c1:decide (((i+Zh (s.drop i):Nat):Int)<(s.length:Int))=false:=by simp;omega
  have hd:(s.drop i).drop (Zh (s.drop i))=[]:=List.drop_eq_nil_iff.2 (by omega)
  rw[ZkX hd]
  simp only[c1,go_sem]
  exact Zbu s hs neg (by omega) [] (by simp) _ hzero H0 H
theorem ZmY (s:List UInt8)(hs:s.length≤1048576){i:Nat}(hi:i≤s.length)(H0 H:Hp) :
 ∃ e,Te (.str s) (.int .i64 (i:Int)) H0 H=some (.tuple [.int .i64 (ZhZ (s.drop i)),.int .i64 e],H):=by
 rw[Zdf]
 by_cases hlt:i<s.length
 ·have c1:decide ((i:Int)<(s.length:Int))=true:=by simp;omega
  have hw1:IntKind.i64.wrap ((i:Int)+1)=((i+1:Nat):Int):=by rw[Zq (by omega) (by omega)];omega
  have hix:=ZC (List.getElem?_eq_getElem hlt)
  rw[Yu hlt]
  simp only[ZJ,go_sem,c1,hix,ZiM]
  cases h45:((s[i].toNat:Int)==45) with
  |true =>
   simp only[go_sem,c1,hix,hw1,Bool.true_or,if_true]
   exact Zbt s hs true (by omega) H0 H
  |false =>
   simp only[go_sem,ZJ,c1,hix]
   cases h43:((s[i].toNat:Int)==43) with
   |true =>
    simp only[go_sem,c1,hix,hw1,Bool.or_true,if_true]
    exact Zbt s hs false (by omega) H0 H
   |false =>
    simp only[go_sem,Bool.or_false,Bool.or_self,Bool.false_eq_true,if_false]
    rw[←Yu hlt]
    exact Zbt s hs false (by omega) H0 H
 ·have c1:decide ((i:Int)<(s.length:Int))=false:=by simp;omega
  have hd:s.drop i=[]:=List.drop_eq_nil_iff.2 (by omega)
  simp only[ZJ,go_sem,c1,hd]
  have:=Zbt s hs false hi H0 H
  rw[hd]at this
  exact this
theorem ZvC (s:List UInt8)(hs:s.length≤1048576)(H0 H:Hp):∀ (k i:Nat),s.length-i=k→i≤s.length →
 ∃ e,GB (.str s) (.int .i64 (i:Int)) H0 H=some (.tuple [.int .i64 (ZhZ ((s.drop i).drop (Y9 (s.drop i)))),.int .i64 e],H):=by
 intro k
 induction k with
 |zero =>
  intro i hk hi
  have hlt:decide ((i:Int)<(s.length:Int))=false:=by simp;omega
  have hd:s.drop i=[]:=List.drop_eq_nil_iff.2 (by omega)
  rw[Nl]
  simp only[ZJ,go_sem,hlt]
  have:=ZmY s hs hi H0 H
  rw[hd]at this ⊢
  exact this
 |succ k ih =>
  intro i hk hi
  have hl:i<s.length:=by omega
  have hlt:decide ((i:Int)<(s.length:Int))=true:=by simp;omega
  have hw1:IntKind.i64.wrap ((i:Int)+1)=((i+1:Nat):Int):=by rw[Zq (by omega) (by omega)];omega
  have hix:=ZC (List.getElem?_eq_getElem hl)
  have ih':=ih (i+1) (by omega) (by omega)
  have hnext:Yf s[i]=true→(s.drop i).drop (Y9 (s.drop i))=(s.drop (i+1)).drop (Y9 (s.drop (i+1))):=fun h=>by
   rw[Yu hl,XX,h,if_pos rfl,List.drop_succ_cons]
  have hstop:Yf s[i]=false→(s.drop i).drop (Y9 (s.drop i))=s.drop i:=fun h=>by
   rw[Yu hl,XX,h];simp
  have hb:Yf s[i]=(((s[i].toNat:Int)==32) || ((s[i].toNat:Int)==9)):=by
   rw[Yf,(UP s[i]).1,(UP s[i]).2]
  rw[Nl]
  simp only[ZJ,go_sem,hlt,hix]
  cases h32:((s[i].toNat:Int)==32) with
  |true =>
   simp only[go_sem,Nk,hw1]
   rw[hnext (by rw[hb,h32];rfl)]
   exact ih'
  |false =>
   simp only[go_sem,hix]
   cases h9:((s[i].toNat:Int)==9) with
   |true =>
    simp only[go_sem,Nk,hw1]
    rw[hnext (by rw[hb,h32,h9];rfl)]
    exact ih'
   |false =>
    simp only[go_sem]
    rw[hstop (by rw[hb,h32,h9];rfl)]
    exact ZmY s hs hi H0 H
theorem ZiS (s:List UInt8)(hs:s.length≤1048576)(H:Hp):∃ e,Zc BG [.str s] H=some (.tuple [.int .i64 (Mg s),.int .i64 e],H):=by
 obtain⟨e,h⟩:=ZvC s hs [] [] _ 0 rfl (Nat.zero_le _)
 rw[show ((0:Nat):Int)=0 from rfl,List.drop_zero]at h
 refine⟨e,YZ (a':=.str s) (H1:=[]) rfl ?_ rfl⟩
 rw[Zer]
 exact h
def TC (a b:Int):Int:=if a<b then -1 else if b<a then 1 else 0
theorem Zrw (a b:Int)(H:Hp):Zc FE [.int .i64 a,.int .i64 b] H=some (.int .i64 (TC a b),H):=by
 refine WH (a':=.int .i64 a) (b':=.int .i64 b) (H1:=[]) rfl rfl ?_ rfl
 rw[ZbE]
 unfold So TC
 by_cases h:a<b
 ·simp only[go_sem,decide_eq_true h,if_pos h]
 ·by_cases h2:b<a
  ·simp only[go_sem,decide_eq_false h,if_neg h,decide_eq_true h2,if_pos h2]
  ·simp only[go_sem,decide_eq_false h,if_neg h,decide_eq_false h2,if_neg h2,Zb6]
theorem ZkS (s t:List UInt8)(hs:s.length≤1048576)(ht:t.length≤1048576)(H:Hp):Zc T8 [.str s,.str t] H=some (.int .i64 (TC (Mg s) (Mg t)),H):=by
 refine WH (a':=.str s) (b':=.str t) (H1:=[]) rfl rfl ?_ rfl
 obtain⟨e1,h1⟩:=ZiS s hs []
 obtain⟨e2,h2⟩:=ZiS t ht []
 rw[Zd6]
 unfold Aa TC
 simp only[go_sem,h1,h2,Zjz,ZjA]
 by_cases h:Mg s<Mg t
 ·simp only[go_sem,decide_eq_true h,if_pos h]
 ·by_cases h2:Mg t<Mg s
  ·simp only[go_sem,decide_eq_false h,if_neg h,decide_eq_true h2,if_pos h2,TS]
  ·simp only[go_sem,decide_eq_false h,if_neg h,decide_eq_false h2,if_neg h2,TS,Zc0]
def CV (b:UInt8):Bool:=Yf b || ZqH b.toNat || Ro b.toNat
def WU (s:List UInt8):List UInt8:=s.filter CV
theorem Zq1:((List.range 256).all fun n=>(Dr (ZjK (.bool (Yf (UInt8.ofNat n))) (.int .u8 (n:Int)))==some (CV (UInt8.ofNat n)))&&(Dr (ZgL (.bool (Yf (UInt8.ofNat n))) (.int .u8 (n:Int)))==some (CV (UInt8.ofNat n))))=true:=by kernel_rfl
theorem Zkl (b:UInt8):ZjK (.bool (Yf b)) (.int .u8 b.toNat)=some (.bool (CV b))∧ZgL (.bool (Yf b)) (.int .u8 b.toNat)=some (.bool (CV b)):=by
 have:=V0 Zq1 (Zbw b)
 rw[UInt8.ofNat_toNat,Bool.and_eq_true,beq_iff_eq,beq_iff_eq]at this
 exact⟨Ua this.1,Ua this.2⟩
theorem Zso (acc:List UInt8)(b:UInt8)(h:acc.length≤1048576):byteE.run [.ptr 0 0,.int .u8 b.toNat] [AObj.bld 192 5 acc]=some (.nili,[AObj.bld 192 5 (acc++[b])]):=by
 have hb:=b.toNat_lt
 have h2:acc.length+1≤Ze3:=by unfold Ze3;omega
 have hby:ZfW [.int .u8 b.toNat]=some fun l=>if l.length+1≤Ze3 then some (.nili,l++[UInt8.ofNat (b.toNat:Int).toNat]) else none:=by
  simp only[ZfW,if_pos (show (0:Int)≤(b.toNat:Int)∧(b.toNat:Int)<256 by omega)]
 simp only[byteE,Zud,ZhI,NO,hby,List.getElem?_cons_zero,ZdK,FJ,FK,and_self,if_true,if_pos h2,List.set_cons_zero,Int.toNat_natCast,UInt8.ofNat_toNat]
theorem ZgY (acc:List UInt8):stringE.run [.ptr 0 0] [AObj.bld 192 5 acc]=some (.str acc,[AObj.bld 192 5 acc]):=rfl
theorem Zq3 (s:List UInt8)(hs:s.length≤1048576)(H0:Hp):∀ (r done:List UInt8) (acc:List UInt8),s=done++r→acc.length≤done.length →
 ∃ H',J3 (.str s) (.ptr 0 0) (.int .i64 (s.length:Int)) (.int .i64 (done.length:Int)) H0 [AObj.bld 192 5 acc]=some (.str (acc++WU r),H'):=by
 intro r
 induction r with
 |nil =>
  intro done acc hd ha
  rw[List.append_nil]at hd
  subst hd
  have hlt:decide ((s.length:Int)<(s.length:Int))=false:=by simp
  refine⟨[AObj.bld 192 5 acc],?_⟩
  rw[T4]
  simp only[go_sem,hlt,Zb4,ZgY]
  simp[WU]
 |cons b r ih =>
  intro done acc hd ha
  have hlen:s.length=done.length+(r.length+1):=by rw[hd];simp
  have hlt:decide ((done.length:Int)<(s.length:Int))=true:=by simp;omega
  have hw1:IntKind.i64.wrap ((done.length:Int)+1)=((done.length+1:Nat):Int):=by rw[Zq (by omega) (by omega)];omega
  rw[T4]
  simp only[go_sem,hlt,HF,FQ hd,CG,(Zkl b).1]
  cases hb:CV b with
  |true =>
   obtain⟨H',h⟩:=ih (done++[b]) (acc++[b]) (by rw[hd];simp) (by simp;omega)
   rw[List.length_append,List.length_singleton]at h
   refine⟨H',?_⟩
   simp only[go_sem,Zso acc b (by omega),T0,hw1,h,WU,List.filter_cons,hb,if_true,List.append_assoc,List.singleton_append]
  |false =>
   obtain⟨H',h⟩:=ih (done++[b]) acc (by rw[hd];simp) (by simp;omega)
   rw[List.length_append,List.length_singleton]at h
   refine⟨H',?_⟩
   simp only[go_sem,T0,hw1,h,WU,List.filter_cons,hb,Bool.false_eq_true,if_false]
theorem Zq2 (s:List UInt8)(hs:s.length≤1048576)(H:Hp):Zc FC [.str s] H=some (.str (WU s),H):=by
 obtain⟨H',h⟩:=Zq3 s hs [] s [] [] rfl (Nat.le_refl _)
 rw[List.length_nil,show ((0:Nat):Int)=0 from rfl,List.nil_append]at h
 refine YZ (a':=.str s) (H1:=H') rfl ?_ rfl
 rw[ZbD]
 unfold Sn
 simp only[go_sem,List.length_nil,List.nil_append,h]
theorem ZoM (s:List UInt8)(hs:s.length≤1048576)(H0:Hp):∀ (r done:List UInt8) (acc:List UInt8) (x:AV) (H:Hp),s=done++r→acc.length≤done.length→RowN 0 H 1 x (acc.map VB) →
 ∃ H',Ri (.str s) x (.int .i64 (done.length:Int)) H0 H=some (.str (acc++WU r),H'):=by
 intro r
 induction r with
 |nil =>
  intro done acc x H hd ha hx
  rw[List.append_nil]at hd
  subst hd
  have hlt:decide ((s.length:Int)<(s.length:Int))=false:=by simp
  refine⟨H,?_⟩
  rw[SJ]
  simp only[go_sem,ZJ,hlt,Zhz,ZmX hx]
  simp[WU]
 |cons b r ih =>
  intro done acc x H hd ha hx
  have hlen:s.length=done.length+(r.length+1):=by rw[hd];simp
  have hlt:decide ((done.length:Int)<(s.length:Int))=true:=by simp;omega
  have hw1:IntKind.i64.wrap ((done.length:Int)+1)=((done.length+1:Nat):Int):=by rw[Zq (by omega) (by omega)];omega
  rw[SJ]
  simp only[go_sem,ZJ,hlt,ZdD,FQ hd,Ru,(Zkl b).2]
  cases hb:CV b with
  |true =>
   obtain⟨x',H1,q1,q2,_,_,_⟩:=hx.app (Nat.zero_le _) 1 (.vs 1 .clip [VB b]) [VB b] (by simp[elems]) (by simp;omega)
   obtain⟨H',h⟩:=ih (done++[b]) (acc++[b]) x' H1 (by rw[hd];simp) (by simp;omega) (by simpa using q2)
   rw[List.length_append,List.length_singleton]at h
   refine⟨H',?_⟩
   simp only[go_sem,Zr7,q1,SI,hw1,h,WU,List.filter_cons,hb,if_true,List.append_assoc,List.singleton_append]
  |false =>
   obtain⟨H',h⟩:=ih (done++[b]) acc x H (by rw[hd];simp) (by simp;omega) hx
   rw[List.length_append,List.length_singleton]at h
   refine⟨H',?_⟩
   simp only[go_sem,SI,hw1,h,WU,List.filter_cons,hb,Bool.false_eq_true,if_false]
theorem ZoL (s:List UInt8)(hs:s.length≤1048576)(H:Hp):Zc Cl [.str s] H=some (.str (WU s),H):=by
 obtain⟨H',h⟩:=ZoM s hs [] s [] [] .nils [] rfl (Nat.le_refl _) (RowN.nil _ _ _)
 rw[List.length_nil,show ((0:Nat):Int)=0 from rfl,List.nil_append]at h
 refine YZ (a':=.str s) (H1:=H') rfl ?_ rfl
 rw[Zj0]
 exact h
theorem GY (s:List UInt8):(WU s).length≤s.length:=List.length_filter_le _ _
def YS (s:List UInt8):List UInt8:=s.drop (Y9 s)
theorem CW (s:List UInt8):(YS s).length≤s.length:=by unfold YS;rw[List.length_drop];omega
theorem EN (b:UInt8)(s:List UInt8):YS (b::s)=if Yf b then YS s else b::s:=by
 unfold YS
 rw[XX]
 split <;> simp
theorem Zp8 (s:List UInt8):Go.Lib.trimLeftS s [32,9]=YS s:=by
 unfold Go.Lib.trimLeftS
 induction s with
 |nil=>rfl
 |cons b s ih =>
  rw[EN,List.dropWhile_cons]
  have:([32,9]:List UInt8).contains b=Yf b:=by
   rw[List.contains_cons,List.contains_cons,Yf]
   simp
  rw[this,ih]
theorem ZrM (s:List UInt8)(H:Hp):Zc Kw [.str s] H=some (.str (YS s),H):=by
 refine YZ (a':=.str s) (H1:=[]) rfl ?_ rfl
 rw[Cr]
 unfold TK
 have:Zbv [.str s,.str [32,9]]=some (.str (YS s)):=by
  unfold Zbv
  dsimp only
  rw[if_pos ⟨by decide,by decide⟩,Zp8]
 simp only[go_sem,HM,this]
theorem ZwS (L:Loc)(s:List UInt8):(upS L s).length=s.length:=by simp[upS,Ww]
theorem Zqp {l:List AV}{L:Loc}(h:LocCells l L)(hok:LocOk L)(s:List UInt8)(hs:s.length≤1048576)(H:Hp):Zc Kx [.str s,.vp l] H=some (.str (upS L s),H):=by
 obtain⟨l',h1,x,c,e,rfl,hx,hc,he⟩:=h.close [] 0 2
 have hcl:Ze [] 0 6 (.vp l)=some (.vp (L.cells x c e)):=by rw[VQ,h1]
 refine WH (a':=.str s) rfl hcl (H1:=[]) ?_ rfl
 rw[Cs]
 unfold TL
 have hu:=Zh1 (L:=L) ⟨x,c,e,rfl,hx,hc,he⟩ hok s hs []
 simp only[go_sem,Xy 6 (L.cells x c e) rfl,hu.1]
def X4 (L:Loc)(n:Nat)(s:List UInt8):List UInt8 :=
 let s1:=if n.testBit 3 then YS s else s
 let s2:=if n.testBit 4 then WU s1 else s1
 if n.testBit 2 then upS L s2 else s2
theorem E5 (L:Loc)(n:Nat)(s:List UInt8):(X4 L n s).length≤s.length:=by
 have h1:=CW s
 have h2:=GY s
 have h3:=GY (YS s)
 simp only[X4]
 split <;> split <;> split <;> (try rw[ZwS]) <;> omega
theorem Zea:∀ a b:List Int,Xo a b=-1∨Xo a b=0∨Xo a b=1:=by
 intro a
 induction a with
 |nil=>intro b;cases b <;> simp[Xo]
 |cons x a ih =>
  intro b
  cases b with
  |nil=>simp[Xo]
  |cons y b =>
   rw[U1]
   split
   ·simp
   ·split
    ·simp
    ·exact ih b
theorem Zsy (a b:List UInt8):Ub a b=-1∨Ub a b=0∨Ub a b=1:=by rw[←ZdN];exact Zea _ _
theorem CM (L:Loc)(a b:List UInt8):Uc L a b=-1∨Uc L a b=0∨Uc L a b=1:=by
 unfold Uc
 split
 ·exact Zea _ _
 ·exact Zsy _ _
theorem Zeh (a b:Int):TC a b=-1∨TC a b=0∨TC a b=1:=by
 unfold TC
 split
 ·simp
 ·split <;> simp
def DR (L:Loc)(n:Nat)(x y:List UInt8):Int:=if n.testBit 0 then TC (Mg x) (Mg y) else Uc L (X4 L n x) (X4 L n y)
def XU (L:Loc)(n:Nat)(x y:List UInt8):Int:=if n.testBit 1 then -DR L n x y else DR L n x y
theorem Zlv {c t:Int}(hc:c=-1∨c=0∨c=1)(ht:t=1∨t=-1):IntKind.i64.wrap (t*c)=if t=-1 then -c else c:=by
 rcases ht with rfl|rfl <;> rcases hc with rfl|rfl|rfl <;> decide
section
variable {n:Nat}(hn:n<32)
include hn
theorem Zwr (H:Hp):Zc Xw [.int .i64 n,.int .i64 1] H=some (.bool (n.testBit 0),H):=ZaC (j:=0) hn (by decide) H
theorem Zt8 (H:Hp):Zc Xw [.int .i64 n,.int .i64 2] H=some (.bool (n.testBit 1),H):=ZaC (j:=1) hn (by decide) H
theorem Zws (H:Hp):Zc Xw [.int .i64 n,.int .i64 4] H=some (.bool (n.testBit 2),H):=ZaC (j:=2) hn (by decide) H
theorem Zog (H:Hp):Zc Xw [.int .i64 n,.int .i64 8] H=some (.bool (n.testBit 3),H):=ZaC (j:=3) hn (by decide) H
theorem Zum (H:Hp):Zc Xw [.int .i64 n,.int .i64 16] H=some (.bool (n.testBit 4),H):=ZaC (j:=4) hn (by decide) H
theorem Zw0:Z5 .and (.int .i64 n) (.int .i64 1)=some (.int .i64 (if n.testBit 0 then 1 else 0)):=Zae (j:=0) hn (by decide)
theorem Zsb:Z5 .and (.int .i64 n) (.int .i64 2)=some (.int .i64 (if n.testBit 1 then 2 else 0)):=Zae (j:=1) hn (by decide)
theorem Zxt:Z5 .and (.int .i64 n) (.int .i64 4)=some (.int .i64 (if n.testBit 2 then 4 else 0)):=Zae (j:=2) hn (by decide)
theorem Zxu:Z5 .and (.int .i64 n) (.int .i64 8)=some (.int .i64 (if n.testBit 3 then 8 else 0)):=Zae (j:=3) hn (by decide)
theorem ZwW:Z5 .and (.int .i64 n) (.int .i64 16)=some (.int .i64 (if n.testBit 4 then 16 else 0)):=Zae (j:=4) hn (by decide)
end
theorem Zx9 {f:List AV→Hp→Z4}{a a' b b' c c' v:AV}{H H1:Hp}(ha:Ze [] 0 6 a=some a')(hb:Ze [] 0 6 b=some b')(hd:Ze [] 0 6 c=some c')(hc:f [a',b',c'] []=some (v,H1))(hv:QU 3 v=true):Zc f [a,b,c] H=some (v,H) :=
 Ju (args':=[a',b',c']) (by simp[ha,hb,hd]) hc hv
theorem LD {f:List AV→Hp→Z4}{a a' b b' c c' d d' v:AV}{H H1:Hp}(ha:Ze [] 0 6 a=some a')(hb:Ze [] 0 6 b=some b')(hd:Ze [] 0 6 c=some c')(he:Ze [] 0 6 d=some d')(hc:f [a',b',c',d'] []=some (v,H1))(hv:QU 3 v=true):Zc f [a,b,c,d] H=some (v,H) :=
 Ju (args':=[a',b',c',d']) (by simp[ha,hb,hd,he]) hc hv
theorem FS (L:Loc)(x c e:AV)(r:List AObj):Z3 true 6 (.ptr 0 0) (AObj.cells (L.cells x c e)::r)=some (.agg (L.cells x c e)):=by simp[Z3,Go.Am.apart,Loc.cells]
theorem HA {L:Loc}{x c e:AV}(hav:LocAV (.agg (L.cells x c e)) L)(hok:LocOk L){n:Nat}(hn:n<32)(s:List UInt8)(hs:s.length≤1048576)(H0:Hp) :
 NG (.str s) (.int .i64 n) (.ptr 0 0) H0 [AObj.cells (L.cells x c e)]=some (.str (let s2:=if n.testBit 4 then WU s else s
  if n.testBit 2 then upS L s2 else s2),[AObj.cells (L.cells x c e)]):=by
 have hJ2:∀ t:List UInt8,t.length≤1048576→Dd (.str t) (.int .i64 n) (.ptr 0 0) H0 [AObj.cells (L.cells x c e)]=some (.str (if n.testBit 2 then upS L t else t),[AObj.cells (L.cells x c e)]):=fun t ht=>by
  rw[Zfr]
  cases h:n.testBit 2 with
  |true=>simp only[go_sem,Zws hn,h,FS,(Zh1 hav hok t ht _).2,Lv,if_true]
  |false=>simp only[go_sem,Zws hn,h,Lv,Bool.false_eq_true,if_false]
 rw[Zfq]
 cases h:n.testBit 4 with
 |true =>
  have:=GY s
  simp only[go_sem,Zum hn,h,ZoL s hs,hJ2 (WU s) (by omega),if_true]
 |false=>simp only[go_sem,Zum hn,h,hJ2 s hs,Bool.false_eq_true,if_false]
theorem Zp2 {L:Loc}{x c e:AV}(hav:LocAV (.agg (L.cells x c e)) L)(hok:LocOk L){n:Nat}(hn:n<32)(H0:Hp):∀ (s:List UInt8) (hs:s.length≤1048576),
 De (.str s) (.int .i64 n) (.ptr 0 0) H0 [AObj.cells (L.cells x c e)]=some (.str (X4 L n s),[AObj.cells (L.cells x c e)]):=by
 intro s
 induction s with
 |nil =>
  intro hs
  rw[Lw]
  have h0:YS []=[]:=rfl
  cases h:n.testBit 3 with
  |true=>simp only[go_sem,Zog hn,h,ZJ,List.length_nil,show decide ((0:Int)<((0:Nat):Int))=false from rfl,HA hav hok hn [] hs,X4,if_true,h0]
  |false=>simp only[go_sem,Zog hn,h,HA hav hok hn [] hs,X4,Bool.false_eq_true,if_false]
 |cons b s ih =>
  intro hs
  rw[Lw]
  have hlt:decide ((0:Int)<((b::s).length:Int))=true:=by simp
  have h0:Zr (.str (b::s)) (.int .i64 0)=some (.int .u8 b.toNat):=ZC (i:=0) rfl
  have h1:ZX (.str (b::s)) (some (.int .i64 1)) none none=some (.str s):=Zej (s:=b::s) (i:=1) (by simp)
  cases h:n.testBit 3 with
  |true =>
   simp only[go_sem,Zog hn,h,ZJ,hlt,h0,Ru]
   cases hb:Yf b with
   |true =>
    simp only[go_sem,Zfs,h1,ih (by simp at hs;omega)]
    simp only[X4,h,EN,hb,if_true]
   |false =>
    simp only[go_sem,HA hav hok hn (b::s) hs,X4,h,if_true,EN,hb,Bool.false_eq_true,if_false]
  |false=>simp only[go_sem,Zog hn,h,HA hav hok hn (b::s) hs,X4,Bool.false_eq_true,if_false]
theorem ZgV {a:AV}{L:Loc}(h:LocAV a L)(hok:LocOk L){n:Nat}(hn:n<32)(s:List UInt8)(hs:s.length≤1048576)(H:Hp):Zc Rb [a,.str s,.int .i64 n] H=some (.str (X4 L n s),H):=by
 obtain⟨a1,h1,h2⟩:=h.close [] 0 2
 have h2':=h2
 obtain⟨x,c,e,rfl,hx,hc,he⟩:=h2
 refine Zx9 h1 (b':=.str s) (c':=.int .i64 n) rfl rfl (H1:=[AObj.cells (L.cells x c e)]) ?_ rfl
 rw[Zho]
 unfold Zcr
 simp only[go_sem,List.length_nil,List.nil_append,Zp2 h2' hok hn [] s hs]
theorem ZhW {c:Int}(hc:c=-1∨c=0∨c=1):IntKind.i64.wrap (0-c)=-c:=by rcases hc with rfl|rfl|rfl <;> decide
theorem ZcT {a:AV}{L:Loc}(h:LocAV a L)(hok:LocOk L){n:Nat}(hn:n<32)(s t:List UInt8)(hs:s.length≤1048576)(ht:t.length≤1048576)(H:Hp):Zc R9 [a,.str s,.str t,.int .i64 n] H=some (.int .i64 (XU L n s t),H):=by
 obtain⟨a1,h1,h2⟩:=h.close [] 0 2
 have h2':=h2
 obtain⟨x,c,e,rfl,hx,hc,he⟩:=h2
 refine LD h1 (b':=.str s) (c':=.str t) (d':=.int .i64 n) rfl rfl rfl (H1:=[AObj.cells (L.cells x c e)]) ?_ rfl
 have hJ1:∀ c:Int,c=-1∨c=0∨c=1→∀ H,Dc (.int .i64 n) (.int .i64 c) [] H=some (.int .i64 (if n.testBit 1 then -c else c),H):=fun c hc H=>by
  rw[Zfn]
  cases h:n.testBit 1 with
  |true=>simp only[go_sem,Zt8 hn,h,SP,ZhW hc,if_true]
  |false=>simp only[go_sem,Zt8 hn,h,Zfo,Bool.false_eq_true,if_false]
 have hl1:=E5 L n s
 have hl2:=E5 L n t
 rw[Zhm]
 unfold Zcp XU DR
 cases hb:n.testBit 0 with
 |true=>simp only[go_sem,List.length_nil,List.nil_append,Zwr hn,hb,ZkS s t hs ht,hJ1 _ (Zeh _ _),if_true]
 |false=>simp only[go_sem,List.length_nil,List.nil_append,Zwr hn,hb,FS,ZgV h2' hok hn s hs,ZgV h2' hok hn t ht,ZiP h2' hok (X4 L n s) (X4 L n t) (by omega) (by omega),hJ1 _ (CM _ _ _),Bool.false_eq_true,if_false]
def Jz (z:AObj)(n:Nat)(x y:List UInt8):Hp:=[z,.cells [.int .i64 n],.cells [.str x],.cells [.str y]]
theorem ED {z:AObj}{n:Nat}{x y:List UInt8}{fnv:AV}{g:List UInt8→List UInt8}{m:Int}{bit:Bool}(hand:Z5 .and (.int .i64 n) (.int .i64 m)=some (.int .i64 (if bit then m else 0)))(hm:(m != 0)=true)
 (hf:∀ s:List UInt8,(s=x∨s=y)→∀ H,Xk cfg (Za cfg) fnv [.str s] H=some (.str (g s),H)) :
 Kv [.int .i64 m,fnv,.ptr 1 0,.ptr 2 0,.ptr 3 0] (Jz z n x y)=some (.tuple [],Jz z n (if bit then g x else x) (if bit then g y else y)):=by
 have l1:Z3 false 1 (.ptr 1 0) (Jz z n x y)=some (.int .i64 n):=ZF (l:=[.int .i64 n]) rfl
 have l2:Z3 false 1 (.ptr 2 0) (Jz z n x y)=some (.str x):=ZF (l:=[.str x]) rfl
 have l3:Z3 false 1 (.ptr 3 0) (Jz z n x y)=some (.str y):=ZF (l:=[.str y]) rfl
 have s1:Zi 1 (.ptr 2 0) (.str (g x)) (Jz z n x y)=some (.tuple [],Jz z n (g x) y):=by simp[Zi,YB,Jz,AV.known,AV.cells,splice]
 have s2:Zi 1 (.ptr 3 0) (.str (g y)) (Jz z n (g x) y)=some (.tuple [],Jz z n (g x) (g y)):=by simp[Zi,YB,Jz,AV.known,AV.cells,splice]
 rw[Cq]
 unfold TJ
 cases bit with
 |true=>simp only[go_sem,l1,hand,if_true,hm,l2,hf x (.inl rfl),l3,hf y (.inr rfl),s1,s2]
 |false=>simp only[go_sem,l1,hand,Bool.false_eq_true,if_false,bne_self_eq_false]
theorem ZgE {a:AV}{L:Loc}(h:LocAV a L)(hok:LocOk L){n:Nat}(hn:n<32)(s t:List UInt8)(hs:s.length≤1048576)(ht:t.length≤1048576)(H:Hp):Zc VM [a,.int .i64 n,.str s,.str t] H=some (.int .i64 (XU L n s t),H):=by
 obtain⟨a1,h1,h2⟩:=h.close [] 0 2
 have h2':=h2
 obtain⟨x,c,e,rfl,hx,hc,he⟩:=h2
 have hcl:LocCells (L.cells x c e) L:=⟨x,c,e,rfl,hx,hc,he⟩
 suffices hs:∃ H1,VM [.agg (L.cells x c e),.int .i64 n,.str s,.str t] []=some (.int .i64 (XU L n s t),H1) by
  obtain⟨H1,hr⟩:=hs
  exact LD h1 (b':=.int .i64 n) (c':=.str s) (d':=.str t) rfl rfl rfl hr rfl
 have l1:∀ z x y,Z3 false 1 (.ptr 1 0) (Jz z n x y)=some (.int .i64 n):=fun z x y=>ZF (l:=[.int .i64 n]) rfl
 have l2:∀ z x y,Z3 false 1 (.ptr 2 0) (Jz z n x y)=some (.str x):=fun z x y=>ZF (l:=[.str x]) rfl
 have l3:∀ z x y,Z3 false 1 (.ptr 3 0) (Jz z n x y)=some (.str y):=fun z x y=>ZF (l:=[.str y]) rfl
 have hJ2:∀ (z:Int) (hz:z=1∨z=-1),∃ H1,Bb (.ptr 0 0) (.ptr 1 0) (.ptr 2 0) (.ptr 3 0) (.int .i64 z) [] (Jz (.cells (L.cells x c e)) n s t)=some (.int .i64 (if z=-1 then -Uc L (X4 L n s) (X4 L n t) else Uc L (X4 L n s) (X4 L n t)),H1):=fun z hz=>by
  have e1:=ED (z:=.cells (L.cells x c e)) (n:=n) (x:=s) (y:=t) (fnv:=.fn (.func 155) [] []) (g:=YS) (m:=8) (Zxu hn) rfl (fun r _ H=>by rw[ZbJ];exact ZrM r H)
  have d1:=CW s
  have d2:=CW t
  have e2:=ED (z:=.cells (L.cells x c e)) (n:=n) (x:=if n.testBit 3 then YS s else s) (y:=if n.testBit 3 then YS t else t) (fnv:=.fn (.func 157) [] []) (g:=WU) (m:=16) (ZwW hn) rfl (fun r hr H=>by
   rw[Zhv]
   refine Zq2 r ?_ H
   rcases hr with rfl|rfl <;> split <;> omega)
  have e3:=ED (z:=.dead) (n:=n) (x:=if n.testBit 4 then WU (if n.testBit 3 then YS s else s) else (if n.testBit 3 then YS s else s)) (y:=if n.testBit 4 then WU (if n.testBit 3 then YS t else t) else (if n.testBit 3 then YS t else t)) (fnv:=.fn (.func 158) [] [.vp (L.cells x c e)]) (g:=upS L) (m:=4) (Zxt hn) rfl (fun r hr H=>by
   rw[ZbK]
   refine Zqp hcl hok r ?_ H
   have:=GY s
   have:=GY t
   have:=GY (YS s)
   have:=GY (YS t)
   rcases hr with rfl|rfl <;> split <;> split <;> omega)
  have hl1:=E5 L n s
  have hl2:=E5 L n t
  have hfz:∀ (x' y':List UInt8) (k:AV→Hp→Z4),Xl (.ptr 0 0) (Jz (.cells (L.cells x c e)) n x' y') k=k (.vp (L.cells x c e)) (Jz .dead n x' y'):=fun x' y' k=>rfl
  refine⟨Jz .dead n (X4 L n s) (X4 L n t),?_⟩
  rw[IJ]
  simp only[go_sem,Zc5,List.nil_append,List.cons_append,e1,e2,hfz,e3,Xy 6 (L.cells x c e) rfl,l2,l3]
  have hsh:∀ r,(if n.testBit 2=true then upS L (if n.testBit 4=true then WU (if n.testBit 3=true then YS r else r) else if n.testBit 3=true then YS r else r) else if n.testBit 4=true then WU (if n.testBit 3=true then YS r else r) else if n.testBit 3=true then YS r else r)=X4 L n r:=fun r=>rfl
  simp only[hsh,Ziy h2' hok (X4 L n s) (X4 L n t) (by omega) (by omega),go_sem,Zlv (CM _ _ _) hz]
 have hJ1:∀ (z:Int) (hz:z=1∨z=-1),∃ H1,Qo (.ptr 0 0) (.ptr 1 0) (.ptr 2 0) (.ptr 3 0) (.int .i64 z) [] (Jz (.cells (L.cells x c e)) n s t)=some (.int .i64 (if z=-1 then -DR L n s t else DR L n s t),H1):=fun z hz=>by
  rw[II]
  unfold DR
  cases hb:n.testBit 0 with
  |true =>
   obtain⟨e1,p1⟩:=ZkY s hs (Jz (.cells (L.cells x c e)) n s t)
   obtain⟨e2,p2⟩:=ZkY t ht (Jz (.cells (L.cells x c e)) n s t)
   refine⟨Jz (.cells (L.cells x c e)) n s t,?_⟩
   simp only[go_sem,l1,Zw0 hn,hb,if_true,show ((1:Int) != 0)=true from rfl,l2,l3,p1,p2,Zjz,ZjA,Zrw,Zlv (Zeh _ _) hz]
  |false =>
   obtain⟨H1,q⟩:=hJ2 z hz
   refine⟨H1,?_⟩
   simp only[go_sem,l1,Zw0 hn,hb,Bool.false_eq_true,if_false,bne_self_eq_false]
   exact q
 have b1:∀ (k:Int) (H:Hp),ZU (.int .i64 k) H=some (.ptr H.length 0,H++[.cells [.int .i64 k]]):=fun k H=>Bn rfl
 have b2:∀ (k:List UInt8) (H:Hp),ZU (.str k) H=some (.ptr H.length 0,H++[.cells [.str k]]):=fun k H=>Bn rfl
 rw[Oc]
 unfold Li
 have hst:[AObj.cells (L.cells x c e),.cells [.int .i64 n],.cells [.str s],.cells [.str t]]=Jz (.cells (L.cells x c e)) n s t:=rfl
 unfold XU
 cases hb:n.testBit 1 with
 |true =>
  obtain⟨H1,q⟩:=hJ1 (-1) (.inr rfl)
  refine⟨H1,?_⟩
  simp only[go_sem,b1,b2,List.length_nil,List.length_cons,List.nil_append,List.cons_append,Nat.zero_add,Nat.reduceAdd,hst,l1,Zsb hn,hb,if_true,show ((2:Int) != 0)=true from rfl]
  simpa using q
 |false =>
  obtain⟨H1,q⟩:=hJ1 1 (.inl rfl)
  refine⟨H1,?_⟩
  simp only[go_sem,b1,b2,List.length_nil,List.length_cons,List.nil_append,List.cons_append,Nat.zero_add,Nat.reduceAdd,hst,l1,Zsb hn,hb,Bool.false_eq_true,if_false,bne_self_eq_false]
  simpa using q
def plainP:Spec:=⟨[],-1,0,false,false⟩
def Zn (p:Spec):Spec:=if (ZO p != 0)=true then plainP else p
theorem Sl.known {k:Nat}{x:AV}{l:List AV}(h:Sl k x l):x.known=true:=by
 rcases h with ⟨rfl,_⟩|⟨tok,rfl⟩ <;> rfl
theorem Zh7 {a:AV}{p:Spec}(h:SpecAV a p)(H:Hp):∃ a',Zc WC [a] H=some (a',H)∧SpecAV a' (Zn p):=by
 obtain⟨a1,h1,h2⟩:=h.close [] 0 2
 have hck:=fun H=>CI h2 H
 obtain⟨x,rfl,hx⟩:=h2
 have hl:Z3 true 5 (.ptr 0 0) [AObj.cells (p.cells x),.cells [.nils,.int .i64 0,.int .i64 0,.bool false,.bool false]]=some (.agg (p.cells x)):=by simp[Z3,Go.Am.apart,Spec.cells]
 unfold Zn
 cases hb:(ZO p != 0) with
 |true =>
  have hfill:(Yn [(1,1,(.int .i64 (-1)))] [.nils,(.int .i64 0),(.int .i64 0),(.bool false),(.bool false)]).map AV.agg=some (.agg (plainP.cells .nils)):=rfl
  have hst:Zi 5 (.ptr 1 0) (.agg (plainP.cells .nils)) [AObj.cells (p.cells x),.cells [.nils,.int .i64 0,.int .i64 0,.bool false,.bool false]]=some (.tuple [],[AObj.cells (p.cells x),.cells (plainP.cells .nils)]):=by simp[Zi,YB,AV.known,AV.cells,Spec.cells,splice]
  have hl2:Z3 true 5 (.ptr 1 0) [AObj.cells (p.cells x),.cells (plainP.cells .nils)]=some (.agg (plainP.cells .nils)):=by simp[Z3,Go.Am.apart,Spec.cells]
  have hrun:WC [.agg (p.cells x)] []=some (.agg (plainP.cells .nils),[AObj.cells (p.cells x),.cells (plainP.cells .nils)]):=by
   rw[RB]
   unfold BO
   simp only[go_sem,List.nil_append,List.length_nil,List.length_cons,List.cons_append,Nat.zero_add,hl,hck,hb,hfill,hst,hl2]
  obtain⟨a',q1,q2⟩:=SpecAV.close (a:=.agg (plainP.cells .nils)) (p:=plainP) ⟨.nils,rfl,.inl ⟨rfl,rfl⟩⟩ [AObj.cells (p.cells x),.cells (plainP.cells .nils)] 0 2
  exact⟨a',Jt h1 hrun q1,by simpa using q2⟩
 |false =>
  have hst:Zi 5 (.ptr 1 0) (.agg (p.cells x)) [AObj.cells (p.cells x),.cells [.nils,.int .i64 0,.int .i64 0,.bool false,.bool false]]=some (.tuple [],[AObj.cells (p.cells x),.cells (p.cells x)]):=by simp[Zi,YB,AV.known,AV.cells,Spec.cells,splice]
  have hl2:Z3 true 5 (.ptr 1 0) [AObj.cells (p.cells x),.cells (p.cells x)]=some (.agg (p.cells x)):=by simp[Z3,Go.Am.apart,Spec.cells]
  have hrun:WC [.agg (p.cells x)] []=some (.agg (p.cells x),[AObj.cells (p.cells x),.cells (p.cells x)]):=by
   rw[RB]
   unfold BO
   simp only[go_sem,List.nil_append,List.length_nil,List.length_cons,List.cons_append,Nat.zero_add,hl,hck,hb,IK,hst,hl2]
  obtain⟨a',q1,q2⟩:=SpecAV.close (a:=.agg (p.cells x)) (p:=p) ⟨x,rfl,hx⟩ [AObj.cells (p.cells x),.cells (p.cells x)] 0 2
  exact⟨a',Jt h1 hrun q1,by simpa using q2⟩
theorem ZcV {a:AV}{p:Spec}(h:SpecAV a p)(H:Hp):∃ a',Zc QE [a] H=some (a',H)∧SpecAV a' (Zn p):=by
 obtain⟨a1,h1,h2⟩:=h.close [] 0 2
 have hck:=fun H=>ZcR h2 H
 obtain⟨x,rfl,hx⟩:=h2
 have hl:Z3 true 5 (.ptr 0 0) [AObj.cells (p.cells x),.cells [.nils,.int .i64 0,.int .i64 0,.bool false,.bool false]]=some (.agg (p.cells x)):=by simp[Z3,Go.Am.apart,Spec.cells]
 unfold Zn
 cases hb:(ZO p != 0) with
 |true =>
  have hfill:(Yn [(1,1,(.int .i64 (-1)))] [.nils,(.int .i64 0),(.int .i64 0),(.bool false),(.bool false)]).map AV.agg=some (.agg (plainP.cells .nils)):=rfl
  have hst:Zi 5 (.ptr 1 0) (.agg (plainP.cells .nils)) [AObj.cells (p.cells x),.cells [.nils,.int .i64 0,.int .i64 0,.bool false,.bool false]]=some (.tuple [],[AObj.cells (p.cells x),.cells (plainP.cells .nils)]):=by simp[Zi,YB,AV.known,AV.cells,Spec.cells,splice]
  have hl2:Z3 true 5 (.ptr 1 0) [AObj.cells (p.cells x),.cells (plainP.cells .nils)]=some (.agg (plainP.cells .nils)):=by simp[Z3,Go.Am.apart,Spec.cells]
  have hrun:QE [.agg (p.cells x)] []=some (.agg (plainP.cells .nils),[AObj.cells (p.cells x),.cells (plainP.cells .nils)]):=by
   rw[Sb]
   unfold El
   simp only[go_sem,List.nil_append,List.length_nil,List.length_cons,List.cons_append,Nat.zero_add,hl,hck,hb,hfill,hst,hl2]
  obtain⟨a',q1,q2⟩:=SpecAV.close (a:=.agg (plainP.cells .nils)) (p:=plainP) ⟨.nils,rfl,.inl ⟨rfl,rfl⟩⟩ [AObj.cells (p.cells x),.cells (plainP.cells .nils)] 0 2
  exact⟨a',Jt h1 hrun q1,by simpa using q2⟩
 |false =>
  have hst:Zi 5 (.ptr 1 0) (.agg (p.cells x)) [AObj.cells (p.cells x),.cells [.nils,.int .i64 0,.int .i64 0,.bool false,.bool false]]=some (.tuple [],[AObj.cells (p.cells x),.cells (p.cells x)]):=by simp[Zi,YB,AV.known,AV.cells,Spec.cells,splice]
  have hl2:Z3 true 5 (.ptr 1 0) [AObj.cells (p.cells x),.cells (p.cells x)]=some (.agg (p.cells x)):=by simp[Z3,Go.Am.apart,Spec.cells]
  have hrun:QE [.agg (p.cells x)] []=some (.agg (p.cells x),[AObj.cells (p.cells x),.cells (p.cells x)]):=by
   rw[Sb]
   unfold El
   simp only[go_sem,List.nil_append,List.length_nil,List.length_cons,List.cons_append,Nat.zero_add,hl,hck,hb,Zft,hst,hl2]
  obtain⟨a',q1,q2⟩:=SpecAV.close (a:=.agg (p.cells x)) (p:=p) ⟨x,rfl,hx⟩ [AObj.cells (p.cells x),.cells (p.cells x)] 0 2
  exact⟨a',Jt h1 hrun q1,by simpa using q2⟩
theorem Ec (p:Spec):(0≤(Zn p).flags∧(Zn p).flags≤31)∧(Zn p).keys.length≤8∧∀ k∈(Zn p).keys,0≤k.fl∧k.fl≤31:=by
 unfold Zn
 cases hb:(ZO p != 0) with
 |true=>simp[plainP]
 |false =>
  rw[bne_eq_false_iff_eq]at hb
  unfold ZO at hb
  split at hb
  ·cases hb
  ·split at hb
   ·cases hb
   ·split at hb
    ·cases hb
    ·rename_i h1 h2 h3
     simp only[Bool.or_eq_true,decide_eq_true_eq,not_or]at h2
     simp only[Bool.false_eq_true,if_false]
     refine⟨by omega,by omega,fun k hk=>?_⟩
     have h4:¬ Qx k=true:=fun h=>h3 (List.any_eq_true.2 ⟨k,hk,h⟩)
     simp only[Qx,Bool.or_eq_true,decide_eq_true_eq,not_or]at h4
     omega
theorem Rv (p:Spec)(h:∀ k∈p.keys,KeOk k):∀ k∈(Zn p).keys,KeOk k:=by
 unfold Zn
 split
 ·intro k hk;cases hk
 ·exact h
theorem Zg5 (line:List UInt8)(fs:List (Nat×Nat))(k:Ke):(ex line fs k).length≤line.length:=by
 unfold ex
 split
 ·dsimp only
  split
  ·simp
  ·rw[List.length_drop,List.length_take];omega
 ·simp
def VT (p:Spec)(k:Ke):Nat:=if (k.fl==0)=true then p.flags.toNat else k.fl.toNat
def Ts (L:Loc)(p:Spec)(a b:List UInt8):List Ke→Int
 |[]=>0
 |k::l=>if (XU L (VT p k) (ex a (fields a p.sep) k) (ex b (fields b p.sep) k) != 0)=true then XU L (VT p k) (ex a (fields a p.sep) k) (ex b (fields b p.sep) k) else Ts L p a b l
theorem Zaj (L:Loc)(p:Spec)(a b:List UInt8)(k:Ke)(l:List Ke):Ts L p a b (k::l)=if (XU L (VT p k) (ex a (fields a p.sep) k) (ex b (fields b p.sep) k) != 0)=true then XU L (VT p k) (ex a (fields a p.sep) k) (ex b (fields b p.sep) k) else Ts L p a b l:=(Eq.refl _).trans (Eq.refl _)
def Zbp (L:Loc)(p:Spec)(a b:List UInt8):Int:=if (p.keys.length==0)=true then XU L p.flags.toNat a b else Ts L p a b p.keys
def Ya (L:Loc)(p:Spec)(a b:List UInt8):Int:=Zbp L (Zn p) a b
def CSt (lc sc:List AV)(x4 x5:AV)(H:Hp):Prop:=(x4=.vp lc∧x5=.vp sc)∨(x4=.ptr 0 0∧x5=.ptr 1 0∧H=[.cells lc,.cells sc])
theorem CSt.frz {lc sc:List AV}{x4 x5:AV}{H:Hp}(h:CSt lc sc x4 x5 H)(kc:List AV):∃ H2,∀ K:AV→AV→AV→Hp→Z4,
 (Xl x4 (H++[.cells kc]) fun z4 h4=>Xl x5 h4 fun z5 h5=>Xl (.ptr H.length 0) h5 fun z10 h10=>K z4 z5 z10 h10)=K (.vp lc) (.vp sc) (.vp kc) H2:=by
 rcases h with ⟨rfl,rfl⟩|⟨rfl,rfl,rfl⟩
 ·refine⟨H++[.dead],fun K=>?_⟩
  have hv:∀ (l:List AV) (H:Hp) (k:AV→Hp→Z4),Xl (.vp l) H k=k (.vp l) H:=fun l H k=>rfl
  rw[hv,hv,ZdY]
 ·exact⟨[.dead,.dead,.dead],fun K=>rfl⟩
theorem CSt.fld {lc:List AV}{x:AV}{p:Spec}{x4 x5:AV}{H:Hp}(h:CSt lc (p.cells x) x4 x5 H) :
 (∃ y,Z8 0 x5=some y∧∀ r,Z3 false 1 y (H++r)=some x)∧(∃ y,Z8 2 x5=some y∧∀ r,Z3 false 1 y (H++r)=some (.int .i64 p.flags)):=by
 rcases h with ⟨rfl,rfl⟩|⟨rfl,rfl,rfl⟩
 ·exact⟨⟨.vp (p.cells x),rfl,fun r=>by simp only[Spec.cells,Zw]⟩,⟨.vp [.int .i64 p.flags,.bool p.uniq,.bool p.stab],rfl,fun r=>by simp only[Zw]⟩⟩
 ·exact⟨⟨.ptr 1 0,rfl,fun r=>ZF (l:=p.cells x) rfl⟩,⟨.ptr 1 2,rfl,fun r=>ZF (l:=p.cells x) rfl⟩⟩
theorem vpf (x:AV)(p:Spec):Z8 1 (.vp (p.cells x))=some (.vp [.int .i64 p.sep,.int .i64 p.flags,.bool p.uniq,.bool p.stab]):=rfl
theorem kef (k:Ke):Z8 4 (.vp k.cells)=some (.vp [.int .i64 k.fl]):=rfl
theorem ZfJ (L:Loc)(x c e:AV):Yi true 6 (.vp (L.cells x c e))=some (.agg (L.cells x c e)):=rfl
theorem Zif (k:Ke):Yi true 5 (.vp k.cells)=some (.agg k.cells):=rfl
section
variable {L:Loc}{x c e:AV}(hav:LocAV (.agg (L.cells x c e)) L)(hok:LocOk L){p:Spec}{xk:AV}(hk:Sl 5 xk (p.keys.map Ke.av))(hlen:p.keys.length≤8)
 (hks:∀ k∈p.keys,KeOk k) (hkf:∀ k∈p.keys,0≤k.fl∧k.fl≤31) (hfl:0≤p.flags∧p.flags≤31) (a b:List UInt8) (ha:a.length≤1048576) (hb:b.length≤1048576)
include hav hok hk hlen hks hkf hfl ha hb
theorem Zsz:∀ (m i:Nat) (x4 x5:AV) (H:Hp),p.keys.length-i=m→i≤p.keys.length→CSt (L.cells x c e) (p.cells xk) x4 x5 H →
 ∃ H',U5 (.str a) (.str b) x4 x5 xk (.int .i64 (p.keys.length:Int)) (.int .i64 (i:Int)) [] H=some (.int .i64 (Ts L p a b (p.keys.drop i)),H'):=by
 intro m
 induction m with
 |zero =>
  intro i x4 x5 H hm hi hst
  have hlt:decide ((i:Int)<(p.keys.length:Int))=false:=by simp;omega
  have hd:p.keys.drop i=[]:=List.drop_eq_nil_iff.2 (by omega)
  refine⟨H,?_⟩
  rw[Bu]
  simp only[go_sem,hlt,C9,hd,Ts]
 |succ m ih =>
  intro i x4 x5 H hm hi hst
  have hi1:i<p.keys.length:=by omega
  have hlt:decide ((i:Int)<(p.keys.length:Int))=true:=by simp;omega
  have hw:IntKind.i64.wrap ((i:Int)+1)=((i+1:Nat):Int):=by rw[Zq (by omega) (by omega)];omega
  have hmem:p.keys[i]∈p.keys:=List.getElem_mem hi1
  have hko:=hks _ hmem
  have hkf':=hkf _ hmem
  rw[List.drop_eq_getElem_cons hi1,Zaj]
  have hget:p.keys[i]?=some p.keys[i]:=List.getElem?_eq_getElem hi1
  generalize p.keys[i]=k at hko hkf' hget
  obtain⟨_,y,hy1,hy2⟩:=hst.fld
  obtain⟨H2,hfz⟩:=hst.frz k.cells
  obtain⟨H3,e1,_⟩:=Zas ha hko p.sep H2
  obtain⟨H4,e2,_⟩:=Zas hb hko p.sep H3
  have l1:=Zg5 a (fields a p.sep) k
  have l2:=Zg5 b (fields b p.sep) k
  have hn:VT p k<32:=by unfold VT;split <;> omega
  have hp:=ZgE hav hok hn (ex a (fields a p.sep) k) (ex b (fields b p.sep) k) (by omega) (by omega) H4
  have hJ5:∃ H',U4 (.str a) (.str b) x4 x5 (.ptr H.length 0) (.int .i64 (VT p k:Int)) xk (.int .i64 (p.keys.length:Int)) (.int .i64 (i:Int)) [] (H++[.cells k.cells])=some (.int .i64 (if (XU L (VT p k) (ex a (fields a p.sep) k) (ex b (fields b p.sep) k) != 0)=true then XU L (VT p k) (ex a (fields a p.sep) k) (ex b (fields b p.sep) k) else Ts L p a b (p.keys.drop (i+1))),H'):=by
   rw[Cc,hfz]
   simp only[ZfJ,Bp,vpf,Zw,Dp,Zif,go_sem,e1,e2,hp]
   cases hc:(XU L (VT p k) (ex a (fields a p.sep) k) (ex b (fields b p.sep) k) != 0) with
   |true=>exact⟨H4,by simp only[go_sem,if_true]⟩
   |false =>
    obtain⟨H5,q⟩:=ih (i+1) (.vp (L.cells x c e)) (.vp (p.cells xk)) H4 (by omega) (by omega) (.inl ⟨rfl,rfl⟩)
    exact⟨H5,by simp only[go_sem,Bool.false_eq_true,if_false,Cb,hw,q]⟩
  obtain⟨H',hJ5⟩:=hJ5
  refine⟨H',?_⟩
  have hst5:=NM H k [.int .i64 0,.int .i64 0,.int .i64 0,.int .i64 0,.int .i64 0] rfl
  have hlf:Z3 false 1 (.ptr H.length (0+4)) (H++[.cells k.cells])=some (.int .i64 k.fl):=ZA H k.cells 4
  rw[Bu]
  simp only[go_sem,hlt,Ca,hk.key hget,Bp,hst5,hlf]
  cases h0:(k.fl==0) with
  |true =>
   have hf:(p.flags:Int)=((VT p k:Nat):Int):=by unfold VT;rw[h0,if_pos rfl];omega
   simp only[go_sem,hy1,hy2,hf]
   exact hJ5
  |false =>
   have hf:(k.fl:Int)=((VT p k:Nat):Int):=by unfold VT;rw[h0,if_neg (by decide)];omega
   simp only[go_sem]
   rw[hf]
   exact hJ5
theorem Zre:∀ (m i:Nat) (x4 x5:AV) (H:Hp),p.keys.length-i=m→i≤p.keys.length→CSt (L.cells x c e) (p.cells xk) x4 x5 H →
 ∃ H',JL (.str a) (.str b) x4 x5 (.int .i64 (i:Int)) [] H=some (.int .i64 (Ts L p a b (p.keys.drop i)),H'):=by
 intro m
 induction m with
 |zero =>
  intro i x4 x5 H hm hi hst
  have hlt:decide ((i:Int)<(p.keys.length:Int))=false:=by simp;omega
  have hd:p.keys.drop i=[]:=List.drop_eq_nil_iff.2 (by omega)
  obtain⟨⟨y,hy1,hy2⟩,_⟩:=hst.fld
  have hy2:=hy2 []
  rw[List.append_nil]at hy2
  have hlk:=hk.len 149
  rw[List.length_map]at hlk
  refine⟨H,?_⟩
  rw[TR]
  simp only[go_sem,hy1,hy2,hlk,hlt,ZbT,hd,Ts]
 |succ m ih =>
  intro i x4 x5 H hm hi hst
  have hi1:i<p.keys.length:=by omega
  have hlt:decide ((i:Int)<(p.keys.length:Int))=true:=by simp;omega
  have hw:IntKind.i64.wrap ((i:Int)+1)=((i+1:Nat):Int):=by rw[Zq (by omega) (by omega)];omega
  have hmem:p.keys[i]∈p.keys:=List.getElem_mem hi1
  have hko:=hks _ hmem
  have hkf':=hkf _ hmem
  rw[List.drop_eq_getElem_cons hi1,Zaj]
  have hget:p.keys[i]?=some p.keys[i]:=List.getElem?_eq_getElem hi1
  generalize p.keys[i]=k at hko hkf' hget
  obtain⟨⟨y0,hy01,hy02⟩,y,hy1,hy2⟩:=hst.fld
  have hy02':=hy02 []
  rw[List.append_nil]at hy02'
  have hlk:=hk.len 149
  rw[List.length_map]at hlk
  have hn:VT p k<32:=by unfold VT;split <;> omega
  have hJ5:∀ k':Ke,k'={ k with fl:=(VT p k:Nat) }→∃ H',JK (.str a) (.str b) x4 x5 (.int .i64 (i:Int)) (.ptr H.length 0) [] (H++[.cells k'.cells])=some (.int .i64 (if (XU L (VT p k) (ex a (fields a p.sep) k) (ex b (fields b p.sep) k) != 0)=true then XU L (VT p k) (ex a (fields a p.sep) k) (ex b (fields b p.sep) k) else Ts L p a b (p.keys.drop (i+1))),H'):=by
   intro k' hk'
   have hko':KeOk k':=by subst hk';exact⟨hko.ff,hko.fc,hko.tf,hko.tc⟩
   have hex:∀ (l:List UInt8) fs,ex l fs k'=ex l fs k:=fun l fs=>by subst hk';rfl
   obtain⟨H2,hfz⟩:=hst.frz k'.cells
   obtain⟨H3,e1⟩:=AR ha hko' p.sep H2
   obtain⟨H4,e2⟩:=AR hb hko' p.sep H3
   rw[hex]at e1 e2
   have l1:=Zg5 a (fields a p.sep) k
   have l2:=Zg5 b (fields b p.sep) k
   have hp:=ZcT hav hok hn (ex a (fields a p.sep) k) (ex b (fields b p.sep) k) (by omega) (by omega) H4
   have hkfl:(k'.fl:Int)=((VT p k:Nat):Int):=by subst hk';rfl
   rw[ZbW,hfz]
   simp only[ZfJ,Bp,vpf,kef,Zw,Dp,Zif,go_sem,e1,e2,hkfl,hp]
   cases hc:(XU L (VT p k) (ex a (fields a p.sep) k) (ex b (fields b p.sep) k) != 0) with
   |true=>exact⟨H4,by simp only[go_sem,if_true]⟩
   |false =>
    obtain⟨H5,q⟩:=ih (i+1) (.vp (L.cells x c e)) (.vp (p.cells xk)) H4 (by omega) (by omega) (.inl ⟨rfl,rfl⟩)
    exact⟨H5,by simp only[go_sem,Bool.false_eq_true,if_false,ZbV,hw,q]⟩
  have hst5:=NM H k [.int .i64 0,.int .i64 0,.int .i64 0,.int .i64 0,.int .i64 0] rfl
  have hlf:Z3 false 1 (.ptr H.length (0+4)) (H++[.cells k.cells])=some (.int .i64 k.fl):=ZA H k.cells 4
  rw[TR]
  simp only[go_sem,hy01,hy02',hlk,hlt,ZbU,hk.key hget,Bp,hst5,hlf]
  cases h0:(k.fl==0) with
  |true =>
   have hf:(p.flags:Int)=((VT p k:Nat):Int):=by unfold VT;rw[h0,if_pos rfl];omega
   obtain⟨H',q⟩:=hJ5 _ rfl
   have hs4:Zi 1 (.ptr H.length (0+4)) (.int .i64 (VT p k:Nat)) (H++[.cells k.cells])=some (.tuple [],H++[.cells (Ke.cells { k with fl:=(VT p k:Nat) })]):=by
    rw[Wu (sz:=1) (v:=.int .i64 (VT p k:Nat)) (Xg _ _) rfl rfl (by simp[Ke.cells])]
    simp[AV.cells,splice,Ke.cells]
   refine⟨H',?_⟩
   simp only[go_sem,hy1,hy2,hf,hs4]
   exact q
  |false =>
   have hf:(k.fl:Int)=((VT p k:Nat):Int):=by unfold VT;rw[h0,if_neg (by decide)];omega
   obtain⟨H',q⟩:=hJ5 k (by cases k;simp only at hf ⊢;rw[←hf])
   refine⟨H',?_⟩
   simp only[go_sem]
   exact q
end
theorem ZaM {a:AV}{L:Loc}(h:LocAV a L)(hok:LocOk L){q:AV}{p:Spec}(hq:SpecAV q p)(hks:∀ k∈p.keys,KeOk k)(s t:List UInt8)(hs:s.length≤1048576)(ht:t.length≤1048576)(H:Hp) :
 Zc W2 [a,q,.str s,.str t] H=some (.int .i64 (Ya L p s t),H):=by
 obtain⟨a1,h1,h2⟩:=h.close [] 0 2
 obtain⟨q1,g1,g2⟩:=hq.close [] 0 2
 have hav:=h2
 have hv:=fun H=>Zh7 g2 H
 obtain⟨x,c,e,rfl,hx,hc,he⟩:=h2
 obtain⟨xp,rfl,hxp⟩:=g2
 obtain⟨v',hv1,xv,rfl,hxv⟩:=hv [AObj.cells (L.cells x c e),.cells (p.cells xp)]
 obtain⟨hfl,hlen,hkf⟩:=Ec p
 have hks':=Rv p hks
 suffices hs:∃ H1,W2 [.agg (L.cells x c e),.agg (p.cells xp),.str s,.str t] []=some (.int .i64 (Ya L p s t),H1) by
  obtain⟨H1,hr⟩:=hs
  exact LD h1 g1 (c':=.str s) (d':=.str t) rfl rfl hr rfl
 have hl:Z3 true 5 (.ptr 1 0) [AObj.cells (L.cells x c e),.cells (p.cells xp)]=some (.agg (p.cells xp)):=by simp[Z3,Go.Am.apart,Spec.cells]
 have hst:Zi 5 (.ptr 1 0) (.agg ((Zn p).cells xv)) [AObj.cells (L.cells x c e),.cells (p.cells xp)]=some (.tuple [],[AObj.cells (L.cells x c e),.cells ((Zn p).cells xv)]):=by simp[Zi,YB,AV.known,AV.cells,Spec.cells,splice]
 have hf0:Z3 false 1 (.ptr 1 (0+0)) [AObj.cells (L.cells x c e),.cells ((Zn p).cells xv)]=some xv:=ZF (l:=(Zn p).cells xv) rfl
 have hf2:Z3 false 1 (.ptr 1 (0+2)) [AObj.cells (L.cells x c e),.cells ((Zn p).cells xv)]=some (.int .i64 (Zn p).flags):=ZF (l:=(Zn p).cells xv) rfl
 have hlk:=hxv.len 149
 rw[List.length_map]at hlk
 have hloc:=FS L x c e [.cells ((Zn p).cells xv)]
 have hn:(Zn p).flags.toNat<32:=by omega
 have hfi:((Zn p).flags:Int)=(((Zn p).flags.toNat:Nat):Int):=by omega
 have hp:=ZgE hav hok hn s t hs ht [AObj.cells (L.cells x c e),.cells ((Zn p).cells xv)]
 rw[←hfi]at hp
 have hlen0:(((Zn p).keys.length:Int)==0)=((Zn p).keys.length==0):=by
  rw[Bool.eq_iff_iff,beq_iff_eq,beq_iff_eq];omega
 rw[Co]
 unfold TH Ya Zbp
 cases h0:((Zn p).keys.length==0) with
 |true =>
  exact⟨[AObj.cells (L.cells x c e),.cells ((Zn p).cells xv)],by simp only[go_sem,YP,List.nil_append,List.length_nil,List.length_cons,List.cons_append,hl,hv1,hst,hf0,hlk,hlen0,h0,hloc,hf2,hp,if_true,Nat.zero_add,Nat.reduceAdd]⟩
 |false =>
  obtain⟨H',r⟩:=Zsz hav hok hxv hlen hks' hkf hfl s t hs ht _ 0 (.ptr 0 0) (.ptr 1 0) _ rfl (Nat.zero_le _) (.inr ⟨rfl,rfl,rfl⟩)
  rw[List.drop_zero,show ((0:Nat):Int)=0 from rfl]at r
  refine⟨H',?_⟩
  simp only[go_sem,YP,List.nil_append,List.length_nil,List.length_cons,List.cons_append,hl,hv1,hst,hf0,hlk,hlen0,h0,C8,r,Bool.false_eq_true,if_false,Nat.zero_add,Nat.reduceAdd]
theorem ZgO {a:AV}{L:Loc}(h:LocAV a L)(hok:LocOk L){q:AV}{p:Spec}(hq:SpecAV q p)(hks:∀ k∈p.keys,KeOk k)(s t:List UInt8)(hs:s.length≤1048576)(ht:t.length≤1048576)(H:Hp) :
 Zc Qs [a,q,.str s,.str t] H=some (.int .i64 (Ya L p s t),H):=by
 obtain⟨a1,h1,h2⟩:=h.close [] 0 2
 obtain⟨q1,g1,g2⟩:=hq.close [] 0 2
 have hav:=h2
 have hv:=fun H=>ZcV g2 H
 obtain⟨x,c,e,rfl,hx,hc,he⟩:=h2
 obtain⟨xp,rfl,hxp⟩:=g2
 obtain⟨v',hv1,xv,rfl,hxv⟩:=hv [AObj.cells (L.cells x c e),.cells (p.cells xp)]
 obtain⟨hfl,hlen,hkf⟩:=Ec p
 have hks':=Rv p hks
 suffices hs:∃ H1,Qs [.agg (L.cells x c e),.agg (p.cells xp),.str s,.str t] []=some (.int .i64 (Ya L p s t),H1) by
  obtain⟨H1,hr⟩:=hs
  exact LD h1 g1 (c':=.str s) (d':=.str t) rfl rfl hr rfl
 have hl:Z3 true 5 (.ptr 1 0) [AObj.cells (L.cells x c e),.cells (p.cells xp)]=some (.agg (p.cells xp)):=by simp[Z3,Go.Am.apart,Spec.cells]
 have hst:Zi 5 (.ptr 1 0) (.agg ((Zn p).cells xv)) [AObj.cells (L.cells x c e),.cells (p.cells xp)]=some (.tuple [],[AObj.cells (L.cells x c e),.cells ((Zn p).cells xv)]):=by simp[Zi,YB,AV.known,AV.cells,Spec.cells,splice]
 have hf0:Z3 false 1 (.ptr 1 (0+0)) [AObj.cells (L.cells x c e),.cells ((Zn p).cells xv)]=some xv:=ZF (l:=(Zn p).cells xv) rfl
 have hf2:Z3 false 1 (.ptr 1 (0+2)) [AObj.cells (L.cells x c e),.cells ((Zn p).cells xv)]=some (.int .i64 (Zn p).flags):=ZF (l:=(Zn p).cells xv) rfl
 have hlk:=hxv.len 149
 rw[List.length_map]at hlk
 have hloc:=FS L x c e [.cells ((Zn p).cells xv)]
 have hn:(Zn p).flags.toNat<32:=by omega
 have hfi:((Zn p).flags:Int)=(((Zn p).flags.toNat:Nat):Int):=by omega
 have hp:=ZcT hav hok hn s t hs ht [AObj.cells (L.cells x c e),.cells ((Zn p).cells xv)]
 rw[←hfi]at hp
 have hlen0:(((Zn p).keys.length:Int)==0)=((Zn p).keys.length==0):=by
  rw[Bool.eq_iff_iff,beq_iff_eq,beq_iff_eq];omega
 rw[Zd4]
 unfold A8 Ya Zbp
 cases h0:((Zn p).keys.length==0) with
 |true =>
  exact⟨[AObj.cells (L.cells x c e),.cells ((Zn p).cells xv)],by simp only[go_sem,YP,List.nil_append,List.length_nil,List.length_cons,List.cons_append,hl,hv1,hst,hf0,hlk,hlen0,h0,hloc,hf2,hp,if_true,Nat.zero_add,Nat.reduceAdd]⟩
 |false =>
  obtain⟨H',r⟩:=Zre hav hok hxv hlen hks' hkf hfl s t hs ht _ 0 (.ptr 0 0) (.ptr 1 0) _ rfl (Nat.zero_le _) (.inr ⟨rfl,rfl,rfl⟩)
  rw[List.drop_zero,show ((0:Nat):Int)=0 from rfl]at r
  refine⟨H',?_⟩
  simp only[go_sem,YP,List.nil_append,List.length_nil,List.length_cons,List.cons_append,hl,hv1,hst,hf0,hlk,hlen0,h0,ZbS,r,Bool.false_eq_true,if_false,Nat.zero_add,Nat.reduceAdd]
def ZE (L:Loc)(p:Spec)(s t:List UInt8):Int :=
 if (Ya L (Zn p) s t != 0 || (Zn p).stab || (Zn p).uniq)=true then Ya L (Zn p) s t else if (Zn p).flags.toNat.testBit 1 then -Uc L s t else Uc L s t
theorem ZkU {a:AV}{L:Loc}(h:LocAV a L)(hok:LocOk L){q:AV}{p:Spec}(hq:SpecAV q p)(hks:∀ k∈p.keys,KeOk k)(s t:List UInt8)(hs:s.length≤1048576)(ht:t.length≤1048576)(H:Hp) :
 Zc VL [a,q,.str s,.str t] H=some (.int .i64 (ZE L p s t),H):=by
 obtain⟨a1,h1,h2⟩:=h.close [] 0 2
 obtain⟨q1,g1,g2⟩:=hq.close [] 0 2
 have hav:=h2
 have hv:=fun H=>Zh7 g2 H
 obtain⟨x,c,e,rfl,hx,hc,he⟩:=h2
 obtain⟨xp,rfl,hxp⟩:=g2
 obtain⟨v',hv1,xv,rfl,hxv⟩:=hv [AObj.cells (L.cells x c e),.cells (p.cells xp)]
 obtain⟨hfl,hlen,hkf⟩:=Ec p
 have hks':=Rv p hks
 suffices hs:∃ H1,VL [.agg (L.cells x c e),.agg (p.cells xp),.str s,.str t] []=some (.int .i64 (ZE L p s t),H1) by
  obtain⟨H1,hr⟩:=hs
  exact LD h1 g1 (c':=.str s) (d':=.str t) rfl rfl hr rfl
 have hl:Z3 true 5 (.ptr 1 0) [AObj.cells (L.cells x c e),.cells (p.cells xp)]=some (.agg (p.cells xp)):=by simp[Z3,Go.Am.apart,Spec.cells]
 have hst:Zi 5 (.ptr 1 0) (.agg ((Zn p).cells xv)) [AObj.cells (L.cells x c e),.cells (p.cells xp)]=some (.tuple [],[AObj.cells (L.cells x c e),.cells ((Zn p).cells xv)]):=by simp[Zi,YB,AV.known,AV.cells,Spec.cells,splice]
 have hl2:Z3 true 5 (.ptr 1 0) [AObj.cells (L.cells x c e),.cells ((Zn p).cells xv)]=some (.agg ((Zn p).cells xv)):=by simp[Z3,Go.Am.apart,Spec.cells]
 have hf2:Z3 false 1 (.ptr 1 (0+2)) [AObj.cells (L.cells x c e),.cells ((Zn p).cells xv)]=some (.int .i64 (Zn p).flags):=ZF (l:=(Zn p).cells xv) rfl
 have hf3:Z3 false 1 (.ptr 1 (0+3)) [AObj.cells (L.cells x c e),.cells ((Zn p).cells xv)]=some (.bool (Zn p).uniq):=ZF (l:=(Zn p).cells xv) rfl
 have hf4:Z3 false 1 (.ptr 1 (0+4)) [AObj.cells (L.cells x c e),.cells ((Zn p).cells xv)]=some (.bool (Zn p).stab):=ZF (l:=(Zn p).cells xv) rfl
 have hloc:=FS L x c e [.cells ((Zn p).cells xv)]
 have hn:(Zn p).flags.toNat<32:=by omega
 have hfi:((Zn p).flags:Int)=(((Zn p).flags.toNat:Nat):Int):=by omega
 have hline:=ZaM hav hok (q:=.agg ((Zn p).cells xv)) ⟨xv,rfl,hxv⟩ hks' s t hs ht [AObj.cells (L.cells x c e),.cells ((Zn p).cells xv)]
 have hcmp:=Ziy hav hok s t hs ht [AObj.cells (L.cells x c e),.cells ((Zn p).cells xv)]
 have hneg:=ZhW (CM L s t)
 have hbit:=Zsb hn
 have hJ1:B5 (.str s) (.str t) (.ptr 0 0) (.ptr 1 0) [] [AObj.cells (L.cells x c e),.cells ((Zn p).cells xv)]=some (.int .i64 (if (Zn p).flags.toNat.testBit 1 then -Uc L s t else Uc L s t),[AObj.cells (L.cells x c e),.cells ((Zn p).cells xv)]):=by
  rw[Iv]
  rw[hfi]at hf2
  cases hb:(Zn p).flags.toNat.testBit 1 with
  |true =>
   rw[hb]at hbit
   simp only[go_sem,hloc,hcmp,hf2,hbit,SP,hneg,if_true,show ((2:Int) != 0)=true from rfl]
  |false =>
   rw[hb]at hbit
   simp only[go_sem,hloc,hcmp,hf2,hbit,Iw,Bool.false_eq_true,if_false,bne_self_eq_false]
 refine⟨[AObj.cells (L.cells x c e),.cells ((Zn p).cells xv)],?_⟩
 rw[O9]
 unfold Lf ZE
 simp only[go_sem,YP,List.nil_append,List.length_nil,List.length_cons,List.cons_append,hl,hv1,hst,hloc,hl2,hline,Nat.zero_add,Nat.reduceAdd]
 cases h0:(Ya L (Zn p) s t != 0) with
 |true=>simp only[go_sem,Bool.true_or,if_true]
 |false =>
  simp only[go_sem,hf4,hf3]
  cases h4:(Zn p).stab with
  |true=>simp only[go_sem,Bool.true_or,Bool.or_true,if_true]
  |false =>
   simp only[go_sem,hf3]
   cases h3:(Zn p).uniq with
   |true=>simp only[go_sem,Bool.true_or,Bool.or_true,if_true]
   |false=>simp only[go_sem,hJ1,Bool.or_false,Bool.false_eq_true,if_false]
theorem Zrr {a:AV}{L:Loc}(h:LocAV a L)(hok:LocOk L){q:AV}{p:Spec}(hq:SpecAV q p)(hks:∀ k∈p.keys,KeOk k)(s t:List UInt8)(hs:s.length≤1048576)(ht:t.length≤1048576)(H:Hp) :
 Zc R7 [a,q,.str s,.str t] H=some (.int .i64 (ZE L p s t),H):=by
 obtain⟨a1,h1,h2⟩:=h.close [] 0 2
 obtain⟨q1,g1,g2⟩:=hq.close [] 0 2
 have hav:=h2
 have hv:=fun H=>ZcV g2 H
 obtain⟨x,c,e,rfl,hx,hc,he⟩:=h2
 obtain⟨xp,rfl,hxp⟩:=g2
 obtain⟨v',hv1,xv,rfl,hxv⟩:=hv [AObj.cells (L.cells x c e),.cells (p.cells xp)]
 obtain⟨hfl,hlen,hkf⟩:=Ec p
 have hks':=Rv p hks
 suffices hs:∃ H1,R7 [.agg (L.cells x c e),.agg (p.cells xp),.str s,.str t] []=some (.int .i64 (ZE L p s t),H1) by
  obtain⟨H1,hr⟩:=hs
  exact LD h1 g1 (c':=.str s) (d':=.str t) rfl rfl hr rfl
 have hl:Z3 true 5 (.ptr 1 0) [AObj.cells (L.cells x c e),.cells (p.cells xp)]=some (.agg (p.cells xp)):=by simp[Z3,Go.Am.apart,Spec.cells]
 have hst:Zi 5 (.ptr 1 0) (.agg ((Zn p).cells xv)) [AObj.cells (L.cells x c e),.cells (p.cells xp)]=some (.tuple [],[AObj.cells (L.cells x c e),.cells ((Zn p).cells xv)]):=by simp[Zi,YB,AV.known,AV.cells,Spec.cells,splice]
 have hl2:Z3 true 5 (.ptr 1 0) [AObj.cells (L.cells x c e),.cells ((Zn p).cells xv)]=some (.agg ((Zn p).cells xv)):=by simp[Z3,Go.Am.apart,Spec.cells]
 have hf2:Z3 false 1 (.ptr 1 (0+2)) [AObj.cells (L.cells x c e),.cells ((Zn p).cells xv)]=some (.int .i64 (Zn p).flags):=ZF (l:=(Zn p).cells xv) rfl
 have hf3:Z3 false 1 (.ptr 1 (0+3)) [AObj.cells (L.cells x c e),.cells ((Zn p).cells xv)]=some (.bool (Zn p).uniq):=ZF (l:=(Zn p).cells xv) rfl
 have hf4:Z3 false 1 (.ptr 1 (0+4)) [AObj.cells (L.cells x c e),.cells ((Zn p).cells xv)]=some (.bool (Zn p).stab):=ZF (l:=(Zn p).cells xv) rfl
 have hloc:=FS L x c e [.cells ((Zn p).cells xv)]
 have hn:(Zn p).flags.toNat<32:=by omega
 have hfi:((Zn p).flags:Int)=(((Zn p).flags.toNat:Nat):Int):=by omega
 have hline:=ZgO hav hok (q:=.agg ((Zn p).cells xv)) ⟨xv,rfl,hxv⟩ hks' s t hs ht [AObj.cells (L.cells x c e),.cells ((Zn p).cells xv)]
 have hcmp:=ZiP hav hok s t hs ht [AObj.cells (L.cells x c e),.cells ((Zn p).cells xv)]
 have hneg:=ZhW (CM L s t)
 have hbit:=fun H=>Zt8 hn H
 have hJ1:NE (.str s) (.str t) (.ptr 0 0) (.ptr 1 0) [] [AObj.cells (L.cells x c e),.cells ((Zn p).cells xv)]=some (.int .i64 (if (Zn p).flags.toNat.testBit 1 then -Uc L s t else Uc L s t),[AObj.cells (L.cells x c e),.cells ((Zn p).cells xv)]):=by
  rw[Zfk]
  rw[hfi]at hf2
  cases hb:(Zn p).flags.toNat.testBit 1 with
  |true =>
   rw[hb]at hbit
   simp only[go_sem,hloc,hcmp,hf2,hbit,SP,hneg,if_true,show ((2:Int) != 0)=true from rfl]
  |false =>
   rw[hb]at hbit
   simp only[go_sem,hloc,hcmp,hf2,hbit,Zfl,Bool.false_eq_true,if_false,bne_self_eq_false]
 refine⟨[AObj.cells (L.cells x c e),.cells ((Zn p).cells xv)],?_⟩
 rw[Zhj]
 unfold Zcm ZE
 simp only[go_sem,YP,List.nil_append,List.length_nil,List.length_cons,List.cons_append,hl,hv1,hst,hloc,hl2,hline,Nat.zero_add,Nat.reduceAdd]
 cases h0:(Ya L (Zn p) s t != 0) with
 |true=>simp only[go_sem,Bool.true_or,if_true]
 |false =>
  simp only[go_sem,hf4,hf3]
  cases h4:(Zn p).stab with
  |true=>simp only[go_sem,Bool.true_or,Bool.or_true,if_true]
  |false =>
   simp only[go_sem,hf3]
   cases h3:(Zn p).uniq with
   |true=>simp only[go_sem,Bool.true_or,Bool.or_true,if_true]
   |false=>simp only[go_sem,hJ1,Bool.or_false,Bool.false_eq_true,if_false]
end Go.Am
