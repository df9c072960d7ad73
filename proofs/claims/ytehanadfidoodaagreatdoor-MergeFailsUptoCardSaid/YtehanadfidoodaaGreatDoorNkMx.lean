/-
  The weights of the collating elements of a string.
-/
import Derived.Test.YtehanadfidoodaaGreatDoorNkLx
namespace Go.Am
set_option linter.unusedSimpArgs false
set_option linter.unusedVariables false
set_option maxRecDepth 100000
theorem Zku {α:Type}{bad:α→Option Int}{key:α→List UInt8}(hb:∀ c e,bad c=some e→e≠0){l:List α}(h:Rc bad key l []=0):∀ i,i≤l.length→Rc bad key (l.drop i) ((l.take i).map key)=0:=by
 intro i
 induction i with
 |zero=>intro _;simpa using h
 |succ i ih =>
  intro hi
  have:=ih (by omega)
  rw[List.drop_eq_getElem_cons (by omega),B1]at this
  cases hc:bad l[i] with
  |some e=>rw[hc]at this;exact absurd this (hb _ _ hc)
  |none =>
   rw[hc]at this
   simp only at this
   split at this
   ·cases this
   ·have ht:(l.take (i+1)).map key=(l.take i).map key++[key l[i]]:=by
     rw[List.take_add_one,List.getElem?_eq_getElem (by omega),List.map_append];rfl
    rw[ht];exact this
theorem Zna {α:Type}{bad:α→Option Int}{key:α→List UInt8}(hb:∀ c e,bad c=some e→e≠0){l:List α}(h:Rc bad key l []=0){i:Nat}(hi:i<l.length):((l.take i).map key).contains (key l[i])=false:=by
 have:=Zku hb h i (by omega)
 rw[List.drop_eq_getElem_cons (by omega),B1]at this
 cases hc:bad l[i] with
 |some e=>rw[hc]at this;exact absurd this (hb _ _ hc)
 |none =>
  rw[hc]at this
  simp only at this
  split at this
  ·cases this
  ·rename_i hn;exact Bool.eq_false_iff.2 hn
theorem Znq:∀ c e,ED c=some e→e≠0:=by
 intro c e h
 unfold ED at h
 split at h
 ·injection h with h;omega
 ·cases h
def Zeo (l:List (List UInt8×Int)):Prop:=∀ i (hi:i<l.length),((l.take i).map Prod.fst).contains l[i].1=false
theorem Zc6 (L:Loc):Zeo (Y4 L).els:=by
 unfold Y4
 cases h:(Xu L != 0) with
 |true=>intro i hi;simp[defL]at hi
 |false =>
  simp only[Xu,bne_eq_false_iff_eq]at h
  have:Pq L.els=0:=by
   split at h
   ·split at h
    ·cases h
    ·split at h
     ·cases h
     ·unfold Sm at h
      split at h
      ·rename_i h1;simp[h]at h1
      ·exact h
   ·cases h
  unfold Pq at this
  split at this
  ·cases this
  ·intro i hi
   exact Zna (key:=Prod.fst) Znq this hi
def P6 (es:List (AV×AV×Nat))(l:List (List UInt8×Int)):Prop:=es.map (fun e=>(e.1,e.2.1))=l.map fun e=>(AV.str e.1,AV.int .i64 e.2)
theorem Zda (k:List UInt8):∀ (es:List (AV×AV×Nat)) (l:List (List UInt8×Int)) (i:Nat),P6 es l →
 match l.find? (fun e=>e.1==k) with
 |some e=>∃ j,Yw (.str k) es i=some (some (j,.int .i64 e.2))
 |none=>Yw (.str k) es i=some none:=by
 intro es
 induction es with
 |nil =>
  intro l i h
  cases l with
  |nil=>simp[Yw]
  |cons s r=>simp[P6]at h
 |cons e es ih =>
  intro l i h
  cases l with
  |nil=>simp[P6]at h
  |cons s r =>
   obtain⟨a,b,c⟩:=e
   simp only[P6,List.map_cons,List.cons.injEq,Prod.mk.injEq]at h
   obtain⟨⟨rfl,rfl⟩,h2⟩:=h
   have:=ih r (i+1) h2
   have hsy:(k==s.1)=(s.1==k):=by rw[Bool.eq_iff_iff,beq_iff_eq,beq_iff_eq];exact eq_comm
   simp only[Yw,UC,List.find?_cons,hsy]
   cases hk:(s.1==k) with
   |true=>exact⟨i,rfl⟩
   |false=>exact this
theorem Zns {H:Hp}{m:Nat}{es:List (AV×AV×Nat)}{c:Nat}{l:List (List UInt8×Int)}(hm:H[m]?=some (.map es c))(hs:P6 es l)(k:List UInt8) :
 ZZ .string (.int .i64 0) true (.map m) (.str k) H=some (match l.find? (fun e=>e.1==k) with|some e=>.tuple [.int .i64 e.2,.bool true]|none=>.tuple [.int .i64 0,.bool false]):=by
 have h:=Zda k es l 0 hs
 unfold ZZ
 simp only[Xy,if_true,YP,hm]
 cases hk:l.find? (fun e=>e.1==k) with
 |some e =>
  rw[hk]at h
  obtain⟨j,hj⟩:=h
  simp[hj]
 |none =>
  rw[hk]at h
  simp at h
  simp[h]
theorem Zl0 {l:List (List UInt8×Int)}{k:List UInt8}(h:(l.map Prod.fst).contains k=false):l.find? (fun e=>e.1==k)=none:=by
 rw[List.find?_eq_none]
 intro e he hk
 have:k∈l.map Prod.fst:=List.mem_map.2 ⟨e,he,by simpa using hk⟩
 simp at h
 exact h e.2 (by have : e.1 = k := by simpa using hk
                 subst this;exact he)
theorem ZpI {H:Hp}{m:Nat}{es:List (AV×AV×Nat)}{c:Nat}{l:List (List UInt8×Int)}(hm:H[m]?=some (.map es c))(hs:P6 es l){e:List UInt8×Int}(hk:(l.map Prod.fst).contains e.1=false) :
 Xb .string (.map m) (.str e.1) (.int .i64 e.2) H=some (.tuple [],H.set m (.map (es++[(.str e.1,.int .i64 e.2,c)]) (c+1)))∧P6 (es++[(.str e.1,.int .i64 e.2,c)]) (l++[e]):=by
 have h:=Zda e.1 es l 0 hs
 rw[Zl0 hk]at h
 constructor
 ·unfold Xb
  simp only[hm,Xy,if_true,h]
 ·unfold P6 at hs ⊢
  simp[hs]
theorem Znp {x:AV}{l:List (List UInt8×Int)}(h:Sl 2 x (l.map Jk))(hnew:Zeo l)(hl:l.length≤1048576)(x1 x2:AV)(H0:Hp):∀ (k i:Nat) (H:Hp) (es:List (AV×AV×Nat)) (c:Nat),l.length-i=k→i≤l.length →
 H[2]?=some (.map es c)→P6 es (l.take i)→3≤H.length →
 ∃ H' es' c',JL x1 x2 (.ptr 1 0) (.map 2) x (.int .i64 (l.length:Int)) (.int .i64 (i:Int)) H0 H=F2 x1 x2 (.ptr 1 0) (.map 2) H0 H'∧H'[0]?=H[0]?∧H'[1]?=H[1]?∧H'[2]?=some (.map es' c')∧P6 es' l∧3≤H'.length:=by
 intro k
 induction k with
 |zero =>
  intro i H es c hk hi hm hs hlen
  rw[RT]
  have hlt:decide ((i:Int)<(l.length:Int))=false:=by simp;omega
  simp only[go_sem,hlt]
  exact⟨H,es,c,rfl,rfl,rfl,hm,by rw[List.take_of_length_le (by omega)]at hs;exact hs,hlen⟩
 |succ k ih =>
  intro i H es c hk hi hm hs hlen
  rw[RT]
  have hl1:i<l.length:=by omega
  have hlt:decide ((i:Int)<(l.length:Int))=true:=by simp;omega
  have hw:IntKind.i64.wrap ((i:Int)+1)=((i+1:Nat):Int):=by rw[Zr (by omega) (by omega)];omega
  have hst:=Pg H 2 [.str l[i].1,.int .i64 l[i].2] [.str [],.int .i64 0] rfl rfl
  have hmm:(H++[AObj.cells [AV.str l[i].1,AV.int .i64 l[i].2]])[2]?=some (.map es c):=YB hm _
  obtain⟨q1,q2⟩:=ZpI hmm hs (e:=l[i]) (hnew i hl1)
  simp only[go_sem,hlt,IE,h.els (List.getElem?_eq_getElem hl1),Xr 2 [.str l[i].1,.int .i64 l[i].2] rfl,hst,Nat.zero_add,Zx,List.getElem?_cons_zero,List.getElem?_cons_succ,q1,IF,hw]
  have ht:l.take (i+1)=l.take i++[l[i]]:=by rw[List.take_add_one,List.getElem?_eq_getElem hl1];rfl
  obtain⟨H',es',c',e1,e2,e3,e4,e5,e6⟩:=ih (i+1) _ _ _ (by omega) (by omega) (Zv _ hmm) (by rw[ht];exact q2) (by simp;omega)
  refine⟨H',es',c',e1,?_,?_,e4,e5,e6⟩
  ·rw[e2,List.getElem?_set_ne (by omega),List.getElem?_append_left (by omega)]
  ·rw[e3,List.getElem?_set_ne (by omega),List.getElem?_append_left (by omega)]
def wOf (L:Loc)(b:UInt8):Int:=L.w.getD b.toNat 0
def wS (L:Loc):List UInt8→List Int
 |[]=>[]
 |[b]=>[wOf L b]
 |b::c::r=>match L.els.find? (fun e=>e.1==[b,c]) with
  |some e=>e.2::wS L r
  |none=>wOf L b::wS L (c::r)
theorem Zqa (n:Int):(ZF 1 [(0,AV.int .i64 n)] [(.int .i64 0)]).map (AV.vs 1 .clip)=some (.vs 1 .clip [.int .i64 n]):=rfl
theorem GG {s:List UInt8}{i j:Nat}(hij:i≤j)(hj:j≤s.length):Y7 (.str s) (some (.int .i64 (i:Int))) (some (.int .i64 (j:Int))) none=some (.str ((s.take j).drop i)):=by
 have h1:XI (.int .i64 (j:Int)) s.length=some j:=by simp[XI,hj]
 have h2:XI (.int .i64 (i:Int)) j=some i:=by simp[XI,hij]
 unfold Y7 Jg YO
 simp only[h1,h2]
theorem Zs7 {x:AV}{L:Loc}(h:Sl 1 x (L.w.map (AV.int .i64)))(hw:L.w.length=256)(b:UInt8):Zn 1 x (.int .u8 b.toNat)=some (.vp [.int .i64 (wOf L b)]):=by
 have hb:b.toNat<L.w.length:=by rw[hw];exact b.toNat_lt
 rcases h with ⟨rfl,h⟩|⟨tok,rfl⟩
 ·simp at h;simp[h]at hb
 ·simp[Zn,List.getElem?_eq_getElem hb,wOf,List.getD_eq_getElem?_getD,AV.cells]
structure WSt (L:Loc)(x c e:AV)(es:List (AV×AV×Nat))(acc:List Int)(H:Hp):Prop where
 out:∃ y,H[0]?=some (.cells [y])∧RowN 3 H 1 y (acc.map (AV.int .i64))
 loc:H[1]?=some (.cells (L.cells x c e))
 mp:∃ k,H[2]?=some (.map es k)
 len:3≤H.length
theorem Zhh {L:Loc}{x c e:AV}{es:List (AV×AV×Nat)}{acc:List Int}{H:Hp}(h:WSt L x c e es acc H)(hl:acc.length≤1048576)(t:AV)(w:Int) :
 ∃ H',Yp cfg (Za cfg) (.fn (.func 150) [] [.ptr 0 0]) [t,.int .i64 w] H=some (.bool true,H')∧WSt L x c e es (acc++[w]) H':=by
 obtain⟨⟨y,h0,hr⟩,h1,⟨k,h2⟩,h3⟩:=h
 obtain⟨y',H1,e1,e2,e3,e4,e5⟩:=hr.app h3 8 (.vs 1 .clip [.int .i64 w]) [.int .i64 w] (by simp[elems]) (by simp;omega)
 have h0':H1[0]?=some (.cells [y]):=by rw[e4 0 (by omega)];exact h0
 have hst:Zh 1 (.ptr 0 0) y' H1=some (.tuple [],H1.set 0 (.cells [y'])):=by
  have hc:y'.known=true∧y'.cells=[y']:=by
   rcases e2 with ⟨rfl,_⟩|⟨t,e,rfl,_⟩ <;> exact⟨rfl,rfl⟩
  rw[VK (sz:=1) h0' hc.1 (by rw[hc.2];rfl) (by simp)]
  rw[hc.2]
  rfl
 refine⟨H1.set 0 (.cells [y']),?_,⟨⟨y',Zv _ h0',?_⟩,?_,⟨k,?_⟩,by simp;omega⟩⟩
 ·rw[Eh]
  show UR [t,.int .i64 w,.ptr 0 0] H=_
  rw[Nb]
  unfold Bl
  simp only[ZV h0,List.getElem?_cons_zero,go_sem,Zqa,e1,hst]
 ·rcases e2 with ⟨rfl,hh⟩|⟨t,e,rfl,ht,hn⟩
  ·exact .inl ⟨rfl,by rw[List.map_append];exact hh⟩
  ·exact .inr ⟨t,e,by simp,Y5 _ (by omega) ht,hn⟩
 ·rw[List.getElem?_set_ne (by omega),e4 1 (by omega)];exact h1
 ·rw[List.getElem?_set_ne (by omega),e4 2 (by omega)];exact h2
theorem ZkN {L:Loc}{x c e:AV}(hx:Sl 1 x (L.w.map (AV.int .i64)))(hw:L.w.length=256){es:List (AV×AV×Nat)}(hes:P6 es L.els)(s:List UInt8)(hs:s.length≤1048576)(H0:Hp):∀ (n:Nat) (done r:List UInt8) (acc:List Int) (H:Hp),r.length≤n→s=done++r→acc.length≤done.length→WSt L x c e es acc H →
 ∃ H',JK (.str s) (.fn (.func 150) [] [.ptr 0 0]) (.ptr 1 0) (.map 2) (.int .i64 (done.length:Int)) H0 H=some (.tuple [],H')∧WSt L x c e es (acc++wS L r) H':=by
 intro n
 induction n with
 |zero =>
  intro done r acc H hr hd ha hst
  have:r=[]:=List.length_eq_zero_iff.1 (by omega)
  subst this
  rw[List.append_nil]at hd
  subst hd
  rw[KD]
  have hlt:decide ((s.length:Int)<(s.length:Int))=false:=by simp
  simp only[go_sem,Ym,hlt]
  exact⟨H,rfl,by simpa[wS]using hst⟩
 |succ n ih =>
  intro done r acc H hr hd ha hst
  cases r with
  |nil =>
   rw[List.append_nil]at hd
   subst hd
   rw[KD]
   have hlt:decide ((s.length:Int)<(s.length:Int))=false:=by simp
   simp only[go_sem,Ym,hlt]
   exact⟨H,rfl,by simpa[wS]using hst⟩
  |cons b r =>
   have hl:done.length<s.length:=by rw[hd];simp
   have hsl:s.length=done.length+(r.length+1):=by rw[hd];simp
   have hlt:decide ((done.length:Int)<(s.length:Int))=true:=by simp;omega
   have hw1:IntKind.i64.wrap ((done.length:Int)+1)=((done.length+1:Nat):Int):=by rw[Zr (by omega) (by omega)];omega
   have hw2:IntKind.i64.wrap ((done.length:Int)+2)=((done.length+2:Nat):Int):=by rw[Zr (by omega) (by omega)];omega
   have hb:s[done.length]?=some b:=by rw[hd,List.getElem?_append_right (by omega)];simp
   have hs1:(s.take (done.length+1)).drop done.length=[b]:=by rw[hd,List.take_append];simp
   have one:∀ H,WSt L x c e es acc H→∃ H',UD (.str s) (.fn (.func 150) [] [.ptr 0 0]) (.ptr 1 0) (.map 2) (.int .i64 (done.length:Int)) (.str [b]) (.int .i64 (wOf L b)) H0 H=some (.tuple [],H')∧WSt L x c e es (acc++wOf L b::wS L r) H':=by
    intro H hst
    obtain⟨H1,e1,e2⟩:=Zhh hst (by omega) (.str [b]) (wOf L b)
    obtain⟨H2,e3,e4⟩:=ih (done++[b]) r (acc++[wOf L b]) H1 (by simp at hr;omega) (by rw[hd];simp) (by simp;omega) e2
    rw[List.length_append,List.length_singleton]at e3
    rw[RQ]
    have hbl:(([b]:List UInt8).length:Int)=1:=rfl
    simp only[e1,go_sem,RR,Ym,hbl,hw1,e3]
    exact⟨H2,rfl,by simpa using e4⟩
   rw[KD]
   obtain⟨⟨y,h0,hrow⟩,h1,⟨k,h2⟩,h3⟩:=hst
   have hst:WSt L x c e es acc H:=⟨⟨y,h0,hrow⟩,h1,⟨k,h2⟩,h3⟩
   simp only[go_sem,Ym,hlt,ID,hw1,GG (Nat.le_succ _) (show done.length+1≤s.length by omega),hs1,Nat.zero_add,ZV h1,Loc.cells,List.getElem?_cons_zero,List.getElem?_cons_succ,ZU hb,Zs7 hx hw,ZG,hw2]
   cases r with
   |nil =>
    have hle:decide (((done.length+2:Nat):Int)≤(s.length:Int))=false:=by simp at hsl ⊢;omega
    simp only[hle,go_sem]
    have:=one H hst
    simpa[wS]using this
   |cons b2 r =>
    have hle:decide (((done.length+2:Nat):Int)≤(s.length:Int))=true:=by simp at hsl ⊢;omega
    have hs2:(s.take (done.length+2)).drop done.length=[b,b2]:=by rw[hd,List.take_append];simp
    simp only[hle,go_sem,GG (show done.length≤done.length+2 by omega) (show done.length+2≤s.length by simp at hsl;omega),hs2,Zns h2 hes]
    unfold wS
    cases hf:L.els.find? (fun e=>e.1==[b,b2]) with
    |none =>
     simp only[go_sem,List.getElem?_cons_zero,List.getElem?_cons_succ]
     exact one H hst
    |some el =>
     simp only[go_sem,List.getElem?_cons_zero,List.getElem?_cons_succ]
     obtain⟨H1,e1,e2⟩:=Zhh hst (by omega) (.str [b,b2]) el.2
     obtain⟨H2,e3,e4⟩:=ih (done++[b,b2]) r (acc++[el.2]) H1 (by simp at hr;omega) (by rw[hd];simp) (by simp;omega) e2
     rw[List.length_append,show ([b,b2]:List UInt8).length=2 from rfl]at e3
     rw[RQ]
     have hbl:(([b,b2]:List UInt8).length:Int)=2:=rfl
     simp only[e1,go_sem,RR,Ym,hbl,hw2,e3]
     exact⟨H2,rfl,by simpa using e4⟩
end Go.Am
