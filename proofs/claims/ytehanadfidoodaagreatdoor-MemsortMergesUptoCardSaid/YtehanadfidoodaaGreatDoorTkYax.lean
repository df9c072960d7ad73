/-
  The arguments of the statements about orders of lines.
-/
import Derived.Test.YtehanadfidoodaaGreatDoorTkNx
import Derived.Test.YtehanadfidoodaaGreatDoorTkYzx
import Derived.Test.YtehanadfidoodaaGreatDoorRows
import Derived.Test.YtehanadfidoodaaGreatDoorTkMzx
namespace Go.Am
open Go.Proofs Go.Proofs.YtehanadfidoodaaGreatDoor
set_option linter.unusedVariables false
set_option maxRecDepth 100000
section
variable {H:Type}
theorem ZJu {n:Nat} {d:DataW H} {cs:List AV} (h:TV Tryz.prog n 149 d cs):∃ k:Ke,KeOk k∧cs=k.cells:=by
 obtain ⟨ds,parts,m,rfl,rfl,h1,h2,h3⟩:=h.fields ZDd
 obtain ⟨a,b,c,d,e,rfl⟩:=ZsL h1
 obtain ⟨a',b',c',d',e',rfl⟩:=ZsL h2
 obtain ⟨x,_,rfl,hx⟩:=(h3 0 3 a a' rfl rfl rfl).int ZfD
 obtain ⟨y,_,rfl,hy⟩:=(h3 1 3 b b' rfl rfl rfl).int ZfD
 obtain ⟨z,_,rfl,hz⟩:=(h3 2 3 c c' rfl rfl rfl).int ZfD
 obtain ⟨u,_,rfl,hu⟩:=(h3 3 3 d d' rfl rfl rfl).int ZfD
 obtain ⟨v,_,rfl,hv⟩:=(h3 4 3 e e' rfl rfl rfl).int ZfD
 exact ⟨⟨x,y,z,u,v⟩,⟨wf64 hx,wf64 hy,wf64 hz,wf64 hu⟩,rfl⟩
theorem ZID {n:Nat} {d:DataW H} {vals:List AV} (h:TV Tryz.prog n 27 d vals) (hb:Zcl d):∃ (x:AV) (ks:List Ke),vals=[x]∧Sl 5 x (ks.map Ke.av)∧(∀ k ∈ ks,KeOk k)∧ks.length≤1048576 :=
 Zoh ZHE ZEx (fun m d' cs ht hb=>by
  obtain ⟨k,hk,e2⟩:=ZJu ht
  exact ⟨k,hk,by rw [e2,ZI1];rfl⟩) h hb
theorem ZJ1 {d:DataW H} {a:AV} (h:AT Tryz.prog 29 d a) (hb:Zcl d):∃ p:Spec,SpecAV a p∧∀ k ∈ p.keys,KeOk k:=by
 obtain ⟨n,cs,ht,e0⟩:=h.agg ZJ8
 subst e0
 obtain ⟨ds,parts,m,rfl,rfl,h1,h2,h3⟩:=ht.fields ZEX
 obtain ⟨a,b,c,d,e,rfl⟩:=ZsL h1
 obtain ⟨a',b',c',d',e',rfl⟩:=ZsL h2
 obtain ⟨x,ks,rfl,hx,hk,_⟩:=ZID (h3 0 27 a a' rfl rfl rfl) (Zdo hb (i:=0) rfl)
 obtain ⟨y,_,rfl,_⟩:=(h3 1 3 b b' rfl rfl rfl).int ZfD
 obtain ⟨z,_,rfl,_⟩:=(h3 2 3 c c' rfl rfl rfl).int ZfD
 obtain ⟨u,_,rfl⟩:=(h3 3 4 d d' rfl rfl rfl).bool ZCf
 obtain ⟨v,_,rfl⟩:=(h3 4 4 e e' rfl rfl rfl).bool ZCf
 exact ⟨⟨ks,y,z,v,u⟩,⟨x,rfl,hx⟩,hk⟩
theorem ZJp {n:Nat} {d:DataW H} {vals:List AV} (h:TV Tryz.prog n 24 d vals) (hb:Zcl d):∃ (x:AV) (ks:List (List UInt8 × Int)),vals=[x]∧Sl 2 x (ks.map elAV)∧(∀ k ∈ ks,k.1.length≤4611686018427387904)∧ks.length≤1048576 :=
 Zoh ZHD ZEy (fun m d' cs ht hb=>by
  obtain ⟨ds,parts,m,rfl,rfl,h1,h2,h3⟩:=ht.fields ZDe
  obtain ⟨a,b,rfl⟩:=Zxi h1
  obtain ⟨a',b',rfl⟩:=Zxi h2
  have s0:=Zdo hb (i:=0) rfl
  obtain ⟨s,es,rfl,hs⟩:=(h3 0 9 a a' rfl rfl rfl).str Zl3
  rw [es] at s0
  obtain ⟨y,_,rfl,_⟩:=(h3 1 3 b b' rfl rfl rfl).int ZfD
  exact ⟨(s,y),Nat.le_trans (Zh5 s0) (by decide),by rw [ZI2];rfl⟩) h hb
theorem ZIu {n:Nat} {d:DataW H} {vals:List AV} (h:TV Tryz.prog n 260 d vals):∃ ks:List Int,ks.length=4∧vals=ks.map (AV.int .u64):=by
 cases n with
 | zero=>exact h.elim
 | succ n =>
  unfold TV at h
  rw [ZG3] at h
  obtain ⟨ds,parts,rfl,rfl,h1,h2,h3⟩:=h
  obtain ⟨a,b,c,d,rfl⟩:=ZBX h1
  obtain ⟨a',b',c',d',rfl⟩:=ZBX h2
  obtain ⟨x,_,rfl,_⟩:=(h3 0 a a' rfl rfl).int ZpE
  obtain ⟨y,_,rfl,_⟩:=(h3 1 b b' rfl rfl).int ZpE
  obtain ⟨z,_,rfl,_⟩:=(h3 2 c c' rfl rfl).int ZpE
  obtain ⟨u,_,rfl,_⟩:=(h3 3 d d' rfl rfl).int ZpE
  exact ⟨[x,y,z,u],rfl,rfl⟩
theorem ZIj {n:Nat} {d:DataW H} {vals:List AV} (h:TV Tryz.prog n 23 d vals) (hb:Zcl d):∃ (x:AV) (ks:List (List UInt8 × List Int)),vals=[x]∧Sl 5 x (ks.map Zcu)∧(∀ k ∈ ks,k.2.length=4∧k.1.length≤4611686018427387904)∧ks.length≤1048576 :=
 Zoh ZHC ZEz (fun m d' cs ht hb=>by
  obtain ⟨ds,parts,m,rfl,rfl,h1,h2,h3⟩:=ht.fields ZDg
  obtain ⟨a,b,rfl⟩:=Zxi h1
  obtain ⟨a',b',rfl⟩:=Zxi h2
  have s0:=Zdo hb (i:=0) rfl
  obtain ⟨s,es,rfl,hs⟩:=(h3 0 9 a a' rfl rfl rfl).str Zl3
  rw [es] at s0
  obtain ⟨ds2,parts2,m2,rfl,rfl,g1,g2,g3⟩:=(h3 1 262 b b' rfl rfl rfl).fields ZDf
  obtain ⟨c,rfl⟩:=ZFw g1
  obtain ⟨c',rfl⟩:=ZFw g2
  obtain ⟨ks,hk,rfl⟩:=ZIu (g3 0 260 c c' rfl rfl rfl)
  exact ⟨(s,ks),⟨hk,Nat.le_trans (Zh5 s0) (by decide)⟩,by rw [ZI3];simp [Zcu,Zc2]⟩) h hb
theorem ZJw {d:DataW H} {a:AV} (h:AT Tryz.prog 26 d a) (hb:Zcl d):∃ L:Loc,LocAV a L∧LocOk L:=by
 obtain ⟨n,cs,ht,e0⟩:=h.agg ZJ7
 subst e0
 obtain ⟨ds,parts,m,rfl,rfl,h1,h2,h3⟩:=ht.fields ZEW
 obtain ⟨a,b,c,d,e,f,rfl⟩:=ZFV h1
 obtain ⟨a',b',c',d',e',f',rfl⟩:=ZFV h2
 have s0:=Zdo hb (i:=0) rfl
 have s2:=Zdo hb (i:=2) rfl
 have s3:=Zdo hb (i:=3) rfl
 obtain ⟨nm,e0,rfl,_⟩:=(h3 0 9 a a' rfl rfl rfl).str Zl3
 obtain ⟨x,w,rfl,hx,_,hw⟩:=ZIB (h3 1 22 b b' rfl rfl rfl) (Zdo hb (i:=1) rfl)
 obtain ⟨lo,e2,rfl,_⟩:=(h3 2 9 c c' rfl rfl rfl).str Zl3
 obtain ⟨up,e3,rfl,_⟩:=(h3 3 9 d d' rfl rfl rfl).str Zl3
 obtain ⟨y,cl,rfl,hy,hcl,hncl⟩:=ZIj (h3 4 23 e e' rfl rfl rfl) (Zdo hb (i:=4) rfl)
 obtain ⟨z,el,rfl,hz,hel,hnel⟩:=ZJp (h3 5 24 f f' rfl rfl rfl) (Zdo hb (i:=5) rfl)
 rw [e0] at s0
 rw [e2] at s2
 rw [e3] at s3
 have:=Zh5 s0
 have:=Zh5 s2
 have:=Zh5 s3
 exact ⟨⟨nm,w,lo,up,cl,el⟩,⟨x,y,z,rfl,hx,hy,hz⟩,⟨by show nm.length≤_;omega,by show w.length≤_;omega,by show lo.length≤_;omega,by show up.length≤_;omega,hcl,hel,by show cl.length≤_;omega,by show el.length≤_;omega⟩⟩
end
end Go.Am
namespace Go.Am
set_option linter.unusedSimpArgs false
set_option linter.unusedVariables false
set_option linter.unusedSectionVars false
set_option maxRecDepth 100000

theorem SS.cell {e:AV} {l:List Str} (h:SS e l):e.cells=[e]∧e.known=true:=by
 rcases h with ⟨rfl,_⟩ | ⟨t,rfl⟩ <;> exact ⟨rfl,rfl⟩
structure EE (es:List AV) (ls:List (List Str)):Prop where
 len:es.length=ls.length
 at':∀ (i:Nat) (l:List Str),ls[i]?=some l→∃ e,es[i]?=some e∧SS e l
theorem EE.nil:EE [] []:=⟨rfl,fun i l h=>by simp at h⟩
theorem EE.cell {es:List AV} {ls:List (List Str)} (h:EE es ls):∀ e ∈ es,∃ l,SS e l∧l ∈ ls:=fun e he=>by
 obtain ⟨i,hi⟩:=List.getElem?_of_mem he
 have hl:=(List.getElem?_eq_some_iff.1 hi).1
 rw [h.len] at hl
 obtain ⟨e',h1,h2⟩:=h.at' i ls[i] (List.getElem?_eq_getElem hl)
 rw [hi] at h1
 injection h1 with h1
 subst h1
 exact ⟨_,h2,List.getElem_mem _⟩
theorem ZDj:∀ {es:List AV},(∀ e ∈ es,e.cells=[e])→(es.map AV.cells).flatten=es:=by
 intro es
 induction es with
 | nil=>intro _;rfl
 | cons e es ih =>
  intro h
  rw [List.map_cons,List.flatten_cons,h e (by simp),ih (fun x hx=>h x (by simp [hx]))]
  rfl
theorem EE.flat {es:List AV} {ls:List (List Str)} (h:EE es ls):(es.map AV.cells).flatten=es:=ZDj fun e he=>by
 obtain ⟨l,h1,_⟩:=h.cell e he
 exact h1.cell.1
theorem EE.set {es:List AV} {ls:List (List Str)} (h:EE es ls) {e:AV} {l:List Str} (he:SS e l) {i:Nat} (hi:i < ls.length):EE (es.set i e) (ls.set i l):=by
 refine ⟨by simp [h.len],fun j m hm=>?_⟩
 by_cases hij:i=j
 ·subst hij
  rw [List.getElem?_set_self hi] at hm
  injection hm with hm
  subst hm
  exact ⟨e,List.getElem?_set_self (by rw [h.len];exact hi),he⟩
 ·rw [List.getElem?_set_ne hij] at hm ⊢
  exact h.at' j m hm
theorem EE.app {es:List AV} {ls:List (List Str)} (h:EE es ls) {e:AV} {l:List Str} (he:SS e l):EE (es++[e]) (ls++[l]):=by
 refine ⟨by simp [h.len],fun j m hm=>?_⟩
 by_cases hj:j < ls.length
 ·rw [List.getElem?_append_left hj] at hm
  rw [List.getElem?_append_left (by rw [h.len];exact hj)]
  exact h.at' j m hm
 ·have hlt:=(List.getElem?_eq_some_iff.1 hm).1
  have:j=ls.length:=by simp at hlt;omega
  subst this
  rw [List.getElem?_append_right (Nat.le_refl _)] at hm
  simp at hm
  subst hm
  exact ⟨e,by rw [List.getElem?_append_right (by rw [h.len];exact Nat.le_refl _),h.len];simp,he⟩
def Rst (o:Nat) (H:Hp) (x:AV) (ls:List (List Str)):Prop :=
 ls=[]∧(x=.nils ∨ x=.vs 1 .clip []) ∨ ∃ e es,x=.ws false 1 o e ls.length∧H[o]?=some (.row e es)∧EE es ls
theorem ZCg {o e i:Nat} {H:Hp} {es:List AV} {a:AV} (h:H[o]?=some (.row e es)) (hv:es[i]?=some a):Za2 false 1 (.wp o e (i * 1)) H=some a:=by
 simp [Za2,h,Go.Am.apart,hv]
theorem ZCc {l:List AV} {i:Nat} {a:AV} (h:i < l.length):splice l (i * 1) [a]=l.set i a:=by
 unfold splice
 rw [Nat.mul_one,List.set_eq_take_append_cons_drop,if_pos h]
 simp
theorem ZHI {o e i:Nat} {H:Hp} {es:List AV} {a:AV} (h:H[o]?=some (.row e es)) (ha:a.cells=[a]∧a.known=true) (hi:i < es.length):Zag 1 (.wp o e (i * 1)) a H=some (.tuple [],H.set o (.row e (es.set i a))):=by
 unfold Zag ZaQ
 simp only [h]
 rw [if_pos ⟨trivial,ha.2,by rw [ha.1];rfl,by omega⟩,ha.1,ZCc hi]
theorem Zvc {o e n i:Nat} (h:i < n):Zad 1 (.ws false 1 o e n) (.int .i64 (i:Int))=some (.wp o e (i * 1)):=by
 unfold Zad
 dsimp only
 rw [if_pos (by omega)]
 rfl
theorem Rst.get {o:Nat} {H:Hp} {x:AV} {ls:List (List Str)} (h:Rst o H x ls) {i:Nat} {l:List Str} (hi:ls[i]?=some l):∃ p a,Zad 1 x (.int .i64 (i:Int))=some p∧Za2 false 1 p H=some a∧SS a l:=by
 rcases h with ⟨rfl,_⟩ | ⟨e,es,rfl,ho,he⟩
 ·simp at hi
 ·obtain ⟨a,h1,h2⟩:=he.at' i l hi
  exact ⟨_,a,Zvc (List.getElem?_eq_some_iff.1 hi).1,ZCg ho h1,h2⟩
theorem Rst.len {o:Nat} {H:Hp} {x:AV} {ls:List (List Str)} (h:Rst o H x ls) (e:Nat):Zaf (.slice e) x=some (.int .i64 (ls.length:Int)):=by
 rcases h with ⟨rfl,rfl | rfl⟩ | ⟨e,es,rfl,ho,he⟩ <;> rfl
theorem Rst.keep {o:Nat} {H H':Hp} {x:AV} {ls:List (List Str)} (h:Rst o H x ls) (hk:Keep (o+1) H H'):Rst o H' x ls:=by
 rcases h with h | ⟨e,es,h1,ho,he⟩
 ·exact .inl h
 ·exact .inr ⟨e,es,h1,(hk o (by omega)).trans ho,he⟩
theorem Rst.put {o:Nat} {H:Hp} {x:AV} {ls:List (List Str)} (h:Rst o H x ls) {i:Nat} (hi:i < ls.length) {a:AV} {m:List Str} (ha:SS a m):∃ p H',Zad 1 x (.int .i64 (i:Int))=some p∧Zag 1 p a H=some (.tuple [],H')∧Rst o H' x (ls.set i m)∧H'.length=H.length∧∀ j,j ≠ o→H'[j]?=H[j]?:=by
 rcases h with ⟨rfl,_⟩ | ⟨e,es,rfl,ho,he⟩
 ·simp at hi
 ·refine ⟨_,_,Zvc hi,ZHI ho ha.cell (by rw [he.len];exact hi),.inr ⟨e,es.set i a,by rw [List.length_set],List.getElem?_set_self (List.getElem?_eq_some_iff.1 ho).1,he.set ha hi⟩,by simp,fun j hj=>List.getElem?_set_ne (fun e=>hj e.symm)⟩
theorem ZBf:∀ l:List AV,Zeo false 1 l.length l=l:=by
 intro l
 induction l with
 | nil=>rfl
 | cons a l ih=>simp only [List.length_cons,Zeo];rw [List.drop_one,List.tail_cons,ih];rfl
def LL (H:Hp) (x:AV) (ls:List (List Str)):Prop :=
 ls=[]∧(x=.nils ∨ x=.vs 1 .clip []) ∨ (∃ t es,x=.vs 1 t es∧EE es ls) ∨ ∃ o e es,x=.ws false 1 o e ls.length∧H[o]?=some (.row e es)∧EE es ls
theorem Rst.ll {o:Nat} {H:Hp} {x:AV} {ls:List (List Str)} (h:Rst o H x ls):LL H x ls:=by
 rcases h with h | ⟨e,es,h1,ho,he⟩
 ·exact .inl h
 ·exact .inr (.inr ⟨o,e,es,h1,ho,he⟩)
theorem LL.elems {H:Hp} {x:AV} {ls:List (List Str)} (h:LL H x ls):∃ es,elems 1 x H=some es∧EE es ls:=by
 rcases h with ⟨rfl,rfl | rfl⟩ | ⟨t,es,rfl,he⟩ | ⟨o,e,es,rfl,ho,he⟩
 ·exact ⟨[],rfl,EE.nil⟩
 ·exact ⟨[],rfl,EE.nil⟩
 ·exact ⟨es,rfl,he⟩
 ·refine ⟨es,?_,he⟩
  unfold Go.Am.elems
  dsimp only
  rw [if_pos ⟨rfl,.inr rfl⟩,ho]
  dsimp only
  rw [if_pos ⟨rfl,by rw [he.len];omega⟩,← he.len,ZBf]
theorem LL.len {H:Hp} {x:AV} {ls:List (List Str)} (h:LL H x ls) (e:Nat):Zaf (.slice e) x=some (.int .i64 (ls.length:Int)):=by
 rcases h with ⟨rfl,rfl | rfl⟩ | ⟨t,es,rfl,he⟩ | ⟨o,e,es,rfl,ho,he⟩
 ·rfl
 ·rfl
 ·show some (AV.int .i64 (es.length:Int))=_;rw [he.len]
 ·rfl
theorem LL.get {H:Hp} {x:AV} {ls:List (List Str)} (h:LL H x ls) {i:Nat} {l:List Str} (hi:ls[i]?=some l):∃ p a,Zad 1 x (.int .i64 (i:Int))=some p∧Za2 false 1 p H=some a∧SS a l:=by
 rcases h with ⟨rfl,_⟩ | ⟨t,es,rfl,he⟩ | ⟨o,e,es,rfl,ho,he⟩
 ·simp at hi
 ·obtain ⟨a,h1,h2⟩:=he.at' i l hi
  refine ⟨.vp a.cells,a,?_,?_,h2⟩
  ·unfold Zad
   dsimp only
   rw [if_pos ⟨rfl,by omega⟩,Int.toNat_natCast,h1]
  ·rw [h2.cell.1];rfl
 ·obtain ⟨a,h1,h2⟩:=he.at' i l hi
  exact ⟨_,a,Zvc (List.getElem?_eq_some_iff.1 hi).1,ZCg ho h1,h2⟩

theorem LL.keep {H H':Hp} {x:AV} {ls:List (List Str)} (h:LL H x ls) (hk:Keep H.length H H'):LL H' x ls:=by
 rcases h with h | h | ⟨o,e,es,h1,ho,he⟩
 ·exact .inl h
 ·exact .inr (.inl h)
 ·exact .inr (.inr ⟨o,e,es,h1,(hk o (List.getElem?_eq_some_iff.1 ho).1).trans ho,he⟩)

theorem Rst.app {o : Nat} {H : Hp} {x : AV} {ls : List (List Str)} (h : Rst o H x ls) {a : AV} {m : List Str} (ha : SS a m) (hl : ls.length ≤ 1048576) :
    ∃ o' x' H',ZhJ false 1 24 x (.vs 1 .clip [a]) H=some (x',H')∧Rst o' H' x' (ls++[m])∧H.length≤H'.length∧(∀ i y,H[i]?=some y→i ≠ o→H'[i]?=some y):=by
 unfold ZhJ
 have he:Go.Am.elems 1 (.vs 1 .clip [a]) H=some [a]:=rfl
 rw [he]
 dsimp only
 have hf1:fits 1 24=true:=rfl
 have hfit:fits (ls.length+1) 24=true:=by simp [fits];omega
 rcases h with ⟨rfl,rfl | rfl⟩ | ⟨e,es,rfl,ho,hes⟩
 ·refine ⟨H.length,.ws false 1 H.length 0 1,H++[.row 0 [a]],?_,.inr ⟨0,[a],rfl,by simp,EE.nil.app ha⟩,by simp,fun i y hy _=>Zdt hy _⟩
  unfold ZhK
  simp only [List.length_singleton,hf1,if_true,List.map_cons,List.map_nil,List.flatten_cons,List.flatten_nil,ha.cell.1,List.append_nil]
  rw [if_neg (by simp)]
 ·refine ⟨H.length,.ws false 1 H.length 0 1,H++[.row 0 [a]],?_,.inr ⟨0,[a],rfl,by simp,EE.nil.app ha⟩,by simp,fun i y hy _=>Zdt hy _⟩
  unfold ZhK
  simp only [List.length_nil,List.nil_append,Nat.zero_add,List.length_singleton,hf1,and_self,if_true,List.map_cons,List.map_nil,List.flatten_cons,List.flatten_nil,ha.cell.1,List.append_nil]
  rw [if_neg (by simp)]
 ·refine ⟨o,.ws false 1 o (e+1) (ls.length+1),H.set o (.row (e+1) (es++[a])),?_,.inr ⟨e+1,es++[a],by simp,Zdg _ ho,hes.app ha⟩,by simp,fun i y hy hn=>Ze0 _ (fun e=>hn e.symm) hy⟩
  unfold ZhK
  simp only [List.length_singleton,hfit,and_self,if_true,ho,hes.len,Nat.mul_one,List.map_cons,List.map_nil,List.flatten_cons,List.flatten_nil,ha.cell.1,List.append_nil]
  rw [if_neg (by simp)]
theorem EE.tail {e:AV} {es:List AV} {l:List Str} {ls:List (List Str)} (h:EE (e :: es) (l :: ls)):SS e l∧EE es ls:=by
 obtain ⟨e',h1,h2⟩:=h.at' 0 l rfl
 obtain rfl:e=e':=Option.some.inj h1
 exact ⟨h2,by have:=h.len;simpa using this,fun i m hm=>by
  obtain ⟨e',q1,q2⟩:=h.at' (i+1) m (by simpa using hm)
  exact ⟨e',by simpa using q1,q2⟩⟩
theorem EE.cons {e:AV} {es:List AV} {l:List Str} {ls:List (List Str)} (h:SS e l) (k:EE es ls):EE (e :: es) (l :: ls) :=
 ⟨by simp [k.len],fun i m hm=>by
  cases i with
  | zero=>simp at hm;subst hm;exact ⟨e,rfl,h⟩
  | succ i=>simpa using k.at' i m (by simpa using hm)⟩
theorem EE.close {es:List AV} {ls:List (List Str)} (h:EE es ls) (H:Hp) (n f:Nat):∃ es',es.mapM (Za6 H n (f+2))=some es'∧EE es' ls:=by
 induction es generalizing ls with
 | nil =>
  have:ls=[]:=List.length_eq_zero_iff.1 (by rw [← h.len];rfl)
  subst this
  exact ⟨[],rfl,EE.nil⟩
 | cons e es ih =>
  cases ls with
  | nil=>have:=h.len;simp at this
  | cons l ls =>
   obtain ⟨h1,h2⟩:=h.tail
   obtain ⟨e',q1,q2⟩:=SS.closed h1 H n f
   obtain ⟨es',q3,q4⟩:=ih h2
   exact ⟨e' :: es',by rw [List.mapM_cons,q1];simp [q3],EE.cons q2 q4⟩
theorem ZCY (H : Hp) (n f k : Nat) (t : Tok) (l : List AV) : Za6 H n (f + 1) (.vs k t l) = match l.mapM (Za6 H n f) with
    | some l=>some (.vs k (match t with | .own t e=>if t < n then .own t e else .no | tok=>tok) l)
    | none=>none:=rfl
def LsV (x:AV) (ls:List (List Str)):Prop:=x=.nils∧ls=[] ∨ ∃ t es,x=.vs 1 t es∧EE es ls
theorem LsV.ll {x:AV} {ls:List (List Str)} (h:LsV x ls) (H:Hp):LL H x ls:=by
 rcases h with ⟨h1,h2⟩ | h
 ·exact .inl ⟨h2,.inl h1⟩
 ·exact .inr (.inl h)
theorem LsV.len {x:AV} {ls:List (List Str)} (h:LsV x ls) (e:Nat):Zaf (.slice e) x=some (.int .i64 (ls.length:Int)):=(h.ll []).len e
theorem LsV.get {x:AV} {ls:List (List Str)} (h:LsV x ls) {i:Nat} {l:List Str} (hi:ls[i]?=some l) (H:Hp):∃ p a,Zad 1 x (.int .i64 (i:Int))=some p∧Za2 false 1 p H=some a∧SS a l:=(h.ll H).get hi
theorem LsV.get' {x:AV} {ls:List (List Str)} (h:LsV x ls) {i:Nat} {l:List Str} (hi:ls[i]?=some l):∃ a,Zad 1 x (.int .i64 (i:Int))=some (.vp [a])∧SS a l:=by
 rcases h with ⟨rfl,rfl⟩ | ⟨t,es,rfl,he⟩
 ·simp at hi
 ·obtain ⟨a,h1,h2⟩:=he.at' i l hi
  refine ⟨a,?_,h2⟩
  unfold Zad
  dsimp only
  rw [if_pos ⟨rfl,by omega⟩,Int.toNat_natCast,h1]
  dsimp only
  rw [h2.cell.1]
theorem LsV.close {x:AV} {ls:List (List Str)} (h:LsV x ls) (H:Hp) (n f:Nat):∃ x',Za6 H n (f+3) x=some x'∧LsV x' ls:=by
 rcases h with ⟨rfl,rfl⟩ | ⟨t,es,rfl,he⟩
 ·exact ⟨.nils,rfl,.inl ⟨rfl,rfl⟩⟩
 ·obtain ⟨es',q1,q2⟩:=he.close H n f
  exact ⟨_,by rw [ZCY,q1],.inr ⟨_,es',rfl,q2⟩⟩
theorem SS.cut {x:AV} {l:List Str} (h:SS x l) {i j:Nat} (hij:i≤j) (hj:j≤l.length):∃ y,Zbc 1 x (some (.int .i64 (i:Int))) (some (.int .i64 (j:Int))) (some (.int .i64 (j:Int)))=some y∧SS y ((l.take j).drop i):=by
 have hb:∀ n,j≤n→Zba n n (some (.int .i64 (i:Int))) (some (.int .i64 (j:Int))) (some (.int .i64 (j:Int)))=some (i,j,j):=fun n hn=>by
  delta Zba
  simp [ZbG,hn,hij]
 rcases h with ⟨rfl,hl⟩ | ⟨t,rfl⟩
 ·have hl0:l=[]:=by simpa using hl
  subst hl0
  have hj0:j=0:=by simpa using hj
  have hi0:i=0:=by omega
  subst hj0 hi0
  refine ⟨.nils,?_,.inl ⟨rfl,rfl⟩⟩
  simp only [Zbc]
  rw [hb 0 (Nat.le_refl _)]
 ·refine ⟨.vs 1 .clip (((l.map AV.str).take j).drop i),?_,.inr ⟨.clip,by rw [← List.map_take,← List.map_drop]⟩⟩
  simp only [Zbc,if_true,List.length_map]
  rw [hb _ hj]
  simp
end Go.Am
namespace Go.Am
set_option linter.unusedSimpArgs false
set_option linter.unusedVariables false

structure Cm {α:Type} (f:α→α→Int):Prop where
 one:∀ a b,f a b=-1 ∨ f a b=0 ∨ f a b=1
 sym:∀ a b,f b a=-f a b
 tr:∀ a b c,f a b≤0→f b c≤0→f a c≤0∧(f a c < 0 ↔ f a b < 0 ∨ f b c < 0)
theorem Cm.of {α:Type} {f g:α→α→Int} (h:Cm f) (e:∀ a b,g a b=f a b):Cm g:=by
 have:g=f:=funext fun a=>funext fun b=>e a b
 rw [this];exact h
theorem Cm.comap {α β:Type} {f:β→β→Int} (h:Cm f) (g:α→β):Cm fun a b=>f (g a) (g b) :=
 ⟨fun a b=>h.one _ _,fun a b=>h.sym _ _,fun a b c=>h.tr _ _ _⟩
theorem Cm.tr2 {α:Type} {f:α→α→Int} (h:Cm f) (a b c:α) (h1:0≤f a b) (h2:0≤f b c):0≤f a c∧(0 < f a c ↔ 0 < f a b ∨ 0 < f b c):=by
 have e1:=h.sym a b
 have e2:=h.sym b c
 have e3:=h.sym a c
 have:=h.tr c b a (by omega) (by omega)
 omega
theorem Cm.self {α:Type} {f:α→α→Int} (h:Cm f) (a:α):f a a=0:=by
 have:=h.sym a a
 omega
theorem Cm.neg {α:Type} {f:α→α→Int} (h:Cm f):Cm fun a b=>-f a b:=by
 refine ⟨fun a b=>?_,fun a b=>?_,fun a b c h1 h2=>?_⟩
 ·have:=h.one a b
  show -f a b=_ ∨ -f a b=_ ∨ -f a b=_
  omega
 ·have:=h.sym a b
  show -f b a=- -f a b
  omega
 ·have:=h.tr2 a b c (by omega) (by omega)
  show -f a c≤0∧(-f a c < 0 ↔ -f a b < 0 ∨ -f b c < 0)
  omega
theorem Cm.lex {α:Type} {f g:α→α→Int} (h:Cm f) (k:Cm g):Cm fun a b=>if (f a b != 0)=true then f a b else g a b:=by
 have e:∀ a b,(if (f a b != 0)=true then f a b else g a b)=if f a b=0 then g a b else f a b:=fun a b=>by
  by_cases h0:f a b=0 <;> simp [h0]
 refine Cm.of (f:=fun a b=>if f a b=0 then g a b else f a b) ⟨fun a b=>?_,fun a b=>?_,fun a b c=>?_⟩ e
 ·show (if f a b=0 then g a b else f a b)=-1 ∨ _ ∨ _
  have h1:=h.one a b
  have h2:=k.one a b
  split <;> assumption
 ·show (if f b a=0 then g b a else f b a)=-(if f a b=0 then g a b else f a b)
  have h1:=h.sym a b
  have h2:=k.sym a b
  split <;> split <;> omega
 ·show (if f a b=0 then g a b else f a b)≤0→(if f b c=0 then g b c else f b c)≤0→(if f a c=0 then g a c else f a c)≤0∧((if f a c=0 then g a c else f a c) < 0 ↔ (if f a b=0 then g a b else f a b) < 0 ∨ (if f b c=0 then g b c else f b c) < 0)
  have h1:=h.tr a b c
  have h2:=k.tr a b c
  intro q1 q2
  by_cases z1:f a b=0 <;> by_cases z2:f b c=0 <;> by_cases z3:f a c=0 <;> simp only [z1,z2,z3,if_true,if_false] at q1 q2 ⊢ <;> omega
theorem sgnS_cm:Cm sgnS:=by
 refine ⟨Zv8,fun a b=>?_,fun a b c=>?_⟩
 ·unfold sgnS
  split <;> split <;> (try split) <;> (try split) <;> omega
 ·unfold sgnS
  intro h1 h2
  by_cases c1:a < b <;> by_cases c2:b < a <;> by_cases c3:b < c <;> by_cases c4:c < b <;> by_cases c5:a < c <;> by_cases c6:c < a <;> simp only [c1,c2,c3,c4,c5,c6,if_true,if_false] at h1 h2 ⊢ <;> omega
theorem ordS_cm:Cm ordS:=by
 refine ⟨Zv4,?_,?_⟩
 ·intro a
  induction a with
  | nil=>intro b;cases b <;> simp [ordS]
  | cons x a ih =>
   intro b
   cases b with
   | nil=>simp [ordS]
   | cons y b =>
    rw [Zdn,Zdn]
    have:=ih b
    split <;> split <;> (try split) <;> (try split) <;> omega
 ·intro a
  induction a with
  | nil=>intro b c;cases b <;> cases c <;> simp [ordS]
  | cons x a ih =>
   intro b c
   cases b with
   | nil=>cases c <;> simp [ordS]
   | cons y b =>
    cases c with
    | nil=>simp [ordS]
    | cons z c =>
     rw [Zdn,Zdn,Zdn]
     have:=ih b c
     intro h1 h2
     by_cases c1:x < y <;> by_cases c2:y < x <;> by_cases c3:y < z <;> by_cases c4:z < y <;> by_cases c5:x < z <;> by_cases c6:z < x <;> simp only [c1,c2,c3,c4,c5,c6,if_true,if_false] at h1 h2 ⊢ <;> omega
theorem ZIk:Cm cmpB:=(ordS_cm.comap natS).of fun a b=>(ZuW a b).symm
theorem ZxX (L:Loc):Cm (cmpS L):=(ordS_cm.comap (wS (Zay L))).lex ZIk
theorem ZyF (L:Loc) (n:Nat):Cm (Zi7 L n):=by
 cases hb:n.testBit 0 with
 | true=>exact (sgnS_cm.comap preS).of fun a b=>by simp [Zi7,hb]
 | false=>exact ((ZxX L).comap (Zbg L n)).of fun a b=>by simp [Zi7,hb]
theorem ZyG (L:Loc) (n:Nat):Cm (ZbV L n):=by
 cases hb:n.testBit 1 with
 | true=>exact (ZyF L n).neg.of fun a b=>by simp [ZbV,hb]
 | false=>exact (ZyF L n).of fun a b=>by simp [ZbV,hb]
theorem ZIl (L:Loc) (p:Spec):∀ l:List Ke,Cm fun a b=>cmpK L p a b l:=by
 intro l
 induction l with
 | nil=>exact ⟨fun _ _=>.inr (.inl rfl),fun _ _=>rfl,fun _ _ _ _ _=>⟨Int.le_refl _,by simp [cmpK]⟩⟩
 | cons k l ih=>exact (((ZyG L (flg p k)).comap fun a=>ex a (fields a p.sep) k).lex ih).of fun a b=>Zs5 L p a b k l
theorem ZHf (L:Loc) (p:Spec):Cm (ZsR L p):=by
 cases hb:(p.keys.length == 0) with
 | true=>exact (ZyG L p.flags.toNat).of fun a b=>by simp only [ZsR,hb,if_true]
 | false=>exact (ZIl L p p.keys).of fun a b=>by simp only [ZsR,hb,Bool.false_eq_true,if_false]
theorem ZAm (L:Loc) (p:Spec):Cm (ZaO L p):=ZHf L (Zac p)
theorem ZzZ (p:Spec):Zb4 (Zac p)=0:=by
 unfold Zac
 cases hb:(Zb4 p != 0) with
 | true=>rfl
 | false=>simpa using hb
theorem ZBR (p:Spec):Zac (Zac p)=Zac p:=by
 show (if (Zb4 (Zac p) != 0)=true then plainP else Zac p)=Zac p
 rw [ZzZ]
 rfl
theorem Zu4 (L:Loc) (p:Spec) (a b:List UInt8):ZaO L (Zac p) a b=ZaO L p a b:=by unfold ZaO;rw [ZBR]
def ZwT (L:Loc) (p:Spec) (a b:List UInt8):Int:=if (Zac p).flags.toNat.testBit 1 then -cmpS L a b else cmpS L a b
theorem ZHe (L:Loc) (p:Spec):Cm (ZwT L p):=by
 cases hb:(Zac p).flags.toNat.testBit 1 with
 | true=>exact (ZxX L).neg.of fun a b=>by simp [ZwT,hb]
 | false=>exact (ZxX L).of fun a b=>by simp [ZwT,hb]
theorem ZBJ {L:Loc} {p:Spec} (h:((Zac p).stab || (Zac p).uniq)=true) (a b:List UInt8):ZaA L p a b=ZaO L p a b:=by
 unfold ZaA
 rw [Zu4,Bool.or_assoc,h,Bool.or_true,if_pos rfl]
theorem ZBI {L:Loc} {p:Spec} (h:((Zac p).stab || (Zac p).uniq)=false) (a b:List UInt8):ZaA L p a b=if (ZaO L p a b != 0)=true then ZaO L p a b else ZwT L p a b:=by
 unfold ZaA ZwT
 rw [Zu4,Bool.or_assoc,h,Bool.or_false]
theorem ZFy (L:Loc) (p:Spec):Cm (ZaA L p):=by
 cases hb:((Zac p).stab || (Zac p).uniq) with
 | true=>exact (ZAm L p).of (ZBJ hb)
 | false=>exact ((ZAm L p).lex (ZHe L p)).of (ZBI hb)
end Go.Am
namespace Go.Am
set_option linter.unusedSimpArgs false
set_option linter.unusedVariables false
set_option linter.unusedSectionVars false

section
variable {α:Type} {f:α→α→Int}
def Srt (f:α→α→Int) (l:List α):Prop:=l.Pairwise fun a b=>f a b≤0
def eqv (f:α→α→Int) (x y:α):Bool:=f x y == 0
def mergeL (f:α→α→Int):List α→List α→List α
 | [],b=>b
 | a :: l,[]=>a :: l
 | a :: l,b :: m=>if 0 < f a b then b :: mergeL f (a :: l) m else a :: mergeL f l (b :: m)
termination_by a b=>a.length+b.length
theorem Zfw (b:List α):mergeL f [] b=b:=by rw [mergeL]
theorem Zex (a:List α):mergeL f a []=a:=by cases a <;> rw [mergeL]
theorem Zbi (a b:α) (l m:List α):mergeL f (a :: l) (b :: m)=if 0 < f a b then b :: mergeL f (a :: l) m else a :: mergeL f l (b :: m):=by rw [mergeL]
def Zdm (f:α→α→Int):Nat→List α→List α
 | 0,l=>l
 | n+1,l=>if l.length < 2 then l else mergeL f (Zdm f n (l.take (l.length / 2))) (Zdm f n (l.drop (l.length / 2)))
def posB (f:α→α→Int) (S:List α) (y:α):Nat→Nat
 | 0=>0
 | k+1=>match S[k]? with
  | some s=>if 0 < f s y then posB f S y k else k+1
  | none=>posB f S y k
def insB (f:α→α→Int) (S:List α) (y:α):List α:=S.take (posB f S y S.length)++y :: S.drop (posB f S y S.length)
def insL (f:α→α→Int) (l:List α):List α:=l.foldl (insB f) []
def ZgO (g:α→α→Int) (out:List α) (x:α):Bool:=match out.getLast? with
 | some y=>g y x == 0
 | none=>false
def Zcp (g:α→α→Int):List α→List α→List α
 | out,[]=>out
 | out,x :: l=>Zcp g (if ZgO g out x=true then out else out++[x]) l
variable (h:Cm f)
include h
theorem Cm.eqv_iff (x y:α):eqv f x y=true ↔ f x y=0:=by unfold eqv;rw [beq_iff_eq]
theorem Cm.le_trans {a b c:α} (h1:f a b≤0) (h2:f b c≤0):f a c≤0:=(h.tr a b c h1 h2).1
theorem Cm.lt_le {a b c:α} (h1:f a b < 0) (h2:f b c≤0):f a c < 0:=(h.tr a b c (by omega) h2).2.2 (.inl h1)
theorem Cm.le_lt {a b c:α} (h1:f a b≤0) (h2:f b c < 0):f a c < 0:=(h.tr a b c h1 (by omega)).2.2 (.inr h2)
theorem ZHy:∀ A B:List α,Srt f A→Srt f B→(∀ x,A.filter (eqv f x)=B.filter (eqv f x))→A=B:=by
 intro A
 have self:∀ x,eqv f x x=true:=fun x=>by rw [h.eqv_iff];exact h.self x
 induction A with
 | nil =>
  intro B _ _ hf
  cases B with
  | nil=>rfl
  | cons b B =>
   have:=hf b
   rw [List.filter_cons,self b] at this
   simp at this
 | cons a A ih =>
  intro B hA hB hf
  cases B with
  | nil =>
   have:=hf a
   rw [List.filter_cons,self a] at this
   simp at this
  | cons b B =>
   have hA':=List.pairwise_cons.1 hA
   have hB':=List.pairwise_cons.1 hB
   have hbA:b ∈ a :: A:=by
    have h1:b ∈ (b :: B).filter (eqv f b):=List.mem_filter.2 ⟨by simp,self b⟩
    rw [← hf b] at h1
    exact (List.mem_filter.1 h1).1
   have haB:a ∈ b :: B:=by
    have h1:a ∈ (a :: A).filter (eqv f a):=List.mem_filter.2 ⟨by simp,self a⟩
    rw [hf a] at h1
    exact (List.mem_filter.1 h1).1
   have h1:f a b≤0:=by
    rcases List.mem_cons.1 hbA with e | e
    ·rw [e,h.self];exact Int.le_refl _
    ·exact hA'.1 b e
   have h2:f b a≤0:=by
    rcases List.mem_cons.1 haB with e | e
    ·rw [e,h.self];exact Int.le_refl _
    ·exact hB'.1 a e
   have h3:f a b=0:=by have:=h.sym a b;omega
   have hab:a=b:=by
    have:=hf a
    rw [List.filter_cons,self a,List.filter_cons,(h.eqv_iff a b).2 h3] at this
    simp only [if_true,List.cons.injEq] at this
    exact this.1
   subst hab
   congr 1
   refine ih B hA'.2 hB'.2 fun x=>?_
   have:=hf x
   rw [List.filter_cons,List.filter_cons] at this
   split at this
   ·simpa using this
   ·exact this
theorem Zyy:∀ (A B:List α) (x:α),x ∈ mergeL f A B ↔ x ∈ A ∨ x ∈ B:=by
 intro A B x
 induction A,B using mergeL.induct f with
 | case1 b=>simp [Zfw]
 | case2 a l=>simp [Zex]
 | case3 a l b m hc ih =>
  rw [Zbi,if_pos hc,List.mem_cons,ih]
  simp only [List.mem_cons]
  constructor
  ·rintro (h | h | h) <;> simp [h]
  ·rintro (h | h | h) <;> simp [h]
 | case4 a l b m hc ih =>
  rw [Zbi,if_neg hc,List.mem_cons,ih]
  simp only [List.mem_cons]
  constructor
  ·rintro (h | h | h) <;> simp [h]
  ·rintro ((h | h) | h) <;> simp [h]
theorem ZFm:∀ A B:List α,Srt f A→Srt f B→Srt f (mergeL f A B):=by
 intro A B
 induction A,B using mergeL.induct f with
 | case1 b=>intro _ hB;rw [Zfw];exact hB
 | case2 a l=>intro hA _;rw [Zex];exact hA
 | case3 a l b m hc ih =>
  intro hA hB
  rw [Zbi,if_pos hc]
  have hA':=List.pairwise_cons.1 hA
  have hB':=List.pairwise_cons.1 hB
  refine List.pairwise_cons.2 ⟨fun y hy=>?_,ih hA hB'.2⟩
  rcases (Zyy h _ _ y).1 hy with hy | hy
  ·have hba:f b a < 0:=by have:=h.sym a b;omega
   rcases List.mem_cons.1 hy with e | e
   ·rw [e];omega
   ·have:=h.lt_le hba (hA'.1 y e);omega
  ·exact hB'.1 y hy
 | case4 a l b m hc ih =>
  intro hA hB
  rw [Zbi,if_neg hc]
  have hA':=List.pairwise_cons.1 hA
  have hB':=List.pairwise_cons.1 hB
  refine List.pairwise_cons.2 ⟨fun y hy=>?_,ih hA'.2 hB⟩
  rcases (Zyy h _ _ y).1 hy with hy | hy
  ·exact hA'.1 y hy
  ·rcases List.mem_cons.1 hy with e | e
   ·rw [e];omega
   ·exact h.le_trans (by omega) (hB'.1 y e)
theorem ZAo (x:α):∀ A B:List α,Srt f A→(mergeL f A B).filter (eqv f x)=A.filter (eqv f x)++B.filter (eqv f x):=by
 intro A B
 induction A,B using mergeL.induct f with
 | case1 b=>intro _;rw [Zfw];simp
 | case2 a l=>intro _;rw [Zex];simp
 | case3 a l b m hc ih =>
  intro hA
  have hA':=List.pairwise_cons.1 hA
  rw [Zbi,if_pos hc,List.filter_cons,ih hA]
  cases hb:eqv f x b with
  | false=>simp only [List.filter_cons,hb,Bool.false_eq_true,if_false]
  | true =>
   rw [h.eqv_iff] at hb
   have hba:f b a < 0:=by have:=h.sym a b;omega
   have hnil:(a :: l).filter (eqv f x)=[]:=by
    rw [List.filter_eq_nil_iff]
    intro y hy hxy
    rw [h.eqv_iff] at hxy
    have h1:f b y < 0:=by
     rcases List.mem_cons.1 hy with e | e
     ·rw [e];exact hba
     ·exact h.lt_le hba (hA'.1 y e)
    have h2:=h.le_lt (a:=x) (b:=b) (c:=y) (by omega) h1
    omega
   rw [hnil]
   simp [List.filter_cons,(h.eqv_iff x b).2 hb]
 | case4 a l b m hc ih =>
  intro hA
  have hA':=List.pairwise_cons.1 hA
  rw [Zbi,if_neg hc,List.filter_cons,ih hA'.2,List.filter_cons (xs:=l)]
  split <;> simp
theorem ZDC:∀ (n:Nat) (l:List α),l.length≤n→Srt f (Zdm f n l)∧∀ x,(Zdm f n l).filter (eqv f x)=l.filter (eqv f x):=by
 intro n
 induction n with
 | zero=>intro l hl;have:l=[]:=List.length_eq_zero_iff.1 (by omega);subst this;exact ⟨List.Pairwise.nil,fun _=>rfl⟩
 | succ n ih =>
  intro l hl
  unfold Zdm
  split
  ·rename_i h2
   refine ⟨?_,fun _=>rfl⟩
   match l,h2 with
   | [],_=>exact List.Pairwise.nil
   | [a],_=>exact List.pairwise_singleton _ _
  ·rename_i h2
   obtain ⟨a1,a2⟩:=ih (l.take (l.length / 2)) (by rw [List.length_take];omega)
   obtain ⟨b1,b2⟩:=ih (l.drop (l.length / 2)) (by rw [List.length_drop];omega)
   refine ⟨ZFm h _ _ a1 b1,fun x=>?_⟩
   rw [ZAo h x _ _ a1,a2,b2,← List.filter_append,List.take_append_drop]
omit h in
theorem ZIM (S:List α) (y:α):∀ k,posB f S y k≤k:=by
 intro k
 induction k with
 | zero=>exact Nat.le_refl _
 | succ k ih =>
  unfold posB
  split
  ·split <;> omega
  ·omega
omit h in
theorem Zx2 (S:List α) (y:α):∀ k,∀ j s,posB f S y k≤j→j < k→S[j]?=some s→0 < f s y:=by
 intro k
 induction k with
 | zero=>intro j s _ h2;omega
 | succ k ih =>
  intro j s h1 h2 hs
  unfold posB at h1
  by_cases hj:j=k
  ·subst hj
   rw [hs] at h1
   simp only at h1
   split at h1
   ·assumption
   ·omega
  ·split at h1
   ·split at h1
    ·exact ih j s h1 (by omega) hs
    ·omega
   ·exact ih j s h1 (by omega) hs
omit h in
theorem ZIL (S:List α) (y:α):∀ k,posB f S y k=0 ∨ ∃ s,S[posB f S y k - 1]?=some s∧f s y≤0:=by
 intro k
 induction k with
 | zero=>exact .inl rfl
 | succ k ih =>
  unfold posB
  split
  ·rename_i s hs
   split
   ·exact ih
   ·exact .inr ⟨s,by simpa using hs,by omega⟩
  ·exact ih
theorem ZIA {S:List α} (hS:Srt f S) (y:α):Srt f (insB f S y):=by
 unfold insB
 have hle:=ZIM (f:=f) S y S.length
 have hS':Srt f (S.take (posB f S y S.length)++S.drop (posB f S y S.length)):=by rw [List.take_append_drop];exact hS
 obtain ⟨s1,s2,s3⟩:=List.pairwise_append.1 hS'
 have hdrop:∀ z ∈ S.drop (posB f S y S.length),f y z < 0:=fun z hz=>by
  obtain ⟨j,hj⟩:=List.getElem?_of_mem hz
  rw [List.getElem?_drop] at hj
  have hlt:=(List.getElem?_eq_some_iff.1 hj).1
  have:=Zx2 S y S.length _ z (Nat.le_add_right _ _) hlt hj
  have:=h.sym z y
  omega
 have htake:∀ z ∈ S.take (posB f S y S.length),f z y≤0:=fun z hz=>by
  rcases ZIL (f:=f) S y S.length with h0 | ⟨s,h1,h2⟩
  ·rw [h0] at hz;simp at hz
  ·obtain ⟨j,hj⟩:=List.getElem?_of_mem hz
   obtain ⟨hjl,hje⟩:=List.getElem?_eq_some_iff.1 hj
   rw [List.length_take] at hjl
   rw [List.getElem?_take_of_lt (by omega)] at hj
   by_cases he:j=posB f S y S.length - 1
   ·rw [← he,hj] at h1
    injection h1 with h1
    rw [h1];exact h2
   ·have hzs : f z s ≤ 0 := by
       obtain ⟨hl1,e1⟩:=List.getElem?_eq_some_iff.1 hj
       obtain ⟨hl2,e2⟩:=List.getElem?_eq_some_iff.1 h1
       rw [← e1,← e2]
       exact List.pairwise_iff_getElem.1 hS _ _ hl1 hl2 (by omega)
    exact h.le_trans hzs h2
 refine List.pairwise_append.2 ⟨s1,List.pairwise_cons.2 ⟨fun z hz=>by have:=hdrop z hz;omega,s2⟩,fun a ha b hb=>?_⟩
 rcases List.mem_cons.1 hb with e | e
 ·rw [e];exact htake a ha
 ·exact s3 a ha b e
theorem ZDn (S:List α) (y x:α):(insB f S y).filter (eqv f x)=S.filter (eqv f x)++[y].filter (eqv f x):=by
 unfold insB
 have hS':S.filter (eqv f x)=(S.take (posB f S y S.length)).filter (eqv f x)++(S.drop (posB f S y S.length)).filter (eqv f x):=by rw [← List.filter_append,List.take_append_drop]
 rw [hS',List.filter_append,List.append_assoc]
 congr 1
 rw [List.filter_cons,List.filter_cons,List.filter_nil]
 cases hxy:eqv f x y with
 | false=>simp
 | true =>
  rw [h.eqv_iff] at hxy
  have:(S.drop (posB f S y S.length)).filter (eqv f x)=[]:=by
   rw [List.filter_eq_nil_iff]
   intro z hz hxz
   rw [h.eqv_iff] at hxz
   obtain ⟨j,hj⟩:=List.getElem?_of_mem hz
   rw [List.getElem?_drop] at hj
   have hlt:=(List.getElem?_eq_some_iff.1 hj).1
   have h1:=Zx2 S y S.length _ z (Nat.le_add_right _ _) hlt hj
   have h2:=h.sym z y
   have h3:=h.le_lt (a:=x) (b:=y) (c:=z) (by omega) (by omega)
   omega
  rw [this]
  simp
theorem ZGV:∀ (l S:List α),Srt f S→Srt f (l.foldl (insB f) S)∧∀ x,(l.foldl (insB f) S).filter (eqv f x)=S.filter (eqv f x)++l.filter (eqv f x):=by
 intro l
 induction l with
 | nil=>intro S hS;exact ⟨hS,fun x=>by simp⟩
 | cons y l ih =>
  intro S hS
  obtain ⟨a,b⟩:=ih (insB f S y) (ZIA h hS y)
  refine ⟨a,fun x=>?_⟩
  rw [List.foldl_cons,b,ZDn h,List.append_assoc,← List.filter_append]
  rfl
theorem ZFo (l:List α) {n:Nat} (hn:l.length≤n):Zdm f n l=insL f l:=by
 obtain ⟨a1,a2⟩:=ZDC h n l hn
 obtain ⟨b1,b2⟩:=ZGV h l [] List.Pairwise.nil
 exact ZHy h _ _ a1 b1 fun x=>by rw [a2,show insL f l=l.foldl (insB f) [] from rfl,b2];rfl
end
end Go.Am
namespace Go.Am
set_option linter.unusedSimpArgs false
set_option linter.unusedVariables false
set_option linter.unusedSectionVars false
set_option maxRecDepth 100000

structure Fv (K:AV→Prop) (t:Str→Str→Bool):Prop where
 close:∀ v,K v→∃ v',Za6 [] 0 6 v=some v'∧K v'
 run:∀ v,K v→∀ a b:Str,a.length≤1048576→b.length≤1048576→∀ H,ZaN cfg (Za7 cfg) v [.str a,.str b] H=some (.bool (t a b),H)
theorem ZFk {f:Str→Str→Int}:∀ A B:List Str,(mergeL f A B).length=A.length+B.length:=by
 intro A B
 induction A,B using mergeL.induct f with
 | case1 b=>simp [Zfw]
 | case2 a l=>simp [Zex]
 | case3 a l b m hc ih=>rw [Zbi,if_pos hc,List.length_cons,ih];simp only [List.length_cons];omega
 | case4 a l b m hc ih=>rw [Zbi,if_neg hc,List.length_cons,ih];simp only [List.length_cons];omega
theorem ZDy {f:Str→Str→Int}:∀ (A B:List Str) (x:Str),x ∈ mergeL f A B→x ∈ A ∨ x ∈ B:=by
 intro A B x
 induction A,B using mergeL.induct f with
 | case1 b=>simp [Zfw]
 | case2 a l=>simp [Zex]
 | case3 a l b m hc ih =>
  rw [Zbi,if_pos hc,List.mem_cons]
  rintro (h | h)
  ·exact .inr (by simp [h])
  ·rcases ih h with h | h
   ·exact .inl h
   ·exact .inr (by simp [h])
 | case4 a l b m hc ih =>
  rw [Zbi,if_neg hc,List.mem_cons]
  rintro (h | h)
  ·exact .inl (by simp [h])
  ·rcases ih h with h | h
   ·exact .inl (by simp [h])
   ·exact .inr h
theorem ZnH {f:Str→Str→Int}:∀ (n:Nat) (l:List Str),(Zdm f n l).length=l.length∧∀ s ∈ Zdm f n l,s ∈ l:=by
 intro n
 induction n with
 | zero=>intro l;exact ⟨rfl,fun s h=>h⟩
 | succ n ih =>
  intro l
  unfold Zdm
  split
  ·exact ⟨rfl,fun s h=>h⟩
  ·obtain ⟨a1,a2⟩:=ih (l.take (l.length / 2))
   obtain ⟨b1,b2⟩:=ih (l.drop (l.length / 2))
   refine ⟨by rw [ZFk,a1,b1,List.length_take,List.length_drop];omega,fun s hs=>?_⟩
   rcases ZDy _ _ s hs with h | h
   ·exact List.mem_of_mem_take (a2 s h)
   ·exact List.mem_of_mem_drop (b2 s h)
section
variable {K:AV→Prop} {f:Str→Str→Int} (hK:Fv K fun a b=>decide (0 < f a b))
include hK
theorem ZDx {v : AV} (hv : K v) (H0 : Hp) : ∀ (A B acc : List Str) (x6 x7 x8 : AV) (H : Hp), SS x6 A → SS x7 B → RS H x8 acc → Lens A → Lens B → acc.length + A.length + B.length ≤ 4194304 →
    ∃ y H',ZaM v x6 x7 x8 H0 H=some (y,H')∧RS H' y (acc++mergeL f A B):=by
 intro A B
 induction A,B using mergeL.induct f with
 | case1 B =>
  intro acc x6 x7 x8 H h6 h7 h8 hA hB hl
  obtain ⟨y1,H1,q1,q2⟩:=h8.app h6 (by omega)
  obtain ⟨y2,H2,q3,q4⟩:=q2.app h7 (by simp at hl ⊢;omega)
  refine ⟨y2,H2,?_,by rw [Zfw];simpa using q4⟩
  have hl6:=SS.len h6 9
  rw [ZaV]
  simp only [go_sem,hl6,List.length_nil,show decide ((0:Int) < ((0:Nat):Int))=false from rfl,Zcz,q1,q3]
 | case2 a l =>
  intro acc x6 x7 x8 H h6 h7 h8 hA hB hl
  obtain ⟨y1,H1,q1,q2⟩:=h8.app h6 (by simp at hl ⊢;omega)
  obtain ⟨y2,H2,q3,q4⟩:=q2.app h7 (by simp at hl ⊢;omega)
  refine ⟨y2,H2,?_,by rw [Zex];simpa using q4⟩
  have hl6:=SS.len h6 9
  have hl7:=SS.len h7 9
  have hp:decide ((0:Int) < (((a :: l).length:Nat):Int))=true:=by simp
  rw [ZaV]
  simp only [go_sem,hl6,hl7,hp,List.length_nil,show decide ((0:Int) < ((0:Nat):Int))=false from rfl,Zcz,q1,q3]
 | case3 a l b m hc ih =>
  intro acc x6 x7 x8 H h6 h7 h8 hA hB hl
  have hl6:=SS.len h6 9
  have hl7:=SS.len h7 9
  have hp:decide ((0:Int) < (((a :: l).length:Nat):Int))=true:=by simp
  have hp':decide ((0:Int) < (((b :: m).length:Nat):Int))=true:=by simp
  have hi6:=SS.idx h6 (i:=0) (s:=a) rfl
  have hi7:=SS.idx h7 (i:=0) (s:=b) rfl
  obtain ⟨x7',r1,r2⟩:=SS.lo h7 (n:=1) (by simp)
  have hrun:=hK.run v hv a b (hA a (by simp)) (hB b (by simp)) H
  obtain ⟨y1,H1,q1,q2⟩:=h8.app (ZAs b) (by simp at hl ⊢;omega)
  obtain ⟨y,H',q3,q4⟩:=ih (acc++[b]) x6 x7' y1 H1 h6 r2 q2 hA (fun s hs=>hB s (by simp [hs])) (by simp at hl ⊢;omega)
  refine ⟨y,H',?_,by rw [Zbi,if_pos hc];simpa using q4⟩
  rw [show ((0:Nat):Int)=0 from rfl] at hi6 hi7
  rw [show ((1:Nat):Int)=1 from rfl] at r1
  rw [ZaV]
  simp only [go_sem,hl6,hl7,hp,hp',ZcA,hi6,hi7,Zan,hrun,decide_eq_true hc,Zfy,q1,r1,q3]
 | case4 a l b m hc ih =>
  intro acc x6 x7 x8 H h6 h7 h8 hA hB hl
  have hl6:=SS.len h6 9
  have hl7:=SS.len h7 9
  have hp:decide ((0:Int) < (((a :: l).length:Nat):Int))=true:=by simp
  have hp':decide ((0:Int) < (((b :: m).length:Nat):Int))=true:=by simp
  have hi6:=SS.idx h6 (i:=0) (s:=a) rfl
  have hi7:=SS.idx h7 (i:=0) (s:=b) rfl
  obtain ⟨x6',r1,r2⟩:=SS.lo h6 (n:=1) (by simp)
  have hrun:=hK.run v hv a b (hA a (by simp)) (hB b (by simp)) H
  obtain ⟨y1,H1,q1,q2⟩:=h8.app (ZAs a) (by simp at hl ⊢;omega)
  obtain ⟨y,H',q3,q4⟩:=ih (acc++[a]) x6' x7 y1 H1 r2 h7 q2 (fun s hs=>hA s (by simp [hs])) hB (by simp at hl ⊢;omega)
  refine ⟨y,H',?_,by rw [Zbi,if_neg hc];simpa using q4⟩
  rw [show ((0:Nat):Int)=0 from rfl] at hi6 hi7
  rw [show ((1:Nat):Int)=1 from rfl] at r1
  rw [ZaV]
  simp only [go_sem,hl6,hl7,hp,hp',ZcA,hi6,hi7,Zan,hrun,decide_eq_false hc,Zfy,q1,r1,q3]
theorem ZDB:∀ (n:Nat) (l:List Str) (x v:AV),l.length≤n→l.length≤1048576→Lens l→SS x l→K v→∀ H,∃ y,Za5 ZaP [x,v] H=some (y,H)∧SS y (Zdm f n l):=by
 intro n
 induction n with
 | zero =>
  intro l x v hn hl hL hx hv H
  have:l=[]:=List.length_eq_zero_iff.1 (by omega)
  subst this
  obtain ⟨x',c1,c2⟩:=SS.closed hx [] 0 4
  obtain ⟨v',c3,c4⟩:=hK.close v hv
  obtain ⟨y,p1,p2⟩:=ZoW c2 hl []
  have p3:=SS.len c2 9
  obtain ⟨y',q1,q2⟩:=SS.closed p2 [] 0 4
  refine ⟨y',Zh4 c1 c3 ?_ q1,q2⟩
  rw [ZbE]
  unfold Zbd
  simp only [go_sem,p3,List.length_nil,show decide (((0:Nat):Int) < 2)=true from rfl,p1]
 | succ n ih =>
  intro l x v hn hl hL hx hv H
  obtain ⟨x',c1,c2⟩:=SS.closed hx [] 0 4
  obtain ⟨v',c3,c4⟩:=hK.close v hv
  have p3:=SS.len c2 9
  unfold Zdm
  by_cases h2:l.length < 2
  ·have hd:decide ((l.length:Int) < 2)=true:=by simp;omega
   obtain ⟨y,p1,p2⟩:=ZoW c2 hl []
   obtain ⟨y',q1,q2⟩:=SS.closed p2 [] 0 4
   rw [if_pos h2]
   refine ⟨y',Zh4 c1 c3 ?_ q1,q2⟩
   rw [ZbE]
   unfold Zbd
   simp only [go_sem,p3,hd,p1]
  ·rw [if_neg h2]
   have hd:decide ((l.length:Int) < 2)=false:=by simp;omega
   have hq:ibin .quo (.int .i64 (l.length:Int)) (.int .i64 2)=some (.int .i64 ((l.length / 2:Nat):Int)):=by
    simp [ibin,Zdb,ZcP]
    exact Zai (by omega) (by omega)
   obtain ⟨xa,a1,a2⟩:=SS.hi c2 (n:=l.length / 2) (by omega)
   obtain ⟨xb,b1,b2⟩:=SS.lo c2 (n:=l.length / 2) (by omega)
   obtain ⟨ya,a3,a4⟩:=ih (l.take (l.length / 2)) xa v' (by rw [List.length_take];omega) (by rw [List.length_take];omega) (fun s hs=>hL s (List.mem_of_mem_take hs)) a2 c4 []
   obtain ⟨yb,b3,b4⟩:=ih (l.drop (l.length / 2)) xb v' (by rw [List.length_drop];omega) (by rw [List.length_drop];omega) (fun s hs=>hL s (List.mem_of_mem_drop hs)) b2 c4 []
   obtain ⟨fa1,fa2⟩:=ZnH (f:=f) n (l.take (l.length / 2))
   obtain ⟨fb1,fb2⟩:=ZnH (f:=f) n (l.drop (l.length / 2))
   have hmake:Zda 1 16 false (.str []) (.int .i64 0) (.int .i64 (l.length:Int)) []=some (.vs 1 (.own 0 0) [],[.tok 0]):=by
    have hf:fits (l.length:Int).toNat 16=true:=by simp [fits];omega
    unfold Zda
    dsimp only
    rw [if_pos ⟨Int.le_refl _,by omega,rfl,rfl,by decide,hf⟩]
    simp
   have hrow:RS [AObj.tok 0] (.vs 1 (.own 0 0) []) []:=.inr ⟨0,0,rfl,rfl,Nat.le_refl _⟩
   obtain ⟨y,H',q1,q2⟩:=ZDx hK c4 [] (Zdm f n (l.take (l.length / 2))) (Zdm f n (l.drop (l.length / 2))) [] ya yb _ _ a4 b4 hrow
    (fun s hs=>hL s (List.mem_of_mem_take (fa2 s hs))) (fun s hs=>hL s (List.mem_of_mem_drop (fb2 s hs))) (by rw [fa1,fb1,List.length_take,List.length_drop,List.length_nil];omega)
   rw [List.nil_append] at q2
   obtain ⟨y',q3,q4⟩:=q2.done H'
   refine ⟨y',Zh4 c1 c3 ?_ q3,q4⟩
   rw [ZbE]
   unfold Zbd
   simp only [go_sem,p3,hd,Zgl,hq,a1,a3,b1,b3,hmake,q1]
end
theorem ZFu {g:Str→Str→Int}:∀ (l out:List Str),(Zcp g out l).length≤out.length+l.length:=by
 intro l
 induction l with
 | nil=>intro out;simp [Zcp]
 | cons x l ih =>
  intro out
  unfold Zcp
  refine Nat.le_trans (ih _) ?_
  split <;> simp <;> omega
theorem ZFv {K : AV → Prop} {g : Str → Str → Int} (hK : Fv K fun a b => g a b == 0) {v : AV} (hv : K v) {x : AV} {l : List Str} (hx : SS x l) (hL : Lens l) (hl : l.length ≤ 1048576) (H0 : Hp) : ∀ (r done out : List Str) (x5 : AV) (H : Hp), l = done ++ r → RS H x5 out → Lens out → out.length ≤ done.length →
    ∃ y H',ZbM v x5 x (.int .i64 (l.length:Int)) (.int .i64 (done.length:Int)) H0 H=some (y,H')∧RS H' y (Zcp g out r):=by
 intro r
 induction r with
 | nil =>
  intro done out x5 H hd h5 ho hod
  rw [List.append_nil] at hd
  subst hd
  have hlt:decide ((l.length:Int) < (l.length:Int))=false:=by simp
  refine ⟨x5,H,?_,h5⟩
  rw [ZdN]
  simp only [go_sem,hlt,ZiN]
 | cons a r ih =>
  intro done out x5 H hd h5 ho hod
  have hlen:l.length=done.length+(r.length+1):=by rw [hd];simp
  have hlt:decide ((done.length:Int) < (l.length:Int))=true:=by simp;omega
  have hw1:IntKind.i64.wrap ((done.length:Int)+1)=((done.length+1:Nat):Int):=by rw [Zai (by omega) (by omega)];omega
  have hia:l[done.length]?=some a:=by rw [hd,List.getElem?_append_right (Nat.le_refl _)];simp
  have hi:=SS.idx hx hia
  have haL:a.length≤1048576:=hL a (List.mem_of_getElem? hia)
  have h5l:=SS.len h5.sl 9
  obtain ⟨y1,H1,q1,q2⟩:=h5.app (ZAs a) (by simp;omega)
  have keepit:∀ out' x5' H',RS H' x5' out'→Lens out'→out'.length≤done.length+1→∃ y H'',ZbK v x5' x (.int .i64 (l.length:Int)) (.int .i64 (done.length:Int)) H0 H'=some (y,H'')∧RS H'' y (Zcp g out' r):=fun out' x5' H' h1 h2 h3=>by
   obtain ⟨y,H'',p1,p2⟩:=ih (done++[a]) out' x5' H' (by rw [hd];simp) h1 h2 (by simpa using h3)
   rw [List.length_append,List.length_singleton] at p1
   exact ⟨y,H'',by simp only [ZiP,go_sem,hw1,p1],p2⟩
  have hlens':Lens (out++[a]):=fun s hs=>by
   rcases List.mem_append.1 hs with h | h
   ·exact ho s h
   ·rw [List.mem_singleton.1 h];exact haL
  have hJ2:∃ y H',Zcx v x5 x (.int .i64 (l.length:Int)) (.int .i64 (done.length:Int)) (.bool true) H0 H=some (y,H')∧RS H' y (Zcp g out (a :: r)):=by
   rw [ZiO]
   unfold Zcp
   cases hol:out.getLast? with
   | none =>
    have:out=[]:=List.getLast?_eq_none_iff.1 hol
    subst this
    rw [show ZgO g [] a=false from rfl]
    obtain ⟨y,H'',p1,p2⟩:=keepit _ _ _ q2 hlens' (by simp)
    refine ⟨y,H'',?_,by simpa using p2⟩
    simp only [go_sem,hi,Zan,h5l,List.length_nil,show (((0:Nat):Int) == 0)=true from rfl,Zfy,q1,p1]
   | some z =>
    have hne:out ≠ []:=fun e=>by subst e;simp at hol
    have hpos:0 < out.length:=List.length_pos_iff.2 hne
    have hzi:out[out.length - 1]?=some z:=by rw [← List.getLast?_eq_getElem?];exact hol
    have h0:((out.length:Int) == 0)=false:=by rw [beq_eq_false_iff_ne];omega
    have hwm:IntKind.i64.wrap ((out.length:Int) - 1)=((out.length - 1:Nat):Int):=by rw [Zai (by omega) (by omega)];omega
    have hiz:=SS.idx h5.sl hzi
    have hrun:=hK.run v hv z a (ho z (List.mem_of_getElem? hzi)) haL H
    have hsl:ZgO g out a=(g z a == 0):=by unfold ZgO;rw [hol]
    simp only [go_sem,hi,Zan,h5l,h0,hwm,hiz,hrun,hsl]
    cases hg:(g z a == 0) with
    | true =>
     obtain ⟨y,H'',p1,p2⟩:=keepit _ _ _ h5 ho (by omega)
     exact ⟨y,H'',by simp only [Bool.not_true,go_sem,p1],by simpa using p2⟩
    | false =>
     obtain ⟨y,H'',p1,p2⟩:=keepit _ _ _ q2 hlens' (by simp;omega)
     exact ⟨y,H'',by simp only [Bool.not_false,go_sem,Zfy,q1,p1],by simpa using p2⟩
  obtain ⟨y,H',p1,p2⟩:=hJ2
  refine ⟨y,H',?_,p2⟩
  rw [ZdN]
  simp only [go_sem,hlt,p1]
theorem ZyD {K:AV→Prop} {g:Str→Str→Int} (hK:Fv K fun a b=>g a b == 0) {v:AV} (hv:K v) {x:AV} {l:List Str} (hx:SS x l) (hL:Lens l) (hl:l.length≤1048576) (H:Hp):∃ y,Za5 ZbQ [x,v] H=some (y,H)∧SS y (Zcp g [] l):=by
 obtain ⟨x',c1,c2⟩:=SS.closed hx [] 0 4
 obtain ⟨v',c3,c4⟩:=hK.close v hv
 obtain ⟨y,H',p1,p2⟩:=ZFv hK c4 c2 hL hl [] l [] [] .nils [] rfl (RowN.nil _ _ _) (fun s hs=>by cases hs) (Nat.le_refl _)
 rw [List.length_nil,show ((0:Nat):Int)=0 from rfl] at p1
 obtain ⟨y',q1,q2⟩:=p2.done H'
 refine ⟨y',Zh4 c1 c3 ?_ q1,q2⟩
 have p3:=SS.len c2 9
 rw [Zjn]
 unfold ZeT
 simp only [go_sem,p3,p1]
end Go.Am
namespace Go.Am
set_option linter.unusedSimpArgs false
set_option linter.unusedVariables false
set_option linter.unusedSectionVars false
set_option maxRecDepth 100000

def SpecCells (l:List AV) (p:Spec):Prop:=∃ x,l=p.cells x∧Sl 5 x (p.keys.map Ke.av)
theorem SpecCells.close {l:List AV} {p:Spec} (h:SpecCells l p) (H:Hp) (n f:Nat):∃ l',l.mapM (Za6 H n (f+3))=some l'∧SpecCells l' p:=by
 obtain ⟨x,rfl,hx⟩:=h
 obtain ⟨x',h1,h2⟩:=hx.close (H:=H) (n:=n) (f:=f+2) (fun c hc=>by
  obtain ⟨k,_,rfl⟩:=List.mem_map.1 hc
  exact k.close H n f)
 refine ⟨p.cells x',?_,x',rfl,h2⟩
 simp only [Spec.cells,List.mapM_cons,h1,List.mapM_nil]
 rfl
def ClK (g:Nat) (L:Loc) (p:Spec) (v:AV):Prop:=∃ lc sc,v=.fn (.func g) [] [.vp lc,.vp sc]∧LocCells lc L∧SpecCells sc p
theorem ZCX (H : Hp) (n f : Nat) (g : Fn) (a b : AV) : Za6 H n (f + 1) (.fn g [] [a, b]) = match Za6 H n f a, Za6 H n f b with
    | some a',some b'=>some (.fn g [] [a',b'])
    | _,_=>none:=by
 show (match ([] : List AV).mapM (Za6 H n f), [a, b].mapM (Za6 H n f) with
     | some a,some b=>some (AV.fn g a b)
     | _,_=>none)=_
 simp only [List.mapM_nil,List.mapM_cons]
 cases Za6 H n f a <;> cases Za6 H n f b <;> rfl
theorem ClK.close {g:Nat} {L:Loc} {p:Spec} {v:AV} (h:ClK g L p v):∃ v',Za6 [] 0 6 v=some v'∧ClK g L p v':=by
 obtain ⟨lc,sc,rfl,hl,hs⟩:=h
 obtain ⟨lc',l1,l2⟩:=hl.close [] 0 1
 obtain ⟨sc',s1,s2⟩:=hs.close [] 0 1
 refine ⟨.fn (.func g) [] [.vp lc',.vp sc'],?_,lc',sc',rfl,l2,s2⟩
 rw [ZCX,Zbz,Zbz,l1,s1]

theorem ZFW (L:Loc) (hok:LocOk L) (p:Spec) (hks:∀ k ∈ p.keys,KeOk k):Fv (ClK 84 L p) fun a b=>decide (0 < ZaA L p a b) where
 close:=fun v hv=>ClK.close hv
 run:=fun v hv a b ha hb H=>by
  obtain ⟨lc,sc,rfl,hl,hs⟩:=hv
  rw [ZuQ]
  obtain ⟨lc',l1,l2⟩:=hl.close [] 0 2
  obtain ⟨sc',s1,s2⟩:=hs.close [] 0 2
  obtain ⟨x,c,e,rfl,hx,hc,he⟩:=l2
  obtain ⟨xs,rfl,hxs⟩:=s2
  have hcl:Za6 [] 0 6 (.vp lc)=some (.vp (L.cells x c e)):=by rw [Zbz,l1]
  have hcs:Za6 [] 0 6 (.vp sc)=some (.vp (p.cells xs)):=by rw [Zbz,s1]
  have ho:=Zv5 (a:=.agg (L.cells x c e)) (L:=L) ⟨x,c,e,rfl,hx,hc,he⟩ hok (q:=.agg (p.cells xs)) (p:=p) ⟨xs,rfl,hxs⟩ hks a b ha hb []
  refine Zjb (a':=.str a) (b':=.str b) rfl rfl hcl hcs (H1:=[]) ?_ rfl
  rw [Zqi]
  unfold Zlc
  simp only [go_sem,Zbr 6 (L.cells x c e) rfl,Zbr 5 (p.cells xs) rfl,ho]

theorem ZFX (L:Loc) (hok:LocOk L) (p:Spec) (hks:∀ k ∈ p.keys,KeOk k):Fv (ClK 85 L p) fun a b=>ZaO L p a b == 0 where
 close:=fun v hv=>ClK.close hv
 run:=fun v hv a b ha hb H=>by
  obtain ⟨lc,sc,rfl,hl,hs⟩:=hv
  rw [ZuR]
  obtain ⟨lc',l1,l2⟩:=hl.close [] 0 2
  obtain ⟨sc',s1,s2⟩:=hs.close [] 0 2
  obtain ⟨x,c,e,rfl,hx,hc,he⟩:=l2
  obtain ⟨xs,rfl,hxs⟩:=s2
  have hcl:Za6 [] 0 6 (.vp lc)=some (.vp (L.cells x c e)):=by rw [Zbz,l1]
  have hcs:Za6 [] 0 6 (.vp sc)=some (.vp (p.cells xs)):=by rw [Zbz,s1]
  have ho:=Zsi (a:=.agg (L.cells x c e)) (L:=L) ⟨x,c,e,rfl,hx,hc,he⟩ hok (q:=.agg (p.cells xs)) (p:=p) ⟨xs,rfl,hxs⟩ hks a b ha hb []
  refine Zjb (a':=.str a) (b':=.str b) rfl rfl hcl hcs (H1:=[]) ?_ rfl
  rw [Zqj]
  unfold Zld
  simp only [go_sem,Zbr 6 (L.cells x c e) rfl,Zbr 5 (p.cells xs) rfl,ho]

theorem ZwW (L:Loc) (hok:LocOk L) (p:Spec) (hks:∀ k ∈ p.keys,KeOk k):Fv (ClK 66 L p) fun a b=>decide (0 < ZaA L p a b) where
 close:=fun v hv=>ClK.close hv
 run:=fun v hv a b ha hb H=>by
  obtain ⟨lc,sc,rfl,hl,hs⟩:=hv
  rw [Ztp]
  obtain ⟨lc',l1,l2⟩:=hl.close [] 0 2
  obtain ⟨sc',s1,s2⟩:=hs.close [] 0 2
  obtain ⟨x,c,e,rfl,hx,hc,he⟩:=l2
  obtain ⟨xs,rfl,hxs⟩:=s2
  have hcl:Za6 [] 0 6 (.vp lc)=some (.vp (L.cells x c e)):=by rw [Zbz,l1]
  have hcs:Za6 [] 0 6 (.vp sc)=some (.vp (p.cells xs)):=by rw [Zbz,s1]
  have ho:=Zv5 (a:=.agg (L.cells x c e)) (L:=L) ⟨x,c,e,rfl,hx,hc,he⟩ hok (q:=.agg (p.cells xs)) (p:=p) ⟨xs,rfl,hxs⟩ hks a b ha hb []
  refine Zjb (a':=.str a) (b':=.str b) rfl rfl hcl hcs (H1:=[]) ?_ rfl
  rw [ZoI]
  unfold Zka
  simp only [go_sem,Zbr 6 (L.cells x c e) rfl,Zbr 5 (p.cells xs) rfl,ho]

theorem ZDv (L:Loc) (hok:LocOk L) (p:Spec) (hks:∀ k ∈ p.keys,KeOk k):Fv (ClK 71 L p) fun a b=>ZaO L p a b == 0 where
 close:=fun v hv=>ClK.close hv
 run:=fun v hv a b ha hb H=>by
  obtain ⟨lc,sc,rfl,hl,hs⟩:=hv
  rw [Ztq]
  obtain ⟨lc',l1,l2⟩:=hl.close [] 0 2
  obtain ⟨sc',s1,s2⟩:=hs.close [] 0 2
  obtain ⟨x,c,e,rfl,hx,hc,he⟩:=l2
  obtain ⟨xs,rfl,hxs⟩:=s2
  have hcl:Za6 [] 0 6 (.vp lc)=some (.vp (L.cells x c e)):=by rw [Zbz,l1]
  have hcs:Za6 [] 0 6 (.vp sc)=some (.vp (p.cells xs)):=by rw [Zbz,s1]
  have ho:=Zsi (a:=.agg (L.cells x c e)) (L:=L) ⟨x,c,e,rfl,hx,hc,he⟩ hok (q:=.agg (p.cells xs)) (p:=p) ⟨xs,rfl,hxs⟩ hks a b ha hb []
  refine Zjb (a':=.str a) (b':=.str b) rfl rfl hcl hcs (H1:=[]) ?_ rfl
  rw [ZoJ]
  unfold Zkb
  simp only [go_sem,Zbr 6 (L.cells x c e) rfl,Zbr 5 (p.cells xs) rfl,ho]

def Zxf (L:Loc) (p:Spec) (l:List Str):List Str :=
 if (Zb4 p != 0)=true then l else if p.uniq then Zcp (ZaO L p) [] (insL (ZaA L p) l) else insL (ZaA L p) l
theorem Zys (L:Loc) (p:Spec) (l:List Str):Zdm (ZaA L p) l.length l=insL (ZaA L p) l:=ZFo (ZFy L p) l (Nat.le_refl _)
theorem ZFd (L:Loc) (p:Spec) (l:List Str):(insL (ZaA L p) l).length=l.length∧∀ s ∈ insL (ZaA L p) l,s ∈ l:=by
 rw [← Zys]
 exact ZnH _ _
theorem ZF2 {f:List AV→Hp→Res} {a a' b b' c c' v v':AV} {H H1:Hp} (ha:Za6 [] 0 6 a=some a') (hb:Za6 [] 0 6 b=some b') (hd:Za6 [] 0 6 c=some c') (hc:f [a',b',c'] []=some (v,H1)) (hv:Za6 H1 0 6 v=some v'):Za5 f [a,b,c] H=some (v',H) :=
 ZiE (args':=[a',b',c']) (by simp [ha,hb,hd]) hc hv
theorem ZyQ {a : AV} {L : Loc} (h : LocAV a L) (hok : LocOk L) {q : AV} {p : Spec} (hq : SpecAV q p) (hks : ∀ k ∈ p.keys, KeOk k) {x : AV} {l : List Str} (hx : SS x l) (hL : Lens l) (hl : l.length ≤ 1048576) (H : Hp) :
    ∃ y,Za5 ZdG [a,q,x] H=some (y,H)∧SS y (Zxf L p l):=by
 obtain ⟨a1,h1,h2⟩:=h.close [] 0 2
 obtain ⟨q1,g1,g2⟩:=hq.close [] 0 2
 obtain ⟨x1,k1,k2⟩:=SS.closed hx [] 0 4
 have hck:=fun H=>ZhQ g2 H
 obtain ⟨lx,c,e,rfl,hlx,hc,he⟩:=h2
 obtain ⟨xp,rfl,hxp⟩:=g2
 suffices hs:∃ y H1,ZdG [.agg (L.cells lx c e),.agg (p.cells xp),x1] []=some (y,H1)∧SS y (Zxf L p l) by
  obtain ⟨y,H1,r1,r2⟩:=hs
  obtain ⟨y',r3,r4⟩:=SS.closed r2 H1 0 4
  exact ⟨y',ZF2 h1 g1 k1 r1 r3,r4⟩
 have hl5:Za2 true 5 (.ptr 1 0) [AObj.cells (L.cells lx c e),.cells (p.cells xp)]=some (.agg (p.cells xp)):=by simp [Za2,Go.Am.apart,Spec.cells]
 rw [Zt0]
 unfold ZnQ Zxf
 cases hb:(Zb4 p != 0) with
 | true =>
  obtain ⟨y,p1,p2⟩:=ZoW k2 hl [AObj.cells (L.cells lx c e),.cells (p.cells xp)]
  refine ⟨y,[AObj.cells (L.cells lx c e),.cells (p.cells xp)],?_,by rw [if_pos rfl];exact p2⟩
  simp only [go_sem,Zb3,List.nil_append,List.length_nil,List.length_cons,List.cons_append,Nat.zero_add,hl5,hck,hb,p1]
 | false =>
  have hfz:∀ (k:AV→Hp→Res),frzK (.ptr 0 0) [AObj.cells (L.cells lx c e),.cells (p.cells xp)] k=k (.vp (L.cells lx c e)) [.dead,.cells (p.cells xp)]:=fun k=>rfl
  have hfz2:∀ (k:AV→Hp→Res),frzK (.ptr 1 0) [AObj.dead,.cells (p.cells xp)] k=k (.vp (p.cells xp)) [.dead,.dead]:=fun k=>rfl
  have hK1:ClK 84 L p (.fn (.func 84) [] [.vp (L.cells lx c e),.vp (p.cells xp)]):=⟨_,_,rfl,⟨lx,c,e,rfl,hlx,hc,he⟩,⟨xp,rfl,hxp⟩⟩
  have hK2:ClK 85 L p (.fn (.func 85) [] [.vp (L.cells lx c e),.vp (p.cells xp)]):=⟨_,_,rfl,⟨lx,c,e,rfl,hlx,hc,he⟩,⟨xp,rfl,hxp⟩⟩
  obtain ⟨y,p1,p2⟩:=ZDB (ZFW L hok p hks) l.length l x1 _ (Nat.le_refl _) hl hL k2 hK1 [AObj.dead,.dead]
  rw [Zys] at p2
  obtain ⟨f1,f2⟩:=ZFd L p l
  have hu1:Zaa 3 (.vp (p.cells xp))=some (.vp [.bool p.uniq,.bool p.stab]):=rfl
  simp only [go_sem,Zb3,List.nil_append,List.length_nil,List.length_cons,List.cons_append,Nat.zero_add,hl5,hck,hb,Zsr,hfz,hfz2,p1,hu1,Zan,Bool.false_eq_true,if_false]
  cases hu:p.uniq with
  | true =>
   obtain ⟨z,o1,o2⟩:=ZyD (ZFX L hok p hks) hK2 p2 (fun s hs=>hL s (f2 s hs)) (by omega) [AObj.dead,.dead]
   exact ⟨z,[.dead,.dead],by simp only [go_sem,o1,Zjx],by simpa using o2⟩
  | false=>exact ⟨y,[.dead,.dead],by simp only [go_sem,Zjx],by simpa using p2⟩

theorem ZDY {L : Loc} {lx c e : AV} (hav : LocAV (.agg (L.cells lx c e)) L) (hok : LocOk L) {p : Spec} {xp : AV} (hsp : SpecAV (.agg (p.cells xp)) p) (hks : ∀ k ∈ p.keys, KeOk k) {x : AV} {l : List Str} (hx : SS x l) (hL : Lens l) (hl : l.length ≤ 1048576) (H0 : Hp) :
    ∀ (r done out:List Str) (x7:AV) (H:Hp),H[0]?=some (.cells (L.cells lx c e))→H[1]?=some (.cells (p.cells xp))→2≤H.length→l=done++r→RowN 2 H 1 x7 (out.map AV.str)→Lens out→out.length≤done.length →
    ∃ y H',Zj8 x (.ptr 0 0) (.ptr 1 0) x7 (.int .i64 (done.length:Int)) H0 H=some (y,H')∧SS y (if p.uniq then Zcp (ZaO L p) out r else out++r):=by
 intro r
 induction r with
 | nil =>
  intro done out x7 H e0 e1 hlenH hd h7 ho hod
  rw [List.append_nil] at hd
  subst hd
  have hlt:decide ((l.length:Int) < (l.length:Int))=false:=by simp
  have p3:=SS.len hx 9
  refine ⟨x7,H,?_,?_⟩
  ·rw [Zo9]
   simp only [go_sem,p3,hlt,ZxR]
  ·have:=h7.sl
   split <;> simpa [Zcp] using this
 | cons a r ih =>
  intro done out x7 H e0 e1 hlenH hd h7 ho hod
  have hlen:l.length=done.length+(r.length+1):=by rw [hd];simp
  have hlt:decide ((done.length:Int) < (l.length:Int))=true:=by simp;omega
  have hw1:IntKind.i64.wrap ((done.length:Int)+1)=((done.length+1:Nat):Int):=by rw [Zai (by omega) (by omega)];omega
  have p3:=SS.len hx 9
  have hia:l[done.length]?=some a:=by rw [hd,List.getElem?_append_right (Nat.le_refl _)];simp
  have hi:=SS.idx hx hia
  have haL:a.length≤1048576:=hL a (List.mem_of_getElem? hia)
  have h7l:=SS.len h7.sl 9
  have hl5:Za2 true 5 (.ptr 1 0) H=some (.agg (p.cells xp)):=by rw [ZeX e1];simp [Go.Am.apart,Spec.cells]
  have hl6:Za2 true 6 (.ptr 0 0) H=some (.agg (L.cells lx c e)):=by rw [ZeX e0];simp [Go.Am.apart,Loc.cells]
  have hu:Za2 false 1 (.ptr 1 (0+3)) H=some (.bool p.uniq):=Zaq (l:=p.cells xp) e1
  obtain ⟨y1,H1,q1,q2,q3,q4,q5⟩:=h7.app hlenH 16 (.vs 1 .clip [.str a]) [.str a] rfl (by simp;omega)
  have q2':RowN 2 H1 1 y1 ((out++[a]).map AV.str):=by simpa using q2
  have hlens':Lens (out++[a]):=fun s hs=>by
   rcases List.mem_append.1 hs with h | h
   ·exact ho s h
   ·rw [List.mem_singleton.1 h];exact haL
  have keepit:∀ out' x7' H',H'[0]?=some (.cells (L.cells lx c e))→H'[1]?=some (.cells (p.cells xp))→2≤H'.length→RowN 2 H' 1 x7' (out'.map AV.str)→Lens out'→out'.length≤done.length+1→∃ y H'',Zj6 x (.ptr 0 0) (.ptr 1 0) x7' (.int .i64 (done.length:Int)) H0 H'=some (y,H'')∧SS y (if p.uniq then Zcp (ZaO L p) out' r else out'++r):=fun out' x7' H' g0 g1 gl h1 h2 h3=>by
   obtain ⟨y,H'',p1,p2⟩:=ih (done++[a]) out' x7' H' g0 g1 gl (by rw [hd];simp) h1 h2 (by simpa using h3)
   rw [List.length_append,List.length_singleton] at p1
   exact ⟨y,H'',by simp only [ZxS,go_sem,hw1,p1],p2⟩
  obtain ⟨y,H',p1,p2⟩:=keepit (out++[a]) y1 H1 (q5 _ _ e0) (q5 _ _ e1) q3 q2' hlens' (by simp;omega)
  rw [Zo9]
  cases hq:p.uniq with
  | false =>
   rw [hq] at p2 hu
   refine ⟨y,H',?_,by simpa using p2⟩
   simp only [go_sem,p3,hlt,Zfk,hu,Bool.not_false,hi,Zan,Zfy,q1,p1]
  | true =>
   rw [hq] at p2 hu
   cases hol:out.getLast? with
   | none =>
    have:out=[]:=List.getLast?_eq_none_iff.1 hol
    subst this
    refine ⟨y,H',?_,?_⟩
    ·simp only [go_sem,p3,hlt,Zfk,hu,Bool.not_true,h7l,List.length_nil,show (((0:Nat):Int) == 0)=true from rfl,hi,Zan,Zfy,q1,p1]
    ·unfold Zcp
     rw [show ZgO (ZaO L p) [] a=false from rfl]
     simpa using p2
   | some z =>
    have hne:out ≠ []:=fun e=>by subst e;simp at hol
    have hpos:0 < out.length:=List.length_pos_iff.2 hne
    have hzi:out[out.length - 1]?=some z:=by rw [← List.getLast?_eq_getElem?];exact hol
    have h0:((out.length:Int) == 0)=false:=by rw [beq_eq_false_iff_ne];omega
    have hwm:IntKind.i64.wrap ((out.length:Int) - 1)=((out.length - 1:Nat):Int):=by rw [Zai (by omega) (by omega)];omega
    have hiz:=SS.idx h7.sl hzi
    have hcmp:=Zx9 hav hok hsp hks z a (ho z (List.mem_of_getElem? hzi)) haL H
    have hsl:ZgO (ZaO L p) out a=(ZaO L p z a == 0):=by unfold ZgO;rw [hol]
    unfold Zcp
    rw [hsl]
    cases hg:(ZaO L p z a == 0) with
    | true =>
     have hne':(ZaO L p z a != 0)=false:=by rw [bne,hg];rfl
     obtain ⟨y',H'',r1,r2⟩:=keepit out x7 H e0 e1 hlenH h7 ho (by omega)
     rw [hq] at r2
     refine ⟨y',H'',?_,by simpa using r2⟩
     simp only [go_sem,p3,hlt,Zfk,hu,Bool.not_true,h7l,h0,hl6,hl5,hwm,hiz,hi,Zan,hcmp,hne',r1]
    | false =>
     have hne':(ZaO L p z a != 0)=true:=by rw [bne,hg];rfl
     refine ⟨y,H',?_,by simpa using p2⟩
     simp only [go_sem,p3,hlt,Zfk,hu,Bool.not_true,h7l,h0,hl6,hl5,hwm,hiz,hi,Zan,hcmp,hne',Zfy,q1,p1]
theorem Zxc {a : AV} {L : Loc} (h : LocAV a L) (hok : LocOk L) {q : AV} {p : Spec} (hq : SpecAV q p) (hks : ∀ k ∈ p.keys, KeOk k) {x : AV} {l : List Str} (hx : SS x l) (hL : Lens l) (hl : l.length ≤ 1048576) (H : Hp) :
    ∃ z,Za5 ZoH [a,q,x] H=some (z,H)∧SS z (if p.uniq then Zcp (ZaO L p) [] l else l):=by
 obtain ⟨a1,h1,h2⟩:=h.close [] 0 2
 obtain ⟨q1,g1,g2⟩:=hq.close [] 0 2
 obtain ⟨x1,k1,k2⟩:=SS.closed hx [] 0 4
 have hav:=h2
 have hsp:=g2
 obtain ⟨lx,c,e,rfl,hlx,hc,he⟩:=h2
 obtain ⟨xp,rfl,hxp⟩:=g2
 obtain ⟨y,H1,r1,r2⟩:=ZDY hav hok hsp hks k2 hL hl [] l [] [] .nils [AObj.cells (L.cells lx c e),.cells (p.cells xp)] rfl rfl (Nat.le_refl _) rfl (RowN.nil _ _ _) (fun s hs=>by cases hs) (Nat.le_refl _)
 rw [List.length_nil,show ((0:Nat):Int)=0 from rfl] at r1
 obtain ⟨y',r3,r4⟩:=SS.closed r2 H1 0 4
 refine ⟨y',ZF2 h1 g1 k1 ?_ r3,by simpa using r4⟩
 rw [ZyZ]
 unfold Zvl
 simp only [go_sem,Zb3,List.nil_append,List.length_nil,List.length_cons,List.cons_append,Nat.zero_add,r1]
end Go.Am
namespace Go.Am
set_option linter.unusedSimpArgs false
set_option linter.unusedVariables false
set_option linter.unusedSectionVars false
set_option maxRecDepth 100000

def unsR (L:Loc) (p:Spec):Nat→Str→List Str→Int
 | _,_,[]=>-1
 | i,z,a :: r=>if (decide (0 < ZaA L p z a) || (p.uniq && ZaA L p z a == 0))=true then i else unsR L p (i+1) a r
def unsS (L:Loc) (p:Spec) (l:List Str):Int :=
 if (Zb4 p != 0)=true then -1 else match l with
  | []=>-1
  | a :: r=>unsR L p 1 a r
theorem ZG4 (L:Loc) (p:Spec) (i:Nat) (z a:Str) (r:List Str):unsR L p i z (a :: r)=if (decide (0 < ZaA L p z a) || (p.uniq && ZaA L p z a == 0))=true then (i:Int) else unsR L p (i+1) a r:=(Eq.refl _).trans (Eq.refl _)

theorem ZHH {L : Loc} {lx c e : AV} (hav : LocAV (.agg (L.cells lx c e)) L) (hok : LocOk L) {p : Spec} {xp : AV} (hsp : SpecAV (.agg (p.cells xp)) p) (hks : ∀ k ∈ p.keys, KeOk k) {x : AV} {l : List Str} (hx : SS x l) (hL : Lens l) (hl : l.length ≤ 1048576) (H0 : Hp) :
    ∀ (r done:List Str) (z:Str),l=done++z :: r →
    Zd0 x (.ptr 0 0) (.ptr 1 0) (.int .i64 ((done.length+1:Nat):Int)) H0 [AObj.cells (L.cells lx c e),.cells (p.cells xp)]=some (.int .i64 (unsR L p (done.length+1) z r),[AObj.cells (L.cells lx c e),.cells (p.cells xp)]):=by
 have hl5:Za2 true 5 (.ptr 1 0) [AObj.cells (L.cells lx c e),.cells (p.cells xp)]=some (.agg (p.cells xp)):=by simp [Za2,Go.Am.apart,Spec.cells]
 have hl6:=Zf5 L lx c e [.cells (p.cells xp)]
 have hu:Za2 false 1 (.ptr 1 (0+3)) [AObj.cells (L.cells lx c e),.cells (p.cells xp)]=some (.bool p.uniq):=Zaq (l:=p.cells xp) rfl
 have p3:=SS.len hx 9
 intro r
 induction r with
 | nil =>
  intro done z hd
  have hlen:l.length=done.length+1:=by rw [hd];simp
  have hlt:decide (((done.length+1:Nat):Int) < (l.length:Int))=false:=by simp;omega
  rw [Zdu]
  simp only [go_sem,p3,hlt,Zgj,unsR]
 | cons a r ih =>
  intro done z hd
  have hlen:l.length=done.length+(r.length+2):=by rw [hd];simp
  have hlt:decide (((done.length+1:Nat):Int) < (l.length:Int))=true:=by simp;omega
  have hw1:IntKind.i64.wrap (((done.length+1:Nat):Int)+1)=((done.length+1+1:Nat):Int):=by rw [Zai (by omega) (by omega)];omega
  have hwm:IntKind.i64.wrap (((done.length+1:Nat):Int) - 1)=(done.length:Int):=by rw [Zai (by omega) (by omega)];omega
  have hiz:l[done.length]?=some z:=by rw [hd,List.getElem?_append_right (Nat.le_refl _)];simp
  have hia:l[done.length+1]?=some a:=by rw [hd,List.getElem?_append_right (by omega)];simp
  have hcmp:=Zv5 hav hok hsp hks z a (hL z (List.mem_of_getElem? hiz)) (hL a (List.mem_of_getElem? hia)) [AObj.cells (L.cells lx c e),.cells (p.cells xp)]
  have h1:=SS.idx hx hiz
  have h2:=SS.idx hx hia
  have ih':=ih (done++[z]) a (by rw [hd];simp)
  rw [List.length_append,List.length_singleton] at ih'
  rw [Zdu,ZG4]
  simp only [go_sem,p3,hlt,ZnF,hl6,hl5,hwm,h1,h2,Zan,hcmp]
  cases hc:decide (0 < ZaA L p z a) with
  | true=>simp only [go_sem,Bool.true_or,if_true]
  | false =>
   simp only [go_sem,hu]
   cases hq:p.uniq with
   | false=>simp only [go_sem,Bool.false_and,Bool.or_false,Bool.false_eq_true,if_false,Zgk,hw1,ih']
   | true =>
    simp only [go_sem]
    cases hz:(ZaA L p z a == 0) with
    | true=>simp only [go_sem,Bool.true_and,Bool.or_true,if_true]
    | false=>simp only [go_sem,Bool.true_and,Bool.or_false,Bool.false_eq_true,if_false,Zgk,hw1,ih']
theorem ZHG {a : AV} {L : Loc} (h : LocAV a L) (hok : LocOk L) {q : AV} {p : Spec} (hq : SpecAV q p) (hks : ∀ k ∈ p.keys, KeOk k) {x : AV} {l : List Str} (hx : SS x l) (hL : Lens l) (hl : l.length ≤ 1048576) (H : Hp) :
    Za5 ZeS [a,q,x] H=some (.int .i64 (unsS L p l),H):=by
 obtain ⟨a1,h1,h2⟩:=h.close [] 0 2
 obtain ⟨q1,g1,g2⟩:=hq.close [] 0 2
 obtain ⟨x1,k1,k2⟩:=SS.closed hx [] 0 4
 have hck:=fun H=>ZhQ g2 H
 have hav:=h2
 have hsp:=g2
 obtain ⟨lx,c,e,rfl,hlx,hc,he⟩:=h2
 obtain ⟨xp,rfl,hxp⟩:=g2
 have hl5:Za2 true 5 (.ptr 1 0) [AObj.cells (L.cells lx c e),.cells (p.cells xp)]=some (.agg (p.cells xp)):=by simp [Za2,Go.Am.apart,Spec.cells]
 have p3:=SS.len k2 9
 refine ZDi h1 g1 k1 (H1:=[AObj.cells (L.cells lx c e),.cells (p.cells xp)]) ?_ rfl
 rw [ZnR]
 unfold Zjm unsS
 cases hb:(Zb4 p != 0) with
 | true=>simp only [go_sem,Zb3,List.nil_append,List.length_nil,List.length_cons,List.cons_append,Nat.zero_add,hl5,hck,hb,if_true]
 | false =>
  cases l with
  | nil =>
   have hlt:decide ((1:Int) < ((([]:List Str).length:Nat):Int))=false:=rfl
   simp only [go_sem,Zb3,List.nil_append,List.length_nil,List.length_cons,List.cons_append,Nat.zero_add,hl5,hck,hb,Zgi,Zdu,p3,show decide ((1:Int) < ((0:Nat):Int))=false from rfl,Zgj,Bool.false_eq_true,if_false]
  | cons z r =>
   have:=ZHH hav hok hsp hks k2 hL hl [] r [] z rfl
   rw [List.length_nil,show ((0+1:Nat):Int)=1 from rfl] at this
   simp only [go_sem,Zb3,List.nil_append,List.length_nil,List.length_cons,List.cons_append,Nat.zero_add,hl5,hck,hb,Zgi,Bool.false_eq_true,if_false,Nat.reduceAdd]
   exact this

theorem ZFS {x y : AV} {l m : List Str} (hx : SS x l) (hy : SS y m) (hl : l.length ≤ 1048576) (hlm : l.length = m.length) (H0 H : Hp) : ∀ (k i : Nat), l.length - i = k → i ≤ l.length →
    Zj5 x y (.int .i64 (i:Int)) H0 H=some (.bool (decide (l.drop i=m.drop i)),H):=by
 have p3:=SS.len hx 9
 intro k
 induction k with
 | zero =>
  intro i hk hi
  have hlt:decide ((i:Int) < (l.length:Int))=false:=by simp;omega
  have e:l.drop i=m.drop i:=by rw [List.drop_eq_nil_iff.2 (by omega),List.drop_eq_nil_iff.2 (by omega)]
  rw [Zo8]
  simp only [go_sem,p3,hlt,ZxO,decide_eq_true e]
 | succ k ih =>
  intro i hk hi
  have hlt:decide ((i:Int) < (l.length:Int))=true:=by simp;omega
  have hw:IntKind.i64.wrap ((i:Int)+1)=((i+1:Nat):Int):=by rw [Zai (by omega) (by omega)];omega
  have h1:=SS.idx hx (List.getElem?_eq_getElem (show i < l.length by omega))
  have h2:=SS.idx hy (List.getElem?_eq_getElem (show i < m.length by omega))
  have hsb:sbin .neq (.str l[i]) (.str m[i])=some (.bool (l[i] != m[i])):=rfl
  rw [Zo8,List.drop_eq_getElem_cons (show i < l.length by omega),List.drop_eq_getElem_cons (show i < m.length by omega)]
  simp only [go_sem,p3,hlt,ZxP,h1,h2,Zan,hsb]
  by_cases he:l[i]=m[i]
  ·have:(l[i] != m[i])=false:=by simp [he]
   simp only [this,go_sem,ZxQ,hw]
   rw [ih (i+1) (by omega) (by omega)]
   have e:decide (l[i] :: l.drop (i+1)=m[i] :: m.drop (i+1))=decide (l.drop (i+1)=m.drop (i+1)):=by
    rw [decide_eq_decide,List.cons.injEq]
    exact ⟨fun h=>h.2,fun h=>⟨he,h⟩⟩
   rw [e]
  ·have:(l[i] != m[i])=true:=by simp [he]
   have e:decide (l[i] :: l.drop (i+1)=m[i] :: m.drop (i+1))=false:=by
    rw [decide_eq_false_iff_not,List.cons.injEq]
    exact fun h=>he h.1
   simp only [this,go_sem,e]
theorem Zsu {x y:AV} {l m:List Str} (hx:SS x l) (hy:SS y m) (hl:l.length≤1048576) (hm:m.length≤1048576) (H:Hp):Za5 Zhb [x,y] H=some (.bool (decide (l=m)),H):=by
 obtain ⟨x1,k1,k2⟩:=SS.closed hx [] 0 4
 obtain ⟨y1,g1,g2⟩:=SS.closed hy [] 0 4
 have p1:=SS.len k2 9
 have p2:=SS.len g2 9
 refine Zdf k1 g1 (H1:=[]) ?_ rfl
 rw [ZyY]
 unfold Zvk
 by_cases hlm:l.length=m.length
 ·have hne:((l.length:Int) != (m.length:Int))=false:=by simp [hlm]
  have:=ZFS k2 g2 hl hlm [] [] l.length 0 rfl (Nat.zero_le _)
  rw [show ((0:Nat):Int)=0 from rfl,List.drop_zero,List.drop_zero] at this
  simp only [go_sem,p1,p2,hne,ZxN,this]
 ·have hne:((l.length:Int) != (m.length:Int))=true:=by simp;omega
  have:¬ l=m:=fun e=>hlm (by rw [e])
  simp only [go_sem,p1,p2,hne,decide_eq_false this]

theorem ZD0:LocOk defL:=⟨by decide,by simp [defL],by simp [defL],by simp [defL],fun c hc=>(by cases hc),fun c hc=>(by cases hc),by simp [defL],by simp [defL]⟩
def foldP:Spec:=⟨[],-1,4,true,false⟩
def exA:List Str:=[[98],[97],[66]]
theorem ex1:Zxf defL plainP exA=[[66],[97],[98]]:=by kernel_rfl
theorem ex2:Zxf defL foldP exA=[[97],[98],[66]]:=by kernel_rfl
theorem ex3:unsS defL plainP [[97],[98],[98],[97]]=3:=by kernel_rfl
theorem ex4:decide (([[66],[97],[98]]:List Str)=[[66],[97],[98]])=true:=rfl
theorem ZE1 (p:Spec) (h:p.keys=[]):SpecAV (.agg (p.cells .nils)) p:=⟨.nils,rfl,.inl ⟨rfl,by rw [h];rfl⟩⟩
theorem ZAq {p:Spec} (h:p.keys=[]):∀ k ∈ p.keys,KeOk k:=fun k hk=>by rw [h] at hk;cases hk
theorem Zsj (l:List Str) (t:Tok):SS (.vs 1 t (l.map AV.str)) l:=.inr ⟨t,rfl⟩
theorem ZIc (H:Hp):Za5 Zes [] H=some (.bool true,H):=by
 suffices hs:∃ H1,Zes [] []=some (.bool true,H1) by
  obtain ⟨H1,hr⟩:=hs
  unfold Za5
  simp only [List.mapM_nil]
  show (match Zes [] [] with | some (v,H1)=>_ | none=>_)=_
  rw [hr]
  rfl
 have hA:Lens exA:=fun s hs=>by
  simp only [exA,List.mem_cons,List.not_mem_nil,or_false] at hs
  rcases hs with rfl | rfl | rfl <;> decide
 have hB:Lens [[97],[98],[98],[97]]:=fun s hs=>by
  simp only [List.mem_cons,List.not_mem_nil,or_false] at hs
  rcases hs with rfl | rfl | rfl | rfl <;> decide
 obtain ⟨d,d1,d2⟩:∃ d,(∀ H,Za5 Zbh [] H=some (d,H))∧LocAV d defL:=by
  obtain ⟨d,d1,d2⟩:=Zk6 []
  refine ⟨d,fun H=>?_,d2⟩
  obtain ⟨d',d3,_⟩:=Zk6 H
  unfold Za5 at d1 d3 ⊢
  simp only [List.mapM_nil] at d1 d3 ⊢
  revert d1 d3
  show (match Zbh [] [] with | some (v,H1)=>(match Za6 H1 0 6 v with | some v=>some (v,_) | none=>none) | none=>none)=_→(match Zbh [] [] with | some (v,H1)=>(match Za6 H1 0 6 v with | some v=>some (v,_) | none=>none) | none=>none)=_→(match Zbh [] [] with | some (v,H1)=>(match Za6 H1 0 6 v with | some v=>some (v,_) | none=>none) | none=>none)=_
  cases Zbh [] [] with
  | none=>intro h;cases h
  | some r =>
   obtain ⟨v,H1⟩:=r
   dsimp only
   cases Za6 H1 0 6 v with
   | none=>intro h;cases h
   | some w =>
    intro h1 h2
    dsimp only at h1 h2 ⊢
    injection h1 with h1
    injection h1 with h1 _
    rw [h1]
 let H2:Hp:=[AObj.cells (plainP.cells .nils),.cells (foldP.cells .nils)]
 obtain ⟨y1,s1,s2⟩:=ZyQ d2 ZD0 (ZE1 plainP rfl) (ZAq rfl) (Zsj exA .clip) hA (by decide) H2
 obtain ⟨y2,s3,s4⟩:=ZyQ d2 ZD0 (ZE1 foldP rfl) (ZAq rfl) (Zsj exA .clip) hA (by decide) H2
 have s5:=ZHG d2 ZD0 (ZE1 plainP rfl) (ZAq rfl) (Zsj [[97],[98],[98],[97]] .clip) hB (by decide) H2
 rw [ex1] at s2
 rw [ex2] at s4
 rw [ex3] at s5
 have s6:=Zsu s2 (Zsj [[66],[97],[98]] .clip) (by decide) (by decide) H2
 have s7:=Zsu s4 (Zsj [[97],[98],[66]] .clip) (by decide) (by decide) H2
 have e7:decide (([[97],[98],[66]]:List Str)=[[97],[98],[66]])=true:=rfl
 rw [ex4] at s6
 rw [e7] at s7
 refine ⟨H2,?_⟩
 have b1:(Zau 1 [(0,(.str [98])),(1,(.str [97])),(2,(.str [66]))] [(.str []),(.str []),(.str [])]).map (AV.vs 1 .clip)=some (.vs 1 .clip (exA.map AV.str)):=rfl
 have b2:(ZbJ [(1,1,(.int .i64 (-1)))] [.nils,(.int .i64 0),(.int .i64 0),(.bool false),(.bool false)]).map AV.agg=some (.agg (plainP.cells .nils)):=rfl
 have b3:(ZbJ [(1,1,(.int .i64 (-1))),(2,1,(.int .i64 4)),(4,1,(.bool true))] [.nils,(.int .i64 0),(.int .i64 0),(.bool false),(.bool false)]).map AV.agg=some (.agg (foldP.cells .nils)):=rfl
 have b4:(Zau 1 [(0,(.str [97])),(1,(.str [98])),(2,(.str [98])),(3,(.str [97]))] [(.str []),(.str []),(.str []),(.str [])]).map (AV.vs 1 .clip)=some (.vs 1 .clip (([[97],[98],[98],[97]]:List Str).map AV.str)):=rfl
 have b5:(Zau 1 [(0,(.str [66])),(1,(.str [97])),(2,(.str [98]))] [(.str []),(.str []),(.str [])]).map (AV.vs 1 .clip)=some (.vs 1 .clip (([[66],[97],[98]]:List Str).map AV.str)):=rfl
 have b6:(Zau 1 [(0,(.str [97])),(1,(.str [98])),(2,(.str [66]))] [(.str []),(.str []),(.str [])]).map (AV.vs 1 .clip)=some (.vs 1 .clip (([[97],[98],[66]]:List Str).map AV.str)):=rfl
 have st1:Zag 5 (.ptr 0 0) (.agg (plainP.cells .nils)) [AObj.cells [.nils,(.int .i64 0),(.int .i64 0),(.bool false),(.bool false)]]=some (.tuple [],[AObj.cells (plainP.cells .nils)]):=by simp [Zag,ZaQ,AV.known,AV.cells,Spec.cells,splice]
 have st2:Zag 5 (.ptr 1 0) (.agg (foldP.cells .nils)) [AObj.cells (plainP.cells .nils),AObj.cells [.nils,(.int .i64 0),(.int .i64 0),(.bool false),(.bool false)]]=some (.tuple [],H2):=by simp [Zag,ZaQ,AV.known,AV.cells,Spec.cells,splice,H2]
 have l0:Za2 true 5 (.ptr 0 0) H2=some (.agg (plainP.cells .nils)):=by simp [Za2,Go.Am.apart,Spec.cells,H2]
 have l1:Za2 true 5 (.ptr 1 0) H2=some (.agg (foldP.cells .nils)):=by simp [Za2,Go.Am.apart,Spec.cells,H2]
 rw [Zxs]
 unfold ZtB
 simp only [b1,b2,b3,b4,b5,b6,go_sem,List.nil_append,List.length_nil,List.length_cons,List.cons_append,Nat.zero_add,st1,st2,d1,l0,l1,s1,s3,s5,s6,s7,beq_self_eq_true]
theorem ZBC {a:AV} {L:Loc} (h:LocAV a L) (H:Hp):∃ b,Za5 ZiS [a] H=some (.bool b,H):=by
 obtain ⟨a1,h1,h2⟩:=h.close [] 0 2
 obtain ⟨lx,c,e,rfl,hlx,hc,he⟩:=h2
 have f1:Za2 false 1 (.ptr 0 (0+1)) [AObj.cells (L.cells lx c e)]=some lx:=Zaq (l:=L.cells lx c e) rfl
 have f2:Za2 false 1 (.ptr 0 (0+2)) [AObj.cells (L.cells lx c e)]=some (.str L.lo):=Zaq (l:=L.cells lx c e) rfl
 have f3:Za2 false 1 (.ptr 0 (0+3)) [AObj.cells (L.cells lx c e)]=some (.str L.up):=Zaq (l:=L.cells lx c e) rfl
 have f4:Za2 false 1 (.ptr 0 (0+4)) [AObj.cells (L.cells lx c e)]=some c:=Zaq (l:=L.cells lx c e) rfl
 have f5:Za2 false 1 (.ptr 0 (0+5)) [AObj.cells (L.cells lx c e)]=some e:=Zaq (l:=L.cells lx c e) rfl
 have n1:=hlx.len 3
 have n4:=hc.len 264
 have n5:=he.len 210
 rw [List.length_map] at n1 n4 n5
 suffices hs:∃ b H1,ZiS [.agg (L.cells lx c e)] []=some (.bool b,H1) by
  obtain ⟨b,H1,hr⟩:=hs
  exact ⟨b,Zcn h1 hr rfl⟩
 rw [Zxr]
 unfold ZtA
 simp only [go_sem,Zb3,List.nil_append,List.length_nil,f1,n1]
 cases decide ((L.w.length:Int)≤300) with
 | false=>exact ⟨false,_,by simp only [go_sem];rfl⟩
 | true =>
  simp only [go_sem,f2,Zat]
  cases decide ((L.lo.length:Int)≤300) with
  | false=>exact ⟨false,_,by simp only [go_sem];rfl⟩
  | true =>
   simp only [go_sem,f3,Zat]
   cases decide ((L.up.length:Int)≤300) with
   | false=>exact ⟨false,_,by simp only [go_sem];rfl⟩
   | true =>
    simp only [go_sem,f4,n4]
    cases decide ((L.cls.length:Int)≤30) with
    | false=>exact ⟨false,_,by simp only [go_sem];rfl⟩
    | true =>
     simp only [go_sem,f5,n5]
     exact ⟨_,_,rfl⟩
theorem ZGR {x : AV} {l : List Str} (hx : SS x l) (hl : l.length ≤ 1048576) (H0 H : Hp) : ∀ (k i : Nat), l.length - i = k → i ≤ l.length →
    ∃ b,ZkI x (.int .i64 (i:Int)) H0 H=some (.bool b,H):=by
 have p3:=SS.len hx 9
 intro k
 induction k with
 | zero =>
  intro i hk hi
  have hlt:decide ((i:Int) < (l.length:Int))=false:=by simp;omega
  exact ⟨true,by rw [ZpP];simp only [go_sem,p3,hlt,Zz4]⟩
 | succ k ih =>
  intro i hk hi
  have hlt:decide ((i:Int) < (l.length:Int))=true:=by simp;omega
  have hw:IntKind.i64.wrap ((i:Int)+1)=((i+1:Nat):Int):=by rw [Zai (by omega) (by omega)];omega
  have h1:=SS.idx hx (List.getElem?_eq_getElem (show i < l.length by omega))
  obtain ⟨b,hb⟩:=ih (i+1) (by omega) (by omega)
  rw [ZpP]
  simp only [go_sem,p3,hlt,Zz5,h1,Zan,Zat]
  cases decide ((40:Int) < (l[i].length:Int)) with
  | true=>exact ⟨false,by simp only [go_sem]⟩
  | false=>exact ⟨b,by simp only [go_sem,Zz6,hw,hb]⟩
theorem ZGQ {a:AV} {L:Loc} (h:LocAV a L) {q:AV} {p:Spec} (hq:SpecAV q p) {x:AV} {l:List Str} (hx:SS x l) (hl:l.length≤1048576) (H:Hp):∃ b,Za5 Zmq [a,q,x] H=some (.bool b,H):=by
 obtain ⟨a1,h1,h2⟩:=h.close [] 0 2
 obtain ⟨q1,g1,g2⟩:=hq.close [] 0 2
 obtain ⟨x1,k1,k2⟩:=SS.closed hx [] 0 4
 have hav:=h2
 obtain ⟨lx,c,e,rfl,hlx,hc,he⟩:=h2
 obtain ⟨xp,rfl,hxp⟩:=g2
 have p3:=SS.len k2 9
 have hl6:=Zf5 L lx c e [.cells (p.cells xp)]
 have f0:Za2 false 1 (.ptr 1 (0+0)) [AObj.cells (L.cells lx c e),.cells (p.cells xp)]=some xp:=Zaq (l:=p.cells xp) rfl
 have n0:=hxp.len 149
 rw [List.length_map] at n0
 obtain ⟨bl,hlight⟩:=ZBC hav [AObj.cells (L.cells lx c e),.cells (p.cells xp)]
 obtain ⟨bf,hfew⟩:=ZGR k2 hl [] [AObj.cells (L.cells lx c e),.cells (p.cells xp)] _ 0 rfl (Nat.zero_le _)
 rw [show ((0:Nat):Int)=0 from rfl] at hfew
 suffices hs:∃ b H1,Zmq [.agg (L.cells lx c e),.agg (p.cells xp),x1] []=some (.bool b,H1) by
  obtain ⟨b,H1,hr⟩:=hs
  exact ⟨b,ZDi h1 g1 k1 hr rfl⟩
 rw [ZzK]
 unfold Zye
 simp only [go_sem,Zb3,List.nil_append,List.length_nil,List.length_cons,List.cons_append,Nat.zero_add,p3]
 cases decide ((30:Int) < (l.length:Int)) with
 | true=>exact ⟨false,_,by simp only [go_sem];rfl⟩
 | false =>
  simp only [go_sem,f0,n0]
  cases decide ((12:Int) < (p.keys.length:Int)) with
  | true=>exact ⟨false,_,by simp only [go_sem];rfl⟩
  | false =>
   simp only [go_sem,hl6,hlight]
   cases bl with
   | false=>exact ⟨false,_,by simp only [go_sem,Bool.not_false];rfl⟩
   | true=>exact ⟨bf,_,by simp only [go_sem,Bool.not_true,Zz3,hfew];rfl⟩
end Go.Am
namespace Go.Am
set_option linter.unusedSimpArgs false
set_option linter.unusedVariables false
set_option linter.unusedSectionVars false

section
variable {α:Type} {f:α→α→Int}
def ZaS (f:α→α→Int):List (List α)→Nat→Option (Nat × α)→Option (Nat × α)
 | [],_,b=>b
 | x :: r,i,b=>ZaS f r (i+1) (match x with
  | []=>b
  | a :: _=>match b with
   | none=>some (i,a)
   | some (j,c)=>if 0 < f c a then some (i,a) else some (j,c))
theorem Zpe (f:α→α→Int) (r:List (List α)) (i:Nat) (b:Option (Nat × α)):ZaS f ([] :: r) i b=ZaS f r (i+1) b:=(Eq.refl _).trans (Eq.refl _)
theorem ZnC (f:α→α→Int) (a:α) (t:List α) (r:List (List α)) (i:Nat):ZaS f ((a :: t) :: r) i none=ZaS f r (i+1) (some (i,a)):=(Eq.refl _).trans (Eq.refl _)
theorem ZnD (f:α→α→Int) (a:α) (t:List α) (r:List (List α)) (i j:Nat) (c:α):ZaS f ((a :: t) :: r) i (some (j,c))=ZaS f r (i+1) (if 0 < f c a then some (i,a) else some (j,c)):=(Eq.refl _).trans (Eq.refl _)
def Zcd (f:α→α→Int):Nat→List (List α)→List α
 | 0,_=>[]
 | n+1,rest=>match ZaS f rest 0 none with
  | none=>[]
  | some (k,a)=>a :: Zcd f n (rest.set k ((rest.getD k []).drop 1))
theorem ZnG {f:α→α→Int} {n:Nat} {rest:List (List α)} (h:ZaS f rest 0 none=none):Zcd f (n+1) rest=[]:=by rw [Zcd,h]
theorem Zje {f:α→α→Int} {n:Nat} {rest:List (List α)} {k:Nat} {a:α} (h:ZaS f rest 0 none=some (k,a)):Zcd f (n+1) rest=a :: Zcd f n (rest.set k ((rest.getD k []).drop 1)):=by rw [Zcd,h]
def Zas:List (List α)→Nat
 | []=>0
 | x :: r=>x.length+Zas r
theorem ZjJ (A B:List (List α)):Zas (A++B)=Zas A+Zas B:=by
 induction A with
 | nil=>simp [Zas]
 | cons x A ih=>simp only [List.cons_append,Zas,ih];omega
theorem ZfC (A:List (List α)):A.flatten.length=Zas A:=by
 induction A with
 | nil=>rfl
 | cons x A ih=>simp [Zas,ih]
theorem ZlN (f : α → α → Int) : ∀ (r P : List (List α)) (b : Option (Nat × α)), (∀ k a, b = some (k, a) → ∃ t, P[k]? = some (a :: t)) → (b = none → ∀ l ∈ P, l = []) →
    (∀ k a,ZaS f r P.length b=some (k,a)→∃ t,(P++r)[k]?=some (a :: t))∧(ZaS f r P.length b=none→∀ l ∈ P++r,l=[]):=by
 intro r
 induction r with
 | nil=>intro P b h1 h2;rw [List.append_nil];exact ⟨h1,h2⟩
 | cons x r ih =>
  intro P b h1 h2
  have grow:∀ b',(∀ k a,b'=some (k,a)→∃ t,(P++[x])[k]?=some (a :: t))→(b'=none→∀ l ∈ P++[x],l=[])→(∀ k a,ZaS f r (P.length+1) b'=some (k,a)→∃ t,(P++x :: r)[k]?=some (a :: t))∧(ZaS f r (P.length+1) b'=none→∀ l ∈ P++x :: r,l=[]):=fun b' g1 g2=>by
   have:=ih (P++[x]) b' g1 g2
   rwa [List.length_append,List.length_singleton,List.append_assoc,List.singleton_append] at this
  have old:∀ k a,b=some (k,a)→∃ t,(P++[x])[k]?=some (a :: t):=fun k a e=>by
   obtain ⟨t,ht⟩:=h1 k a e
   exact ⟨t,by rw [List.getElem?_append_left (List.getElem?_eq_some_iff.1 ht).1];exact ht⟩
  cases x with
  | nil =>
   rw [Zpe]
   refine grow b old fun e l hl=>?_
   rcases List.mem_append.1 hl with hl | hl
   ·exact h2 e l hl
   ·exact List.mem_singleton.1 hl
  | cons a t =>
   have hnew:∀ k a',some (P.length,a)=some (k,a')→∃ t',(P++[a :: t])[k]?=some (a' :: t'):=fun k a' e=>by
    injection e with e
    injection e with e1 e2
    subst e1 e2
    exact ⟨t,by rw [List.getElem?_append_right (Nat.le_refl _)];simp⟩
   cases b with
   | none =>
    rw [ZnC]
    exact grow _ hnew fun e=>(by cases e)
   | some q =>
    obtain ⟨j,c⟩:=q
    rw [ZnD]
    split
    ·exact grow _ hnew fun e=>(by cases e)
    ·exact grow _ old fun e=>(by cases e)
variable (h:Cm f)
include h
end
section
variable {L:Loc} {p:Spec} (hv:Zb4 p=0)
include hv
def Zor (L:Loc) (p:Spec) (ls:List (List Str)):List Str :=
 if p.uniq then Zcp (ZaO L p) [] (Zcd (ZaA L p) (Zas ls) ls) else Zcd (ZaA L p) (Zas ls) ls
end
end Go.Am
namespace Go.Am
open Go.Proofs Go.Proofs.YtehanadfidoodaaGreatDoor
set_option maxRecDepth 100000
abbrev Zhi (ls:List (List Str)):Prop:=∀ l ∈ ls,Lens l
section
variable {H:Type}
theorem ZHz {n:Nat} {d:DataW H} {vals:List AV} (h:TV Tryz.prog n 32 d vals) (hb:Zcl d):∃ (x:AV) (ks:List Str),vals=[x]∧SS x ks∧Lens ks∧ks.length≤Rows.uptoBulk d:=by
 obtain ⟨x,ks,rfl,h1,h2,h3⟩:=ZJ2 h hb
 refine ⟨x,ks,rfl,h1,h2,?_⟩
 rcases h.slice ZAS with ⟨_,e⟩ | ⟨es,sp,l,m,rfl,e,g1,_,_⟩
 ·injection e with e
  subst e
  rcases h1 with ⟨_,h0⟩ | ⟨t,h0⟩
  ·have:ks=[]:=List.map_eq_nil_iff.1 h0
   subst this
   exact Nat.zero_le _
  ·cases h0
 ·injection e with e
  subst e
  rcases h1 with ⟨h0,_⟩ | ⟨t,h0⟩
  ·cases h0
  ·injection h0 with _ _ h0
   have:=congrArg List.length h0
   rw [List.length_map] at this
   have b:=(ZuU es).1
   rw [Rows.uptoBulk]
   omega
theorem pick (m : Nat) : ∀ (l : List AV) (es : List (DataW H)), l.length = es.length → (∀ (i : Nat) (x : AV) (d' : DataW H), l[i]? = some x → es[i]? = some d' → ∃ cs, x = Zc2 (Zb7 Tryz.prog 32) cs ∧ TV Tryz.prog m 32 d' cs) → Rows.uptoBulkAll es ≤ 1048576 →
    ∃ ls:List (List Str),EE l ls∧Zhi ls∧Zas ls≤Rows.uptoBulkAll es:=by
 intro l
 induction l with
 | nil=>intro es _ _ _;exact ⟨[],EE.nil,fun l hl=>(by cases hl),Nat.zero_le _⟩
 | cons x l ih =>
  intro es hl h3 hb
  cases es with
  | nil=>simp at hl
  | cons d es =>
   rw [Rows.uptoBulkAll] at hb
   obtain ⟨cs,e,ht⟩:=h3 0 x d rfl rfl
   obtain ⟨a,ks,rfl,g1,g2,g3⟩:=ZHz ht (show Rows.uptoBulk d≤1048576 by omega)
   rw [ZJ9,Zjf] at e
   subst e
   obtain ⟨ls,i1,i2,i3⟩:=ih es (by simpa using hl) (fun i y d' hy hd=>h3 (i+1) y d' (by simpa using hy) (by simpa using hd)) (by omega)
   refine ⟨ks :: ls,EE.cons g1 i1,fun l hl=>?_,?_⟩
   ·rcases List.mem_cons.1 hl with e | hl
    ·subst e;exact g2
    ·exact i2 l hl
   ·rw [Rows.uptoBulkAll,Zas];omega
theorem ZHg {d:DataW H} {a:AV} (h:AT Tryz.prog 30 d a) (hb:Zcl d):∃ ls:List (List Str),LsV a ls∧Zhi ls∧Zas ls≤1048576∧ls.length≤1048576:=by
 obtain ⟨n,vals,ht,rfl⟩:=h
 rcases ht.slice ZHF with ⟨_,rfl⟩ | ⟨es,sp,l,m,rfl,rfl,h1,_,h3⟩
 ·rw [ZEg,Zjf]
  exact ⟨[],.inl ⟨rfl,rfl⟩,fun l hl=>(by cases hl),Nat.zero_le _,Nat.zero_le _⟩
 ·rw [ZEg,Zjf,ZGy]
  have hb':Rows.uptoBulkAll es≤1048576:=by
   unfold Zcl at hb
   rw [Rows.uptoBulk] at hb
   omega
  have b:=(Zub hb).2
  obtain ⟨ls,i1,i2,i3⟩:=pick m l es h1 h3 hb'
  exact ⟨ls,.inr ⟨.no,l,rfl,i1⟩,i2,by omega,by rw [← i1.len];omega⟩
end
end Go.Am
