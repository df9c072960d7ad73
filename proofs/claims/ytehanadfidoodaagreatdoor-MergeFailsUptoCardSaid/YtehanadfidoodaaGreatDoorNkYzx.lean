/-
  The arguments of the statements about orders of lines.
-/
import Derived.Test.YtehanadfidoodaaGreatDoorNkMzx
import Derived.Test.YtehanadfidoodaaGreatDoorEmXx
import Derived.Test.YtehanadfidoodaaGreatDoorRows
namespace Go.Am
open Go.Proofs Go.Proofs.YtehanadfidoodaaGreatDoor
set_option linter.unusedVariables false
set_option maxRecDepth 100000
theorem ZpY:laidOutB Tryz.prog=true:=by kernel_rfl
theorem own:ownKnob Tryz.prog.godebug=none:=by kernel_rfl
def argTypes:List Nat:=[3,4,9,22,23,24,26,27,29,32,30,149,210,61,260,262,264]
theorem Zgm:argTypes.all (JS Tryz.prog argTypes)=true:=by kernel_rfl
theorem JX:Tryz.prog.underlying 3=some (.int .i64):=by kernel_rfl
theorem ZhF:Tryz.prog.underlying 4=some .bool:=by kernel_rfl
theorem TD:Tryz.prog.underlying 9=some .string:=by kernel_rfl
theorem ZoN:Tryz.prog.underlying 22=some (.slice 3):=by kernel_rfl
theorem ZoO:Tryz.prog.underlying 23=some (.slice 264):=by kernel_rfl
theorem ZoP:Tryz.prog.underlying 24=some (.slice 210):=by kernel_rfl
theorem ZoQ:Tryz.prog.underlying 27=some (.slice 149):=by kernel_rfl
theorem Zg3:Tryz.prog.underlying 32=some (.slice 9):=by kernel_rfl
theorem ZoR:Tryz.prog.underlying 30=some (.slice 32):=by kernel_rfl
theorem Sq:Tryz.prog.underlying 61=some (.int .u64):=by kernel_rfl
theorem Zms:Tryz.prog.underlying 260=some (.array 4 61):=by kernel_rfl
theorem ZiI:VP Tryz.prog 149=some [3,3,3,3,3]:=by kernel_rfl
theorem ZkY:VP Tryz.prog 29=some [27,3,3,4,4]:=by kernel_rfl
theorem ZkX:VP Tryz.prog 26=some [9,22,9,9,23,24]:=by kernel_rfl
theorem ZiJ:VP Tryz.prog 210=some [9,3]:=by kernel_rfl
theorem ZiL:VP Tryz.prog 264=some [9,262]:=by kernel_rfl
theorem ZiK:VP Tryz.prog 262=some [260]:=by kernel_rfl
theorem ZrE:YT Tryz.prog 3=false:=by kernel_rfl
theorem ZrF:YT Tryz.prog 9=false:=by kernel_rfl
theorem ZqE:YT Tryz.prog 26=true:=by kernel_rfl
theorem ZqF:YT Tryz.prog 29=true:=by kernel_rfl
theorem ZqG:YT Tryz.prog 32=false:=by kernel_rfl
theorem Zk8:YT Tryz.prog 30=false:=by kernel_rfl
theorem Zph:YT Tryz.prog 149=true:=by kernel_rfl
theorem Zpi:YT Tryz.prog 210=true:=by kernel_rfl
theorem Zpj:YT Tryz.prog 264=true:=by kernel_rfl
theorem Zpy:Tryz.prog.cellsOf 3=1:=by kernel_rfl
theorem Zpz:Tryz.prog.cellsOf 9=1:=by kernel_rfl
theorem Zn9:Tryz.prog.cellsOf 32=1:=by kernel_rfl
theorem Zkr:Tryz.prog.cellsOf 149=5:=by kernel_rfl
theorem Zks:Tryz.prog.cellsOf 210=2:=by kernel_rfl
theorem Zkt:Tryz.prog.cellsOf 264=5:=by kernel_rfl
theorem Fm (v:AV):Wd false [v]=v:=(Eq.refl _).trans (Eq.refl _)
theorem Zq0 {α:Type}{f:α→AV}{q:α→Prop}:∀ l:List AV,(∀ x∈l,∃ k,q k∧x=f k)→∃ ks:List α,l=ks.map f∧∀ k∈ks,q k:=by
 intro l
 induction l with
 |nil=>intro _;exact⟨[],rfl,by simp⟩
 |cons x l ih =>
  intro h
  obtain⟨k,h1,h2⟩:=h x (by simp)
  obtain⟨ks,h3,h4⟩:=ih (fun y hy=>h y (by simp[hy]))
  exact⟨k::ks,by simp[h2,h3],by simpa[h1]using h4⟩
theorem Zoe {l:List AV}{α:Type}{es:List α}(hl:l.length=es.length){x:AV}(hx:x∈l):∃ (i:Nat) (d:α),l[i]?=some x∧es[i]?=some d:=by
 obtain⟨i,hi⟩:=List.getElem?_of_mem hx
 have:i<es.length:=by rw[←hl];exact Zf hi
 exact⟨i,es[i],hi,List.getElem?_eq_getElem this⟩
theorem ZlK {α:Type}{l:List α}(h:l.length=1):∃ a,l=[a]:=match l,h with|[a],_=>⟨a,rfl⟩
theorem Zc2 {α:Type}{l:List α}(h:l.length=2):∃ a b,l=[a,b]:=match l,h with|[a,b],_=>⟨a,b,rfl⟩
theorem Zhk {α:Type}{l:List α}(h:l.length=4):∃ a b c d,l=[a,b,c,d]:=match l,h with|[a,b,c,d],_=>⟨a,b,c,d,rfl⟩
theorem I7 {α:Type}{l:List α}(h:l.length=5):∃ a b c d e,l=[a,b,c,d,e]:=match l,h with|[a,b,c,d,e],_=>⟨a,b,c,d,e,rfl⟩
theorem Zmc {α:Type}{l:List α}(h:l.length=6):∃ a b c d e f,l=[a,b,c,d,e,f]:=match l,h with|[a,b,c,d,e,f],_=>⟨a,b,c,d,e,f,rfl⟩
theorem ZjT {n:Int}(h:(Lit.int .i64 n).wf=true):-9223372036854775808≤n∧n≤9223372036854775807:=by
 have e1:IntKind.i64.min=-9223372036854775808:=by decide
 have e2:IntKind.i64.max=9223372036854775807:=by decide
 simp only[Lit.wf,e1,e2,Bool.and_eq_true,decide_eq_true_eq]at h
 exact h
section
variable {H:Type}
theorem Zn3 (d:DataW H):1≤Rows.uptoBulk d:=by
 cases d with
 |lit l=>cases l <;> simp[Rows.uptoBulk]
 |_=>simp[Rows.uptoBulk]
theorem OF (es:List (DataW H)):es.length≤Rows.uptoBulkAll es∧∀ d∈es,Rows.uptoBulk d≤Rows.uptoBulkAll es:=by
 induction es with
 |nil=>exact⟨Nat.zero_le _,by simp⟩
 |cons x es ih =>
  have hp:=Zn3 x
  have e:Rows.uptoBulkAll (x::es)=Rows.uptoBulk x+Rows.uptoBulkAll es:=by rw[Rows.uptoBulkAll]
  rw[e]
  refine⟨by simp only[List.length_cons];omega,fun d hd=>?_⟩
  rcases List.mem_cons.1 hd with rfl|hd
  ·omega
  ·have:=ih.2 d hd
   omega
abbrev Ww (d:DataW H):Prop:=Rows.uptoBulk d≤1048576
theorem VY {ds:List (DataW H)}(h:Ww (.agg ds)){i:Nat}{d:DataW H}(hi:ds[i]?=some d):Ww d:=by
 unfold Ww at h ⊢
 rw[Rows.uptoBulk]at h
 have:=(OF ds).2 d (List.mem_of_getElem? hi)
 omega
theorem Od {es sp:List (DataW H)}(h:Ww (.slice es sp)):(∀ d∈es,Ww d)∧es.length≤1048576:=by
 unfold Ww at h ⊢
 rw[Rows.uptoBulk]at h
 obtain⟨h1,h2⟩:=OF es
 exact⟨fun d hd=>by have:=h2 d hd;omega,by omega⟩
theorem B3 {s:List UInt8}(h:Ww (.lit (.string s):DataW H)):s.length≤1048576:=by
 unfold Ww at h
 rw[Rows.uptoBulk]at h
 omega
theorem LB {α:Type}{f:α→AV}{q:α→Prop}{t e k:Nat}(hu:Tryz.prog.underlying t=some (.slice e))(hc:Tryz.prog.cellsOf e=k)
 (hf:∀ (m:Nat) (d':DataW H) (cs:List AV),TV Tryz.prog m e d' cs→Ww d'→∃ y,q y∧Wd (YT Tryz.prog e) cs=f y) {n:Nat} {d:DataW H} {vals:List AV} (h:TV Tryz.prog n t d vals) (hb:Ww d) :
 ∃ (x:AV) (ks:List α),vals=[x]∧Sl k x (ks.map f)∧(∀ y∈ks,q y)∧ks.length≤1048576:=by
 rcases h.slice hu with ⟨_,rfl⟩|⟨es,sp,l,m,rfl,rfl,h1,_,h3⟩
 ·exact⟨.nils,[],rfl,.inl ⟨rfl,rfl⟩,by simp,by simp⟩
 ·obtain⟨b1,b2⟩:=Od hb
  obtain⟨ks,h4,h5⟩:=Zq0 (f:=f) (q:=q) l (fun x hx=>by
   obtain⟨i,d',g1,g2⟩:=Zoe h1 hx
   obtain⟨cs,e,ht⟩:=h3 i x d' g1 g2
   obtain⟨y,hy,e2⟩:=hf m d' cs ht (b1 _ (List.mem_of_getElem? g2))
   exact⟨y,hy,by rw[e,e2]⟩)
  subst h4
  rw[hc]
  rw[List.length_map]at h1
  exact⟨_,ks,rfl,.inr ⟨_,rfl⟩,h5,by omega⟩
theorem ZpW {n:Nat}{d:DataW H}{vals:List AV}(h:TV Tryz.prog n 22 d vals)(hb:Ww d):∃ (x:AV) (ks:List Int),vals=[x]∧Sl 1 x (ks.map (AV.int .i64))∧(∀ k∈ks,True)∧ks.length≤1048576 :=
 LB ZoN Zpy (fun m d' cs ht hb=>by
  obtain⟨y,_,rfl,_⟩:=ht.int JX
  exact⟨y,trivial,by rw[ZrE];rfl⟩) h hb
theorem Zqv {n:Nat}{d:DataW H}{vals:List AV}(h:TV Tryz.prog n 32 d vals)(hb:Ww d):∃ (x:AV) (ks:List Zj),vals=[x]∧Sl 1 x (ks.map AV.str)∧(∀ k∈ks,k.length≤1048576)∧ks.length≤1048576 :=
 LB (f:=AV.str) (q:=fun s:Zj=>s.length≤1048576) Zg3 Zpz (fun m d' cs ht hb=>by
  obtain⟨s,es,rfl,_⟩:=ht.str TD
  rw[es]at hb
  have hs:s.length≤1048576:=B3 hb
  exact⟨s,hs,by rw[ZrF,Fm]⟩) h hb
end
end Go.Am
