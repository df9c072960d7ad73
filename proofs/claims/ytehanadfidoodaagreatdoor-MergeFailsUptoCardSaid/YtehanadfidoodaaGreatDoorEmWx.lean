/-
  THE ABSTRACT MACHINE, part W: functions worked out at given arguments: a text grows with what it calls. Written by program (wip/amw.py).
-/
import Derived.Test.YtehanadfidoodaaGreatDoorEmSx
namespace Go.Am
def Gr {α:Type}(a b:Option α):Prop:=∀ r,a=some r→b=some r
section
variable {α β:Type}
theorem le_refl (a:Option α):Gr a a:=fun _ h=>h
theorem Ib (a:Option α):Gr none a:=fun _ h=>by cases h
theorem VR {a b c:Option α}(h:Gr a b)(e:c=b):Gr a c:=fun r hr=>e.trans (h r hr)
theorem bC {x x':Option α}{f g:α→Option β}(h:Gr x x')(k:∀ v,Gr (f v) (g v)):Gr (Z0 x f) (Z0 x' g):=by
 intro r hr
 cases hx:x with
 |none=>rw[hx]at hr;cases hr
 |some v=>rw[hx]at hr;rw[h v hx];exact k v r hr
theorem bR {x:Option α}{f g:α→Option β}(k:∀ v,Gr (f v) (g v)):Gr (Z0 x f) (Z0 x g):=bC (le_refl x) k
end
theorem bK {c:AV}{x y x' y':Z3}(h:Gr x x')(k:Gr y y'):Gr (Zl c x y) (Zl c x' y'):=by
 intro r hr
 unfold Zl at hr ⊢
 split at hr
 ·split at hr
  ·rename_i ht;simp only[ht,if_true];exact h r hr
  ·rename_i ht;simp only[ht,if_false,Bool.false_eq_true];exact k r hr
 ·cases hr
theorem ZpM {f g:List AV→Hp→Z3}(h:∀ l H,Gr (f l H) (g l H))(l:List AV)(H:Hp):Gr (Ze f l H) (Ze g l H):=by
 intro r hr
 unfold Ze at hr ⊢
 split at hr
 ·rename_i args1 hm
  split at hr
  ·rename_i v H1 hc
   rw[h _ _ _ hc]
   exact hr
  ·cases hr
 ·cases hr
abbrev A0:=Hp→Z3
def L0 (f g:A0):Prop:=∀ (H:Hp),Gr (f H) (g H)
abbrev A1:=AV→Hp→Z3
def L1 (f g:A1):Prop:=∀ (a0:AV) (H:Hp),Gr (f a0 H) (g a0 H)
abbrev A2:=AV→AV→Hp→Z3
def L2 (f g:A2):Prop:=∀ (a0 a1:AV) (H:Hp),Gr (f a0 a1 H) (g a0 a1 H)
abbrev A3:=AV→AV→AV→Hp→Z3
def L3 (f g:A3):Prop:=∀ (a0 a1 a2:AV) (H:Hp),Gr (f a0 a1 a2 H) (g a0 a1 a2 H)
abbrev A4:=AV→AV→AV→AV→Hp→Z3
def L4 (f g:A4):Prop:=∀ (a0 a1 a2 a3:AV) (H:Hp),Gr (f a0 a1 a2 a3 H) (g a0 a1 a2 a3 H)
abbrev A5:=AV→AV→AV→AV→AV→Hp→Z3
def L5 (f g:A5):Prop:=∀ (a0 a1 a2 a3 a4:AV) (H:Hp),Gr (f a0 a1 a2 a3 a4 H) (g a0 a1 a2 a3 a4 H)
abbrev A6:=AV→AV→AV→AV→AV→AV→Hp→Z3
def L6 (f g:A6):Prop:=∀ (a0 a1 a2 a3 a4 a5:AV) (H:Hp),Gr (f a0 a1 a2 a3 a4 a5 H) (g a0 a1 a2 a3 a4 a5 H)
abbrev A7:=AV→AV→AV→AV→AV→AV→AV→Hp→Z3
def L7 (f g:A7):Prop:=∀ (a0 a1 a2 a3 a4 a5 a6:AV) (H:Hp),Gr (f a0 a1 a2 a3 a4 a5 a6 H) (g a0 a1 a2 a3 a4 a5 a6 H)
abbrev A12:=AV→AV→AV→AV→AV→AV→AV→AV→AV→AV→AV→AV→Hp→Z3
def Zsu (f:A0)(l:List AV)(H:Hp):Z3 :=
 match l with
 |[]=>f H
 |_=>none
def Zsv (f:A1)(l:List AV)(H:Hp):Z3 :=
 match l with
 |[a0]=>f a0 H
 |_=>none
def Zoj (f:A3)(l:List AV)(H:Hp):Z3 :=
 match l with
 |[a0,a1,a2]=>f a0 a1 a2 H
 |_=>none
theorem Zq9 {f:Nat}{C:Cfg}{r:A3}(h:L3 r (fun a0 a1 a2 H=>Za C f [a0,a1,a2] H)):∀ l H,Gr (Zoj r l H) (Za C f l H):=by
 intro l H
 unfold Zoj
 split
 ·exact h _ _ _ _
 ·exact Ib _
end Go.Am
