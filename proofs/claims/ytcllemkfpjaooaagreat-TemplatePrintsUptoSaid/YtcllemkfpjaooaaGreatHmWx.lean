/-
  THE ABSTRACT MACHINE, part W: functions worked out at given arguments: a text grows with what it calls. Written by program (wip/amw.py).
-/
import Derived.Test.YtcllemkfpjaooaaGreatHmTx
namespace Go.Am

def Gr {α:Type} (a b:Option α):Prop:=∀ r,a=some r→b=some r
section
variable {α β:Type}
theorem le_refl (a:Option α):Gr a a:=fun _ h=>h
theorem le_none (a:Option α):Gr none a:=fun _ h=>by cases h
theorem le_eq {a b c:Option α} (h:Gr a b) (e:c=b):Gr a c:=fun r hr=>e.trans (h r hr)
theorem bC {x x':Option α} {f g:α→Option β} (h:Gr x x') (k:∀ v,Gr (f v) (g v)):Gr (bnd x f) (bnd x' g):=by
 intro r hr
 cases hx:x with
 | none=>rw [hx] at hr;cases hr
 | some v=>rw [hx] at hr;rw [h v hx];exact k v r hr
theorem bR {x:Option α} {f g:α→Option β} (k:∀ v,Gr (f v) (g v)):Gr (bnd x f) (bnd x g):=bC (le_refl x) k
theorem gdv_le {c:AV} {w:Bool} {e:α} {x x':Option α} (h:Gr x x'):Gr (gdv c w e x) (gdv c w e x'):=by
 intro r hr
 unfold gdv at hr ⊢
 split at hr <;> first | (split at hr <;> simp_all [Gr]) | simp_all [Gr]
theorem bG {c:AV} {w:Bool} {e:α} {x x':Option α} {f g:α→Option β} (h:Gr x x') (k:∀ v,Gr (f v) (g v)):Gr (bnd (gdv c w e x) f) (bnd (gdv c w e x') g):=bC (gdv_le h) k
end
theorem bF {a:AV} {H:Hp} {f g:AV→Hp→Res} (k:∀ v H,Gr (f v H) (g v H)):Gr (frzK a H f) (frzK a H g):=k _ _
theorem bK {c:AV} {x y x' y':Res} (h:Gr x x') (k:Gr y y'):Gr (cnd c x y) (cnd c x' y'):=by
 intro r hr
 unfold cnd at hr ⊢
 split at hr
 ·split at hr
  ·rename_i ht;simp only [ht,if_true];exact h r hr
  ·rename_i ht;simp only [ht,if_false,Bool.false_eq_true];exact k r hr
 ·cases hr
theorem flat_le {f g:List AV→Hp→Res} (h:∀ l H,Gr (f l H) (g l H)) (l:List AV) (H:Hp):Gr (flatC f l H) (flatC g l H):=by
 intro r hr
 unfold flatC at hr ⊢
 split at hr
 ·rename_i args1 hm
  split at hr
  ·rename_i v H1 hc
   rw [h _ _ _ hc]
   exact hr
  ·cases hr
 ·cases hr
abbrev A0:=Hp→Res
def L0 (f g:A0):Prop:=∀ (H:Hp),Gr (f H) (g H)
abbrev A1:=AV→Hp→Res
def L1 (f g:A1):Prop:=∀ (a0:AV) (H:Hp),Gr (f a0 H) (g a0 H)
abbrev A2:=AV→AV→Hp→Res
def L2 (f g:A2):Prop:=∀ (a0 a1:AV) (H:Hp),Gr (f a0 a1 H) (g a0 a1 H)
abbrev A3:=AV→AV→AV→Hp→Res
def L3 (f g:A3):Prop:=∀ (a0 a1 a2:AV) (H:Hp),Gr (f a0 a1 a2 H) (g a0 a1 a2 H)
abbrev A4:=AV→AV→AV→AV→Hp→Res
def L4 (f g:A4):Prop:=∀ (a0 a1 a2 a3:AV) (H:Hp),Gr (f a0 a1 a2 a3 H) (g a0 a1 a2 a3 H)
abbrev A5:=AV→AV→AV→AV→AV→Hp→Res
def L5 (f g:A5):Prop:=∀ (a0 a1 a2 a3 a4:AV) (H:Hp),Gr (f a0 a1 a2 a3 a4 H) (g a0 a1 a2 a3 a4 H)
abbrev A6:=AV→AV→AV→AV→AV→AV→Hp→Res
def L6 (f g:A6):Prop:=∀ (a0 a1 a2 a3 a4 a5:AV) (H:Hp),Gr (f a0 a1 a2 a3 a4 a5 H) (g a0 a1 a2 a3 a4 a5 H)
abbrev A7:=AV→AV→AV→AV→AV→AV→AV→Hp→Res
def L7 (f g:A7):Prop:=∀ (a0 a1 a2 a3 a4 a5 a6:AV) (H:Hp),Gr (f a0 a1 a2 a3 a4 a5 a6 H) (g a0 a1 a2 a3 a4 a5 a6 H)
abbrev A8:=AV→AV→AV→AV→AV→AV→AV→AV→Hp→Res
def L8 (f g:A8):Prop:=∀ (a0 a1 a2 a3 a4 a5 a6 a7:AV) (H:Hp),Gr (f a0 a1 a2 a3 a4 a5 a6 a7 H) (g a0 a1 a2 a3 a4 a5 a6 a7 H)
abbrev A10:=AV→AV→AV→AV→AV→AV→AV→AV→AV→AV→Hp→Res
def L10 (f g:A10):Prop:=∀ (a0 a1 a2 a3 a4 a5 a6 a7 a8 a9:AV) (H:Hp),Gr (f a0 a1 a2 a3 a4 a5 a6 a7 a8 a9 H) (g a0 a1 a2 a3 a4 a5 a6 a7 a8 a9 H)
abbrev A11:=AV→AV→AV→AV→AV→AV→AV→AV→AV→AV→AV→Hp→Res
def L11 (f g:A11):Prop:=∀ (a0 a1 a2 a3 a4 a5 a6 a7 a8 a9 a10:AV) (H:Hp),Gr (f a0 a1 a2 a3 a4 a5 a6 a7 a8 a9 a10 H) (g a0 a1 a2 a3 a4 a5 a6 a7 a8 a9 a10 H)
abbrev A12:=AV→AV→AV→AV→AV→AV→AV→AV→AV→AV→AV→AV→Hp→Res
def L12 (f g:A12):Prop:=∀ (a0 a1 a2 a3 a4 a5 a6 a7 a8 a9 a10 a11:AV) (H:Hp),Gr (f a0 a1 a2 a3 a4 a5 a6 a7 a8 a9 a10 a11 H) (g a0 a1 a2 a3 a4 a5 a6 a7 a8 a9 a10 a11 H)
def ofL0 (f:A0) (l:List AV) (H:Hp):Res :=
 match l with
 | []=>f H
 | _=>none
theorem ofL0_le {f:Nat} {C:Cfg} {r:A0} (h:L0 r (fun H=>callw C f [] H)):∀ l H,Gr (ofL0 r l H) (callw C f l H):=by
 intro l H
 unfold ofL0
 split
 ·exact h _
 ·exact le_none _
def ofL1 (f:A1) (l:List AV) (H:Hp):Res :=
 match l with
 | [a0]=>f a0 H
 | _=>none
theorem ofL1_le {f:Nat} {C:Cfg} {r:A1} (h:L1 r (fun a0 H=>callw C f [a0] H)):∀ l H,Gr (ofL1 r l H) (callw C f l H):=by
 intro l H
 unfold ofL1
 split
 ·exact h _ _
 ·exact le_none _
def ofL2 (f:A2) (l:List AV) (H:Hp):Res :=
 match l with
 | [a0,a1]=>f a0 a1 H
 | _=>none
theorem ofL2_le {f:Nat} {C:Cfg} {r:A2} (h:L2 r (fun a0 a1 H=>callw C f [a0,a1] H)):∀ l H,Gr (ofL2 r l H) (callw C f l H):=by
 intro l H
 unfold ofL2
 split
 ·exact h _ _ _
 ·exact le_none _
def ofL3 (f:A3) (l:List AV) (H:Hp):Res :=
 match l with
 | [a0,a1,a2]=>f a0 a1 a2 H
 | _=>none
theorem ofL3_le {f:Nat} {C:Cfg} {r:A3} (h:L3 r (fun a0 a1 a2 H=>callw C f [a0,a1,a2] H)):∀ l H,Gr (ofL3 r l H) (callw C f l H):=by
 intro l H
 unfold ofL3
 split
 ·exact h _ _ _ _
 ·exact le_none _
def LV (f g:AV→List AV→Hp→Res):Prop:=∀ v l H,Gr (f v l H) (g v l H)
def valV (t:Nat→List AV→Hp→Res) (v:AV) (l:List AV) (H:Hp):Res :=
 match v with
 | .fn (.func f) a b=>t f (a++l++b) H
 | _=>none
theorem valV_le {t:Nat→List AV→Hp→Res} {g:AV→List AV→Hp→Res} (h:∀ f a b l H r,t f (a++l++b) H=some r→g (.fn (.func f) a b) l H=some r):LV (valV t) g:=by
 intro v l H r hr
 unfold valV at hr
 split at hr
 ·exact h _ _ _ _ _ _ hr
 ·cases hr
theorem tab_step {f j:Nat} {x y:Res} {r:AV × Hp} {P:Prop} (h:cond (Nat.beq f j) x y=some r) (h1:f=j→x=some r→P) (h2:y=some r→P):P:=by
 cases hb:Nat.beq f j with
 | true=>rw [hb] at h;exact h1 (Nat.eq_of_beq_eq_true hb) h
 | false=>rw [hb] at h;exact h2 h
end Go.Am
