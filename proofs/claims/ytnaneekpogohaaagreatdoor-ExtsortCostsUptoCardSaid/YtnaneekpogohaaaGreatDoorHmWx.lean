/-
  THE ABSTRACT MACHINE, part W: functions worked out at given arguments: a text grows with what it calls. Written by program (wip/amw.py).
-/
import Derived.Test.YtnaneekpogohaaaGreatDoorHmSx
namespace Go.Am

def Gr {α:Type} (a b:Option α):Prop:=∀ r,a=some r→b=some r
section
variable {α β:Type}
theorem le_refl (a:Option α):Gr a a:=fun _ h=>h
theorem le_none (a:Option α):Gr none a:=fun _ h=>by cases h
theorem bC {x x':Option α} {f g:α→Option β} (h:Gr x x') (k:∀ v,Gr (f v) (g v)):Gr (bnd x f) (bnd x' g):=by
 intro r hr
 cases hx:x with
 | none=>rw [hx] at hr;cases hr
 | some v=>rw [hx] at hr;rw [h v hx];exact k v r hr
theorem bR {x:Option α} {f g:α→Option β} (k:∀ v,Gr (f v) (g v)):Gr (bnd x f) (bnd x g):=bC (le_refl x) k
theorem gdv_le {c:AV} {w:Bool} {e:α} {x x':Option α} (h:Gr x x'):Gr (gdv c w e x) (gdv c w e x'):=by
 intro r hr
 unfold gdv at hr ⊢
 split at hr <;> first | (split at hr <;> simp_all [Gr]) | simp_all [Gr]
end
theorem bF {a:AV} {H:Hp} {f g:AV→Hp→Res} (k:∀ v H,Gr (f v H) (g v H)):Gr (frzK a H f) (frzK a H g):=k _ _
theorem flat_le {f g:List AV→Hp→Res} (h:∀ l H,Gr (f l H) (g l H)) (l:List AV) (H:Hp):Gr (flatC f l H) (flatC g l H):=by
 intro r hr
 unfold flatC at hr ⊢
 split at hr
 ·rename_i args1 hm
  split at hr
  ·rename_i v H1 hc
   rw [h _ _ _ hc]
   exact hr
  ·cases hr
 ·cases hr
theorem ro_le {f g:List AV→Hp→Res} (h:∀ l H,Gr (f l H) (g l H)) (l:List AV) (H:Hp):Gr (roC f l H) (roC g l H):=by
 intro r hr
 unfold roC at hr ⊢
 split at hr
 ·rename_i v H1 hc
  rw [h _ _ _ hc]
  exact hr
 ·cases hr
end Go.Am
