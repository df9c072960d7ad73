/- THE ABSTRACT MACHINE -/
import Derived.Test.YtnaneekpogohaaaGreatDoorHmSx
namespace Go.Am
def Gr {α:Type}(a b:Option α):Prop:=∀ r,a=some r->b=some r
section
variable {α β:Type}
theorem le_refl (a:Option α):Gr a a:=fun _ h=>h
theorem ZyK (a:Option α):Gr none a:=fun _ h=>by cases h
theorem bC {x w:Option α}{f g:α->Option β}(h:Gr x w)(k:∀ v,Gr (f v) (g v)):Gr (Z0 x f) (Z0 w g):=by
 intro r j
 cases u:x with
 |none=>rw[u]at j;cases j
 |some v=>rw[u]at j;rw[h v u];exact k v r j
theorem bR {x:Option α}{f g:α->Option β}(k:∀ v,Gr (f v) (g v)):Gr (Z0 x f) (Z0 x g):=bC (le_refl x) k
theorem ZzF {c:AV}{w:Bool}{e:α}{x j:Option α}(h:Gr x j):Gr (Z8 c w e x) (Z8 c w e j):=by
 intro r g;unfold Z8 at g ⊢;split at g <;> first|(split at g <;> simp_all [Gr])|simp_all [Gr]
end
theorem bF {a:AV}{H:Hp}{f g:AV->Hp->Z4}(k:∀ v H,Gr (f v H) (g v H)):Gr (XG a H f) (XG a H g):=k _ _
theorem Zyt {f g:List AV->Hp->Z4}(h:∀ l H,Gr (f l H) (g l H))(l:List AV)(H:Hp):Gr (Ze f l H) (Ze g l H):=by
 intro r j;unfold Ze at j ⊢;split at j
 ·rename_i u y;split at j
  ·rename_i v H1 w;rw[h _ _ _ w];exact j
  ·cases j
 ·cases j
theorem ZAs {f g:List AV->Hp->Z4}(h:∀ l H,Gr (f l H) (g l H))(l:List AV)(H:Hp):Gr (QW f l H) (QW g l H):=by
 intro r j;unfold QW at j ⊢;split at j
 ·rename_i v H1 u;rw[h _ _ _ u];exact j
 ·cases j
abbrev A1:=AV->Hp->Z4
abbrev A2:=AV->AV->Hp->Z4
abbrev A3:=AV->AV->AV->Hp->Z4
abbrev A4:=AV->AV->AV->AV->Hp->Z4
abbrev A5:=AV->AV->AV->AV->AV->Hp->Z4
abbrev A6:=AV->AV->AV->AV->AV->AV->Hp->Z4
abbrev A7:=AV->AV->AV->AV->AV->AV->AV->Hp->Z4
end Go.Am
