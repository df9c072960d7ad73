/-
  The statements about replacements: reading, printing, and both.
-/
import Derived.Test.YtcllemkfpjaooaaGreatPtYx
import Derived.Test.YtcllemkfpjaooaaGreatPtVx
namespace Go.Am
set_option linter.unusedSimpArgs false
set_option linter.unusedVariables false
set_option maxRecDepth 100000

theorem parse_len (g:Int):∀ (n:Nat) (l:List UInt8) (i:Nat) (out:List Pt),l.length≤n→(parseP g l i out).1.length≤out.length+l.length:=by
 intro n
 induction n with
 | zero =>
  intro l i out hl
  have hl0:l=[]:=List.length_eq_zero_iff.1 (by omega)
  subst hl0
  rw [parseP_nil]
  simp
 | succ n ih =>
  intro l i out hl
  match l,hl with
  | [],_=>rw [parseP_nil];simp
  | c :: l,hl =>
   have hl':l.length≤n:=by simpa using hl
   have ha:=addT_len out
   by_cases c1:c=38
   ·subst c1
    rw [parseP_amp]
    have:=ih l (i+1) (out++[⟨2,0,[]⟩]) hl'
    simp at this ⊢;omega
   ·by_cases c2:c=92
    ·subst c2
     match l,hl' with
     | [],_=>rw [parseP_end];simp
     | d :: l,hl' =>
      have hl2:l.length≤n:=by simp at hl';omega
      rw [parseP_esc]
      have h1:=ih l (i+2) (out++[⟨2,(d.toNat:Int) - 48,[]⟩]) hl2
      have h2:=ih l (i+2) (addT out [10]) hl2
      have h3:=ih l (i+2) (addT out [d]) hl2
      have ha1:=ha [10]
      have ha2:=ha [d]
      simp at h1
      split
      ·split
       ·simp
       ·simp;omega
      ·split
       ·simp;omega
       ·split
        ·simp;omega
        ·simp
    ·rw [parseP_plain g c l i out c1 c2]
     have:=ih l (i+1) (addT out [c]) hl'
     have ha1:=ha [c]
     simp;omega
theorem Parses_law {s : List UInt8} (hs : s.length ≤ 1048576) (g : Int) (H : Hp) (awake : ∀ H, flatC C_L16_awake [] H = some (.bool true, H)) :
    ∃ H',C_L16_TemplateParses [.str s,.int .i64 g] H=some (.bool true,H'):=by
 obtain ⟨x,H1,r1,r2,r3,r4⟩:=parse_spec (g:=g) (s:=s) (by omega) H
 obtain ⟨y,H2,q1,q2,q3,q4⟩:=rparse_spec (g:=g) (s:=s) (by omega) H1
 have hx:RdAt H2 x (parseP g s 0 []).1:=r2.rd.kept q3 (by simp)
 have hlen:(parseP g s 0 []).1.length≤8000000000000:=by
  have h1:=parse_len g s.length s 0 [] (Nat.le_refl _)
  simp at h1
  omega
 have hsm:=same_spec hx q2.rd hlen
 rw [F_L16_TemplateParses_eq]
 unfold F_L16_TemplateParses
 have e1:((parseP g s 0 []).2.1 == (parseP g s 0 []).2.1)=true:=by simp
 have e2:((parseP g s 0 []).2.2 == (parseP g s 0 []).2.2)=true:=by simp
 simp only [r1,q1,go_sem,List.getElem?_cons_zero,List.getElem?_cons_succ,hsm,decide_true,e1,e2,awake]
 exact ⟨_,rfl⟩
theorem RdAt.sl {x:AV} {L:List Pt} (h:x=.nils∧L=[] ∨ ∃ t,x=.vs 3 t (L.map ptV)) (H:Hp):RdAt H x L:=h.imp id Or.inl
end Go.Am
