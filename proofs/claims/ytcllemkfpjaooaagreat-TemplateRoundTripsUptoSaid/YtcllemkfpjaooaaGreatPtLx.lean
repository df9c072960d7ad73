/-
  The statements about replacements: reading, printing, and both.
-/
import Derived.Test.YtcllemkfpjaooaaGreatPtRx
import Derived.Test.YtcllemkfpjaooaaGreatPtVx
namespace Go.Am
set_option linter.unusedSimpArgs false
set_option linter.unusedVariables false
set_option maxRecDepth 100000

theorem parse_len (g:Int):∀ (n:Nat) (l:List UInt8) (i:Nat) (out:List Pt),l.length≤n→(parseP g l i out).1.length≤out.length+l.length:=by
 intro n
 induction n with
 | zero =>
  intro l i out hl
  have hl0:l=[]:=List.length_eq_zero_iff.1 (by omega)
  subst hl0
  rw [parseP_nil]
  simp
 | succ n ih =>
  intro l i out hl
  match l,hl with
  | [],_=>rw [parseP_nil];simp
  | c :: l,hl =>
   have hl':l.length≤n:=by simpa using hl
   have ha:=addT_len out
   by_cases c1:c=38
   ·subst c1
    rw [parseP_amp]
    have:=ih l (i+1) (out++[⟨2,0,[]⟩]) hl'
    simp at this ⊢;omega
   ·by_cases c2:c=92
    ·subst c2
     match l,hl' with
     | [],_=>rw [parseP_end];simp
     | d :: l,hl' =>
      have hl2:l.length≤n:=by simp at hl';omega
      rw [parseP_esc]
      have h1:=ih l (i+2) (out++[⟨2,(d.toNat:Int) - 48,[]⟩]) hl2
      have h2:=ih l (i+2) (addT out [10]) hl2
      have h3:=ih l (i+2) (addT out [d]) hl2
      have ha1:=ha [10]
      have ha2:=ha [d]
      simp at h1
      split
      ·split
       ·simp
       ·simp;omega
      ·split
       ·simp;omega
       ·split
        ·simp;omega
        ·simp
    ·rw [parseP_plain g c l i out c1 c2]
     have:=ih l (i+1) (addT out [c]) hl'
     have ha1:=ha [c]
     simp;omega
theorem parse_text (g:Int):∀ (n:Nat) (l:List UInt8) (i:Nat) (out:List Pt) (m:Nat),l.length≤n→(∀ p ∈ out,p.text.length≤m)→∀ p ∈ (parseP g l i out).1,p.text.length≤m+l.length:=by
 intro n
 induction n with
 | zero =>
  intro l i out m hl h
  have hl0:l=[]:=List.length_eq_zero_iff.1 (by omega)
  subst hl0
  rw [parseP_nil]
  intro p hp;have:=h p hp;omega
 | succ n ih =>
  intro l i out m hl h
  match l,hl with
  | [],_=>rw [parseP_nil];intro p hp;have:=h p hp;omega
  | c :: l,hl =>
   have hl':l.length≤n:=by simpa using hl
   have hg:∀ k:Int,∀ p ∈ out++[⟨2,k,[]⟩],p.text.length≤m:=fun k p hp=>by
    rcases List.mem_append.1 hp with hp | hp
    ·exact h p hp
    ·rw [List.mem_singleton] at hp;subst hp;simp
   have ha:∀ b:UInt8,∀ p ∈ addT out [b],p.text.length≤m+1:=fun b=>addT_text out [b] m h
   by_cases c1:c=38
   ·subst c1
    rw [parseP_amp]
    intro p hp
    have:=ih l (i+1) _ m hl' (hg 0) p hp
    simp;omega
   ·by_cases c2:c=92
    ·subst c2
     match l,hl' with
     | [],_=>rw [parseP_end];intro p hp;cases hp
     | d :: l,hl' =>
      have hl2:l.length≤n:=by simp at hl';omega
      rw [parseP_esc]
      have h1:=ih l (i+2) _ m hl2 (hg ((d.toNat:Int) - 48))
      have h2:=ih l (i+2) _ (m+1) hl2 (ha 10)
      have h3:=ih l (i+2) _ (m+1) hl2 (ha d)
      intro p hp
      simp only [List.length_cons]
      split at hp
      ·split at hp
       ·cases hp
       ·have:=h1 p hp;omega
      ·split at hp
       ·have:=h2 p hp;omega
       ·split at hp
        ·have:=h3 p hp;omega
        ·cases hp
    ·rw [parseP_plain g c l i out c1 c2]
     intro p hp
     have:=ih l (i+1) _ (m+1) hl' (ha c) p hp
     simp;omega
theorem escL_len (l:List UInt8):(escL l).length≤2 * l.length:=by
 induction l with
 | nil=>simp [escL]
 | cons c l ih =>
  rw [escL_cons,List.length_append,List.length_cons]
  have:(escB c).length≤2:=by unfold escB;split <;> (try split) <;> simp
  omega
theorem printOne_len (p:Pt):(printOne p).length≤2 * p.text.length+2:=by
 unfold printOne
 split
 ·simp
 ·split
  ·simp
  ·split
   ·have:=escL_len p.text;omega
   ·simp
theorem printP_len {L:List Pt} (h:∀ p ∈ L,p.text.length≤1048576):(printP L).length≤L.length * 2097154:=by
 induction L with
 | nil=>simp [printP]
 | cons p L ih =>
  rw [printP_cons,List.length_append,List.length_cons]
  have h1:=printOne_len p
  have h2:=h p (by simp)
  have h3:=ih fun q hq=>h q (List.mem_cons_of_mem _ hq)
  omega
theorem RdAt.sl {x:AV} {L:List Pt} (h:x=.nils∧L=[] ∨ ∃ t,x=.vs 3 t (L.map ptV)) (H:Hp):RdAt H x L:=h.imp id Or.inl
theorem RoundTrips_law {x : AV} {L : List Pt} {s : List UInt8} (hx : x = .nils ∧ L = [] ∨ ∃ t, x = .vs 3 t (L.map ptV)) (hL : L.length ≤ 1048576) (ht : ∀ p ∈ L, p.text.length ≤ 1048576) (hs : s.length ≤ 1048576) (g : Int)
    (H:Hp) (awake:∀ H,flatC C_L16_awake [] H=some (.bool true,H)) :
    ∃ H',C_L16_TemplateRoundTrips [x,.str s,.int .i64 g] H=some (.bool true,H'):=by
 have hm:maxB=140737488355328:=rfl
 have hpl:=printP_len ht
 have ht':∀ p ∈ L,p.text.length≤8000000000000:=fun p hp=>by have:=ht p hp;omega
 -- the second half
 have half:∀ (H0 H:Hp),∃ H',L16_TemplateRoundTrips_J1 x H0 H=some (.bool true,H'):=by
  intro H0 H
  have hn:=norm_spec (RdAt.sl hx H) (by omega)
  rw [L16_TemplateRoundTrips_J1_eq]
  simp only [hn,go_sem]
  by_cases hN:normP L=true
  ·have hg : grpOk 9 L := by
      intro p hp hk
      have:∀ (L:List Pt) (q:Bool),normG q L=true→∀ p ∈ L,p.kind=2→p.group≤9:=by
       intro L
       induction L with
       | nil=>intro q _ p hp;cases hp
       | cons z L ih =>
        intro q hn p hp hk
        rw [normG_cons] at hn
        split at hn
        ·cases hn
        ·rename_i hc
         rcases List.mem_cons.1 hp with rfl | hp
         ·simp only [Bool.or_eq_true,Bool.and_eq_true,Bool.not_eq_true',not_or,not_and] at hc
          have hT:isT p=false:=by simp [isT,hk]
          have hG:isG p=true:=by simpa using hc.1 hT
          unfold isG at hG
          simp only [Bool.and_eq_true,beq_iff_eq,decide_eq_true_eq] at hG
          exact hG.2.2.2
         ·exact ih _ hn p hp hk
      exact .inr (this L false hN p hp hk)
   obtain ⟨H1,a1,a2⟩:=print_spec (RdAt.sl hx H) (by omega) ht' (by omega)
   obtain ⟨b,H2,r1,r2,r3,r4⟩:=parse_spec (g:=9) (s:=printP L) (by omega) H1
   have hpp:parseP 9 (printP L) 0 []=(L,0,0):=parse_print 9 L 0 [] hN hg
   rw [hpp] at r1 r2
   have hsm:=same_spec (L:=L) r2.rd (RdAt.sl hx H2) (by omega)
   have e0:((0:Int) == 0)=true:=rfl
   simp only [hN,Bool.not_true,go_sem,L16_TemplateRoundTrips_J2_eq,a1,r1,List.getElem?_cons_zero,List.getElem?_cons_succ,e0,hsm,decide_true,awake]
   exact ⟨_,rfl⟩
  ·have hN':normP L=false:=by simpa using hN
   simp only [hN',Bool.not_false,go_sem,awake]
   exact ⟨_,rfl⟩
 obtain ⟨a,H1,r1,r2,r3,r4⟩:=parse_spec (g:=g) (s:=s) (by omega) H
 rw [F_L16_TemplateRoundTrips_eq]
 unfold F_L16_TemplateRoundTrips
 simp only [r1,go_sem,List.getElem?_cons_zero,List.getElem?_cons_succ]
 by_cases he:(parseP g s 0 []).2.1=0
 ·have e1:((parseP g s 0 []).2.1 == 0)=true:=by simp [he]
  obtain ⟨hN,hG,_⟩:=parse_norm g s.length s 0 [] (Nat.le_refl _) rfl (fun p hp=>by cases hp) he
  have hlen:=parse_len g s.length s 0 [] (Nat.le_refl _)
  have htx:=parse_text g s.length s 0 [] 0 (Nat.le_refl _) (by simp)
  simp at hlen htx
  generalize hA:(parseP g s 0 []).1=A at *
  have htx':∀ p ∈ A,p.text.length≤1048576:=fun p hp=>by have:=htx p hp;omega
  have hpa:=printP_len htx'
  obtain ⟨H2,a1,a2⟩:=print_spec r2.rd (by omega) (fun p hp=>by have:=htx' p hp;omega) (by omega)
  obtain ⟨b,H3,q1,q2,q3,q4⟩:=parse_spec (g:=g) (s:=printP A) (by omega) H2
  have hpp:parseP g (printP A) 0 []=(A,0,0):=parse_print g A 0 [] hN hG
  rw [hpp] at q1 q2
  have ha3:RdAt H3 a A:=(r2.rd.kept a2 (by simp)).kept q3 (by simp)
  have hsm:=same_spec ha3 q2.rd (by omega)
  have hn:=norm_spec ha3 (by omega)
  have e0:((0:Int) != 0)=false:=rfl
  simp only [e1,go_sem,a1,q1,List.getElem?_cons_zero,List.getElem?_cons_succ,e0,hsm,decide_true,Bool.not_true,hn,hN]
  exact half _ _
 ·have e1:((parseP g s 0 []).2.1 == 0)=false:=by simp [he]
  simp only [e1,go_sem]
  exact half _ _
end Go.Am
