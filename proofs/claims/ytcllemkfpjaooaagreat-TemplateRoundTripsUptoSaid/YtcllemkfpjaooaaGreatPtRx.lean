/-
  Reading and printing replacements: plain law.
-/
import Derived.Test.YtcllemkfpjaooaaGreatPtYx
namespace Go.Am
set_option linter.unusedSimpArgs false
set_option linter.unusedVariables false
set_option maxRecDepth 100000

def lastT (q:Bool) (A:List Pt):Bool:=match A.getLast? with
 | some p=>p.kind == 1
 | none=>q
theorem lastT_snoc (q:Bool) (A:List Pt) (p:Pt):lastT q (A++[p])=(p.kind == 1):=by simp [lastT]
theorem lastT_cons (q:Bool) (p:Pt) (A:List Pt):lastT q (p :: A)=lastT (p.kind == 1) A:=by
 rcases List.eq_nil_or_concat A with rfl | ⟨B,b,rfl⟩
 ·rfl
 ·rw [List.concat_eq_append,← List.cons_append,lastT_snoc,lastT_snoc]
theorem normG_cons (q:Bool) (p:Pt) (l:List Pt):normG q (p :: l)=if ((!isT p && !isG p) || (isT p && q))=true then false else normG (p.kind == 1) l:=(Eq.refl _).trans (Eq.refl _)
theorem normG_app:∀ (A B:List Pt) (q:Bool),normG q (A++B)=(normG q A && normG (lastT q A) B):=by
 intro A
 induction A with
 | nil=>intro B q;rfl
 | cons p A ih =>
  intro B q
  rw [List.cons_append,normG_cons,normG_cons,lastT_cons,ih]
  split
  ·rfl
  ·rfl
theorem normG_one (q:Bool) (p:Pt):normG q [p]=((isT p && !q) || (isG p && !isT p)):=by
 rw [normG_cons]
 cases isT p <;> cases isG p <;> cases q <;> rfl
theorem norm_snoc (out:List Pt) (p:Pt):normP (out++[p])=(normP out && ((isT p && !lastT false out) || (isG p && !isT p))):=by
 unfold normP
 rw [normG_app,normG_one]
def grpOk (g:Int) (l:List Pt):Prop:=∀ p ∈ l,p.kind=2→p.group=0 ∨ p.group≤g
theorem grpOk_app {g:Int} {A B:List Pt} (h1:grpOk g A) (h2:grpOk g B):grpOk g (A++B):=fun p hp hk=>(List.mem_append.1 hp).elim (fun h=>h1 p h hk) (fun h=>h2 p h hk)
theorem norm_addT {out:List Pt} (h:normP out=true) (c:UInt8):normP (addT out [c])=true:=by
 rcases List.eq_nil_or_concat out with rfl | ⟨pre,p,rfl⟩
 ·rfl
 ·rw [List.concat_eq_append] at *
  have h0:=h
  rw [norm_snoc,Bool.and_eq_true] at h
  obtain ⟨h1,h2⟩:=h
  rw [addT_snoc]
  by_cases k1:p.kind=1
  ·have hG:isG p=false:=by simp [isG,k1]
   rw [hG,Bool.false_and,Bool.or_false,Bool.and_eq_true] at h2
   rw [if_pos k1,norm_snoc,h1,h2.2]
   have hT:=h2.1
   unfold isT at hT
   simp only [Bool.and_eq_true,beq_iff_eq,decide_eq_true_eq] at hT
   have:isT ⟨p.kind,p.group,p.text++[c]⟩=true:=by simp [isT,k1,hT.2.2]
   rw [this]
   rfl
  ·have hl:lastT false (pre++[p])=false:=by rw [lastT_snoc];simp [k1]
   rw [if_neg k1,norm_snoc,h0,hl]
   rfl
theorem grpOk_addT {g:Int} {out:List Pt} (h:grpOk g out) (s:List UInt8):grpOk g (addT out s):=by
 rcases List.eq_nil_or_concat out with rfl | ⟨pre,p,rfl⟩
 ·intro q hq hk;rw [addT_nil,List.mem_singleton] at hq;subst hq;cases hk
 ·rw [List.concat_eq_append] at *
  rw [addT_snoc]
  split
  ·intro q hq hk
   rcases List.mem_append.1 hq with hq | hq
   ·exact h q (List.mem_append_left _ hq) hk
   ·rw [List.mem_singleton] at hq;subst hq;exact h p (by simp) hk
  ·exact grpOk_app h (fun q hq hk=>by rw [List.mem_singleton] at hq;subst hq;cases hk)
theorem norm_grp {out:List Pt} (h:normP out=true) {k:Int} (h0:0≤k) (h9:k≤9):normP (out++[⟨2,k,[]⟩])=true:=by
 rw [norm_snoc,h]
 simp [isT,isG,h0,h9]
theorem parse_norm (g : Int) : ∀ (n : Nat) (l : List UInt8) (i : Nat) (out : List Pt), l.length ≤ n → normP out = true → grpOk g out → (parseP g l i out).2.1 = 0 →
    normP (parseP g l i out).1=true∧grpOk g (parseP g l i out).1∧(parseP g l i out).2.2=0:=by
 intro n
 induction n with
 | zero =>
  intro l i out hl h1 h2 h3
  have hl0:l=[]:=List.length_eq_zero_iff.1 (by omega)
  subst hl0
  rw [parseP_nil]
  exact ⟨h1,h2,rfl⟩
 | succ n ih =>
  intro l i out hl h1 h2 h3
  match l,hl,h3 with
  | [],_,_=>rw [parseP_nil];exact ⟨h1,h2,rfl⟩
  | c :: l,hl,h3 =>
   have hl':l.length≤n:=by simpa using hl
   by_cases c1:c=38
   ·subst c1
    rw [parseP_amp] at h3 ⊢
    exact ih _ _ _ hl' (norm_grp h1 (by decide) (by decide)) (grpOk_app h2 (fun q hq _=>by rw [List.mem_singleton] at hq;subst hq;exact .inl rfl)) h3
   ·by_cases c2:c=92
    ·subst c2
     match l,hl',h3 with
     | [],_,h3=>rw [parseP_end] at h3;cases h3
     | d :: l,hl',h3 =>
      have hl2:l.length≤n:=by simp at hl';omega
      rw [parseP_esc] at h3 ⊢
      by_cases dd:48≤d.toNat∧d.toNat≤57
      ·rw [if_pos dd] at h3 ⊢
       by_cases hg:0 < (d.toNat:Int) - 48∧g < (d.toNat:Int) - 48
       ·rw [if_pos hg] at h3;cases h3
       ·rw [if_neg hg] at h3 ⊢
        refine ih _ _ _ hl2 (norm_grp h1 (by omega) (by omega)) (grpOk_app h2 (fun q hq _=>?_)) h3
        rw [List.mem_singleton] at hq
        subst hq
        show (d.toNat:Int) - 48=0 ∨ (d.toNat:Int) - 48≤g
        omega
      ·rw [if_neg dd] at h3 ⊢
       by_cases d1:d=110 ∨ d=10
       ·rw [if_pos d1] at h3 ⊢
        exact ih _ _ _ hl2 (norm_addT h1 _) (grpOk_addT h2 _) h3
       ·rw [if_neg d1] at h3 ⊢
        by_cases d2:d=38 ∨ d=92
        ·rw [if_pos d2] at h3 ⊢
         exact ih _ _ _ hl2 (norm_addT h1 _) (grpOk_addT h2 _) h3
        ·rw [if_neg d2] at h3;cases h3
    ·rw [parseP_plain g c l i out c1 c2] at h3 ⊢
     exact ih _ _ _ hl' (norm_addT h1 _) (grpOk_addT h2 _) h3
theorem parse_escB (g:Int) (c:UInt8) (rest:List UInt8) (i:Nat) (out:List Pt):parseP g (escB c++rest) i out=parseP g rest (i+(escB c).length) (addT out [c]):=by
 unfold escB
 by_cases h:c=38 ∨ c=92
 ·rw [if_pos h]
  have h1:¬ (48≤c.toNat∧c.toNat≤57):=by rcases h with rfl | rfl <;> decide
  have h2:¬ (c=110 ∨ c=10):=by rcases h with rfl | rfl <;> decide
  show parseP g (92 :: c :: rest) i out=_
  rw [parseP_esc,if_neg h1,if_neg h2,if_pos h]
  rfl
 ·rw [if_neg h]
  by_cases h3:c=10
  ·rw [if_pos h3]
   subst h3
   show parseP g (92 :: 110 :: rest) i out=_
   rw [parseP_esc,if_neg (by decide),if_pos (.inl rfl)]
   rfl
  ·rw [if_neg h3]
   exact parseP_plain g c rest i out (fun e=>h (.inl e)) (fun e=>h (.inr e))
theorem parse_escL (g:Int):∀ (t:List UInt8) (rest:List UInt8) (i:Nat) (out:List Pt) (u:List UInt8),parseP g (escL t++rest) i (out++[⟨1,0,u⟩])=parseP g rest (i+(escL t).length) (out++[⟨1,0,u++t⟩]):=by
 intro t
 induction t with
 | nil=>intro rest i out u;simp [escL]
 | cons c t ih =>
  intro rest i out u
  rw [escL_cons,List.append_assoc,parse_escB,addT_snoc,if_pos rfl]
  show parseP g (escL t++rest) (i+(escB c).length) (out++[⟨1,0,u++[c]⟩])=_
  rw [ih,List.length_append,List.append_assoc,Nat.add_assoc]
  rfl
theorem addT_notT {out:List Pt} (h:lastT false out=false) (s:List UInt8):addT out s=out++[⟨1,0,s⟩]:=by
 rcases List.eq_nil_or_concat out with rfl | ⟨pre,p,rfl⟩
 ·rfl
 ·rw [List.concat_eq_append] at *
  rw [lastT_snoc] at h
  rw [addT_snoc,if_neg (by simpa using h)]
theorem dig_nat {k:Int} (h1:1≤k) (h2:k≤9):(UInt8.ofNat (48+k.toNat)).toNat=48+k.toNat:=by
 rw [UInt8.toNat_ofNat_of_lt' (show 48+k.toNat < 256 by omega)]
theorem parse_print (g:Int):∀ (L:List Pt) (i:Nat) (out:List Pt),normG (lastT false out) L=true→grpOk g L→parseP g (printP L) i out=(out++L,0,0):=by
 intro L
 induction L with
 | nil=>intro i out _ _;rw [List.append_nil];exact parseP_nil g i out
 | cons p L ih =>
  intro i out hn hg
  rw [normG_cons] at hn
  have hg':grpOk g L:=fun q hq=>hg q (List.mem_cons_of_mem _ hq)
  split at hn
  ·cases hn
  ·rename_i hc
   simp only [Bool.or_eq_true,Bool.and_eq_true,Bool.not_eq_true',not_or,not_and] at hc
   obtain ⟨hc1,hc2⟩:=hc
   rw [printP_cons]
   have fin:∀ j,parseP g (printP L) j (out++[p])=(out++p :: L,0,0):=fun j=>by
    rw [ih j (out++[p]) (by rw [lastT_snoc];exact hn) hg',List.append_assoc]
    rfl
   by_cases hT:isT p=true
   ·have hl:lastT false out=false:=by simpa using hc2 hT
    have hT2:=hT
    unfold isT at hT2
    simp only [Bool.and_eq_true,beq_iff_eq,decide_eq_true_eq] at hT2
    obtain ⟨k1,t1,g0⟩:=hT2
    have hp:printOne p=escL p.text:=by simp [printOne,k1]
    rw [hp]
    obtain ⟨kk,gg,tt⟩:=p
    simp only at k1 t1 g0
    subst k1 g0
    cases tt with
    | nil=>simp at t1
    | cons c t =>
     show parseP g (escL (c :: t)++printP L) i out=_
     rw [escL_cons,List.append_assoc,parse_escB,addT_notT hl,parse_escL]
     exact fin _
   ·have hT':isT p=false:=by simpa using hT
    have hG:isG p=true:=by simpa using hc1 hT'
    unfold isG at hG
    simp only [Bool.and_eq_true,beq_iff_eq,decide_eq_true_eq] at hG
    obtain ⟨k2,t0,g0,g9⟩:=hG
    have hgo:=hg p (by simp) k2
    obtain ⟨kk,gr,tt⟩:=p
    simp only at k2 t0 g0 g9 hgo
    subst k2 t0
    by_cases z:gr=0
    ·subst z
     show parseP g (38 :: printP L) i out=_
     rw [parseP_amp]
     exact fin _
    ·have h1:1≤gr:=by omega
     have hp:printOne ⟨2,gr,[]⟩=[92,UInt8.ofNat (48+gr.toNat)]:=by simp [printOne,z,h1,g9]
     rw [hp]
     show parseP g (92 :: UInt8.ofNat (48+gr.toNat) :: printP L) i out=_
     have hd:=dig_nat h1 g9
     rw [parseP_esc,hd,if_pos (by omega),if_neg (by omega),show ((48+gr.toNat:Nat):Int) - 48=gr by omega]
     exact fin _
end Go.Am
