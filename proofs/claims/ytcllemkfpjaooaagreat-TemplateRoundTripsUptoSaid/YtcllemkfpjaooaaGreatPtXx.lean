/-
  Reading a replacement, the program's way.
-/
import Derived.Test.YtcllemkfpjaooaaGreatPtWx
namespace Go.Am
set_option linter.unusedSimpArgs false
set_option linter.unusedVariables false
set_option maxRecDepth 100000

theorem PS.out {H H':Hp} {out:List Pt} (h:PS H out H'):∃ v,aload false 1 (.ptr H.length 0) H'=some v∧RowAt H' v out∧(∀ a ∈ rowA v,H.length < a)∧Kpt [] H H':=by
 obtain ⟨v,h1,h2,h3,h4,_⟩:=h
 exact ⟨v,by rw [aload_of h1];rfl,h2,h3,h4⟩
theorem u8d (d:UInt8):((d.toNat:Int) == 110)=(d == 110)∧((d.toNat:Int) == 10)=(d == 10)∧((d.toNat:Int) == 38)=(d == 38)∧((d.toNat:Int) == 92)=(d == 92) :=
 ⟨u8eq d 110 (by decide),u8eq d 10 (by decide),u8eq d 38 (by decide),u8eq d 92 (by decide)⟩
theorem u8sub {n:Nat} (h1:48≤n) (h2:n≤57):IntKind.u8.wrap ((n:Int) - 48)=(n:Int) - 48:=by
 unfold IntKind.wrap
 have e1:(2 ^ IntKind.u8.bits:Int)=256:=by decide
 have e3:IntKind.u8.signed=false:=rfl
 simp only [e1,e3,Bool.false_and,Bool.false_eq_true,if_false]
 omega
theorem cv64 {n:Int} (h1:0≤n) (h2:n≤1000):cvInt .i64 (.int .u8 n)=some (.int .i64 n):=by simp [cvInt,wrap64 (show -9223372036854775808≤n by omega) (by omega)]
def PRes (H:Hp) (r:List Pt × Int × Int) (res:Res):Prop:=∃ x H',res=some (.tuple [x,.int .i64 r.2.1,.int .i64 r.2.2],H')∧RowAt H' x r.1∧Kpt [] H H'∧∀ a ∈ rowA x,H.length≤a
theorem parse_loop {s : List UInt8} {g : Int} {H : Hp} (hs : s.length ≤ 4199999999990) (H0 : Hp) : ∀ (k i : Nat) (out : List Pt) (H' : Hp), s.length - i ≤ k → i ≤ s.length →
    PS H out H'→out.length≤i→(∀ p ∈ out,p.text.length≤i) →
    PRes H (parseP g (s.drop i) i out) (template_Parse_L1 (.str s) (.int .i64 g) (.ptr H.length 0) (.fn (.func 19) [] [.ptr H.length 0]) (.int .i64 (i:Int)) H0 H'):=by
 intro k
 induction k with
 | zero =>
  intro i out H' hk hi hp hl ht
  have hlt:decide ((i:Int) < (s.length:Int))=false:=decide_eq_false (by omega)
  have hd:s.drop i=[]:=List.drop_eq_nil_iff.2 (by omega)
  obtain ⟨v,r1,r2,r3,r4⟩:=hp.out
  rw [template_Parse_L1_eq]
  simp only [go_sem,hlt,hd,parseP_nil,template_Parse_J1_eq,r1]
  exact ⟨v,H',rfl,r2,r4,fun a ha=>Nat.le_of_lt (r3 a ha)⟩
 | succ k ih =>
  intro i out H' hk hi hp hl ht
  by_cases hL:i < s.length
  ·have hlt:decide ((i:Int) < (s.length:Int))=true:=decide_eq_true (by omega)
   have hd:=List.drop_eq_getElem_cons hL
   have hix:=aindexStr_of (List.getElem?_eq_getElem hL)
   have e38:((s[i].toNat:Int) == 38)=(s[i] == 38):=(u8d s[i]).2.2.1
   have ene:((s[i].toNat:Int) != 92)=!(s[i] == 92):=u8ne s[i]
   -- on to the next byte
   have next : ∀ (out' : List Pt) (H2 : Hp), PS H out' H2 → out'.length ≤ i + 1 → (∀ p ∈ out', p.text.length ≤ i + 1) →
       PRes H (parseP g (s.drop (i+1)) (i+1) out') (template_Parse_J3 (.str s) (.int .i64 g) (.ptr H.length 0) (.fn (.func 19) [] [.ptr H.length 0]) (.int .i64 (i:Int)) H0 H2):=by
    intro out' H2 h1 h2 h3
    rw [template_Parse_J3_eq]
    simp only [go_sem,wsucc (n:=i) (by omega)]
    exact ih (i+1) out' H2 (by omega) (by omega) h1 h2 h3
   rw [hd,template_Parse_L1_eq]
   simp only [go_sem,hlt,template_Parse_J2_eq,hix,e38]
   generalize s[i]=c at *
   by_cases c1:c=38
   ·subst c1
    obtain ⟨v,x',H1,H2,r1,r2,r3,r4,r5⟩:=hp.app ⟨2,0,[]⟩ (by omega)
    have e1:((afill [(0,1,(.int .i64 2))] [(.int .i64 0),(.int .i64 0),(.str [])]).map AV.agg)=some (.agg (ptC ⟨2,0,[]⟩)):=rfl
    have e2:((setElems 3 [(0,.agg (ptC ⟨2,0,[]⟩))] [(.agg [(.int .i64 0),(.int .i64 0),(.str [])])]).map (AV.vs 3 .clip))=some (.vs 3 .clip [.agg (ptC ⟨2,0,[]⟩)]):=rfl
    have ec:((38:UInt8) == 38)=true:=rfl
    simp only [ec,go_sem,r1,e1,e2,r3,r4,parseP_amp]
    refine next _ _ r5 (by simp;omega) fun p hp=>?_
    rcases List.mem_append.1 hp with h | h
    ·have:=ht p h;omega
    ·rw [List.mem_singleton] at h;subst h;simp
   ·have c1':(c == 38)=false:=by simp [c1]
    simp only [c1',go_sem,template_Parse_J4_eq,ene]
    by_cases c2:c=92
    ·subst c2
     have ec:(!((92:UInt8) == 92))=false:=rfl
     simp only [ec,go_sem,template_Parse_J5_eq,wsucc (n:=i) (by omega)]
     by_cases hL2:i+1 < s.length
     ·have hge:decide ((s.length:Int)≤((i+1:Nat):Int))=false:=decide_eq_false (by omega)
      have hd2:=List.drop_eq_getElem_cons hL2
      have hix2:=aindexStr_of (List.getElem?_eq_getElem hL2)
      have u:=u8d s[i+1]
      rw [hd2,parseP_esc]
      simp only [hge,go_sem,template_Parse_J6_eq,wsucc (n:=i) (by omega),hix2]
      generalize s[i+1]=d at *
      -- on to the byte after the next
      have next2 : ∀ (out' : List Pt) (H2 : Hp), PS H out' H2 → out'.length ≤ i + 2 → (∀ p ∈ out', p.text.length ≤ i + 2) →
          PRes H (parseP g (s.drop (i+1+1)) (i+2) out') (template_Parse_J7 (.str s) (.int .i64 g) (.ptr H.length 0) (.fn (.func 19) [] [.ptr H.length 0]) (.int .i64 (i:Int)) H0 H2):=by
       intro out' H2 h1 h2 h3
       rw [template_Parse_J7_eq]
       simp only [go_sem,wsucc (n:=i) (by omega),template_Parse_J3_eq,wsucc (n:=i+1) (by omega)]
       exact ih (i+2) out' H2 (by omega) (by omega) h1 h2 h3
      have ht1:∀ p ∈ out,p.text.length≤i+1:=fun p hp=>by have:=ht p hp;omega
      have callT:∀ b:UInt8,∃ H2,acall cfg (callw cfg) (.fn (.func 19) [] [.ptr H.length 0]) [.int .u8 (b.toNat:Int)] H'=some (.tuple [],H2)∧PS H (addT out [b]) H2 :=
       fun b=>closure_spec hp b (by omega) (fun p hp=>by have:=ht p hp;omega)
      have okT:∀ (b:UInt8) (H2:Hp),PS H (addT out [b]) H2→PRes H (parseP g (s.drop (i+1+1)) (i+2) (addT out [b])) (template_Parse_J7 (.str s) (.int .i64 g) (.ptr H.length 0) (.fn (.func 19) [] [.ptr H.length 0]) (.int .i64 (i:Int)) H0 H2) :=
       fun b H2 h=>next2 _ H2 h (by have:=addT_len out [b];omega) (fun p hp=>by have:=addT_text out [b] i ht p hp;simp at this;omega)
      have bad:PRes H ([],1,(i:Int)) (some (.tuple [.nils,.int .i64 1,.int .i64 (i:Int)],H')):=by
       obtain ⟨v,_,_,_,r4⟩:=hp.out
       exact ⟨.nils,H',rfl,.inl ⟨rfl,rfl⟩,r4,fun a ha=>by cases ha⟩
      by_cases dd:48≤d.toNat∧d.toNat≤57
      ·obtain ⟨d1,d2⟩:=dd
       have e1:decide ((48:Int)≤(d.toNat:Int))=true:=decide_eq_true (by omega)
       have e2:decide ((d.toNat:Int)≤57)=true:=decide_eq_true (by omega)
       simp only [e1,go_sem]
       rw [if_pos ⟨d1,d2⟩]
       simp only [e2,go_sem,u8sub d1 d2,cv64 (n:=(d.toNat:Int) - 48) (by omega) (by omega)]
       have more : ¬(0 < (d.toNat : Int) - 48 ∧ g < (d.toNat : Int) - 48) → PRes H (if 0 < (d.toNat : Int) - 48 ∧ g < (d.toNat : Int) - 48 then ([], 2, (i : Int)) else parseP g (s.drop (i + 1 + 1)) (i + 2) (out ++ [⟨2, (d.toNat : Int) - 48, []⟩]))
           (template_Parse_J8 (.str s) (.int .i64 g) (.ptr H.length 0) (.fn (.func 19) [] [.ptr H.length 0]) (.int .i64 (i:Int)) (.int .i64 ((d.toNat:Int) - 48)) H0 H'):=by
        intro hn
        rw [if_neg hn]
        obtain ⟨v,x',H1,H2,r1,r2,r3,r4,r5⟩:=hp.app ⟨2,(d.toNat:Int) - 48,[]⟩ (by omega)
        have f1:((afill [(0,1,(.int .i64 2)),(1,1,.int .i64 ((d.toNat:Int) - 48))] [(.int .i64 0),(.int .i64 0),(.str [])]).map AV.agg)=some (.agg (ptC ⟨2,(d.toNat:Int) - 48,[]⟩)):=rfl
        have f2:((setElems 3 [(0,.agg (ptC ⟨2,(d.toNat:Int) - 48,[]⟩))] [(.agg [(.int .i64 0),(.int .i64 0),(.str [])])]).map (AV.vs 3 .clip))=some (.vs 3 .clip [.agg (ptC ⟨2,(d.toNat:Int) - 48,[]⟩)]):=rfl
        rw [template_Parse_J8_eq]
        simp only [go_sem,r1,f1,f2,r3,r4]
        refine next2 _ _ r5 (by simp;omega) fun p hp=>?_
        rcases List.mem_append.1 hp with h | h
        ·have:=ht p h;omega
        ·rw [List.mem_singleton] at h;subst h;simp
       by_cases k1:0 < (d.toNat:Int) - 48
       ·have f1:decide (0 < (d.toNat:Int) - 48)=true:=decide_eq_true k1
        simp only [f1,go_sem]
        by_cases k2:g < (d.toNat:Int) - 48
        ·have f2:decide (g < (d.toNat:Int) - 48)=true:=decide_eq_true k2
         rw [if_pos ⟨k1,k2⟩]
         simp only [f2,go_sem]
         obtain ⟨v,_,_,_,r4⟩:=hp.out
         exact ⟨.nils,H',rfl,.inl ⟨rfl,rfl⟩,r4,fun a ha=>by cases ha⟩
        ·have f2:decide (g < (d.toNat:Int) - 48)=false:=decide_eq_false k2
         simp only [f2,go_sem]
         exact more fun h=>k2 h.2
       ·have f1:decide (0 < (d.toNat:Int) - 48)=false:=decide_eq_false k1
        simp only [f1,go_sem]
        exact more fun h=>k1 h.1
      ·rw [if_neg dd]
       have hf:decide ((48:Int)≤(d.toNat:Int))=false ∨ decide ((48:Int)≤(d.toNat:Int))=true∧decide ((d.toNat:Int)≤57)=false:=by
        by_cases h:48≤d.toNat
        ·exact .inr ⟨decide_eq_true (by omega),decide_eq_false (fun h2=>dd ⟨h,by omega⟩)⟩
        ·exact .inl (decide_eq_false (by omega))
       rcases hf with e1 | ⟨e1,e2⟩
       all_goals first | simp only [e1,e2,go_sem,u.1] | simp only [e1,go_sem,u.1]
       all_goals
        by_cases n1:d=110
        ·have en:(d == 110)=true:=by simp [n1]
         obtain ⟨H2,r1,r2⟩:=callT 10
         rw [show (((10:UInt8).toNat:Nat):Int)=10 from rfl] at r1
         rw [if_pos (.inl n1)]
         simp only [en,go_sem,r1]
         exact okT 10 H2 r2
        ·have en:(d == 110)=false:=by simp [n1]
         simp only [en,go_sem,u.2.1]
         by_cases n2:d=10
         ·have en2:(d == 10)=true:=by simp [n2]
          obtain ⟨H2,r1,r2⟩:=callT 10
          rw [show (((10:UInt8).toNat:Nat):Int)=10 from rfl] at r1
          rw [if_pos (.inr n2)]
          simp only [en2,go_sem,r1]
          exact okT 10 H2 r2
         ·have en2:(d == 10)=false:=by simp [n2]
          rw [if_neg (fun h=>h.elim n1 n2)]
          simp only [en2,go_sem,u.2.2.1]
          obtain ⟨H2,r1,r2⟩:=callT d
          by_cases n3:d=38
          ·have en3:(d == 38)=true:=by simp [n3]
           rw [if_pos (.inl n3)]
           simp only [en3,go_sem,r1]
           exact okT d H2 r2
          ·have en3:(d == 38)=false:=by simp [n3]
           simp only [en3,go_sem,u.2.2.2]
           by_cases n4:d=92
           ·have en4:(d == 92)=true:=by simp [n4]
            rw [if_pos (.inr n4)]
            simp only [en4,go_sem,r1]
            exact okT d H2 r2
           ·have en4:(d == 92)=false:=by simp [n4]
            rw [if_neg (fun h=>h.elim n3 n4)]
            simp only [en4,go_sem]
            exact bad
     ·have hge:decide ((s.length:Int)≤((i+1:Nat):Int))=true:=decide_eq_true (by omega)
      have hd2:s.drop (i+1)=[]:=List.drop_eq_nil_iff.2 (by omega)
      rw [hd2,parseP_end]
      simp only [hge,go_sem]
      obtain ⟨v,_,_,_,r4⟩:=hp.out
      exact ⟨.nils,H',rfl,.inl ⟨rfl,rfl⟩,r4,fun a ha=>by cases ha⟩
    ·have ec:(!(c == 92))=true:=by simp [c2]
     rw [parseP_plain g c _ _ _ c1 c2]
     obtain ⟨H2,r1,r2⟩:=closure_spec hp c (by omega) (fun p hp=>by have:=ht p hp;omega)
     simp only [ec,go_sem,r1]
     exact next _ _ r2 (by have:=addT_len out [c];omega) (fun p hp=>by have:=addT_text out [c] i ht p hp;simpa using this)
  ·have hlt:decide ((i:Int) < (s.length:Int))=false:=decide_eq_false (by omega)
   have hd:s.drop i=[]:=List.drop_eq_nil_iff.2 (by omega)
   obtain ⟨v,r1,r2,r3,r4⟩:=hp.out
   rw [template_Parse_L1_eq]
   simp only [go_sem,hlt,hd,parseP_nil,template_Parse_J1_eq,r1]
   exact ⟨v,H',rfl,r2,r4,fun a ha=>Nat.le_of_lt (r3 a ha)⟩
theorem parse_spec {s:List UInt8} {g:Int} (hs:s.length≤4199999999990) (H:Hp):PRes H (parseP g s 0 []) (C_template_Parse [.str s,.int .i64 g] H):=by
 have hps:PS H [] (H++[.cells [.nils]]):=⟨.nils,by simp,.inl ⟨rfl,rfl⟩,(fun a ha=>by cases ha),Kpt.push _ _ _,rfl,rfl⟩
 have:=parse_loop (g:=g) hs H s.length 0 [] _ (by omega) (by omega) hps (by simp) (by simp)
 rw [F_template_Parse_eq]
 unfold F_template_Parse
 simp only [go_sem]
 exact this
end Go.Am
