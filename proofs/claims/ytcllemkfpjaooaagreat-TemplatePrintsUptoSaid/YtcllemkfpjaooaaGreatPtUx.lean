/-
  The document's way to print.
-/
import Derived.Test.YtcllemkfpjaooaaGreatPtTx
namespace Go.Am
set_option linter.unusedSimpArgs false
set_option linter.unusedVariables false
set_option maxRecDepth 100000

theorem take_drop1 {s:List UInt8} {j:Nat} (h:j < s.length):(s.take (((j+1:Nat):Int)).toNat).drop ((j:Int)).toNat=[s[j]]:=by
 rw [Int.toNat_natCast,Int.toNat_natCast,List.drop_take,show j+1 - j=1 by omega,List.drop_eq_getElem_cons h]
 rfl
theorem slice1 {s:List UInt8} {j:Nat} (h:j < s.length):asliceS (.str s) (some (.int .i64 (j:Int))) (some (.int .i64 ((j+1:Nat):Int))) none=some (.str [s[j]]):=by
 rw [asliceS_lh .i64 .i64 (by omega) (by omega) (by omega),take_drop1 h]
theorem rescaped_loop {s : List UInt8} (hl : s.length ≤ 8000000000000) (H0 H : Hp) : ∀ (k j : Nat) (b : List UInt8), s.length - j = k → j ≤ s.length → b.length + (escL (s.drop j)).length ≤ maxB →
    R16_escaped_L1 (.str s) (.str b) (.int .i64 (j:Int)) H0 H=some (.str (b++escL (s.drop j)),H):=by
 intro k
 induction k with
 | zero =>
  intro j b hk hj hb
  have hlt:decide ((j:Int) < (s.length:Int))=false:=decide_eq_false (by omega)
  have hd:s.drop j=[]:=List.drop_eq_nil_iff.2 (by omega)
  rw [R16_escaped_L1_eq]
  simp only [go_sem,hlt,hd,escL,List.append_nil,R16_escaped_J1_eq]
 | succ k ih =>
  intro j b hk hj hb
  have hlt:decide ((j:Int) < (s.length:Int))=true:=decide_eq_true (by omega)
  have hL:j < s.length:=by omega
  have hd:=List.drop_eq_getElem_cons hL
  have hix:=aindexStr_of (List.getElem?_eq_getElem hL)
  have hs1:=slice1 hL
  rw [hd,escL_cons] at hb
  rw [hd,escL_cons,R16_escaped_L1_eq]
  generalize s[j]=c at *
  rw [List.length_append] at hb
  have step:∀ (y:List UInt8),y=escB c→R16_escaped_J3 (.str s) (.str (b++y)) (.int .i64 (j:Int)) H0 H=some (.str (b++(escB c++escL (s.drop (j+1)))),H):=by
   intro y hy
   subst hy
   rw [R16_escaped_J3_eq]
   simp only [go_sem,wsucc (n:=j) (by omega)]
   rw [ih (j+1) (b++escB c) (by omega) (by omega) (by simp;omega),List.append_assoc]
  have hm:maxB≤9223372036854775000:=by decide
  have ha:∀ (u v:List UInt8),u.length≤maxB+2→v.length≤2→sbin .add (.str u) (.str v)=some (.str (u++v)):=fun u v h1 h2=>sbin_add (by omega)
  simp only [go_sem,hlt,R16_escaped_J2_eq,hix,(u8c c).1]
  by_cases c1:c=38
  ·have e:escB c=[92,c]:=by simp [escB,c1]
   have c1':(c == 38)=true:=by simp [c1]
   simp only [c1',go_sem,wsucc (n:=j) (by omega),hs1,ha b [92] (by omega) (by simp),ha (b++[92]) [c] (by simp;omega) (by simp),List.append_assoc,List.cons_append,List.nil_append]
   exact step _ e.symm
  ·have c1':(c == 38)=false:=by simp [c1]
   simp only [c1',go_sem,(u8c c).2.1]
   by_cases c2:c=92
   ·have e:escB c=[92,c]:=by simp [escB,c2]
    have c2':(c == 92)=true:=by simp [c2]
    simp only [c2',go_sem,wsucc (n:=j) (by omega),hs1,ha b [92] (by omega) (by simp),ha (b++[92]) [c] (by simp;omega) (by simp),List.append_assoc,List.cons_append,List.nil_append]
    exact step _ e.symm
   ·have c2':(c == 92)=false:=by simp [c2]
    simp only [c2',go_sem,(u8c c).2.2]
    by_cases c3:c=10
    ·have e:escB c=[92,110]:=by simp [escB,c3]
     have c3':(c == 10)=true:=by simp [c3]
     simp only [c3',go_sem,ha b [92,110] (by omega) (by simp)]
     exact step _ e.symm
    ·have e:escB c=[c]:=by simp [escB,c1,c2,c3]
     have c3':(c == 10)=false:=by simp [c3]
     simp only [c3',go_sem,wsucc (n:=j) (by omega),hs1,ha b [c] (by omega) (by simp)]
     exact step _ e.symm
theorem rescaped_spec {s:List UInt8} (hl:s.length≤8000000000000) (hb:(escL s).length≤maxB) (H:Hp):C_R16_escaped [.str s] H=some (.str (escL s),H):=by
 rw [F_R16_escaped_eq]
 unfold F_R16_escaped
 have:=rescaped_loop hl H H s.length 0 [] (by omega) (by omega) (by simpa using hb)
 simpa using this
theorem rprint_loop {L : List Pt} {x : AV} {H : Hp} (hx : RdAt H x L) (hb : L.length ≤ 8000000000000) (hbt : ∀ p ∈ L, p.text.length ≤ 8000000000000) (H0 : Hp) : ∀ (k i : Nat) (b : List UInt8), L.length - i = k → i ≤ L.length →
    b.length+(printP (L.drop i)).length≤maxB →
    R16_Print_L1 x (.str b) (.int .i64 (i:Int)) H0 H=some (.str (b++printP (L.drop i)),H):=by
 intro k
 induction k with
 | zero =>
  intro i b hk hi hbl
  have hlt:decide ((i:Int) < (L.length:Int))=false:=decide_eq_false (by omega)
  have hd:L.drop i=[]:=List.drop_eq_nil_iff.2 (by omega)
  rw [R16_Print_L1_eq]
  simp only [go_sem,hx.len,hlt,hd,printP,List.append_nil,R16_Print_J1_eq]
 | succ k ih =>
  intro i b hk hi hbl
  have hlt:decide ((i:Int) < (L.length:Int))=true:=decide_eq_true (by omega)
  have hL:i < L.length:=by omega
  have hd:=List.drop_eq_getElem_cons hL
  have hft:=hbt _ (List.getElem_mem hL)
  obtain ⟨a,a0,a1,a2,q1,q2,q3,q4,q5,q6,q7,_⟩:=hx.idx (List.getElem?_eq_getElem hL)
  rw [hd,printP_cons] at hbl
  rw [hd,printP_cons,R16_Print_L1_eq]
  generalize L[i]=f at *
  rw [List.length_append] at hbl
  have hm:maxB≤9223372036854775000:=by decide
  have ha:∀ (u v:List UInt8),u.length+v.length≤maxB+2→sbin .add (.str u) (.str v)=some (.str (u++v)):=fun u v h1=>sbin_add (by omega)
  have step:∀ (s:List UInt8),s=printOne f→R16_Print_J3 x (.str (b++s)) (.int .i64 (i:Int)) H0 H=some (.str (b++(printOne f++printP (L.drop (i+1)))),H):=by
   intro s hs
   subst hs
   rw [R16_Print_J3_eq]
   simp only [go_sem,wsucc (n:=i) (by omega)]
   rw [ih (i+1) (b++printOne f) (by omega) (by omega) (by simp;omega),List.append_assoc]
  simp only [go_sem,hx.len,hlt,R16_Print_J2_eq,q1,q2,q5]
  by_cases k1:f.kind=1
  ·have e1:(f.kind == 1)=true:=by simp [k1]
   have e:printOne f=escL f.text:=by simp [printOne,k1]
   simp only [e1,go_sem,q1,q4,q7,rescaped_spec hft (by rw [← e];omega) H,ha b (escL f.text) (by rw [← e];omega)]
   exact step _ e.symm
  ·have e1:(f.kind == 1)=false:=by simp [k1]
   simp only [e1,go_sem,q1,q2,q5]
   by_cases k2:f.kind=2
   ·have e2:(f.kind == 2)=true:=by simp [k2]
    simp only [e2,go_sem,q1,q3,q6]
    by_cases g0:f.group=0
    ·have e:printOne f=[38]:=by simp [printOne,k2,g0]
     have eg:(f.group == 0)=true:=by simp [g0]
     simp only [eg,go_sem,ha b [38] (by simp;omega)]
     exact step _ e.symm
    ·have eg:(f.group == 0)=false:=by simp [g0]
     simp only [eg,go_sem,q1,q2,q5,e2,q3,q6]
     by_cases g1:0 < f.group
     ·have eg1:decide (0 < f.group)=true:=decide_eq_true g1
      simp only [eg1,go_sem,q1,q3,q6]
      by_cases g9:f.group≤9
      ·have e:printOne f=[92,UInt8.ofNat (48+f.group.toNat)]:=by simp [printOne,k2,g0,show 1≤f.group by omega,g9]
       have eg9:decide (f.group≤9)=true:=decide_eq_true g9
       simp only [eg9,go_sem,q1,q3,q6,ha b [92] (by simp;omega),dig_u8 (show 1≤f.group by omega) g9,one_byte,rd_one,ha (b++[92]) [UInt8.ofNat (48+f.group.toNat)] (by simp;omega),List.append_assoc,List.cons_append,List.nil_append]
       exact step _ e.symm
      ·have e:printOne f=[]:=by simp [printOne,k2,g0,g9]
       have eg9:decide (f.group≤9)=false:=decide_eq_false g9
       simp only [eg9,go_sem]
       have:=step [] e.symm
       rwa [List.append_nil] at this
     ·have e:printOne f=[]:=by simp [printOne,k2,g0,show ¬ 1≤f.group by omega]
      have eg1:decide (0 < f.group)=false:=decide_eq_false g1
      simp only [eg1,go_sem]
      have:=step [] e.symm
      rwa [List.append_nil] at this
   ·have e2:(f.kind == 2)=false:=by simp [k2]
    have e:printOne f=[]:=by simp [printOne,k1,k2]
    simp only [e2,go_sem,q1,q2,q5]
    have:=step [] e.symm
    rwa [List.append_nil] at this
theorem rprint_spec {L:List Pt} {x:AV} {H:Hp} (hx:RdAt H x L) (hb:L.length≤8000000000000) (hbt:∀ p ∈ L,p.text.length≤8000000000000) (hpl:(printP L).length≤maxB):C_R16_Print [x] H=some (.str (printP L),H):=by
 rw [F_R16_Print_eq]
 unfold F_R16_Print
 have:=rprint_loop hx hb hbt H L.length 0 [] (by omega) (by omega) (by simpa using hpl)
 simpa using this
end Go.Am
