/-
  Printing replacements, both ways.
-/
import Derived.Test.YtcllemkfpjaooaaGreatPtSx
namespace Go.Am
set_option linter.unusedSimpArgs false
set_option linter.unusedVariables false
set_option maxRecDepth 100000

theorem text_run {H:Hp} {o:Nat} {b s:List UInt8} (h:H[o]?=some (.bld 66 5 b)) (hl:b.length+s.length≤maxB):textE.run [.ptr o 0,.str s] H=some (.tuple [.int .i64 s.length,.nili],H.set o (.bld 66 5 (b++s))):=by
 show bldRun bldT bldU textM [.ptr o 0,.str s] H=_
 simp [bldRun,textM,h,bldF,bldT,bldU,hl]
theorem byte_run {H:Hp} {o:Nat} {b:List UInt8} {c:Int} (h:H[o]?=some (.bld 66 5 b)) (h0:0≤c∧c < 256) (hl:b.length+1≤maxB):byteE.run [.ptr o 0,.int .u8 c] H=some (.nili,H.set o (.bld 66 5 (b++[UInt8.ofNat c.toNat]))):=by
 show bldRun bldT bldU byteM [.ptr o 0,.int .u8 c] H=_
 simp [bldRun,byteM,h,bldF,bldT,bldU,hl,h0]
theorem string_run {H:Hp} {o:Nat} {b:List UInt8} (h:H[o]?=some (.bld 66 5 b)):stringE.run [.ptr o 0] H=some (.str b,H.set o (.bld 66 5 b)):=by
 show bldRun bldT bldU stringM [.ptr o 0] H=_
 simp [bldRun,stringM,h,bldF,bldT,bldU]
theorem set_same {H:Hp} {o:Nat} {x:AObj} (h:H[o]?=some x):H.set o x=H:=by
 apply List.ext_getElem?
 intro i
 by_cases hi:i=o
 ·subst hi;rw [get_set_eq x h,h]
 ·rw [List.getElem?_set_ne (Ne.symm hi)]
theorem one_byte (c:Int):((setElems 1 [(0,.int .u8 c)] [(.int .u8 0)]).map (AV.vs 1 .clip))=some (.vs 1 .clip [.int .u8 c]):=rfl
theorem rd_one (c:UInt8) (t:Tok) (H:Hp):cvRd (.vs 1 t [.int .u8 (c.toNat:Int)]) H=some (.str [c]):=by
 have h:cvOfBytes (.vs 1 t [.int .u8 (c.toNat:Int)])=some (.str [c]):=cvOf_map t [c]
 unfold cvRd
 rw [h]
theorem new_part (Hc:Hp) (f:Pt):astoreU 3 (.ptr Hc.length 0) (.agg (ptC f)) (Hc++[AObj.cells [(.int .i64 0),(.int .i64 0),(.str [])]])=some (.tuple [],Hc++[.cells (ptC f)]):=by
 rw [astore_of (sz:=3) (v:=.agg (ptC f)) (l:=[(.int .i64 0),(.int .i64 0),(.str [])]) (by simp) rfl rfl (by simp)]
 simp [splice,AV.cells,ptC]
theorem ld0 {H:Hp} {q:Nat} {f:Pt} (h:H[q]?=some (.cells (ptC f))):aload false 1 (.ptr q (0+0)) H=some (.int .i64 f.kind):=by rw [aload_of h];rfl
theorem ld1 {H:Hp} {q:Nat} {f:Pt} (h:H[q]?=some (.cells (ptC f))):aload false 1 (.ptr q (0+1)) H=some (.int .i64 f.group):=by rw [aload_of h];rfl
theorem ld2 {H:Hp} {q:Nat} {f:Pt} (h:H[q]?=some (.cells (ptC f))):aload false 1 (.ptr q (0+2)) H=some (.str f.text):=by rw [aload_of h];rfl
def escB (c:UInt8):List UInt8:=if c=38 ∨ c=92 then [92,c] else if c=10 then [92,110] else [c]
def escL:List UInt8→List UInt8
 | []=>[]
 | c :: l=>escB c++escL l
def printOne (p:Pt):List UInt8 :=
 if p.kind=2∧p.group=0 then [38] else if p.kind=2∧1≤p.group∧p.group≤9 then [92,UInt8.ofNat (48+p.group.toNat)] else if p.kind=1 then escL p.text else []
def printP:List Pt→List UInt8
 | []=>[]
 | p :: l=>printOne p++printP l
theorem escL_cons (c:UInt8) (l:List UInt8):escL (c :: l)=escB c++escL l:=(Eq.refl _).trans (Eq.refl _)
theorem printP_cons (p:Pt) (l:List Pt):printP (p :: l)=printOne p++printP l:=(Eq.refl _).trans (Eq.refl _)
theorem u8c (c:UInt8):((c.toNat:Int) == 38)=(c == 38)∧((c.toNat:Int) == 92)=(c == 92)∧((c.toNat:Int) == 10)=(c == 10) :=
 ⟨u8eq c 38 (by decide),u8eq c 92 (by decide),u8eq c 10 (by decide)⟩
theorem ofB (c:UInt8):UInt8.ofNat ((c.toNat:Int)).toNat=c:=by simp
theorem esc_loop {f : Pt} {o q : Nat} (hl : f.text.length ≤ 8000000000000) (hq : q ≠ o) (x8 x9 x10 : AV) (H0 : Hp) : ∀ (k j : Nat) (b : List UInt8) (Hc : Hp), f.text.length - j = k → j ≤ f.text.length →
    Hc[o]?=some (.bld 66 5 b)→Hc[q]?=some (.cells (ptC f))→b.length+(escL (f.text.drop j)).length≤maxB →
    template_Print_L2 (.ptr o 0) (.ptr q 0) x8 x9 x10 (.int .i64 (f.text.length:Int)) (.int .i64 (j:Int)) H0 Hc=template_Print_J3 (.ptr o 0) x8 x9 x10 H0 (Hc.set o (.bld 66 5 (b++escL (f.text.drop j)))):=by
 intro k
 induction k with
 | zero =>
  intro j b Hc hk hj ho hc hb
  have hlt:decide ((j:Int) < (f.text.length:Int))=false:=decide_eq_false (by omega)
  have hd:f.text.drop j=[]:=List.drop_eq_nil_iff.2 (by omega)
  rw [template_Print_L2_eq]
  simp only [go_sem,hlt,hd,escL,List.append_nil,set_same ho]
 | succ k ih =>
  intro j b Hc hk hj ho hc hb
  have hlt:decide ((j:Int) < (f.text.length:Int))=true:=decide_eq_true (by omega)
  have hL:j < f.text.length:=by omega
  have hd:=List.drop_eq_getElem_cons hL
  have hix:=aindexStr_of (List.getElem?_eq_getElem hL)
  rw [hd,escL_cons] at hb
  rw [hd,escL_cons,template_Print_L2_eq]
  generalize f.text[j]=c at *
  rw [List.length_append] at hb
  have step : ∀ (s : List UInt8), s = escB c → template_Print_J5 (.ptr o 0) (.ptr q 0) x8 x9 x10 (.int .i64 (f.text.length : Int)) (.int .i64 (j : Int)) H0 (Hc.set o (.bld 66 5 (b ++ s))) =
      template_Print_J3 (.ptr o 0) x8 x9 x10 H0 (Hc.set o (.bld 66 5 (b++(escB c++escL (f.text.drop (j+1)))))):=by
   intro s hs
   subst hs
   rw [template_Print_J5_eq]
   simp only [go_sem,wsucc (n:=j) (by omega)]
   rw [ih (j+1) (b++escB c) _ (by omega) (by omega) (get_set_eq _ ho) (get_set_ne _ hq.symm hc) (by simp;omega),List.set_set,List.append_assoc]
  have hcl:(escB c).length≤2:=by unfold escB;split <;> (try split) <;> simp
  have h2:∀ s,s=escB c→textE.run [.ptr o 0,.str s] Hc=some (.tuple [.int .i64 s.length,.nili],Hc.set o (.bld 66 5 (b++s))):=fun s hs=>text_run ho (by rw [hs];omega)
  have hadd:sbin .add (.str [92]) (.str [c])=some (.str ([92]++[c])):=sbin_add (by simp)
  simp only [go_sem,hlt,template_Print_J4_eq,ld2 hc,hix,(u8c c).1]
  by_cases c1:c=38
  ·have e:escB c=[92]++[c]:=by simp [escB,c1]
   have c1':(c == 38)=true:=by simp [c1]
   simp only [c1',go_sem,one_byte,rd_one,hadd,h2 _ e.symm]
   exact step _ e.symm
  ·have c1':(c == 38)=false:=by simp [c1]
   simp only [c1',go_sem,(u8c c).2.1]
   by_cases c2:c=92
   ·have e:escB c=[92]++[c]:=by simp [escB,c2]
    have c2':(c == 92)=true:=by simp [c2]
    simp only [c2',go_sem,one_byte,rd_one,hadd,h2 _ e.symm]
    exact step _ e.symm
   ·have c2':(c == 92)=false:=by simp [c2]
    simp only [c2',go_sem,(u8c c).2.2]
    by_cases c3:c=10
    ·have e:escB c=[92,110]:=by simp [escB,c3]
     have c3':(c == 10)=true:=by simp [c3]
     simp only [c3',go_sem,h2 _ e.symm]
     exact step _ e.symm
    ·have e:escB c=[c]:=by simp [escB,c1,c2,c3]
     have c3':(c == 10)=false:=by simp [c3]
     have hlt2:=c.toNat_lt
     have hby:=byte_run (c:=(c.toNat:Int)) ho (by omega) (by rw [e] at hb;simp at hb;omega)
     rw [ofB] at hby
     simp only [c3',go_sem,hby]
     exact step _ e.symm
theorem dig_u8 {g:Int} (h1:1≤g) (h2:g≤9):cvInt .u8 (.int .i64 (IntKind.i64.wrap (48+g)))=some (.int .u8 ((UInt8.ofNat (48+g.toNat)).toNat:Int)):=by
 have hc:∀ n:Nat,1≤n→n≤9→cvInt .u8 (.int .i64 (IntKind.i64.wrap (48+(n:Int))))=some (.int .u8 ((UInt8.ofNat (48+n)).toNat:Int)):=by
  intro n h1 h2
  match n,h1,h2 with
  | 1,_,_=>rfl
  | 2,_,_=>rfl
  | 3,_,_=>rfl
  | 4,_,_=>rfl
  | 5,_,_=>rfl
  | 6,_,_=>rfl
  | 7,_,_=>rfl
  | 8,_,_=>rfl
  | 9,_,_=>rfl
 have:=hc g.toNat (by omega) (by omega)
 rwa [show ((g.toNat:Nat):Int)=g by omega] at this
theorem print_loop {L : List Pt} {x : AV} {o : Nat} (hb : L.length ≤ 8000000000000) (hbt : ∀ p ∈ L, p.text.length ≤ 8000000000000) (hox : o ∉ rowA x) (H0 : Hp) : ∀ (k i : Nat) (b : List UInt8) (Hc : Hp), L.length - i = k → i ≤ L.length →
    Hc[o]?=some (.bld 66 5 b)→RdAt Hc x L→b.length+(printP (L.drop i)).length≤maxB →
    ∃ H',template_Print_L1 (.ptr o 0) x (.int .i64 (L.length:Int)) (.int .i64 (i:Int)) H0 Hc=some (.str (b++printP (L.drop i)),H')∧Kpt [o] Hc H':=by
 intro k
 induction k with
 | zero =>
  intro i b Hc hk hi ho hx hbl
  have hlt:decide ((i:Int) < (L.length:Int))=false:=decide_eq_false (by omega)
  have hd:L.drop i=[]:=List.drop_eq_nil_iff.2 (by omega)
  rw [template_Print_L1_eq]
  simp only [go_sem,hlt,hd,printP,List.append_nil,template_Print_J1_eq,string_run ho,set_same ho]
  exact ⟨_,rfl,Kpt.refl _ _⟩
 | succ k ih =>
  intro i b Hc hk hi ho hx hbl
  have hlt:decide ((i:Int) < (L.length:Int))=true:=decide_eq_true (by omega)
  have hL:i < L.length:=by omega
  have hd:=List.drop_eq_getElem_cons hL
  have hft:=hbt _ (List.getElem_mem hL)
  obtain ⟨a,a0,a1,a2,q1,_,_,_,_,_,_,q8⟩:=hx.idx (List.getElem?_eq_getElem hL)
  rw [hd,printP_cons] at hbl
  rw [hd,printP_cons,template_Print_L1_eq]
  generalize L[i]=f at *
  rw [List.length_append] at hbl
  have hol:=lt_of_get ho
  have ho2:(Hc++[AObj.cells (ptC f)])[o]?=some (.bld 66 5 b):=get_push ho _
  have hq2:(Hc++[AObj.cells (ptC f)])[Hc.length]?=some (.cells (ptC f)):=by simp
  have hqo:Hc.length ≠ o:=by omega
  have step : ∀ (s : List UInt8), s = printOne f → ∃ H', template_Print_J3 (.ptr o 0) x (.int .i64 (L.length : Int)) (.int .i64 (i : Int)) H0 ((Hc ++ [AObj.cells (ptC f)]).set o (.bld 66 5 (b ++ s))) =
      some (.str (b++(printOne f++printP (L.drop (i+1)))),H')∧Kpt [o] Hc H':=by
   intro s hs
   subst hs
   have hk1:Kpt [o] Hc ((Hc++[AObj.cells (ptC f)]).set o (.bld 66 5 (b++printOne f))):=(Kpt.push _ _ _).trans (Kpt.set _ _ (by simp))
   obtain ⟨H',r1,r2⟩:=ih (i+1) (b++printOne f) _ (by omega) (by omega) (get_set_eq _ ho2) (hx.kept hk1 (fun a ha h=>hox (by rw [← List.mem_singleton.1 h];exact ha))) (by simp;omega)
   refine ⟨H',?_,hk1.trans r2⟩
   rw [template_Print_J3_eq]
   simp only [go_sem,wsucc (n:=i) (by omega)]
   rw [r1,List.append_assoc]
  simp only [go_sem,hlt,template_Print_J2_eq,q1,q8,new_part,ld0 hq2]
  by_cases k2:f.kind=2
  ·have e2:(f.kind == 2)=true:=by simp [k2]
   have e1:(f.kind == 1)=false:=by simp [k2]
   simp only [e2,go_sem,ld1 hq2]
   by_cases g0:f.group=0
   ·have e:printOne f=[38]:=by simp [printOne,k2,g0]
    have eg:(f.group == 0)=true:=by simp [g0]
    have hby:=byte_run (c:=38) ho2 (by decide) (by rw [e] at hbl;simp at hbl;omega)
    simp only [eg,go_sem,hby]
    exact step _ e.symm
   ·have eg:(f.group == 0)=false:=by simp [g0]
    simp only [eg,go_sem,ld0 hq2,ld1 hq2,e2]
    by_cases g1:1≤f.group
    ·have eg1:decide (1≤f.group)=true:=decide_eq_true g1
     simp only [eg1,go_sem,ld1 hq2]
     by_cases g9:f.group≤9
     ·have e:printOne f=[92]++[UInt8.ofNat (48+f.group.toNat)]:=by simp [printOne,k2,g0,g1,g9]
      have eg9:decide (f.group≤9)=true:=decide_eq_true g9
      have hadd:sbin .add (.str [92]) (.str [UInt8.ofNat (48+f.group.toNat)])=some (.str ([92]++[UInt8.ofNat (48+f.group.toNat)])):=sbin_add (by simp)
      have htx:=text_run (s:=[92]++[UInt8.ofNat (48+f.group.toNat)]) ho2 (by rw [← e];omega)
      simp only [eg9,go_sem,ld1 hq2,dig_u8 g1 g9,one_byte,rd_one,hadd,htx]
      exact step _ e.symm
     ·have e:printOne f=[]:=by simp [printOne,k2,g0,g1,g9]
      have eg9:decide (f.group≤9)=false:=decide_eq_false g9
      simp only [eg9,go_sem,ld0 hq2,e1]
      have:=step [] e.symm
      rwa [List.append_nil,set_same ho2] at this
    ·have e:printOne f=[]:=by simp [printOne,k2,g0,g1]
     have eg1:decide (1≤f.group)=false:=decide_eq_false g1
     simp only [eg1,go_sem,ld0 hq2,e1]
     have:=step [] e.symm
     rwa [List.append_nil,set_same ho2] at this
  ·have e2:(f.kind == 2)=false:=by simp [k2]
   simp only [e2,go_sem,ld0 hq2]
   by_cases k1:f.kind=1
   ·have e1:(f.kind == 1)=true:=by simp [k1]
    have e:printOne f=escL f.text:=by simp [printOne,k1]
    simp only [e1,go_sem,ld2 hq2]
    have:=esc_loop (f:=f) (o:=o) (q:=Hc.length) hft hqo x (.int .i64 (L.length:Int)) (.int .i64 (i:Int)) H0 f.text.length 0 b _ (by omega) (by omega) ho2 hq2 (by rw [e] at hbl;simp only [List.drop_zero];omega)
    simp only [List.drop_zero] at this
    rw [show ((0:Nat):Int)=0 by rfl] at this
    rw [this]
    exact step _ e.symm
   ·have e1:(f.kind == 1)=false:=by simp [k1]
    have e:printOne f=[]:=by simp [printOne,k1,k2]
    simp only [e1,go_sem]
    have:=step [] e.symm
    rwa [List.append_nil,set_same ho2] at this
theorem print_spec {H : Hp} {L : List Pt} {x : AV} (hx : RdAt H x L) (hb : L.length ≤ 8000000000000) (hbt : ∀ p ∈ L, p.text.length ≤ 8000000000000) (hpl : (printP L).length ≤ maxB) :
    ∃ H',C_template_Print [x] H=some (.str (printP L),H')∧Kpt [] H H':=by
 have hox:H.length ∉ rowA x:=fun h=>absurd (hx.lt _ h) (by omega)
 have hk:Kpt [] H (H++[.bld 66 5 []]):=Kpt.push _ _ _
 obtain ⟨H',r1,r2⟩:=print_loop hb hbt hox H L.length 0 [] (H++[.bld 66 5 []]) (by omega) (by omega) (by simp) (hx.kept hk (by simp)) (by simpa using hpl)
 refine ⟨H',?_,?_⟩
 ·rw [F_template_Print_eq]
  unfold F_template_Print
  simp only [go_sem,hx.len]
  simpa using r1
 ·exact ⟨Nat.le_trans hk.1 r2.1,fun i hi _=>(r2.2 i (by simp;omega) (by simp;omega)).trans (hk.2 i hi (by simp))⟩
end Go.Am
