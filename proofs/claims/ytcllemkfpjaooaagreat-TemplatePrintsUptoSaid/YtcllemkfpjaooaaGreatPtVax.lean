/-
  What a replacement stands for, the document's way.
-/
import Derived.Test.YtcllemkfpjaooaaGreatPtVx
namespace Go.Am
set_option linter.unusedSimpArgs false
set_option linter.unusedVariables false
set_option maxRecDepth 100000

theorem rexpand_loop {L : List Pt} {x y : AV} {q5 : Nat} {s : List UInt8} {M : List (Int × Int)} (hy : SpAt y M) (hs : s.length ≤ 8000000000000) (hb : L.length ≤ 8000000000000) (H0 : Hp) :
    ∀ (k i:Nat) (b:List UInt8) (Hc:Hp),L.length - i=k→i≤L.length →
    Hc[q5]?=some (.cells [y])→RdAt Hc x L→b.length+(expP s M (L.drop i)).length≤maxB →
    ∃ H',R16_Expand_L1 x (.str s) (.ptr q5 0) (.str b) (.int .i64 (i:Int)) H0 Hc=some (.str (b++expP s M (L.drop i)),H')∧Kpt [] Hc H':=by
 intro k
 induction k with
 | zero =>
  intro i b Hc hk hi h5 hx hbl
  have hlt:decide ((i:Int) < (L.length:Int))=false:=decide_eq_false (by omega)
  have hd:L.drop i=[]:=List.drop_eq_nil_iff.2 (by omega)
  rw [R16_Expand_L1_eq]
  simp only [go_sem,hx.len,hlt,hd,expP,List.append_nil,R16_Expand_J1_eq]
  exact ⟨_,rfl,Kpt.refl _ _⟩
 | succ k ih =>
  intro i b Hc hk hi h5 hx hbl
  have hlt:decide ((i:Int) < (L.length:Int))=true:=decide_eq_true (by omega)
  have hL:i < L.length:=by omega
  have hd:=List.drop_eq_getElem_cons hL
  obtain ⟨a,a0,a1,a2,q1,q2,q3,q4,q5',q6,q7,q8⟩:=hx.idx (List.getElem?_eq_getElem hL)
  rw [hd,expP_cons] at hbl
  rw [hd,expP_cons,R16_Expand_L1_eq]
  generalize L[i]=f at *
  rw [List.length_append,List.length_append] at hbl
  have hm:maxB≤9223372036854775000:=by decide
  have ha:∀ (u v:List UInt8),u.length+v.length≤maxB→sbin .add (.str u) (.str v)=some (.str (u++v)):=fun u v h=>sbin_add (by omega)
  have next : ∀ (c : List UInt8) (Hd : Hp), c = expT f ++ expG s M f → Kpt [] Hc Hd → ∃ H', R16_Expand_J3 x (.str s) (.ptr q5 0) (.str (b ++ c)) (.int .i64 (i : Int)) H0 Hd =
      some (.str (b++((expT f++expG s M f)++expP s M (L.drop (i+1)))),H')∧Kpt [] Hc H':=by
   intro c Hd hc hk1
   subst hc
   obtain ⟨H',r1,r2⟩:=ih (i+1) (b++(expT f++expG s M f)) Hd (by omega) (by omega) (hk1.get h5 (by simp)) (hx.kept hk1 (by simp)) (by simp;omega)
   refine ⟨H',?_,hk1.trans r2⟩
   rw [R16_Expand_J3_eq]
   simp only [go_sem,wsucc (n:=i) (by omega)]
   rw [r1,List.append_assoc]
  have grp : ∃ H', R16_Expand_J4 x (.str s) (.ptr q5 0) (.str (b ++ expT f)) (.int .i64 (i : Int)) (.int .i64 f.group) H0 Hc =
      some (.str (b++((expT f++expG s M f)++expP s M (L.drop (i+1)))),H')∧Kpt [] Hc H':=by
   have none' : expG s M f = [] → ∃ H', R16_Expand_J3 x (.str s) (.ptr q5 0) (.str (b ++ expT f)) (.int .i64 (i : Int)) H0 Hc =
       some (.str (b++((expT f++expG s M f)++expP s M (L.drop (i+1)))),H')∧Kpt [] Hc H':=fun h=>next (expT f) Hc (by rw [h,List.append_nil]) (Kpt.refl _ _)
   rw [R16_Expand_J4_eq]
   simp only [go_sem,q1,q2,q5']
   by_cases k2:f.kind=2
   ·have e2:(f.kind != 2)=false:=by simp [k2]
    simp only [e2,go_sem]
    by_cases g0:0≤f.group
    ·have eg0:decide (f.group < 0)=false:=decide_eq_false (by omega)
     simp only [eg0,go_sem]
     by_cases g9:f.group≤9
     ·have eg9:decide (9 < f.group)=false:=decide_eq_false (by omega)
      simp only [eg9,go_sem,ldb h5,hy.len]
      by_cases gl:f.group < M.length
      ·have egl:decide ((M.length:Int)≤f.group)=false:=decide_eq_false (by omega)
       have hgn:((f.group.toNat:Nat):Int)=f.group:=by omega
       have hM:=List.getElem?_eq_getElem (show f.group.toNat < M.length by omega)
       have hix:=hy.idx hM
       rw [hgn] at hix
       have he:expG s M f=spanS s M[f.group.toNat]:=by simp only [expG,k2,g0,g9,and_self,if_true,hM]
       simp only [egl,go_sem,R16_Expand_J5_eq,ldb h5,hix,ld_span,new_span]
       generalize hp:M[f.group.toNat]=p at *
       have hk2:Kpt [] Hc (Hc++[AObj.cells [.int .i64 p.1,.int .i64 p.2]]):=Kpt.push _ _ _
       have hr:(Hc++[AObj.cells [.int .i64 p.1,.int .i64 p.2]])[Hc.length]?=some (.cells [.int .i64 p.1,.int .i64 p.2]):=by simp
       have no : spanS s p = [] → ∃ H', R16_Expand_J3 x (.str s) (.ptr q5 0) (.str (b ++ expT f)) (.int .i64 (i : Int)) H0 (Hc ++ [AObj.cells [.int .i64 p.1, .int .i64 p.2]]) =
           some (.str (b++((expT f++expG s M f)++expP s M (L.drop (i+1)))),H')∧Kpt [] Hc H':=fun h=>next (expT f) _ (by rw [he,h,List.append_nil]) hk2
       simp only [ldc0 hr,ldc1 hr,go_sem]
       by_cases c0:0≤p.1
       ·have ec0:decide (0≤p.1)=true:=decide_eq_true c0
        simp only [ec0,go_sem,ldc0 hr,ldc1 hr]
        by_cases c1:p.1≤p.2
        ·have ec1:decide (p.1≤p.2)=true:=decide_eq_true c1
         simp only [ec1,go_sem,ldc0 hr,ldc1 hr]
         by_cases c2:p.2≤s.length
         ·have ec2:decide (p.2≤(s.length:Int))=true:=decide_eq_true c2
          have e3:spanS s p=(s.take p.2.toNat).drop p.1.toNat:=by simp only [spanS,c0,c1,c2,and_self,if_true]
          have hadd:=ha (b++expT f) ((s.take p.2.toNat).drop p.1.toNat) (by rw [← e3,← he,List.length_append];omega)
          simp only [ec2,go_sem,ldc0 hr,ldc1 hr,asliceS_lh (s:=s) .i64 .i64 c0 c1 c2,hadd]
          rw [List.append_assoc]
          exact next (expT f++(s.take p.2.toNat).drop p.1.toNat) _ (by rw [he,e3]) hk2
         ·have ec2:decide (p.2≤(s.length:Int))=false:=decide_eq_false c2
          simp only [ec2,go_sem]
          exact no (by simp only [spanS,c2,and_false,if_false])
        ·have ec1:decide (p.1≤p.2)=false:=decide_eq_false c1
         simp only [ec1,go_sem]
         exact no (by simp only [spanS,c1,false_and,and_false,if_false])
       ·have ec0:decide (0≤p.1)=false:=decide_eq_false c0
        simp only [ec0,go_sem]
        exact no (by simp only [spanS,c0,false_and,if_false])
      ·have egl:decide ((M.length:Int)≤f.group)=true:=decide_eq_true (by omega)
       simp only [egl,go_sem]
       exact none' (by simp only [expG,k2,g0,g9,and_self,if_true,List.getElem?_eq_none (show M.length≤f.group.toNat by omega)])
     ·have eg9:decide (9 < f.group)=true:=decide_eq_true (by omega)
      simp only [eg9,go_sem]
      exact none' (by simp only [expG,g9,and_false,if_false])
    ·have eg0:decide (f.group < 0)=true:=decide_eq_true (by omega)
     simp only [eg0,go_sem]
     exact none' (by simp only [expG,g0,false_and,and_false,if_false])
   ·have e2:(f.kind != 2)=true:=by simp [k2]
    simp only [e2,go_sem]
    exact none' (by simp only [expG,k2,false_and,if_false])
  simp only [go_sem,hx.len,hlt,R16_Expand_J2_eq,q1,q2,q3,q5',q6]
  by_cases k1:f.kind=1
  ·have e1:(f.kind == 1)=true:=by simp [k1]
   have e:expT f=f.text:=by simp [expT,k1]
   have hadd:=ha b f.text (by rw [← e];omega)
   simp only [e1,go_sem,q1,q4,q7,hadd]
   rw [e] at grp ⊢
   exact grp
  ·have e1:(f.kind == 1)=false:=by simp [k1]
   have e:expT f=[]:=by simp [expT,k1]
   simp only [e1,go_sem]
   rw [e,List.append_nil] at grp
   rw [e]
   exact grp
theorem rexpand_spec {H : Hp} {L : List Pt} {x y : AV} {s : List UInt8} {M : List (Int × Int)} (hx : RdAt H x L) (hy : SpAt y M) (hs : s.length ≤ 8000000000000) (hb : L.length ≤ 8000000000000) (hpl : (expP s M L).length ≤ maxB) :
    ∃ H',C_R16_Expand [x,.str s,.agg [y]] H=some (.str (expP s M L),H')∧Kpt [] H H':=by
 have hyk:(AV.agg [y]).known=true∧(AV.agg [y]).cells=[y]:=by
  rcases hy with ⟨rfl,_⟩ | ⟨t,rfl⟩ <;> exact ⟨rfl,rfl⟩
 have hbx:abox (.agg [y]) H=some (.ptr H.length 0,H++[.cells [y]]):=by rw [abox_of hyk.1,hyk.2]
 have hk:Kpt [] H (H++[.cells [y]]):=Kpt.push _ _ _
 obtain ⟨H',r1,r2⟩:=rexpand_loop (q5:=H.length) hy hs hb H L.length 0 [] (H++[.cells [y]]) (by omega) (by omega) (by simp) (hx.kept hk (by simp)) (by simpa using hpl)
 refine ⟨H',?_,hk.trans r2⟩
 rw [F_R16_Expand_eq]
 unfold F_R16_Expand
 simp only [hbx,go_sem]
 simpa using r1
end Go.Am
