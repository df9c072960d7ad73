/-
  What a replacement stands for, both ways.
-/
import Derived.Test.YtcllemkfpjaooaaGreatPtTx
namespace Go.Am
set_option linter.unusedSimpArgs false
set_option linter.unusedVariables false
set_option maxRecDepth 100000

def spV (p:Int × Int):AV:=.agg [.int .i64 p.1,.int .i64 p.2]
def SpAt (y:AV) (M:List (Int × Int)):Prop:=y=.nils∧M=[] ∨ ∃ t,y=.vs 2 t (M.map spV)
theorem SpAt.len {y:AV} {M:List (Int × Int)} (h:SpAt y M) (t:Nat):alenD (.slice t) y=some (.int .i64 (M.length:Int)):=by
 rcases h with ⟨rfl,rfl⟩ | ⟨tk,rfl⟩
 ·rfl
 ·rw [alen_vs,List.length_map]
theorem SpAt.idx {y:AV} {M:List (Int × Int)} (h:SpAt y M) {i:Nat} {p:Int × Int} (hi:M[i]?=some p):aindexS 2 y (.int .i64 (i:Int))=some (.vp [.int .i64 p.1,.int .i64 p.2]):=by
 rcases h with ⟨rfl,rfl⟩ | ⟨tk,rfl⟩
 ·simp at hi
 ·unfold aindexS
  dsimp only
  rw [if_pos ⟨rfl,by omega⟩,Int.toNat_natCast,List.getElem?_map,hi]
  rfl
def spanS (s:List UInt8) (p:Int × Int):List UInt8:=if 0≤p.1∧p.1≤p.2∧p.2≤s.length then (s.take p.2.toNat).drop p.1.toNat else []
def expT (p:Pt):List UInt8:=if p.kind=1 then p.text else []
def expG (s:List UInt8) (M:List (Int × Int)) (p:Pt):List UInt8 :=
 if p.kind=2∧0≤p.group∧p.group≤9 then (match M[p.group.toNat]? with
  | some m=>spanS s m
  | none=>[]) else []
def expP (s:List UInt8) (M:List (Int × Int)):List Pt→List UInt8
 | []=>[]
 | p :: l=>(expT p++expG s M p)++expP s M l
theorem expP_cons (s:List UInt8) (M:List (Int × Int)) (p:Pt) (l:List Pt):expP s M (p :: l)=(expT p++expG s M p)++expP s M l:=(Eq.refl _).trans (Eq.refl _)
theorem new_span (Hc:Hp) (p:Int × Int):astoreU 2 (.ptr Hc.length 0) (.agg [.int .i64 p.1,.int .i64 p.2]) (Hc++[AObj.cells [(.int .i64 0),(.int .i64 0)]])=some (.tuple [],Hc++[.cells [.int .i64 p.1,.int .i64 p.2]]):=by
 rw [astore_of (sz:=2) (v:=.agg [.int .i64 p.1,.int .i64 p.2]) (l:=[(.int .i64 0),(.int .i64 0)]) (by simp) rfl rfl (by simp)]
 simp [splice,AV.cells]
theorem ldc0 {H:Hp} {q:Nat} {x y:AV} (h:H[q]?=some (.cells [x,y])):aload false 1 (.ptr q (0+0)) H=some x:=by rw [aload_of h];rfl
theorem ldc1 {H:Hp} {q:Nat} {x y:AV} (h:H[q]?=some (.cells [x,y])):aload false 1 (.ptr q (0+1)) H=some y:=by rw [aload_of h];rfl
theorem ldb {H:Hp} {q:Nat} {x:AV} (h:H[q]?=some (.cells [x])):aload false 1 (.ptr q (0+0)) H=some x:=by rw [aload_of h];rfl
theorem ld_span (a b:Int) (H:Hp):aload true 2 (.vp [.int .i64 a,.int .i64 b]) H=some (.agg [.int .i64 a,.int .i64 b]):=(Eq.refl _).trans (Eq.refl _)
theorem expand_loop {L : List Pt} {x y : AV} {o q5 : Nat} {s : List UInt8} {M : List (Int × Int)} (hy : SpAt y M) (hs : s.length ≤ 8000000000000) (hb : L.length ≤ 8000000000000) (hq5 : q5 ≠ o) (hox : o ∉ rowA x) (H0 : Hp) :
    ∀ (k i:Nat) (b:List UInt8) (Hc:Hp),L.length - i=k→i≤L.length →
    Hc[o]?=some (.bld 66 5 b)→Hc[q5]?=some (.cells [y])→RdAt Hc x L→b.length+(expP s M (L.drop i)).length≤maxB →
    ∃ H',template_Expand_L1 (.str s) (.ptr q5 0) (.ptr o 0) x (.int .i64 (L.length:Int)) (.int .i64 (i:Int)) H0 Hc=some (.str (b++expP s M (L.drop i)),H')∧Kpt [o] Hc H':=by
 intro k
 induction k with
 | zero =>
  intro i b Hc hk hi ho h5 hx hbl
  have hlt:decide ((i:Int) < (L.length:Int))=false:=decide_eq_false (by omega)
  have hd:L.drop i=[]:=List.drop_eq_nil_iff.2 (by omega)
  rw [template_Expand_L1_eq]
  simp only [go_sem,hlt,hd,expP,List.append_nil,template_Expand_J1_eq,string_run ho,set_same ho]
  exact ⟨_,rfl,Kpt.refl _ _⟩
 | succ k ih =>
  intro i b Hc hk hi ho h5 hx hbl
  have hlt:decide ((i:Int) < (L.length:Int))=true:=decide_eq_true (by omega)
  have hL:i < L.length:=by omega
  have hd:=List.drop_eq_getElem_cons hL
  obtain ⟨a,a0,a1,a2,q1,_,_,_,_,_,_,q8⟩:=hx.idx (List.getElem?_eq_getElem hL)
  rw [hd,expP_cons] at hbl
  rw [hd,expP_cons,template_Expand_L1_eq]
  generalize L[i]=f at *
  rw [List.length_append,List.length_append] at hbl
  have hol:=lt_of_get ho
  have ho2:(Hc++[AObj.cells (ptC f)])[o]?=some (.bld 66 5 b):=get_push ho _
  have h52:(Hc++[AObj.cells (ptC f)])[q5]?=some (.cells [y]):=get_push h5 _
  have hq2:(Hc++[AObj.cells (ptC f)])[Hc.length]?=some (.cells (ptC f)):=by simp
  have hqo:Hc.length ≠ o:=by omega
  -- on to the next part
  have next : ∀ (c : List UInt8) (Hd : Hp), c = expT f ++ expG s M f → Kpt [o] Hc Hd → Hd[o]? = some (.bld 66 5 (b ++ c)) → ∃ H', template_Expand_J3 (.str s) (.ptr q5 0) (.ptr o 0) x (.int .i64 (L.length : Int)) (.int .i64 (i : Int)) H0 Hd =
      some (.str (b++((expT f++expG s M f)++expP s M (L.drop (i+1)))),H')∧Kpt [o] Hc H':=by
   intro c Hd hc hk1 hod
   subst hc
   obtain ⟨H',r1,r2⟩:=ih (i+1) (b++(expT f++expG s M f)) Hd (by omega) (by omega) hod (hk1.get h5 (by simpa using hq5)) (hx.kept hk1 (fun a ha h=>hox (by rw [← List.mem_singleton.1 h];exact ha))) (by simp;omega)
   refine ⟨H',?_,hk1.trans r2⟩
   rw [template_Expand_J3_eq]
   simp only [go_sem,wsucc (n:=i) (by omega)]
   rw [r1,List.append_assoc]
  -- the group's span
  have grp : ∀ (Hd : Hp), Kpt [o] Hc Hd → Hd[o]? = some (.bld 66 5 (b ++ expT f)) → Hd[Hc.length]? = some (.cells (ptC f)) → Hd[q5]? = some (.cells [y]) → ∃ H', template_Expand_J4 (.str s) (.ptr q5 0) (.ptr o 0) (.ptr Hc.length 0) x (.int .i64 (L.length : Int)) (.int .i64 (i : Int)) H0 Hd =
      some (.str (b++((expT f++expG s M f)++expP s M (L.drop (i+1)))),H')∧Kpt [o] Hc H':=by
   intro Hd hk1 hod hqd h5d
   have none' : expG s M f = [] → ∃ H', template_Expand_J3 (.str s) (.ptr q5 0) (.ptr o 0) x (.int .i64 (L.length : Int)) (.int .i64 (i : Int)) H0 Hd =
       some (.str (b++((expT f++expG s M f)++expP s M (L.drop (i+1)))),H')∧Kpt [o] Hc H':=fun h=>next (expT f) Hd (by rw [h,List.append_nil]) hk1 hod
   rw [template_Expand_J4_eq]
   simp only [go_sem,ld0 hqd]
   by_cases k2:f.kind=2
   ·have e2:(f.kind != 2)=false:=by simp [k2]
    simp only [e2,go_sem,ld1 hqd]
    by_cases g0:0≤f.group
    ·have eg0:decide (f.group < 0)=false:=decide_eq_false (by omega)
     simp only [eg0,go_sem,ld1 hqd]
     by_cases g9:f.group≤9
     ·have eg9:decide (9 < f.group)=false:=decide_eq_false (by omega)
      simp only [eg9,go_sem,ld1 hqd,ldb h5d,hy.len]
      by_cases gl:f.group < M.length
      ·have egl:decide ((M.length:Int)≤f.group)=false:=decide_eq_false (by omega)
       have hgn:((f.group.toNat:Nat):Int)=f.group:=by omega
       have hM:=List.getElem?_eq_getElem (show f.group.toNat < M.length by omega)
       have hix:=hy.idx hM
       rw [hgn] at hix
       have he:expG s M f=spanS s M[f.group.toNat]:=by simp only [expG,k2,g0,g9,and_self,if_true,hM]
       simp only [egl,go_sem,template_Expand_J5_eq,ldb h5d,ld1 hqd,hix,ld_span,new_span]
       generalize hp:M[f.group.toNat]=p at *
       have hk2:Kpt [o] Hc (Hd++[AObj.cells [.int .i64 p.1,.int .i64 p.2]]):=hk1.trans (Kpt.push _ _ _)
       have hr:(Hd++[AObj.cells [.int .i64 p.1,.int .i64 p.2]])[Hd.length]?=some (.cells [.int .i64 p.1,.int .i64 p.2]):=by simp
       have hod2:=get_push hod [AObj.cells [.int .i64 p.1,.int .i64 p.2]]
       have no : spanS s p = [] → ∃ H', template_Expand_J3 (.str s) (.ptr q5 0) (.ptr o 0) x (.int .i64 (L.length : Int)) (.int .i64 (i : Int)) H0 (Hd ++ [AObj.cells [.int .i64 p.1, .int .i64 p.2]]) =
           some (.str (b++((expT f++expG s M f)++expP s M (L.drop (i+1)))),H')∧Kpt [o] Hc H':=fun h=>next (expT f) _ (by rw [he,h,List.append_nil]) hk2 hod2
       simp only [ldc0 hr,ldc1 hr,go_sem]
       by_cases c0:0≤p.1
       ·have ec0:decide (0≤p.1)=true:=decide_eq_true c0
        simp only [ec0,go_sem,ldc0 hr,ldc1 hr]
        by_cases c1:p.1≤p.2
        ·have ec1:decide (p.1≤p.2)=true:=decide_eq_true c1
         simp only [ec1,go_sem,ldc0 hr,ldc1 hr]
         by_cases c2:p.2≤s.length
         ·have ec2:decide (p.2≤(s.length:Int))=true:=decide_eq_true c2
          have e3:spanS s p=(s.take p.2.toNat).drop p.1.toNat:=by simp only [spanS,c0,c1,c2,and_self,if_true]
          have htx:=text_run (s:=(s.take p.2.toNat).drop p.1.toNat) hod2 (by rw [← e3,← he,List.length_append];omega)
          simp only [ec2,go_sem,ldc0 hr,ldc1 hr,asliceS_lh (s:=s) .i64 .i64 c0 c1 c2,htx]
          refine next (expT f++(s.take p.2.toNat).drop p.1.toNat) _ (by rw [he,e3]) (hk2.trans (Kpt.set _ _ (by simp))) ?_
          rw [get_set_eq _ hod2,List.append_assoc]
         ·have ec2:decide (p.2≤(s.length:Int))=false:=decide_eq_false c2
          simp only [ec2,go_sem]
          exact no (by simp only [spanS,c2,and_false,if_false])
        ·have ec1:decide (p.1≤p.2)=false:=decide_eq_false c1
         simp only [ec1,go_sem]
         exact no (by simp only [spanS,c1,false_and,and_false,if_false])
       ·have ec0:decide (0≤p.1)=false:=decide_eq_false c0
        simp only [ec0,go_sem]
        exact no (by simp only [spanS,c0,false_and,if_false])
      ·have egl:decide ((M.length:Int)≤f.group)=true:=decide_eq_true (by omega)
       simp only [egl,go_sem]
       exact none' (by simp only [expG,k2,g0,g9,and_self,if_true,List.getElem?_eq_none (show M.length≤f.group.toNat by omega)])
     ·have eg9:decide (9 < f.group)=true:=decide_eq_true (by omega)
      simp only [eg9,go_sem]
      exact none' (by simp only [expG,g9,and_false,if_false])
    ·have eg0:decide (f.group < 0)=true:=decide_eq_true (by omega)
     simp only [eg0,go_sem]
     exact none' (by simp only [expG,g0,false_and,and_false,if_false])
   ·have e2:(f.kind != 2)=true:=by simp [k2]
    simp only [e2,go_sem]
    exact none' (by simp only [expG,k2,false_and,if_false])
  simp only [go_sem,hlt,template_Expand_J2_eq,q1,q8,new_part,ld0 hq2]
  by_cases k1:f.kind=1
  ·have e1:(f.kind == 1)=true:=by simp [k1]
   have e:expT f=f.text:=by simp [expT,k1]
   have htx:=text_run (s:=f.text) ho2 (by rw [← e];omega)
   simp only [e1,go_sem,ld2 hq2,htx]
   refine grp _ ((Kpt.push _ _ _).trans (Kpt.set _ _ (by simp))) ?_ (get_set_ne _ hqo.symm hq2) (get_set_ne _ hq5.symm h52)
   rw [get_set_eq _ ho2,e]
  ·have e1:(f.kind == 1)=false:=by simp [k1]
   have e:expT f=[]:=by simp [expT,k1]
   simp only [e1,go_sem]
   exact grp _ (Kpt.push _ _ _) (by rw [e,List.append_nil];exact ho2) hq2 h52
theorem expand_spec {H : Hp} {L : List Pt} {x y : AV} {s : List UInt8} {M : List (Int × Int)} (hx : RdAt H x L) (hy : SpAt y M) (hs : s.length ≤ 8000000000000) (hb : L.length ≤ 8000000000000) (hpl : (expP s M L).length ≤ maxB) :
    ∃ H',C_template_Expand [x,.str s,.agg [y]] H=some (.str (expP s M L),H')∧Kpt [] H H':=by
 have hyk:(AV.agg [y]).known=true∧(AV.agg [y]).cells=[y]:=by
  rcases hy with ⟨rfl,_⟩ | ⟨t,rfl⟩ <;> exact ⟨rfl,rfl⟩
 have hbx:abox (.agg [y]) H=some (.ptr H.length 0,H++[.cells [y]]):=by rw [abox_of hyk.1,hyk.2]
 have hox:H.length+1 ∉ rowA x:=fun h=>absurd (hx.lt _ h) (by omega)
 have hk:Kpt [] H (H++[.cells [y]]++[.bld 66 5 []]):=(Kpt.push _ _ _).trans (Kpt.push _ _ _)
 obtain ⟨H',r1,r2⟩:=expand_loop (o:=H.length+1) (q5:=H.length) hy hs hb (by omega) hox H L.length 0 [] (H++[.cells [y]]++[.bld 66 5 []]) (by omega) (by omega) (by simp) (by simp) (hx.kept hk (by simp)) (by simpa using hpl)
 refine ⟨H',?_,?_⟩
 ·rw [F_template_Expand_eq]
  unfold F_template_Expand
  simp only [hbx,go_sem,hx.len]
  simpa using r1
 ·exact ⟨Nat.le_trans hk.1 r2.1,fun i hi _=>(r2.2 i (by simp;omega) (by simp;omega)).trans (hk.2 i hi (by simp))⟩
end Go.Am
