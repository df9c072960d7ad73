/-
  The law of TempfileNil in the machine.
-/
import Derived.Test.YtebjpfbenjgglaaDoorTdLcx
namespace Go.Am
set_option linter.unusedSimpArgs false
set_option linter.unusedVariables false
set_option linter.unusedSectionVars false
set_option maxRecDepth 100000

abbrev resC (s:Txt) (n e:Int):List AV:=[.str s,.int .i64 n,.int .i64 e]
theorem res_store {H : Hp} {o : Nat} {l : List AV} (h : H[o]? = some (.cells l)) (hl : l.length = 3) (s : Txt) (n e : Int) :
    astoreU 3 (.ptr o 0) (.agg (resC s n e)) H=some (.tuple [],H.set o (.cells (resC s n e)))∧aload true 3 (.ptr o 0) (H.set o (.cells (resC s n e)))=some (.agg (resC s n e)):=by
 constructor
 ·rw [astore_of (v:=.agg (resC s n e)) (sz:=3) h rfl rfl (by omega)]
  congr 3
  obtain ⟨a,b,c,rfl⟩:∃ a b c,l=[a,b,c]:=match l,hl with | [a,b,c],_=>⟨a,b,c,rfl⟩
  rfl
 ·rw [aload_of (get_set_eq _ h)]
  simp [Go.Am.apart]
theorem find_nil (n:AV) (H:Hp):C_tempfile_Temps_find [.nilp,n] H=some (.int .i64 5,H):=by
 have hnil:ebin (.pointer 89) .eql .nilp .nilp=some (.bool true):=rfl
 rw [F_tempfile_Temps_find_eq]
 unfold F_tempfile_Temps_find
 simp only [hnil,go_sem]
theorem new_nil (H:Hp):C_tempfile_Temps_New [.nilp] H=some (.tuple [.str [],.int .i64 5],H):=by
 have hnil:ebin (.pointer 89) .eql .nilp .nilp=some (.bool true):=rfl
 rw [F_tempfile_Temps_New_eq]
 unfold F_tempfile_Temps_New
 simp only [hnil,go_sem]
theorem close_nil (H:Hp):C_tempfile_Temps_Close [.nilp] H=some (.int .i64 5,H):=by
 have hnil:ebin (.pointer 89) .eql .nilp .nilp=some (.bool true):=rfl
 rw [F_tempfile_Temps_Close_eq]
 unfold F_tempfile_Temps_Close
 simp only [hnil,go_sem]
theorem b50:((5:Int) != 0)=true:=rfl
theorem write_nil (n x:AV) (H:Hp):C_tempfile_Temps_Write [.nilp,n,x] H=some (.int .i64 5,H):=by
 rw [F_tempfile_Temps_Write_eq]
 unfold F_tempfile_Temps_Write
 simp only [find_nil,go_sem,b50]
theorem seal_nil (n:AV) (H:Hp):C_tempfile_Temps_Seal [.nilp,n] H=some (.int .i64 5,H):=by
 rw [F_tempfile_Temps_Seal_eq]
 unfold F_tempfile_Temps_Seal
 simp only [find_nil,go_sem,b50]
theorem tremove_nil (n:AV) (H:Hp):C_tempfile_Temps_Remove [.nilp,n] H=some (.int .i64 5,H):=by
 rw [F_tempfile_Temps_Remove_eq]
 unfold F_tempfile_Temps_Remove
 simp only [find_nil,go_sem,b50]
theorem tread_nil (n i:AV) (H:Hp):C_tempfile_Temps_Read [.nilp,n,i] H=some (.tuple [.str [],.int .i64 0,.int .i64 5],H):=by
 rw [F_tempfile_Temps_Read_eq]
 unfold F_tempfile_Temps_Read
 simp only [find_nil,go_sem,b50]
theorem used_nil (H:Hp):roC C_tempfile_Temps_Used [.nilp] H=some (.int .i64 0,H):=by
 have hnil:ebin (.pointer 89) .eql .nilp .nilp=some (.bool true):=rfl
 refine roC_of (H1:=H) (v:=.int .i64 0) ?_ (Keep.refl _ _) (Nat.le_refl _) rfl
 rw [F_tempfile_Temps_Used_eq]
 unfold F_tempfile_Temps_Used
 simp only [hnil,go_sem]
theorem open_nil (n i:AV) (H:Hp):C_tempfile_Open [.nilp,n,i] H=some (.tuple [.nilp,.int .i64 5],H):=by
 have hnil:ebin (.pointer 68) .eql .nilp .nilp=some (.bool true):=rfl
 rw [F_tempfile_Open_eq]
 unfold F_tempfile_Open
 simp only [hnil,go_sem]
theorem left_nil (n:AV) (H:Hp):roC C_tempfile_Left [.nilp,n] H=some (.nils,H):=by
 have hnil:ebin (.pointer 68) .eql .nilp .nilp=some (.bool true):=rfl
 refine roC_of (H1:=H) (v:=.nils) ?_ (Keep.refl _ _) (Nat.le_refl _) rfl
 rw [F_tempfile_Left_eq]
 unfold F_tempfile_Left
 simp only [hnil,go_sem]
theorem do_nil (t:AV) (c:Cl) (y:AV) (h0:0≤c.op) (h5:c.op≤5) (H:Hp):∃ H',C_L19_do [t,.nilp,.agg (c.cells y)] H=some (.tuple [.nilp,.agg (resC [] 0 5)],H')∧Stp [] H H':=by
 have hbx:abox (.agg (c.cells y)) H=some (.ptr H.length 0,H++[AObj.cells (c.cells y)]):=abox_of rfl
 have hl1:(H++[AObj.cells (c.cells y)]).length=H.length+1:=by simp
 have g0:(H++[AObj.cells (c.cells y)]++[AObj.cells [(.str []),(.int .i64 0),(.int .i64 0)]])[H.length]?=some (.cells (c.cells y)):=by simp
 have g1:(H++[AObj.cells (c.cells y)]++[AObj.cells [(.str []),(.int .i64 0),(.int .i64 0)]])[H.length+1]?=some (.cells [(.str []),(.int .i64 0),(.int .i64 0)]):=by
  rw [List.getElem?_append_right (by simp)];simp
 have l0:=ldn g0 0 (v:=.int .i64 c.op) rfl
 have l1:=ldn g0 1 (v:=.str c.name) rfl
 have l2:=ldn g0 2 (v:=y) rfl
 have l3:=ldn g0 3 (v:=.int .i64 c.at') rfl
 obtain ⟨s1,s2⟩:=res_store g1 rfl [] 0 5
 have hS:Stp [] H (H++[AObj.cells (c.cells y)]++[AObj.cells [(.str []),(.int .i64 0),(.int .i64 0)]]):=by rw [List.append_assoc];exact Stp.push _ _
 have hS2:Stp [] H ((H++[AObj.cells (c.cells y)]++[AObj.cells [(.str []),(.int .i64 0),(.int .i64 0)]]).set (H.length+1) (.cells (resC [] 0 5))):=⟨by simp,fun i hi _=>by
  rw [List.getElem?_set_ne (by omega),List.append_assoc,List.getElem?_append_left hi]⟩
 generalize hH2:H++[AObj.cells (c.cells y)]++[AObj.cells [(.str []),(.int .i64 0),(.int .i64 0)]]=H2 at l0 l1 l2 l3 s1 s2 hS2
 have f1:(afill [(0,1,.str []),(2,1,.int .i64 5)] [(.str []),(.int .i64 0),(.int .i64 0)]).map AV.agg=some (.agg (resC [] 0 5)):=rfl
 have f2:(afill [(2,1,.int .i64 5)] [(.str []),(.int .i64 0),(.int .i64 0)]).map AV.agg=some (.agg (resC [] 0 5)):=rfl
 have f3:(afill [(0,1,.str []),(1,1,.int .i64 0),(2,1,.int .i64 5)] [(.str []),(.int .i64 0),(.int .i64 0)]).map AV.agg=some (.agg (resC [] 0 5)):=rfl
 refine ⟨_,?_,hS2⟩
 rw [F_L19_do_eq]
 unfold F_L19_do
 rcases (show c.op=0 ∨ c.op=1 ∨ c.op=2 ∨ c.op=3 ∨ c.op=4 ∨ c.op=5 by omega) with h | h | h | h | h | h
 all_goals rw [h] at l0
 all_goals simp only [hbx,go_sem,hl1,hH2,Nat.zero_add,l0,l1,l2,l3,Int.reduceBEq,new_nil,write_nil,seal_nil,tread_nil,tremove_nil,close_nil,List.getElem?_cons_zero,List.getElem?_cons_succ,f1,f2,f3,s1,s2]
theorem nil_loop {x : AV} {cs : List Cl} (hx : CsV x cs) (hl : cs.length ≤ 1048576) {t : Nat} {s : Sto} {A : List Nat} (hk : StoOk s) (he : s.files = []) (H0 : Hp) : ∀ (r d : List Cl) (H : Hp), cs = d ++ r → StoreAt H t s A →
    ∃ H',L19_TempfileNil_L1 x .nilp (.ptr t 0) (.int .i64 (d.length:Int)) H0 H=some (.bool true,H'):=by
 intro r
 induction r with
 | nil =>
  intro d H hd h
  rw [List.append_nil] at hd
  subst hd
  have hlt:decide ((cs.length:Int) < (cs.length:Int))=false:=by simp
  obtain ⟨H',hw⟩:=awake19_run H
  have hnil:ebin (.pointer 89) .eql .nilp .nilp=some (.bool true):=rfl
  have e5:((5:Int) == 5)=true:=rfl
  have e0:((0:Int) == 0)=true:=rfl
  have hal:alenD (.slice 9) .nils=some (.int .i64 0):=rfl
  refine ⟨H',?_⟩
  rw [L19_TempfileNil_L1_eq]
  simp only [go_sem,hx.len 46,hlt,L19_TempfileNil_J2_eq,open_nil,List.getElem?_cons_zero,List.getElem?_cons_succ,hnil,e5,left_nil,hal,e0,hw]
 | cons c r ih =>
  intro d H hd h
  have hlen:cs.length=d.length+(r.length+1):=by rw [hd];simp
  have hlt:decide ((d.length:Int) < (cs.length:Int))=true:=by simp;omega
  have hw1:IntKind.i64.wrap ((d.length:Int)+1)=((d.length+1:Nat):Int):=by rw [wrap64 (by omega) (by omega)];omega
  obtain ⟨y,hi,hy⟩:=hx.idx (i:=d.length) (c:=c) (by rw [hd,List.getElem?_append_right (Nat.le_refl _)];simp)
  have hb1:(H++[AObj.cells [(.int .i64 0),(.str []),.nils,(.int .i64 0),(.int .u64 0)]])[H.length]?=some (.cells [(.int .i64 0),(.str []),.nils,(.int .i64 0),(.int .u64 0)]):=by simp
  have hyk:(AV.agg (c.cells y)).known=true:=by
   rcases hy with ⟨rfl,_⟩ | ⟨tk,rfl⟩
   ·rfl
   ·simp [AV.known,Cl.cells]
  have hst:astoreU 5 (.ptr H.length 0) (.agg (c.cells y)) (H++[AObj.cells [(.int .i64 0),(.str []),.nils,(.int .i64 0),(.int .u64 0)]])=some (.tuple [],H++[AObj.cells (c.cells y)]):=by
   rw [astore_of (v:=.agg (c.cells y)) (sz:=5) hb1 hyk rfl (by simp)]
   simp [splice,Cl.cells,AV.cells]
  have g1:(H++[AObj.cells (c.cells y)])[H.length]?=some (.cells (c.cells y)):=by simp
  have l0:=ldn g1 0 (v:=.int .i64 c.op) rfl
  have hld:aload true 5 (.ptr H.length 0) (H++[AObj.cells (c.cells y)])=some (.agg (c.cells y)):=by
   rw [aload_of g1];simp [Go.Am.apart,Cl.cells]
  have h1:StoreAt (H++[AObj.cells (c.cells y)]) t s A:=h.frame fun a ha=>List.getElem?_append_left (h.lt a ha)
  rw [L19_TempfileNil_L1_eq]
  by_cases ho:c.op < 0 ∨ 5 < c.op
  ·obtain ⟨H',k⟩:=ih (d++[c]) (H++[AObj.cells (c.cells y)]) (by rw [hd];simp) h1
   rw [List.length_append,List.length_singleton] at k
   refine ⟨H',?_⟩
   by_cases hn:c.op < 0
   ·have e1:decide (c.op < 0)=true:=decide_eq_true hn
    simp only [go_sem,hx.len 46,hlt,L19_TempfileNil_J3_eq,hi,aload_cl,hst,Nat.zero_add,l0,e1,L19_TempfileNil_J4_eq,hw1]
    exact k
   ·have e1:decide (c.op < 0)=false:=decide_eq_false hn
    have e2:decide (5 < c.op)=true:=decide_eq_true (by omega)
    simp only [go_sem,hx.len 46,hlt,L19_TempfileNil_J3_eq,hi,aload_cl,hst,Nat.zero_add,l0,e1,e2,L19_TempfileNil_J4_eq,hw1]
    exact k
  ·have e1:decide (c.op < 0)=false:=decide_eq_false (by omega)
   have e2:decide (5 < c.op)=false:=decide_eq_false (by omega)
   obtain ⟨H2,q1,q2⟩:=do_nil (.ptr t 0) c y (by omega) (by omega) (H++[AObj.cells (c.cells y)])
   have h2:StoreAt H2 t s A:=h1.stp q2 (by simp)
   have gz:(H2++[AObj.cells [(.str []),(.int .i64 0),(.int .i64 0)]])[H2.length]?=some (.cells [(.str []),(.int .i64 0),(.int .i64 0)]):=by simp
   obtain ⟨s1,s2⟩:=res_store gz rfl [] 0 5
   have h3:StoreAt ((H2++[AObj.cells [(.str []),(.int .i64 0),(.int .i64 0)]]).set H2.length (.cells (resC [] 0 5))) t s A:=h2.frame fun a ha=>by
    have:=h2.lt a ha
    rw [List.getElem?_set_ne (by omega),List.getElem?_append_left this]
   generalize hH3:(H2++[AObj.cells [(.str []),(.int .i64 0),(.int .i64 0)]]).set H2.length (.cells (resC [] 0 5))=H3 at s1 s2 h3
   obtain ⟨H',k⟩:=ih (d++[c]) H3 (by rw [hd];simp) h3
   rw [List.length_append,List.length_singleton] at k
   have hnn:ebin (.pointer 89) .neq .nilp .nilp=some (.bool false):=rfl
   have f1:(afill [(2,1,(.int .i64 5))] [(.str []),(.int .i64 0),(.int .i64 0)]).map AV.agg=some (.agg (resC [] 0 5)):=rfl
   have hq:aeqBin Go.Proofs.Tryd.prog cfg.eqok .neq 60 (.agg (resC [] 0 5)) (.agg (resC [] 0 5))=some (.bool false):=by kernel_rfl
   have e0:((0:Int) != 0)=false:=rfl
   obtain ⟨xl,p1,p2⟩:=List_ro h3 hk
   rw [he] at p2
   have hkl:alenD (.slice 83) xl=some (.int .i64 0):=Sl.len p2 83
   refine ⟨H',?_⟩
   simp only [go_sem,hx.len 46,hlt,L19_TempfileNil_J3_eq,hi,aload_cl,hst,Nat.zero_add,l0,e1,e2,L19_TempfileNil_J5_eq,hld,q1,List.getElem?_cons_zero,List.getElem?_cons_succ,s1,s2,hnn,f1,hq,used_nil,e0,p1,hkl,L19_TempfileNil_J4_eq,hw1]
   exact k
theorem Nil_law {x:AV} {cs:List Cl} (hx:CsV x cs) (hl:cs.length≤1048576):∃ H',C_L19_TempfileNil [x] []=some (.bool true,H'):=by
 rw [F_L19_TempfileNil_eq]
 unfold F_L19_TempfileNil
 obtain ⟨b,k1,_⟩:=few_flat hx hl []
 cases b with
 | false =>
  obtain ⟨H',hw⟩:=awake19_run []
  exact ⟨H',by simp only [k1,go_sem,Bool.not_false,hw]⟩
 | true =>
  obtain ⟨H1,q1,q2,_⟩:=New_run 100 (by omega) []
  obtain ⟨H',k⟩:=nil_loop hx hl (s:=⟨(min (max 100 0) 262144:Int).toNat,0,[],false,0⟩) ⟨by decide,by decide,by decide,by simp,by simp,by simp,by simp,by decide⟩ rfl [] cs [] H1 rfl q2
  refine ⟨H',?_⟩
  simp only [k1,go_sem,Bool.not_true,L19_TempfileNil_J1_eq,q1]
  exact k
end Go.Am
