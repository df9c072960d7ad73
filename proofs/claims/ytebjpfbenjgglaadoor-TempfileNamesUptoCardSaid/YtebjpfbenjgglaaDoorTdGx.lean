/-
  The functions of the translation over the abstract machine: written by program (wip/gen.py).
-/
import Derived.Test.YtebjpfbenjgglaaDoorProg
import Derived.Test.YtebjpfbenjgglaaDoorTdPfx
namespace Go.Am
open Go.Proofs
set_option maxRecDepth 100000
set_option linter.unusedVariables false
set_option linter.unusedSimpArgs false

def keepList:List (Nat × List (Nat × List Nat)):=[(3,[(3,[0,1]),(5,[0,1,5,6,7]),(6,[0,1,5,6,7]),(7,[0,1,5,6,7]),(9,[1,5,6]),(14,[5,6])]),
 (4,[(3,[0,1,2]),(4,[0,1,2,7]),(5,[0,1,2,7]),(6,[0,1,2,7]),(8,[0,1,2]),(11,[0,2,8]),(15,[0,2,8,9,10]),(19,[0,2,9,10,14]),(22,[0,2,9,10,14]),(26,[0,2,9,10,14])]),
 (5,[(3,[0]),(6,[0,3,4,5]),(7,[0,3,4,5]),(8,[0,3,4,5]),(10,[0,3,4,5,6]),(13,[])]),
 (6,[(3,[0,1]),(7,[0,1,5,6]),(8,[0,1,5,6,8]),(9,[0,1,5,6,8]),(10,[0,1,5,6,8]),(12,[0,1,5,6,8,9]),(16,[0,1,5,6,8]),(18,[])]),
 (7,[(5,[1,2]),(11,[1,2])]),
 (10,[(11,[0,1]),(13,[0,1])]),
 (11,[(3,[0,1]),(5,[0,1]),(7,[0,1]),(9,[0,1]),(11,[0,1])]),
 (12,[(4,[0,1,5]),(6,[5,6,21,22,23]),(7,[5,6,21,22,23,24]),(11,[5,6,21,22,23]),(12,[5])]),
 (13,[(4,[0,1,5]),(6,[1,5,6,7]),(7,[1,5,6,7]),(8,[1,5,6,7]),(10,[5])]),
 (14,[(3,[0,1,2]),(5,[0,1,2]),(6,[0,1,2,18,19,20]),(7,[0,1,2,18,19,20,21]),(11,[0,1,2,18,19,20]),(12,[0,1,2])]),
 (15,[(3,[0,1,2]),(5,[0,1,2]),(7,[0,1,2,8,9]),(8,[0,1,2,8,9]),(9,[0,1,2,8,9]),(12,[0,1,2]),(14,[0,1,2])]),
 (16,[(3,[0,1]),(4,[0,1,5]),(5,[0,1,5]),(6,[0,1,5]),(8,[])]),
 (17,[(3,[0,1]),(4,[0,1,5]),(5,[0,1,5]),(6,[0,1,5]),(8,[])]),
 (18,[(3,[0]),(5,[0,3,10,11,12]),(6,[0,3,10,11,12,13]),(9,[0,3,10,11,12]),(10,[3])]),
 (19,[(4,[0,3]),(5,[0,3,4]),(6,[0,3,4]),(7,[0,3,4]),(8,[3])]),
 (20,[(3,[1]),(5,[1,3,4]),(6,[1,3,4]),(7,[1,3,4]),(9,[1,3,4]),(10,[3])]),
 (21,[(3,[0]),(5,[0]),(9,[0,4])]),
 (22,[(4,[0,1,2]),(6,[0,1,2]),(9,[0,1,8]),(11,[0,1,8])]),
 (23,[(3,[0,1,2,8,9]),(4,[0,1,2,8,9]),(7,[0,1,2,8,9,10,11,12]),(9,[0,1,2,8,10,11]),(11,[])]),
 (24,[(4,[0,1]),(7,[0,1])]),
 (26,[(4,[0,1,2]),(7,[2,10]),(9,[2,10]),(12,[2,12,13])]),
 (27,[(1,[0,1]),(3,[0,1,18,19,20]),(4,[0,1,18,19,20,21]),(10,[0,1,18,19,20])]),
 (28,[(2,[0,3]),(3,[0,3]),(4,[0,3]),(6,[])]),
 (29,[(29,[1,7])]),
 (30,[(3,[0])]),
 (31,[(3,[0])]),
 (32,[(3,[0]),(5,[0]),(6,[0]),(10,[0,3]),(11,[0])]),
 (33,[(6,[0])]),
 (34,[(2,[0,7,8]),(3,[0,7,8,9]),(8,[0,7,8]),(9,[0])]),
 (35,[(3,[0])]),
 (36,[(3,[0]),(4,[0,3]),(5,[0,3]),(6,[0,3]),(9,[])]),
 (37,[(2,[0,1,5]),(3,[0,1,5]),(4,[0,1,5]),(6,[])]),
 (38,[(4,[0,3,4,5,6]),(5,[0,3,4,5,6]),(6,[0,3,4,5,6]),(9,[0,3,4,5,6]),(10,[0,3,4,5]),(12,[0,4])]),
 (39,[(2,[0,7,8]),(3,[0,7,8,9]),(8,[0,7,8]),(9,[0])]),
 (41,[(2,[0,5,6]),(3,[0,5,6,7]),(6,[0,5,6]),(7,[0])]),
 (43,[(4,[0,5]),(5,[0,5,6]),(6,[0,5,6]),(7,[0,5,6]),(9,[0,5])]),
 (44,[(4,[6])]),
 (45,[(4,[0,5])]),
 (48,[(7,[])]),
 (49,[(3,[4,9,10,11]),(4,[4,9,10,11,12]),(8,[4,7,9,10,11]),(9,[4,9,10,11]),(10,[4])]),
 (50,[(3,[0,3,10,11,12]),(4,[0,3,10,11,12,13]),(7,[0,3,10,11,12]),(8,[3])]),
 (51,[(4,[0,2,7]),(6,[0,2,7])]),
 (52,[(4,[6])]),
 (53,[(4,[2,3,10]),(6,[2,3,10])]),
 (54,[(3,[0,1]),(6,[1,7]),(9,[1,7,8]),(11,[1,7,8]),(13,[1,7,8])]),
 (55,[(4,[0,1]),(7,[0,1])]),
 (56,[(3,[0])]),
 (58,[(3,[0]),(4,[0,3]),(5,[0,3]),(6,[0,3]),(9,[])]),
 (59,[(3,[0,1]),(5,[0,1]),(8,[6])]),
 (61,[(3,[0,1]),(5,[0,1]),(8,[6])]),
 (62,[(2,[0,1,4,5]),(3,[0,1,4,5]),(4,[0,1,4,5]),(6,[0,4])]),
 (66,[(3,[0])]),
 (76,[(2,[0,1,7,8]),(3,[0,1,7,8,9]),(6,[0,1,7,8]),(7,[])]),
 (78,[(3,[0,3,6,7]),(4,[0,3,6,7,8]),(8,[0,3,6,7]),(9,[3])])]
def userList:List Nat:=[3,4,5,6,7,8,9,10,11,12,13,14,15,16,17,18,19,20,21,22,23,24,25,26,27,28,29,30,31,32,33,34,35,36,37,38,39,40,41,42,43,44,45,46,47,48,49,50,51,52,53,54,55,56,57,58,59,60,61,62,63,64,65,66,67,68,69,70,71,72,73,74,75,76,77,78,79,80,81,82,83,84,85,86,87,88,89,90,91,93,94,95,96,97,98,99,100,101,102,103,104,105,106,107,108,109]
def pureList:List Nat:=[]
def flatList:List Nat:=[16,17,20,28,34,36,39,40,41,42,43,47,49,54,56,58,65,66,69,76,78]
def extList:List (Nat × ExtK):=[(92,.same)]
def roList:List Nat:=[12,13,18,19,30,50]
def eqList:List Nat:=[60,83]
noncomputable def sumList:List (Nat × (List AV→Option AV)):=[(64,itoaA)]
noncomputable def effList:List (Nat × EffFn):=[(46,namesE),(57,forgetE),(67,textE),(68,stringE)]
def bldList:List (Nat × Nat):=[(106,5)]
def wrbList:List Nat:=[74]
def qkList:List (Nat × List Nat):=[]
def linList:List Nat:=[80]
noncomputable def cfg:Cfg:={ P:=Tryd.prog,glob:=globF,sum:=fun f=>sumList.lookup f,user:=fun f=>userList.contains f,eqok:=fun t=>eqList.contains t,pure:=fun f=>pureList.contains f,flat:=fun f=>flatList.contains f,ext:=fun f=>extList.lookup f,keep:=keepTab keepList,eff:=fun f=>effList.lookup f,bld:=fun t=>bldList.lookup t,lin:=fun t=>linList.contains t,qk:=fun t a=>qkList.contains (t,a),wrb:=fun t=>wrbList.contains t,ro:=fun f=>roList.contains f }
noncomputable def C_L19_TempfileNames:List AV→Hp→Res:=callw cfg 3
noncomputable def C_L19_awake:List AV→Hp→Res:=callw cfg 7
noncomputable def C_store_New:List AV→Hp→Res:=callw cfg 8
noncomputable def C_R18_New:List AV→Hp→Res:=callw cfg 9
noncomputable def C_store_Store_Create:List AV→Hp→Res:=callw cfg 10
noncomputable def C_R18_Store_Create:List AV→Hp→Res:=callw cfg 11
noncomputable def C_tempfile_Left:List AV→Hp→Res:=callw cfg 12
noncomputable def C_R19_Left:List AV→Hp→Res:=callw cfg 13
noncomputable def C_tempfile_Open:List AV→Hp→Res:=callw cfg 14
noncomputable def C_R19_Open:List AV→Hp→Res:=callw cfg 15
noncomputable def C_L19_sameNames:List AV→Hp→Res:=callw cfg 16
noncomputable def C_R18_SameFiles:List AV→Hp→Res:=callw cfg 17
noncomputable def C_store_Store_List:List AV→Hp→Res:=callw cfg 18
noncomputable def C_R18_Store_List:List AV→Hp→Res:=callw cfg 19
noncomputable def C_tempfile_Temps_New:List AV→Hp→Res:=callw cfg 21
noncomputable def C_tempfile_Temps_Write:List AV→Hp→Res:=callw cfg 22
noncomputable def C_tempfile_Temps_Read:List AV→Hp→Res:=callw cfg 26
noncomputable def C_tempfile_Temps_Used:List AV→Hp→Res:=callw cfg 30
noncomputable def C_tempfile_Temps_Close:List AV→Hp→Res:=callw cfg 32
noncomputable def C_store_Store_begin:List AV→Hp→Res:=callw cfg 33
noncomputable def C_store_fileName:List AV→Hp→Res:=callw cfg 34
noncomputable def C_R18_Store_fails:List AV→Hp→Res:=callw cfg 35
noncomputable def C_R18_FileName:List AV→Hp→Res:=callw cfg 36
noncomputable def C_R18_Store_place:List AV→Hp→Res:=callw cfg 37
noncomputable def C_R18_Store_put:List AV→Hp→Res:=callw cfg 38
noncomputable def C_tempfile_valid:List AV→Hp→Res:=callw cfg 39
noncomputable def C_tempfile_prefix:List AV→Hp→Res:=callw cfg 40
noncomputable def C_tempfile_numbered:List AV→Hp→Res:=callw cfg 41
noncomputable def C_R19_ownerOk:List AV→Hp→Res:=callw cfg 42
noncomputable def C_R19_temporary:List AV→Hp→Res:=callw cfg 43
noncomputable def C_store_Store_Remove:List AV→Hp→Res:=callw cfg 44
noncomputable def C_R18_Store_Remove:List AV→Hp→Res:=callw cfg 45
noncomputable def C_num_Format:List AV→Hp→Res:=callw cfg 47
noncomputable def C_tempfile_Temps_find:List AV→Hp→Res:=callw cfg 48
noncomputable def C_frame_Encode:List AV→Hp→Res:=callw cfg 49
noncomputable def C_tempfile_owned_bytes:List AV→Hp→Res:=callw cfg 50
noncomputable def C_store_Store_Append:List AV→Hp→Res:=callw cfg 51
noncomputable def C_store_Store_Read:List AV→Hp→Res:=callw cfg 53
noncomputable def C_frame_Next:List AV→Hp→Res:=callw cfg 54
noncomputable def C_R05_IsName:List AV→Hp→Res:=callw cfg 58
noncomputable def C_store_Store_open:List AV→Hp→Res:=callw cfg 59
noncomputable def C_store_Store_drop:List AV→Hp→Res:=callw cfg 60
noncomputable def C_R18_Store_begin:List AV→Hp→Res:=callw cfg 61
noncomputable def C_R18_Store_drop:List AV→Hp→Res:=callw cfg 62
noncomputable def C_slices_Contains_of_string_string:List AV→Hp→Res:=callw cfg 65
noncomputable def C_frame_Record:List AV→Hp→Res:=callw cfg 66
noncomputable def C_frame_sum:List AV→Hp→Res:=callw cfg 69
noncomputable def C_slices_Index_of_string_string:List AV→Hp→Res:=callw cfg 76
noncomputable def C_frame_Crc:List AV→Hp→Res:=callw cfg 78

theorem user_ok:∀ f ∈ userList,UserOk Tryd.prog f:=
 userOk_cons Tryd.call3 (
 userOk_cons Tryd.call4 (
 userOk_cons Tryd.call5 (
 userOk_cons Tryd.call6 (
 userOk_cons Tryd.call7 (
 userOk_cons Tryd.call8 (
 userOk_cons Tryd.call9 (
 userOk_cons Tryd.call10 (
 userOk_cons Tryd.call11 (
 userOk_cons Tryd.call12 (
 userOk_cons Tryd.call13 (
 userOk_cons Tryd.call14 (
 userOk_cons Tryd.call15 (
 userOk_cons Tryd.call16 (
 userOk_cons Tryd.call17 (
 userOk_cons Tryd.call18 (
 userOk_cons Tryd.call19 (
 userOk_cons Tryd.call20 (
 userOk_cons Tryd.call21 (
 userOk_cons Tryd.call22 (
 userOk_cons Tryd.call23 (
 userOk_cons Tryd.call24 (
 userOk_cons Tryd.call25 (
 userOk_cons Tryd.call26 (
 userOk_cons Tryd.call27 (
 userOk_cons Tryd.call28 (
 userOk_cons Tryd.call29 (
 userOk_cons Tryd.call30 (
 userOk_cons Tryd.call31 (
 userOk_cons Tryd.call32 (
 userOk_cons Tryd.call33 (
 userOk_cons Tryd.call34 (
 userOk_cons Tryd.call35 (
 userOk_cons Tryd.call36 (
 userOk_cons Tryd.call37 (
 userOk_cons Tryd.call38 (
 userOk_cons Tryd.call39 (
 userOk_cons Tryd.call40 (
 userOk_cons Tryd.call41 (
 userOk_cons Tryd.call42 (
 userOk_cons Tryd.call43 (
 userOk_cons Tryd.call44 (
 userOk_cons Tryd.call45 (
 userOk_cons Tryd.call46 (
 userOk_cons Tryd.call47 (
 userOk_cons Tryd.call48 (
 userOk_cons Tryd.call49 (
 userOk_cons Tryd.call50 (
 userOk_cons Tryd.call51 (
 userOk_cons Tryd.call52 (
 userOk_cons Tryd.call53 (
 userOk_cons Tryd.call54 (
 userOk_cons Tryd.call55 (
 userOk_cons Tryd.call56 (
 userOk_cons Tryd.call57 (
 userOk_cons Tryd.call58 (
 userOk_cons Tryd.call59 (
 userOk_cons Tryd.call60 (
 userOk_cons Tryd.call61 (
 userOk_cons Tryd.call62 (
 userOk_cons Tryd.call63 (
 userOk_cons Tryd.call64 (
 userOk_cons Tryd.call65 (
 userOk_cons Tryd.call66 (
 userOk_cons Tryd.call67 (
 userOk_cons Tryd.call68 (
 userOk_cons Tryd.call69 (
 userOk_cons Tryd.call70 (
 userOk_cons Tryd.call71 (
 userOk_cons Tryd.call72 (
 userOk_cons Tryd.call73 (
 userOk_cons Tryd.call74 (
 userOk_cons Tryd.call75 (
 userOk_cons Tryd.call76 (
 userOk_cons Tryd.call77 (
 userOk_cons Tryd.call78 (
 userOk_cons Tryd.call79 (
 userOk_cons Tryd.call80 (
 userOk_cons Tryd.call81 (
 userOk_cons Tryd.call82 (
 userOk_cons Tryd.call83 (
 userOk_cons Tryd.call84 (
 userOk_cons Tryd.call85 (
 userOk_cons Tryd.call86 (
 userOk_cons Tryd.call87 (
 userOk_cons Tryd.call88 (
 userOk_cons Tryd.call89 (
 userOk_cons Tryd.call90 (
 userOk_cons Tryd.call91 (
 userOk_cons Tryd.call93 (
 userOk_cons Tryd.call94 (
 userOk_cons Tryd.call95 (
 userOk_cons Tryd.call96 (
 userOk_cons Tryd.call97 (
 userOk_cons Tryd.call98 (
 userOk_cons Tryd.call99 (
 userOk_cons Tryd.call100 (
 userOk_cons Tryd.call101 (
 userOk_cons Tryd.call102 (
 userOk_cons Tryd.call103 (
 userOk_cons Tryd.call104 (
 userOk_cons Tryd.call105 (
 userOk_cons Tryd.call106 (
 userOk_cons Tryd.call107 (
 userOk_cons Tryd.call108 (
 userOk_cons Tryd.call109 (userOk_nil))))))))))))))))))))))))))))))))))))))))))))))))))))))))))))))))))))))))))))))))))))))))))))))))))))))))))
theorem eq_ok:∀ t ∈ eqList,Tryd.prog.stoodInHeld t=false∧Tryd.prog.eqGuardType Tryd.prog.depth t=false:=by
 intro t ht
 simp only [eqList,List.mem_cons,List.not_mem_nil,or_false] at ht
 rcases ht with rfl | rfl
 ·exact ⟨Tryd.stoodInHeld60,Tryd.eqGuardType60⟩
 ·exact ⟨Tryd.stoodInHeld83,Tryd.eqGuardType83⟩
theorem ext92_ok (args:Array Value) (w:World):(callFunc 92 args).run Tryd.prog w=(do pure (.value (← extF .same args)):Sem Next).run Tryd.prog w:=by kernel_rfl
theorem ext_ok:∀ f e,cfg.ext f=some e→∀ (args:Array Value) (w:World),(callFunc f args).run Tryd.prog w=(do pure (.value (← extF e args)):Sem Next).run Tryd.prog w:=by
 intro f e h
 have h2:=lookup_mem (l:=extList) h
 simp only [extList,List.mem_cons,Prod.mk.injEq,List.not_mem_nil,or_false] at h2
 rcases h2 with ⟨rfl,rfl⟩
 ·exact ext92_ok
theorem sum_ok:∀ f g,cfg.sum f=some g→cfg.user f=true∧SumOk cfg f g:=by
 intro f g h
 have h2:=lookup_mem (l:=sumList) h
 simp only [sumList,List.mem_cons,Prod.mk.injEq,List.not_mem_nil,or_false] at h2
 rcases h2 with ⟨rfl,rfl⟩
 ·exact ⟨by kernel_rfl,itoaA_ok (C:=cfg) rfl (fun _=>rfl)⟩
theorem eff_ok:∀ f g,cfg.eff f=some g→cfg.user f=true∧EffOk cfg f g:=by
 intro f g h
 have h2:=lookup_mem (l:=effList) h
 simp only [effList,List.mem_cons,Prod.mk.injEq,List.not_mem_nil,or_false] at h2
 rcases h2 with ⟨rfl,rfl⟩ | ⟨rfl,rfl⟩ | ⟨rfl,rfl⟩ | ⟨rfl,rfl⟩
 ·exact ⟨by kernel_rfl,namesE_ok (C:=cfg) rfl (fun _=>rfl)⟩
 ·exact ⟨by kernel_rfl,forgetE_ok (C:=cfg) rfl (fun _=>rfl)⟩
 ·exact ⟨by kernel_rfl,textE_ok (C:=cfg) rfl (fun _=>rfl)⟩
 ·exact ⟨by kernel_rfl,stringE_ok (C:=cfg) rfl (fun _=>rfl)⟩
theorem cfg_ok:okCfg cfg:=
 ⟨fun t h=>eq_ok t (List.contains_iff_mem.1 h),fun f h=>user_ok f (List.contains_iff_mem.1 h),by kernel_rfl,ext_ok,sum_ok,eff_ok⟩
end Go.Am
