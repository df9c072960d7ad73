/-
  The functions of the translation over the abstract machine: written by program (wip/gen.py).
-/
import Derived.Test.YtebjpfbenjgglaaGreatDoorProg
import Derived.Test.YtebjpfbenjgglaaGreatDoorTzPfx
namespace Go.Am
open Go.Proofs
set_option maxRecDepth 100000
set_option linter.unusedVariables false
set_option linter.unusedSimpArgs false

def keepList:List (Nat × List (Nat × List Nat)):=[(3,[(3,[0,1,2]),(8,[1,2,7,8,9,11]),(9,[1,2,7,8,9,11,13]),(10,[1,2,7,8,9,11,13]),(11,[1,2,7,8,9,11,13]),(16,[])]),
 (4,[(3,[0,1,2]),(6,[0,1,2,7,8,10]),(7,[0,1,2,7,8,10]),(8,[0,1,2,7,8,10]),(9,[0,2,7]),(16,[0,7,11,12,13,14]),(18,[0,11,14]),(21,[0,11,14,17,18,19]),(22,[0,11,14,17,18,19]),(23,[0,11,14,17,18,19]),(26,[0,11,14,17,18,19]),(27,[14,18])]),
 (5,[(2,[0,3]),(3,[0,3]),(4,[0,3]),(6,[])]),
 (6,[(5,[1,2]),(11,[1,2])]),
 (9,[(3,[0,1,2]),(5,[0,1,2]),(6,[0,1,2,18,19,20]),(7,[0,1,2,18,19,20,21]),(11,[0,1,2,18,19,20]),(12,[0,1,2])]),
 (10,[(3,[0,1,2]),(5,[0,1,2]),(7,[0,1,2,8,9]),(8,[0,1,2,8,9]),(9,[0,1,2,8,9]),(12,[0,1,2]),(14,[0,1,2])]),
 (11,[(29,[1,7])]),
 (12,[(29,[1,7])]),
 (13,[(3,[0])]),
 (14,[(4,[0,3]),(6,[0,3,4,5]),(7,[0,3,4,5]),(8,[0,3,4,5]),(10,[3])]),
 (15,[(3,[0,1]),(4,[0,1,5]),(5,[0,1,5]),(6,[0,1,5]),(8,[])]),
 (16,[(3,[0]),(5,[0,3,10,11,12]),(6,[0,3,10,11,12,13]),(9,[0,3,10,11,12]),(10,[3])]),
 (17,[(4,[0,3]),(5,[0,3,4]),(6,[0,3,4]),(7,[0,3,4]),(8,[3])]),
 (18,[(3,[0,1]),(4,[0,1,5]),(5,[0,1,5]),(6,[0,1,5]),(8,[])]),
 (19,[(4,[0,1,5]),(6,[5,6,21,22,23]),(7,[5,6,21,22,23,24]),(11,[5,6,21,22,23]),(12,[5])]),
 (20,[(4,[0,1,5]),(6,[1,5,6,7]),(7,[1,5,6,7]),(8,[1,5,6,7]),(10,[5])]),
 (21,[(1,[0,1]),(3,[0,1,18,19,20]),(4,[0,1,18,19,20,21]),(10,[0,1,18,19,20])]),
 (22,[(3,[0,1]),(5,[0,1]),(7,[0,1]),(9,[0,1]),(11,[0,1])]),
 (23,[(4,[0,5])]),
 (24,[(3,[1]),(5,[1,3,4]),(6,[1,3,4]),(7,[1,3,4]),(9,[1,3,4]),(10,[3])]),
 (25,[(3,[0]),(5,[0]),(9,[0,4])]),
 (26,[(4,[0,1,2]),(6,[0,1,2]),(9,[0,1,8]),(11,[0,1,8])]),
 (27,[(4,[0,1,2]),(7,[2,10]),(9,[2,10]),(12,[2,12,13])]),
 (28,[(3,[0]),(5,[0]),(6,[0]),(10,[0,3]),(11,[0])]),
 (29,[(2,[0,7,8]),(3,[0,7,8,9]),(8,[0,7,8]),(9,[0])]),
 (30,[(4,[6])]),
 (32,[(4,[0,1]),(7,[0,1])]),
 (33,[(4,[0,1]),(7,[0,1])]),
 (35,[(11,[0,1]),(13,[0,1])]),
 (36,[(4,[0,2,7]),(6,[0,2,7])]),
 (37,[(3,[0])]),
 (38,[(3,[0]),(5,[0]),(9,[0,4])]),
 (39,[(4,[0,1,2]),(6,[0,1,2]),(9,[0,1,8]),(11,[0,1,8])]),
 (40,[(4,[0,1]),(7,[0,1])]),
 (41,[(4,[0,1,2]),(7,[2,10]),(9,[2,10]),(12,[2,12,13])]),
 (42,[(4,[0,1]),(7,[0,1])]),
 (43,[(3,[0]),(5,[0]),(6,[0]),(9,[0]),(10,[0])]),
 (45,[(1,[0,1]),(4,[0,1,4]),(5,[0,1,4]),(6,[0,1,4])]),
 (46,[(4,[0,2,7]),(6,[0,2,7])]),
 (47,[(3,[0,3,10,11,12]),(4,[0,3,10,11,12,13]),(7,[0,3,10,11,12]),(8,[3])]),
 (48,[(2,[0,1,5]),(3,[0,1,5]),(4,[0,1,5]),(6,[])]),
 (51,[(2,[0,5,6]),(3,[0,5,6,7]),(6,[0,5,6]),(7,[0])]),
 (52,[(4,[0,5]),(5,[0,5,6]),(6,[0,5,6]),(7,[0,5,6]),(9,[0,5])]),
 (53,[(3,[0])]),
 (54,[(3,[0]),(4,[0,3]),(5,[0,3]),(6,[0,3]),(9,[])]),
 (55,[(2,[0,1,5]),(3,[0,1,5]),(4,[0,1,5]),(6,[])]),
 (56,[(4,[0,3,4,5,6]),(5,[0,3,4,5,6]),(6,[0,3,4,5,6]),(9,[0,3,4,5,6]),(10,[0,3,4,5]),(12,[0,4])]),
 (57,[(3,[0,1]),(5,[0,1]),(8,[6])]),
 (58,[(2,[0,1,4,5]),(3,[0,1,4,5]),(4,[0,1,4,5]),(6,[0,4])]),
 (60,[(7,[])]),
 (61,[(3,[4,9,10,11]),(4,[4,9,10,11,12]),(8,[4,7,9,10,11]),(9,[4,9,10,11]),(10,[4])]),
 (62,[(4,[2,3,10]),(6,[2,3,10])]),
 (63,[(3,[0,1]),(6,[1,7]),(9,[1,7,8]),(11,[1,7,8]),(13,[1,7,8])]),
 (65,[(3,[0,1]),(5,[0,1]),(8,[6])]),
 (67,[(3,[0]),(4,[0,3]),(5,[0,3]),(6,[0,3]),(9,[])]),
 (68,[(4,[6])]),
 (69,[(6,[0])]),
 (70,[(2,[0,7,8]),(3,[0,7,8,9]),(8,[0,7,8]),(9,[0])]),
 (71,[(3,[0]),(5,[0,3,4]),(6,[0,3,4]),(7,[0,3,4]),(10,[0,3,4,5]),(11,[0,3]),(13,[3])]),
 (72,[(3,[0,1]),(5,[0,1]),(7,[])]),
 (73,[(3,[0,4,5]),(4,[0,4,5]),(5,[0,4,5]),(8,[0,4,5,6]),(9,[4])]),
 (74,[(4,[0,5])]),
 (75,[(3,[0,1,5,6]),(4,[0,1,5,6]),(5,[0,1,5,6]),(7,[5])]),
 (76,[(4,[0,2,3,10]),(7,[2,3,12])]),
 (77,[(3,[0,1]),(5,[0,1]),(8,[0,1,7]),(10,[0,1,7]),(12,[0,1,7])]),
 (78,[(4,[3,4,5]),(5,[3,4,5]),(6,[3,4,5]),(7,[3])]),
 (82,[(3,[0])]),
 (89,[(3,[0])]),
 (91,[(2,[0,1,7,8]),(3,[0,1,7,8,9]),(6,[0,1,7,8]),(7,[])]),
 (96,[(3,[0,3,6,7]),(4,[0,3,6,7,8]),(8,[0,3,6,7]),(9,[3])])]
def userList:List Nat:=[3,4,5,6,7,8,9,10,11,12,13,14,15,16,17,18,19,20,21,22,23,24,25,26,27,28,29,30,31,32,33,34,35,36,37,38,39,40,41,42,43,44,45,46,47,48,49,50,51,52,53,54,55,56,57,58,59,60,61,62,63,64,65,66,67,68,69,70,71,72,73,74,75,76,77,78,79,80,81,82,83,84,85,86,87,88,89,90,91,92,93,94,95,96,97,98,99,100,101,102,103,104,105,106,107,108,109,110,112,113,114,115,116,117,118,119,120,121,122,123,124,125,126,127,128]
def pureList:List Nat:=[]
def flatList:List Nat:=[5,15,18,24,29,31,37,48,50,51,52,54,59,61,63,67,70,71,73,77,79,82,85,89,91,96]
def extList:List (Nat × ExtK):=[(111,.same)]
def roList:List Nat:=[13,14,16,17,19,20,47,78]
def eqList:List Nat:=[37,57]
noncomputable def sumList:List (Nat × (List AV→Option AV)):=[(81,itoaA)]
noncomputable def effList:List (Nat × EffFn):=[(49,namesE),(64,forgetE),(83,textE),(84,stringE),(90,sealE)]
def bldList:List (Nat × Nat):=[(108,5)]
def wrbList:List Nat:=[86]
def qkList:List (Nat × List Nat):=[]
def linList:List Nat:=[90]
noncomputable def cfg:Cfg:={ P:=Tryz.prog,glob:=globF,sum:=fun f=>sumList.lookup f,user:=fun f=>userList.contains f,eqok:=fun t=>eqList.contains t,pure:=fun f=>pureList.contains f,flat:=fun f=>flatList.contains f,ext:=fun f=>extList.lookup f,keep:=keepTab keepList,eff:=fun f=>effList.lookup f,bld:=fun t=>bldList.lookup t,lin:=fun t=>linList.contains t,qk:=fun t a=>qkList.contains (t,a),wrb:=fun t=>wrbList.contains t,ro:=fun f=>roList.contains f }
noncomputable def C_L19_TempfileCalls:List AV→Hp→Res:=callw cfg 3
noncomputable def C_L19_few:List AV→Hp→Res:=callw cfg 5
noncomputable def C_L19_awake:List AV→Hp→Res:=callw cfg 6
noncomputable def C_store_New:List AV→Hp→Res:=callw cfg 7
noncomputable def C_R18_New:List AV→Hp→Res:=callw cfg 8
noncomputable def C_tempfile_Open:List AV→Hp→Res:=callw cfg 9
noncomputable def C_R19_Open:List AV→Hp→Res:=callw cfg 10
noncomputable def C_L19_do:List AV→Hp→Res:=callw cfg 11
noncomputable def C_L19_model:List AV→Hp→Res:=callw cfg 12
noncomputable def C_tempfile_Temps_Used:List AV→Hp→Res:=callw cfg 13
noncomputable def C_R19_Temps_Used:List AV→Hp→Res:=callw cfg 14
noncomputable def C_R18_SameFiles:List AV→Hp→Res:=callw cfg 15
noncomputable def C_store_Store_List:List AV→Hp→Res:=callw cfg 16
noncomputable def C_R18_Store_List:List AV→Hp→Res:=callw cfg 17
noncomputable def C_L19_sameNames:List AV→Hp→Res:=callw cfg 18
noncomputable def C_tempfile_Left:List AV→Hp→Res:=callw cfg 19
noncomputable def C_R19_Left:List AV→Hp→Res:=callw cfg 20
noncomputable def C_store_Store_Restart:List AV→Hp→Res:=callw cfg 21
noncomputable def C_R18_Store_Create:List AV→Hp→Res:=callw cfg 22
noncomputable def C_R18_Store_Remove:List AV→Hp→Res:=callw cfg 23
noncomputable def C_L19_small:List AV→Hp→Res:=callw cfg 24
noncomputable def C_tempfile_Temps_New:List AV→Hp→Res:=callw cfg 25
noncomputable def C_tempfile_Temps_Write:List AV→Hp→Res:=callw cfg 26
noncomputable def C_tempfile_Temps_Read:List AV→Hp→Res:=callw cfg 27
noncomputable def C_tempfile_Temps_Close:List AV→Hp→Res:=callw cfg 28
noncomputable def C_tempfile_valid:List AV→Hp→Res:=callw cfg 29
noncomputable def C_store_Store_Remove:List AV→Hp→Res:=callw cfg 30
noncomputable def C_R19_ownerOk:List AV→Hp→Res:=callw cfg 31
noncomputable def C_tempfile_Temps_Seal:List AV→Hp→Res:=callw cfg 32
noncomputable def C_tempfile_Temps_Remove:List AV→Hp→Res:=callw cfg 33
noncomputable def C_store_Store_FailAfter:List AV→Hp→Res:=callw cfg 34
noncomputable def C_store_Store_Create:List AV→Hp→Res:=callw cfg 35
noncomputable def C_store_Store_Append:List AV→Hp→Res:=callw cfg 36
noncomputable def C_L19_first:List AV→Hp→Res:=callw cfg 37
noncomputable def C_R19_Temps_New:List AV→Hp→Res:=callw cfg 38
noncomputable def C_R19_Temps_Write:List AV→Hp→Res:=callw cfg 39
noncomputable def C_R19_Temps_Seal:List AV→Hp→Res:=callw cfg 40
noncomputable def C_R19_Temps_Read:List AV→Hp→Res:=callw cfg 41
noncomputable def C_R19_Temps_Remove:List AV→Hp→Res:=callw cfg 42
noncomputable def C_R19_Temps_Close:List AV→Hp→Res:=callw cfg 43
noncomputable def C_R18_Store_FailAfter:List AV→Hp→Res:=callw cfg 44
noncomputable def C_R18_Store_Restart:List AV→Hp→Res:=callw cfg 45
noncomputable def C_R18_Store_Append:List AV→Hp→Res:=callw cfg 46
noncomputable def C_tempfile_owned_bytes:List AV→Hp→Res:=callw cfg 47
noncomputable def C_R19_has:List AV→Hp→Res:=callw cfg 48
noncomputable def C_tempfile_prefix:List AV→Hp→Res:=callw cfg 50
noncomputable def C_tempfile_numbered:List AV→Hp→Res:=callw cfg 51
noncomputable def C_R19_temporary:List AV→Hp→Res:=callw cfg 52
noncomputable def C_R18_Store_fails:List AV→Hp→Res:=callw cfg 53
noncomputable def C_R18_FileName:List AV→Hp→Res:=callw cfg 54
noncomputable def C_R18_Store_place:List AV→Hp→Res:=callw cfg 55
noncomputable def C_R18_Store_put:List AV→Hp→Res:=callw cfg 56
noncomputable def C_R18_Store_begin:List AV→Hp→Res:=callw cfg 57
noncomputable def C_R18_Store_drop:List AV→Hp→Res:=callw cfg 58
noncomputable def C_num_Format:List AV→Hp→Res:=callw cfg 59
noncomputable def C_tempfile_Temps_find:List AV→Hp→Res:=callw cfg 60
noncomputable def C_frame_Encode:List AV→Hp→Res:=callw cfg 61
noncomputable def C_store_Store_Read:List AV→Hp→Res:=callw cfg 62
noncomputable def C_frame_Next:List AV→Hp→Res:=callw cfg 63
noncomputable def C_store_Store_open:List AV→Hp→Res:=callw cfg 65
noncomputable def C_store_Store_drop:List AV→Hp→Res:=callw cfg 66
noncomputable def C_R05_IsName:List AV→Hp→Res:=callw cfg 67
noncomputable def C_store_Store_Sync:List AV→Hp→Res:=callw cfg 68
noncomputable def C_store_Store_begin:List AV→Hp→Res:=callw cfg 69
noncomputable def C_store_fileName:List AV→Hp→Res:=callw cfg 70
noncomputable def C_R01_Format:List AV→Hp→Res:=callw cfg 71
noncomputable def C_R19_Temps_own:List AV→Hp→Res:=callw cfg 72
noncomputable def C_R17_Encode:List AV→Hp→Res:=callw cfg 73
noncomputable def C_R18_Store_Sync:List AV→Hp→Res:=callw cfg 74
noncomputable def C_R19_without:List AV→Hp→Res:=callw cfg 75
noncomputable def C_R18_Store_Read:List AV→Hp→Res:=callw cfg 76
noncomputable def C_R17_Next:List AV→Hp→Res:=callw cfg 77
noncomputable def C_R18_Store_Used:List AV→Hp→Res:=callw cfg 78
noncomputable def C_slices_Contains_of_string_string:List AV→Hp→Res:=callw cfg 79
noncomputable def C_frame_Record:List AV→Hp→Res:=callw cfg 82
noncomputable def C_frame_sum:List AV→Hp→Res:=callw cfg 85
noncomputable def C_R17_Record:List AV→Hp→Res:=callw cfg 89
noncomputable def C_slices_Index_of_string_string:List AV→Hp→Res:=callw cfg 91
noncomputable def C_frame_Crc:List AV→Hp→Res:=callw cfg 96

theorem user_ok:∀ f ∈ userList,UserOk Tryz.prog f:=
 userOk_cons Tryz.call3 (
 userOk_cons Tryz.call4 (
 userOk_cons Tryz.call5 (
 userOk_cons Tryz.call6 (
 userOk_cons Tryz.call7 (
 userOk_cons Tryz.call8 (
 userOk_cons Tryz.call9 (
 userOk_cons Tryz.call10 (
 userOk_cons Tryz.call11 (
 userOk_cons Tryz.call12 (
 userOk_cons Tryz.call13 (
 userOk_cons Tryz.call14 (
 userOk_cons Tryz.call15 (
 userOk_cons Tryz.call16 (
 userOk_cons Tryz.call17 (
 userOk_cons Tryz.call18 (
 userOk_cons Tryz.call19 (
 userOk_cons Tryz.call20 (
 userOk_cons Tryz.call21 (
 userOk_cons Tryz.call22 (
 userOk_cons Tryz.call23 (
 userOk_cons Tryz.call24 (
 userOk_cons Tryz.call25 (
 userOk_cons Tryz.call26 (
 userOk_cons Tryz.call27 (
 userOk_cons Tryz.call28 (
 userOk_cons Tryz.call29 (
 userOk_cons Tryz.call30 (
 userOk_cons Tryz.call31 (
 userOk_cons Tryz.call32 (
 userOk_cons Tryz.call33 (
 userOk_cons Tryz.call34 (
 userOk_cons Tryz.call35 (
 userOk_cons Tryz.call36 (
 userOk_cons Tryz.call37 (
 userOk_cons Tryz.call38 (
 userOk_cons Tryz.call39 (
 userOk_cons Tryz.call40 (
 userOk_cons Tryz.call41 (
 userOk_cons Tryz.call42 (
 userOk_cons Tryz.call43 (
 userOk_cons Tryz.call44 (
 userOk_cons Tryz.call45 (
 userOk_cons Tryz.call46 (
 userOk_cons Tryz.call47 (
 userOk_cons Tryz.call48 (
 userOk_cons Tryz.call49 (
 userOk_cons Tryz.call50 (
 userOk_cons Tryz.call51 (
 userOk_cons Tryz.call52 (
 userOk_cons Tryz.call53 (
 userOk_cons Tryz.call54 (
 userOk_cons Tryz.call55 (
 userOk_cons Tryz.call56 (
 userOk_cons Tryz.call57 (
 userOk_cons Tryz.call58 (
 userOk_cons Tryz.call59 (
 userOk_cons Tryz.call60 (
 userOk_cons Tryz.call61 (
 userOk_cons Tryz.call62 (
 userOk_cons Tryz.call63 (
 userOk_cons Tryz.call64 (
 userOk_cons Tryz.call65 (
 userOk_cons Tryz.call66 (
 userOk_cons Tryz.call67 (
 userOk_cons Tryz.call68 (
 userOk_cons Tryz.call69 (
 userOk_cons Tryz.call70 (
 userOk_cons Tryz.call71 (
 userOk_cons Tryz.call72 (
 userOk_cons Tryz.call73 (
 userOk_cons Tryz.call74 (
 userOk_cons Tryz.call75 (
 userOk_cons Tryz.call76 (
 userOk_cons Tryz.call77 (
 userOk_cons Tryz.call78 (
 userOk_cons Tryz.call79 (
 userOk_cons Tryz.call80 (
 userOk_cons Tryz.call81 (
 userOk_cons Tryz.call82 (
 userOk_cons Tryz.call83 (
 userOk_cons Tryz.call84 (
 userOk_cons Tryz.call85 (
 userOk_cons Tryz.call86 (
 userOk_cons Tryz.call87 (
 userOk_cons Tryz.call88 (
 userOk_cons Tryz.call89 (
 userOk_cons Tryz.call90 (
 userOk_cons Tryz.call91 (
 userOk_cons Tryz.call92 (
 userOk_cons Tryz.call93 (
 userOk_cons Tryz.call94 (
 userOk_cons Tryz.call95 (
 userOk_cons Tryz.call96 (
 userOk_cons Tryz.call97 (
 userOk_cons Tryz.call98 (
 userOk_cons Tryz.call99 (
 userOk_cons Tryz.call100 (
 userOk_cons Tryz.call101 (
 userOk_cons Tryz.call102 (
 userOk_cons Tryz.call103 (
 userOk_cons Tryz.call104 (
 userOk_cons Tryz.call105 (
 userOk_cons Tryz.call106 (
 userOk_cons Tryz.call107 (
 userOk_cons Tryz.call108 (
 userOk_cons Tryz.call109 (
 userOk_cons Tryz.call110 (
 userOk_cons Tryz.call112 (
 userOk_cons Tryz.call113 (
 userOk_cons Tryz.call114 (
 userOk_cons Tryz.call115 (
 userOk_cons Tryz.call116 (
 userOk_cons Tryz.call117 (
 userOk_cons Tryz.call118 (
 userOk_cons Tryz.call119 (
 userOk_cons Tryz.call120 (
 userOk_cons Tryz.call121 (
 userOk_cons Tryz.call122 (
 userOk_cons Tryz.call123 (
 userOk_cons Tryz.call124 (
 userOk_cons Tryz.call125 (
 userOk_cons Tryz.call126 (
 userOk_cons Tryz.call127 (
 userOk_cons Tryz.call128 (userOk_nil)))))))))))))))))))))))))))))))))))))))))))))))))))))))))))))))))))))))))))))))))))))))))))))))))))))))))))))))))))))))))))))
theorem eq_ok:∀ t ∈ eqList,Tryz.prog.stoodInHeld t=false∧Tryz.prog.eqGuardType Tryz.prog.depth t=false:=by
 intro t ht
 simp only [eqList,List.mem_cons,List.not_mem_nil,or_false] at ht
 rcases ht with rfl | rfl
 ·exact ⟨Tryz.stoodInHeld37,Tryz.eqGuardType37⟩
 ·exact ⟨Tryz.stoodInHeld57,Tryz.eqGuardType57⟩
theorem ext111_ok (args:Array Value) (w:World):(callFunc 111 args).run Tryz.prog w=(do pure (.value (← extF .same args)):Sem Next).run Tryz.prog w:=by kernel_rfl
theorem ext_ok:∀ f e,cfg.ext f=some e→∀ (args:Array Value) (w:World),(callFunc f args).run Tryz.prog w=(do pure (.value (← extF e args)):Sem Next).run Tryz.prog w:=by
 intro f e h
 have h2:=lookup_mem (l:=extList) h
 simp only [extList,List.mem_cons,Prod.mk.injEq,List.not_mem_nil,or_false] at h2
 rcases h2 with ⟨rfl,rfl⟩
 ·exact ext111_ok
theorem sum_ok:∀ f g,cfg.sum f=some g→cfg.user f=true∧SumOk cfg f g:=by
 intro f g h
 have h2:=lookup_mem (l:=sumList) h
 simp only [sumList,List.mem_cons,Prod.mk.injEq,List.not_mem_nil,or_false] at h2
 rcases h2 with ⟨rfl,rfl⟩
 ·exact ⟨by kernel_rfl,itoaA_ok (C:=cfg) rfl (fun _=>rfl)⟩
theorem eff_ok:∀ f g,cfg.eff f=some g→cfg.user f=true∧EffOk cfg f g:=by
 intro f g h
 have h2:=lookup_mem (l:=effList) h
 simp only [effList,List.mem_cons,Prod.mk.injEq,List.not_mem_nil,or_false] at h2
 rcases h2 with ⟨rfl,rfl⟩ | ⟨rfl,rfl⟩ | ⟨rfl,rfl⟩ | ⟨rfl,rfl⟩ | ⟨rfl,rfl⟩
 ·exact ⟨by kernel_rfl,namesE_ok (C:=cfg) rfl (fun _=>rfl)⟩
 ·exact ⟨by kernel_rfl,forgetE_ok (C:=cfg) rfl (fun _=>rfl)⟩
 ·exact ⟨by kernel_rfl,textE_ok (C:=cfg) rfl (fun _=>rfl)⟩
 ·exact ⟨by kernel_rfl,stringE_ok (C:=cfg) rfl (fun _=>rfl)⟩
 ·exact ⟨by kernel_rfl,sealE_ok (C:=cfg) rfl (fun _=>rfl)⟩
theorem cfg_ok:okCfg cfg:=
 ⟨fun t h=>eq_ok t (List.contains_iff_mem.1 h),fun f h=>user_ok f (List.contains_iff_mem.1 h),by kernel_rfl,ext_ok,sum_ok,eff_ok⟩
end Go.Am
