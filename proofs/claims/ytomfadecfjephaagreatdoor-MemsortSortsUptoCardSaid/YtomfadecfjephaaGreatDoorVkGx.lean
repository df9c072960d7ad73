/-
  The functions of the translation over the abstract machine: written by program (wip/gen.py).
-/
import Derived.Test.YtomfadecfjephaaGreatDoorProg
import Derived.Test.YtomfadecfjephaaGreatDoorVkPx
namespace Go.Am
open Go.Proofs
set_option maxRecDepth 100000
set_option linter.unusedVariables false
set_option linter.unusedSimpArgs false

def keepList : List (Nat × List (Nat × List Nat)) := [(3, [(3, [2, 3, 4])]),
  (4, [(3, [2, 3, 4])]),
  (7, [(3, [2]), (4, [2, 7]), (5, [2, 7]), (6, [2, 7]), (8, [])]),
  (9, [(3, [0, 1]), (4, [0, 1, 5]), (5, [0, 1, 5]), (6, [0, 1, 5]), (8, [])]),
  (10, [(3, [2, 3, 4]), (6, [7]), (1000003, [3, 4])]),
  (11, [(4, [2, 3, 4, 7]), (5, [2, 3, 4, 7, 8]), (6, [2, 3, 4, 7, 8]), (7, [2, 3, 4, 7, 8]), (8, [3, 4, 7])]),
  (12, [(3, [2, 3, 4]), (4, [2, 3, 4, 7]), (5, [2, 3, 4, 7]), (6, [2, 3, 4, 7]), (9, [])]),
  (13, [(3, [2, 3, 4]), (4, [2, 3, 4, 7]), (5, [2, 3, 4, 7]), (6, [2, 3, 4, 7]), (9, [])]),
  (14, [(3, [0, 3, 4]), (4, [0, 3, 4]), (5, [0, 3, 4]), (6, [3])]),
  (15, [(3, [2, 3, 4]), (7, [3, 4, 7, 8, 9, 10]), (8, [3, 4, 7, 8, 9]), (9, [3, 4, 7, 8, 9, 10]), (11, [3, 4, 9]), (13, [9]), (1000003, [3, 4])]),
  (16, [(4, [2, 7, 8]), (5, [2, 7, 8]), (6, [2, 7, 8]), (7, [7]), (8, [2, 3, 4, 7]), (9, [2, 3, 4, 7, 9]), (11, [2, 3, 4, 7, 9, 10, 11]), (12, [2, 3, 4, 7, 9, 10, 11]), (13, [2, 3, 4, 7, 9, 10, 11]), (15, [2, 3, 4, 7, 9, 10]), (17, [2, 3, 4, 7, 9, 10])]),
  (17, [(4, [2, 3, 4, 5]), (5, [2, 3, 4, 5, 26, 27, 28]), (6, [2, 3, 4, 5, 26, 27, 28, 29]), (10, [2, 3, 4, 5, 10, 11, 26, 27, 28]), (13, [2, 3, 4, 5, 26, 27, 28]), (14, []), (1000010, [4, 5, 10])]),
  (18, [(4, [2, 3, 4, 5]), (5, [2, 3, 4, 5, 9]), (6, [2, 3, 4, 5, 9]), (7, [2, 3, 4, 5, 9]), (10, [2, 3, 4, 5, 9, 10]), (13, []), (1000010, [4, 5, 10])]),
  (19, [(5, [2, 3, 4, 5]), (8, [9])]),
  (20, [(5, [2, 3, 4, 5]), (8, [9])]),
  (23, [(3, [1]), (5, [1]), (6, [33, 34, 35]), (7, [33, 34, 35, 36]), (10, [33, 34, 35]), (11, [])]),
  (25, [(4, [0, 1, 2, 3, 4]), (5, [0, 1, 2, 3, 4]), (6, [0, 1, 2, 3, 4]), (9, [0, 1, 2, 3, 4, 5, 6]), (11, [0, 1, 2, 3, 4, 5, 6]), (14, [0, 1, 2, 3])]),
  (26, [(3, [0])]),
  (27, [(3, [0, 1]), (6, [1, 6, 7, 8]), (7, [1, 6, 7, 8]), (12, [6, 7, 8])]),
  (29, [(3, [1, 5, 8, 9, 10]), (4, [1, 5, 8, 9, 10, 11]), (7, [1, 5, 8, 9, 10]), (8, [5])]),
  (31, [(3, [1]), (5, [1]), (6, [1, 3]), (7, [1, 3]), (8, [1, 3]), (10, [])]),
  (32, [(2, [2, 3, 4, 5, 9]), (3, [2, 3, 4, 5, 9]), (4, [2, 3, 9])]),
  (33, [(3, [2, 3, 4, 7, 8]), (4, [2, 3, 4, 7, 8]), (5, [2, 3, 4, 7, 8]), (7, [7])]),
  (34, [(3, [0, 3, 9, 10, 11]), (4, [0, 3, 9, 10, 11, 12]), (8, [0, 3, 9, 10, 11]), (9, [0, 3]), (11, [6, 25, 26, 27]), (12, [6, 25, 26, 27, 28]), (14, [6, 25, 26, 27]), (15, [6])]),
  (36, [(3, [0])]),
  (37, [(3, [0, 1, 5, 8, 9, 10]), (4, [0, 1, 5, 8, 9, 10, 11]), (7, [0, 1, 5, 8, 9, 10]), (8, [5])]),
  (39, [(3, [1, 2])]),
  (40, [(4, [4, 5, 6, 7, 9]), (8, [4, 5, 6, 7, 9]), (1000011, [4])]),
  (41, [(4, [0, 2, 4, 7, 8]), (12, [0, 7, 10]), (14, [0, 7, 10])]),
  (42, [(3, [1, 2])]),
  (43, [(5, [3, 9]), (7, [9])]),
  (44, [(5, [0, 4, 7, 8, 9]), (12, [0, 11, 12]), (14, [0, 11, 12]), (1000002, [4]), (1000006, [10]), (1000011, [13])]),
  (45, [(5, [1, 2, 8, 9, 24, 25]), (6, [1, 2, 8, 9, 24, 25, 26]), (9, [1, 2, 8, 9, 10, 24, 25]), (11, [1, 2, 8, 9, 24, 25]), (12, [1, 2, 8, 9]), (14, [1, 2, 8, 9]), (16, [1, 2]), (1000002, [3])]),
  (46, [(5, [1, 2])]),
  (49, [(3, [1])]),
  (50, [(3, [0, 1]), (6, [0])]),
  (51, [(2, [0, 4]), (3, [0, 4]), (4, [0, 4]), (7, [0, 4, 5]), (14, [5, 6, 7, 8, 9]), (16, [5, 7, 8, 9]), (19, [9, 11])]),
  (52, [(5, [])]),
  (56, [(3, [0, 3, 7, 8]), (4, [0, 3, 7, 8, 9]), (8, [0, 3, 7, 8]), (9, [3])]),
  (59, [(3, [0, 1, 2, 6, 9]), (4, [0, 1, 2, 6, 9]), (7, [0, 1, 2, 6, 9, 10]), (9, [0, 1, 2, 6, 9, 10]), (10, [0, 1, 6]), (11, [0, 1, 6, 11]), (12, [0, 1, 6, 11]), (13, [0, 1, 6, 11]), (14, [0, 1, 6, 7, 11]), (15, [0, 1, 6, 7, 11]), (16, [0, 1, 6, 7, 11]), (17, [0, 1, 6, 7, 11]), (18, [0, 1, 6, 7, 11]), (20, [0, 1, 7, 11]), (21, [])]),
  (60, [(5, [5, 7]), (7, [])]),
  (61, [(1, [1, 2, 3]), (2, [1, 2, 3]), (3, [1, 2, 3]), (5, [1, 2, 3]), (7, [1])]),
  (62, [(5, [0, 1, 5, 6, 7]), (6, [0, 1, 5, 6, 7]), (7, [0, 1, 5, 6, 7]), (10, [0, 5, 6]), (11, [0, 5, 6]), (12, [0, 5, 6, 8]), (13, [0, 5, 6, 8]), (14, [0, 5, 6, 8]), (17, [0, 5, 6]), (19, [5])]),
  (63, [(3, [1])]),
  (64, [(3, [1])]),
  (65, [(3, [1, 2])]),
  (67, [(3, [1, 2, 3, 6, 16, 17, 18]), (4, [1, 2, 3, 6, 16, 17, 18, 19]), (6, [1, 2, 3, 6, 16, 17, 18]), (7, [1, 2, 3, 6]), (8, [1, 2, 3, 6, 9]), (9, [1, 2, 3, 6, 9]), (14, [1, 2, 3, 6, 9, 10, 11]), (15, [1, 2, 3, 6, 9, 10])]),
  (70, [(3, [1, 2])]),
  (71, [(2, [0, 1, 5]), (3, [0, 1, 5]), (4, [0, 1, 5]), (6, [0, 1, 5]), (8, [0, 1]), (10, [0, 1]), (12, [])]),
  (72, [(3, [1, 2, 5, 6]), (4, [1, 2, 5, 6]), (10, [5])]),
  (73, [(3, [0, 1, 5, 6, 7]), (4, [0, 1, 5, 6, 7]), (5, [0, 1, 5, 6, 7]), (6, [1, 5, 6]), (7, [1, 5, 6, 8]), (8, [1, 5, 6, 8]), (9, [1, 5, 6, 8]), (10, [5, 6])]),
  (75, [(2, [0, 3]), (3, [0, 3]), (4, [3])]),
  (76, [(3, [0, 1, 5, 8, 9]), (4, [0, 1, 5, 8, 9, 10]), (8, [0, 1, 5, 8, 9]), (9, [1, 5])]),
  (84, [(3, [0, 5, 10, 11]), (4, [0, 5, 10, 11, 12]), (6, [0, 5, 10, 11]), (7, [5])]),
  (86, [(2, [0, 4]), (3, [0, 4]), (4, [0, 4]), (7, [0, 4, 5]), (14, [0, 4, 5, 6, 7, 8]), (16, [0, 4, 5, 6, 7, 8]), (18, [0, 4, 5, 6, 7, 8]), (21, [5, 7, 10]), (23, [7, 10])]),
  (88, [(3, [0, 3, 4]), (4, [0, 3, 4]), (5, [0, 3, 4]), (8, [3])]),
  (90, [(3, [1]), (5, [1]), (6, [1, 27, 28, 29]), (7, [1, 27, 28, 29, 30]), (10, [1, 27, 28, 29]), (11, [1]), (14, [1])]),
  (91, [(3, [0, 1, 5, 6]), (4, [0, 1, 5, 6, 7]), (6, [0, 1, 5, 6]), (7, [0, 1])]),
  (93, [(3, [1]), (5, [1]), (6, [1, 3]), (7, [1, 3]), (8, [1, 3]), (10, [1]), (12, [1]), (15, [1])]),
  (94, [(2, [1, 2, 3, 7]), (3, [1, 2, 3, 7]), (4, [1, 2, 3, 7]), (6, [])]),
  (95, [(12, [])]),
  (99, [(3, [0, 3, 5]), (4, [0, 3, 5, 6]), (8, [0, 3, 5]), (9, [3])]),
  (105, [(1, [0, 1]), (2, [0, 1]), (3, [1])]),
  (106, [(3, [0, 1, 6, 7]), (4, [0, 1, 6, 7]), (5, [0, 1, 6, 7]), (8, [1, 6]), (9, [1, 6, 8]), (10, [1, 6, 8]), (11, [1, 6, 8]), (14, [6])]),
  (107, [(3, [0, 1, 5, 6]), (4, [0, 1, 5, 6]), (5, [0, 1, 5, 6]), (6, [5])]),
  (108, [(2, [0, 7, 8]), (3, [0, 7, 8, 9]), (8, [0, 7, 8]), (9, [0])]),
  (109, [(3, [0]), (5, [3, 10, 11, 12]), (6, [3, 10, 11, 12, 13]), (9, [3, 5, 10, 11, 12]), (11, [3, 5, 10, 11, 12]), (12, [3, 10, 11, 12]), (13, [])]),
  (110, [(3, [0]), (5, [3, 10, 11, 12]), (6, [3, 10, 11, 12, 13]), (9, [3, 5, 10, 11, 12]), (11, [3, 5, 10, 11, 12]), (12, [3, 10, 11, 12]), (13, [])]),
  (111, [(3, [0, 1, 2, 7, 11, 12]), (4, [0, 1, 2, 7, 11, 12, 13]), (8, [0, 1, 2, 7, 11, 12]), (9, [7])]),
  (113, [(3, [0]), (4, [0, 3]), (5, [0, 3]), (6, [0, 3]), (9, [])]),
  (115, [(3, [0]), (4, [0, 3]), (5, [0, 3]), (6, [0, 3]), (8, [0, 3]), (9, [0, 3, 4]), (10, [0, 3, 4]), (11, [0, 3, 4]), (13, [])]),
  (116, [(3, [0]), (4, [0, 3]), (5, [0, 3]), (6, [0, 3]), (8, [0, 3]), (9, [0, 3, 4]), (10, [0, 3, 4]), (11, [0, 3, 4]), (13, [])])]
def userList : List Nat := [3, 4, 5, 6, 7, 8, 9, 10, 11, 12, 13, 14, 15, 16, 17, 18, 19, 20, 21, 22, 23, 24, 25, 26, 27, 28, 29, 30, 31, 32, 33, 34, 35, 36, 37, 38, 39, 40, 41, 42, 43, 44, 45, 46, 47, 48, 49, 50, 51, 52, 53, 54, 55, 56, 57, 58, 59, 60, 61, 62, 63, 64, 65, 66, 67, 68, 69, 70, 71, 72, 73, 74, 75, 76, 77, 78, 79, 80, 81, 82, 83, 84, 85, 86, 87, 88, 89, 90, 91, 92, 93, 94, 95, 96, 97, 98, 99, 100, 101, 102, 103, 104, 105, 106, 107, 108, 109, 110, 111, 113, 114, 115, 116, 117, 118, 119, 122, 123, 124, 125, 127, 128, 129, 130, 131, 132, 133, 134, 135, 136, 137, 138, 139, 140, 141, 142, 143, 144, 145, 146, 147, 148, 149, 150, 151, 152, 153, 154, 155, 156, 157, 158]
def pureList : List Nat := []
def flatList : List Nat := [7, 8, 9, 10, 11, 12, 13, 14, 15, 16, 17, 18, 19, 20, 23, 24, 25, 26, 27, 28, 29, 30, 31, 32, 33, 35, 38, 39, 40, 42, 43, 45, 46, 47, 49, 51, 52, 54, 56, 57, 58, 60, 61, 65, 66, 69, 70, 71, 72, 73, 75, 76, 84, 86, 88, 89, 90, 91, 92, 93, 94, 95, 99, 105, 106, 107, 108, 109, 110, 111, 113, 114, 115, 116]
def extList : List (Nat × ExtK) := [(112, .cmp), (120, .same), (121, .indexByte)]
def eqList : List Nat := []
noncomputable def sumList : List (Nat × (List AV → Option AV)) := [(55, trimA)]
noncomputable def effList : List (Nat × EffFn) := [(82, byteE), (83, stringE)]
def bldList : List (Nat × Nat) := [(106, 5)]
def wrbList : List Nat := [65]
def qkList : List (Nat × List Nat) := [(11, [12]), (14, [15])]
def linList : List Nat := [30]
noncomputable def cfg : Cfg := { P := Tryz.prog, glob := globF, sum := fun f => sumList.lookup f, user := fun f => userList.contains f, eqok := fun t => eqList.contains t, pure := fun f => pureList.contains f, flat := fun f => flatList.contains f, ext := fun f => extList.lookup f, keep := keepTab keepList, eff := fun f => effList.lookup f, bld := fun t => bldList.lookup t, lin := fun t => linList.contains t, qk := fun t a => qkList.contains (t, a), wrb := fun t => wrbList.contains t }
noncomputable def C_L21_MemsortSorts : List AV → Hp → Res := callw cfg 3
noncomputable def C_L21_few : List AV → Hp → Res := callw cfg 7
noncomputable def C_L21_awake : List AV → Hp → Res := callw cfg 8
noncomputable def C_R21_Same : List AV → Hp → Res := callw cfg 9
noncomputable def C_memsort_Sort : List AV → Hp → Res := callw cfg 10
noncomputable def C_R21_Sort : List AV → Hp → Res := callw cfg 11
noncomputable def C_memsort_Unsorted : List AV → Hp → Res := callw cfg 12
noncomputable def C_R21_Unsorted : List AV → Hp → Res := callw cfg 13
noncomputable def C_sortkey_Compare : List AV → Hp → Res := callw cfg 17
noncomputable def C_R20_Compare : List AV → Hp → Res := callw cfg 18
noncomputable def C_sortkey_Order : List AV → Hp → Res := callw cfg 19
noncomputable def C_R20_Order : List AV → Hp → Res := callw cfg 20
noncomputable def C_sortkey_Check : List AV → Hp → Res := callw cfg 23
noncomputable def C_L07_Light : List AV → Hp → Res := callw cfg 24
noncomputable def C_R05_Default : List AV → Hp → Res := callw cfg 25
noncomputable def C_slices_Clone_of_string_string : List AV → Hp → Res := callw cfg 26
noncomputable def C_memsort_mergeSort_of_string : List AV → Hp → Res := callw cfg 27
noncomputable def C_memsort_Sort_1 : List AV → Hp → Res := callw cfg 28
noncomputable def C_memsort_once_of_string : List AV → Hp → Res := callw cfg 29
noncomputable def C_memsort_Sort_2 : List AV → Hp → Res := callw cfg 30
noncomputable def C_R20_Check : List AV → Hp → Res := callw cfg 31
noncomputable def C_R21_insert : List AV → Hp → Res := callw cfg 32
noncomputable def C_R21_once : List AV → Hp → Res := callw cfg 33
noncomputable def C_sortkey_valid : List AV → Hp → Res := callw cfg 39
noncomputable def C_sortkey_parts : List AV → Hp → Res := callw cfg 40
noncomputable def C_sortkey_Extract : List AV → Hp → Res := callw cfg 41
noncomputable def C_R20_valid : List AV → Hp → Res := callw cfg 42
noncomputable def C_R20_parts : List AV → Hp → Res := callw cfg 43
noncomputable def C_R20_Extract : List AV → Hp → Res := callw cfg 44
noncomputable def C_locale_Compare : List AV → Hp → Res := callw cfg 45
noncomputable def C_R05_Compare : List AV → Hp → Res := callw cfg 46
noncomputable def C_R20_Has : List AV → Hp → Res := callw cfg 47
noncomputable def C_R20_right : List AV → Hp → Res := callw cfg 49
noncomputable def C_decimal_Prefix : List AV → Hp → Res := callw cfg 51
noncomputable def C_sortkey_sign : List AV → Hp → Res := callw cfg 52
noncomputable def C_sortkey_parts_1 : List AV → Hp → Res := callw cfg 53
noncomputable def C_sortkey_parts_2 : List AV → Hp → Res := callw cfg 54
noncomputable def C_sortkey_dict : List AV → Hp → Res := callw cfg 56
noncomputable def C_sortkey_parts_3 : List AV → Hp → Res := callw cfg 57
noncomputable def C_locale_Upper : List AV → Hp → Res := callw cfg 58
noncomputable def C_sortkey_field : List AV → Hp → Res := callw cfg 59
noncomputable def C_R20_numbers : List AV → Hp → Res := callw cfg 60
noncomputable def C_R20_shape : List AV → Hp → Res := callw cfg 61
noncomputable def C_R20_Fields : List AV → Hp → Res := callw cfg 62
noncomputable def C_R20_most : List AV → Hp → Res := callw cfg 63
noncomputable def C_R20_least : List AV → Hp → Res := callw cfg 64
noncomputable def C_locale_valid : List AV → Hp → Res := callw cfg 65
noncomputable def C_locale_Compare_1 : List AV → Hp → Res := callw cfg 66
noncomputable def C_locale_each : List AV → Hp → Res := callw cfg 67
noncomputable def C_locale_Compare_1_1 : List AV → Hp → Res := callw cfg 68
noncomputable def C_strings_Compare : List AV → Hp → Res := callw cfg 69
noncomputable def C_R05_valid : List AV → Hp → Res := callw cfg 70
noncomputable def C_R05_order : List AV → Hp → Res := callw cfg 71
noncomputable def C_R05_weights : List AV → Hp → Res := callw cfg 72
noncomputable def C_R05_Bytes : List AV → Hp → Res := callw cfg 73
noncomputable def C_decimal_digits : List AV → Hp → Res := callw cfg 75
noncomputable def C_decimal_value : List AV → Hp → Res := callw cfg 76
noncomputable def C_sortkey_blank : List AV → Hp → Res := callw cfg 81
noncomputable def C_locale_mapped : List AV → Hp → Res := callw cfg 84
noncomputable def C_strings_IndexByte : List AV → Hp → Res := callw cfg 85
noncomputable def C_R02_Prefix : List AV → Hp → Res := callw cfg 86
noncomputable def C_R20_blank : List AV → Hp → Res := callw cfg 87
noncomputable def C_R20_dict : List AV → Hp → Res := callw cfg 88
noncomputable def C_R05_Upper : List AV → Hp → Res := callw cfg 89
noncomputable def C_locale_Check : List AV → Hp → Res := callw cfg 90
noncomputable def C_locale_Default : List AV → Hp → Res := callw cfg 91
noncomputable def C_internal_bytealg_CompareString : List AV → Hp → Res := callw cfg 92
noncomputable def C_R05_Check : List AV → Hp → Res := callw cfg 93
noncomputable def C_R05_find : List AV → Hp → Res := callw cfg 94
noncomputable def C_decimal_fraction : List AV → Hp → Res := callw cfg 99
noncomputable def C_internal_stringslite_IndexByte : List AV → Hp → Res := callw cfg 104
noncomputable def C_R02_digits : List AV → Hp → Res := callw cfg 105
noncomputable def C_R02_number : List AV → Hp → Res := callw cfg 106
noncomputable def C_R05_mapped : List AV → Hp → Res := callw cfg 107
noncomputable def C_locale_name : List AV → Hp → Res := callw cfg 108
noncomputable def C_locale_checkClasses : List AV → Hp → Res := callw cfg 109
noncomputable def C_locale_checkElements : List AV → Hp → Res := callw cfg 110
noncomputable def C_R05_IsName : List AV → Hp → Res := callw cfg 113
noncomputable def C_R05_light : List AV → Hp → Res := callw cfg 114
noncomputable def C_R05_checkClasses : List AV → Hp → Res := callw cfg 115
noncomputable def C_R05_checkElements : List AV → Hp → Res := callw cfg 116

noncomputable def sortkey_Check_J3 (H0 H : Hp) : Res := CXL cfg (callw cfg) (LPL cfg (cfg.keep 23) 78) (cfg.keep 23) 78 seqL blockL (sub (bodyOf Tryz.f23) [1, 1, 1, 1]) (retL cfg 78 23 Tryz.f23 H0) [] H
noncomputable def sortkey_Check_K1 (H0 : Hp) : KL := seqL (fun k al H => CXL cfg (callw cfg) (LPL cfg (cfg.keep 23) 78) (cfg.keep 23) 78 seqL blockL (sub (bodyOf Tryz.f23) [1, 1, 1, 1]) k (trimL (cfg.keep 23) (sub (bodyOf Tryz.f23) [1, 1, 1, 1]) al) H) (retL cfg 78 23 Tryz.f23 H0)
theorem sortkey_Check_K1_tame (H0 : Hp) : Tame 78 (sortkey_Check_K1 H0) := tame_seq (C := cfg) (kp := cfg.keep 23) (sub (bodyOf Tryz.f23) [1, 1, 1, 1]) (tame_ret 23 Tryz.f23 H0)
noncomputable def sortkey_Check_J5 (x33 x34 x35 : AV) (H0 H : Hp) : Res := CXL cfg (callw cfg) (LPL cfg (cfg.keep 23) 78) (cfg.keep 23) 78 seqL blockL (sub (bodyOf Tryz.f23) [1, 1, 1, 0, 1, 0, 0, 1, 1, 1]) (seqL (fun k al H => LPL cfg (cfg.keep 23) 78 (sub (bodyOf Tryz.f23) [1, 1, 1, 0, 1, 0, 0]) k (trimL (cfg.keep 23) (sub (bodyOf Tryz.f23) [1, 1, 1, 0, 1, 0, 0]) al) H) (blockL 0 (sortkey_Check_K1 H0))) [(33, x33), (34, x34), (35, x35)] H
noncomputable def sortkey_Check_J4 (x33 x34 x35 x36 : AV) (H0 H : Hp) : Res := CXL cfg (callw cfg) (LPL cfg (cfg.keep 23) 78) (cfg.keep 23) 78 seqL blockL (sub (bodyOf Tryz.f23) [1, 1, 1, 0, 1, 0, 0, 1, 1]) (seqL (fun k al H => LPL cfg (cfg.keep 23) 78 (sub (bodyOf Tryz.f23) [1, 1, 1, 0, 1, 0, 0]) k (trimL (cfg.keep 23) (sub (bodyOf Tryz.f23) [1, 1, 1, 0, 1, 0, 0]) al) H) (blockL 0 (sortkey_Check_K1 H0))) [(33, x33), (34, x34), (35, x35), (36, x36)] H
noncomputable def sortkey_Check_L1 (x33 x34 x35 : AV) (H0 H : Hp) : Res := LPL cfg (cfg.keep 23) 78 (sub (bodyOf Tryz.f23) [1, 1, 1, 0, 1, 0, 0]) (blockL 0 (sortkey_Check_K1 H0)) [(33, x33), (34, x34), (35, x35)] H
noncomputable def sortkey_Check_J2 (x1 : AV) (H0 H : Hp) : Res := CXL cfg (callw cfg) (LPL cfg (cfg.keep 23) 78) (cfg.keep 23) 78 seqL blockL (sub (bodyOf Tryz.f23) [1, 1, 1]) (retL cfg 78 23 Tryz.f23 H0) [(1, x1)] H
noncomputable def sortkey_Check_J1 (x1 : AV) (H0 H : Hp) : Res := CXL cfg (callw cfg) (LPL cfg (cfg.keep 23) 78) (cfg.keep 23) 78 seqL blockL (sub (bodyOf Tryz.f23) [1, 1]) (retL cfg 78 23 Tryz.f23 H0) [(1, x1)] H
noncomputable def F_sortkey_Check (p0 : AV) (H : Hp) : Res :=
  bnd (abox p0 H) fun r1_1 =>
  bnd (afield 0 r1_1.1) fun t5_62 =>
  bnd (aload false 1 t5_62 r1_1.2) fun t6_63 =>
  bnd (alenD (.slice 58) t6_63) fun t7_64 =>
  bnd (ibin .gtr t7_64 (.int .i64 8)) fun t8_65 =>
  cnd t8_65
    (some ((.int .i64 3), r1_1.2))
    (sortkey_Check_J1 r1_1.1 H r1_1.2)
theorem sortkey_Check_J3_eq (H0 H : Hp) : sortkey_Check_J3 H0 H =
    some ((.int .i64 0), H) := (CXM_eq [3, 5, 7, 10, 11] _ _ _ _).trans (by kernel_rfl)
theorem sortkey_Check_J5_eq (x33 x34 x35 : AV) (H0 H : Hp) : sortkey_Check_J5 x33 x34 x35 H0 H =
    bnd (ibin .add x35 (.int .i64 1)) fun t77_6 =>
    sortkey_Check_L1 x33 x34 t77_6 H0 H := (CXM_eq [3, 5, 7, 10, 11] _ _ _ _).trans (by kernel_rfl)
theorem sortkey_Check_J4_eq (x33 x34 x35 x36 : AV) (H0 H : Hp) : sortkey_Check_J4 x33 x34 x35 x36 H0 H =
    bnd (aindexS 5 x33 x35) fun t37_7 =>
    bnd (aload true 5 t37_7 H) fun t38_8 =>
    bnd (some ((.ptr H.length 0), H ++ [.cells [(.int .i64 0), (.int .i64 0), (.int .i64 0), (.int .i64 0), (.int .i64 0)]])) fun r4_9 =>
    bnd (astoreU 5 r4_9.1 t38_8 r4_9.2) fun r_10 =>
    bnd (afield 0 r4_9.1) fun t39_11 =>
    bnd (aload false 1 t39_11 r_10.2) fun t40_12 =>
    bnd (ibin .lss t40_12 (.int .i64 1)) fun t41_13 =>
    bnd (gdv t41_13 false (.tuple []) (afield 1 r4_9.1)) fun t43_14 =>
    bnd (gdv t41_13 false (.tuple []) (aload false 1 t43_14 r_10.2)) fun t44_15 =>
    bnd (gdv t41_13 false (.tuple []) (ibin .lss t44_15 (.int .i64 1))) fun t45_16 =>
    bnd (apick t41_13 (.bool true) t45_16) fun t46_17 =>
    bnd (gdv t46_17 false (.tuple []) (afield 2 r4_9.1)) fun t48_18 =>
    bnd (gdv t46_17 false (.tuple []) (aload false 1 t48_18 r_10.2)) fun t49_19 =>
    bnd (gdv t46_17 false (.tuple []) (ibin .lss t49_19 (.int .i64 0))) fun t50_20 =>
    bnd (apick t46_17 (.bool true) t50_20) fun t51_21 =>
    bnd (gdv t51_21 false (.tuple []) (afield 3 r4_9.1)) fun t53_22 =>
    bnd (gdv t51_21 false (.tuple []) (aload false 1 t53_22 r_10.2)) fun t54_23 =>
    bnd (gdv t51_21 false (.tuple []) (ibin .lss t54_23 (.int .i64 0))) fun t55_24 =>
    bnd (apick t51_21 (.bool true) t55_24) fun t56_25 =>
    bnd (gdv t56_25 false (.tuple []) (afield 2 r4_9.1)) fun t58_26 =>
    bnd (gdv t56_25 false (.tuple []) (aload false 1 t58_26 r_10.2)) fun t59_27 =>
    bnd (gdv t56_25 false (.tuple []) (ibin .eql t59_27 (.int .i64 0))) fun t60_28 =>
    bnd (gdv t56_25 false (.tuple []) (some t60_28)) fun t61_29 =>
    bnd (gdv t61_29 true (.tuple []) (afield 3 r4_9.1)) fun t62_30 =>
    bnd (gdv t61_29 true (.tuple []) (aload false 1 t62_30 r_10.2)) fun t63_31 =>
    bnd (gdv t61_29 true (.tuple []) (ibin .neq t63_31 (.int .i64 0))) fun t64_32 =>
    bnd (gdv t56_25 false (.tuple []) (apick t61_29 t64_32 (.bool false))) fun t65_33 =>
    bnd (apick t56_25 (.bool true) t65_33) fun t66_34 =>
    bnd (gdv t66_34 false (.tuple []) (afield 4 r4_9.1)) fun t68_35 =>
    bnd (gdv t66_34 false (.tuple []) (aload false 1 t68_35 r_10.2)) fun t69_36 =>
    bnd (gdv t66_34 false (.tuple []) (ibin .lss t69_36 (.int .i64 0))) fun t70_37 =>
    bnd (apick t66_34 (.bool true) t70_37) fun t71_38 =>
    bnd (gdv t71_38 false (.tuple []) (afield 4 r4_9.1)) fun t73_39 =>
    bnd (gdv t71_38 false (.tuple []) (aload false 1 t73_39 r_10.2)) fun t74_40 =>
    bnd (gdv t71_38 false (.tuple []) (ibin .gtr t74_40 (.int .i64 31))) fun t75_41 =>
    bnd (apick t71_38 (.bool true) t75_41) fun t76_42 =>
    cnd t76_42
      (some ((.int .i64 2), r_10.2))
      (sortkey_Check_J5 x33 x34 x35 H0 r_10.2) := (CXM_eq [3, 5, 7, 10, 11] _ _ _ _).trans (by kernel_rfl)
theorem sortkey_Check_L1_eq (x33 x34 x35 : AV) (H0 H : Hp) : sortkey_Check_L1 x33 x34 x35 H0 H =
    bnd (ibin .lss x35 x34) fun t36_5 =>
    cnd t36_5
      (sortkey_Check_J4 x33 x34 x35 t36_5 H0 H)
      (sortkey_Check_J3 H0 H) := (LPL_eqm (C := cfg) [3, 5, 7, 10, 11] (tame_block 0 (sortkey_Check_K1_tame H0)) _ _).trans (by kernel_rfl)
theorem sortkey_Check_J2_eq (x1 : AV) (H0 H : Hp) : sortkey_Check_J2 x1 H0 H =
    bnd (afield 0 x1) fun t32_2 =>
    bnd (aload false 1 t32_2 H) fun t33_3 =>
    bnd (alenD (.slice 58) t33_3) fun t34_4 =>
    sortkey_Check_L1 t33_3 t34_4 (.int .i64 0) H0 H := (CXM_eq [3, 5, 7, 10, 11] _ _ _ _).trans (by kernel_rfl)
theorem sortkey_Check_J1_eq (x1 : AV) (H0 H : Hp) : sortkey_Check_J1 x1 H0 H =
    bnd (afield 1 x1) fun t9_43 =>
    bnd (aload false 1 t9_43 H) fun t10_44 =>
    bnd (ibin .lss t10_44 (.int .i64 (-1))) fun t11_45 =>
    bnd (gdv t11_45 false (.tuple []) (afield 1 x1)) fun t13_46 =>
    bnd (gdv t11_45 false (.tuple []) (aload false 1 t13_46 H)) fun t14_47 =>
    bnd (gdv t11_45 false (.tuple []) (ibin .gtr t14_47 (.int .i64 255))) fun t15_48 =>
    bnd (apick t11_45 (.bool true) t15_48) fun t16_49 =>
    bnd (gdv t16_49 false (.tuple []) (afield 1 x1)) fun t18_50 =>
    bnd (gdv t16_49 false (.tuple []) (aload false 1 t18_50 H)) fun t19_51 =>
    bnd (gdv t16_49 false (.tuple []) (ibin .eql t19_51 (.int .i64 10))) fun t20_52 =>
    bnd (apick t16_49 (.bool true) t20_52) fun t21_53 =>
    bnd (gdv t21_53 false (.tuple []) (afield 2 x1)) fun t23_54 =>
    bnd (gdv t21_53 false (.tuple []) (aload false 1 t23_54 H)) fun t24_55 =>
    bnd (gdv t21_53 false (.tuple []) (ibin .lss t24_55 (.int .i64 0))) fun t25_56 =>
    bnd (apick t21_53 (.bool true) t25_56) fun t26_57 =>
    bnd (gdv t26_57 false (.tuple []) (afield 2 x1)) fun t28_58 =>
    bnd (gdv t26_57 false (.tuple []) (aload false 1 t28_58 H)) fun t29_59 =>
    bnd (gdv t26_57 false (.tuple []) (ibin .gtr t29_59 (.int .i64 31))) fun t30_60 =>
    bnd (apick t26_57 (.bool true) t30_60) fun t31_61 =>
    cnd t31_61
      (some ((.int .i64 2), H))
      (sortkey_Check_J2 x1 H0 H) := (CXM_eq [3, 5, 7, 10, 11] _ _ _ _).trans (by kernel_rfl)
theorem F_sortkey_Check_eq (p0 : AV) (H : Hp) : C_sortkey_Check [p0] H = F_sortkey_Check p0 H := (callw_cxm (C := cfg) (fn := Tryz.f23) (c := bodyOf Tryz.f23) (n := 78) [3, 5, 7, 10, 11] Tryz.func23 (by kernel_rfl) (by kernel_rfl) [p0] (by kernel_rfl) H).trans (by kernel_rfl)

noncomputable def R20_Check_J3 (H0 H : Hp) : Res := CXL cfg (callw cfg) (LPL cfg (cfg.keep 31) 45) (cfg.keep 31) 45 seqL blockL (sub (bodyOf Tryz.f31) [1, 1, 1, 1]) (retL cfg 45 31 Tryz.f31 H0) [] H
noncomputable def R20_Check_K1 (H0 : Hp) : KL := seqL (fun k al H => CXL cfg (callw cfg) (LPL cfg (cfg.keep 31) 45) (cfg.keep 31) 45 seqL blockL (sub (bodyOf Tryz.f31) [1, 1, 1, 1]) k (trimL (cfg.keep 31) (sub (bodyOf Tryz.f31) [1, 1, 1, 1]) al) H) (retL cfg 45 31 Tryz.f31 H0)
theorem R20_Check_K1_tame (H0 : Hp) : Tame 45 (R20_Check_K1 H0) := tame_seq (C := cfg) (kp := cfg.keep 31) (sub (bodyOf Tryz.f31) [1, 1, 1, 1]) (tame_ret 31 Tryz.f31 H0)
noncomputable def R20_Check_J5 (x1 x3 : AV) (H0 H : Hp) : Res := CXL cfg (callw cfg) (LPL cfg (cfg.keep 31) 45) (cfg.keep 31) 45 seqL blockL (sub (bodyOf Tryz.f31) [1, 1, 1, 0, 1, 0, 0, 1, 1]) (seqL (fun k al H => LPL cfg (cfg.keep 31) 45 (sub (bodyOf Tryz.f31) [1, 1, 1, 0, 1, 0, 0]) k (trimL (cfg.keep 31) (sub (bodyOf Tryz.f31) [1, 1, 1, 0, 1, 0, 0]) al) H) (blockL 0 (R20_Check_K1 H0))) [(1, x1), (3, x3)] H
noncomputable def R20_Check_J4 (x1 x3 : AV) (H0 H : Hp) : Res := CXL cfg (callw cfg) (LPL cfg (cfg.keep 31) 45) (cfg.keep 31) 45 seqL blockL (sub (bodyOf Tryz.f31) [1, 1, 1, 0, 1, 0, 0, 1]) (seqL (fun k al H => LPL cfg (cfg.keep 31) 45 (sub (bodyOf Tryz.f31) [1, 1, 1, 0, 1, 0, 0]) k (trimL (cfg.keep 31) (sub (bodyOf Tryz.f31) [1, 1, 1, 0, 1, 0, 0]) al) H) (blockL 0 (R20_Check_K1 H0))) [(1, x1), (3, x3)] H
noncomputable def R20_Check_L1 (x1 x3 : AV) (H0 H : Hp) : Res := LPL cfg (cfg.keep 31) 45 (sub (bodyOf Tryz.f31) [1, 1, 1, 0, 1, 0, 0]) (blockL 0 (R20_Check_K1 H0)) [(1, x1), (3, x3)] H
noncomputable def R20_Check_J2 (x1 : AV) (H0 H : Hp) : Res := CXL cfg (callw cfg) (LPL cfg (cfg.keep 31) 45) (cfg.keep 31) 45 seqL blockL (sub (bodyOf Tryz.f31) [1, 1, 1]) (retL cfg 45 31 Tryz.f31 H0) [(1, x1)] H
noncomputable def R20_Check_J1 (x1 : AV) (H0 H : Hp) : Res := CXL cfg (callw cfg) (LPL cfg (cfg.keep 31) 45) (cfg.keep 31) 45 seqL blockL (sub (bodyOf Tryz.f31) [1, 1]) (retL cfg 45 31 Tryz.f31 H0) [(1, x1)] H
noncomputable def F_R20_Check (p0 : AV) (H : Hp) : Res :=
  bnd (abox p0 H) fun r1_1 =>
  bnd (afield 0 r1_1.1) fun t4_32 =>
  bnd (aload false 1 t4_32 r1_1.2) fun t5_33 =>
  bnd (alenD (.slice 58) t5_33) fun t6_34 =>
  bnd (ibin .gtr t6_34 (.int .i64 8)) fun t7_35 =>
  cnd t7_35
    (some ((.int .i64 3), r1_1.2))
    (R20_Check_J1 r1_1.1 H r1_1.2)
theorem R20_Check_J3_eq (H0 H : Hp) : R20_Check_J3 H0 H =
    some ((.int .i64 0), H) := (CXM_eq [3, 5, 7, 8, 10] _ _ _ _).trans (by kernel_rfl)
theorem R20_Check_J5_eq (x1 x3 : AV) (H0 H : Hp) : R20_Check_J5 x1 x3 H0 H =
    bnd (ibin .add x3 (.int .i64 1)) fun t37_2 =>
    R20_Check_L1 x1 t37_2 H0 H := (CXM_eq [3, 5, 7, 8, 10] _ _ _ _).trans (by kernel_rfl)
theorem R20_Check_J4_eq (x1 x3 : AV) (H0 H : Hp) : R20_Check_J4 x1 x3 H0 H =
    bnd (afield 0 x1) fun t38_3 =>
    bnd (aload false 1 t38_3 H) fun t39_4 =>
    bnd (aindexS 5 t39_4 x3) fun t41_5 =>
    bnd (aload true 5 t41_5 H) fun t42_6 =>
    bnd (flatC C_R20_right [t42_6] H) fun r43_7 =>
    bnd (aun .not r43_7.1) fun t44_8 =>
    cnd t44_8
      (some ((.int .i64 2), r43_7.2))
      (R20_Check_J5 x1 x3 H0 r43_7.2) := (CXM_eq [3, 5, 7, 8, 10] _ _ _ _).trans (by kernel_rfl)
theorem R20_Check_L1_eq (x1 x3 : AV) (H0 H : Hp) : R20_Check_L1 x1 x3 H0 H =
    bnd (afield 0 x1) fun t32_9 =>
    bnd (aload false 1 t32_9 H) fun t33_10 =>
    bnd (alenD (.slice 58) t33_10) fun t34_11 =>
    bnd (ibin .lss x3 t34_11) fun t35_12 =>
    cnd t35_12
      (R20_Check_J4 x1 x3 H0 H)
      (R20_Check_J3 H0 H) := (LPL_eqm (C := cfg) [3, 5, 7, 8, 10] (tame_block 0 (R20_Check_K1_tame H0)) _ _).trans (by kernel_rfl)
theorem R20_Check_J2_eq (x1 : AV) (H0 H : Hp) : R20_Check_J2 x1 H0 H =
    R20_Check_L1 x1 (.int .i64 0) H0 H := (CXM_eq [3, 5, 7, 8, 10] _ _ _ _).trans (by kernel_rfl)
theorem R20_Check_J1_eq (x1 : AV) (H0 H : Hp) : R20_Check_J1 x1 H0 H =
    bnd (afield 1 x1) fun t8_13 =>
    bnd (aload false 1 t8_13 H) fun t9_14 =>
    bnd (ibin .lss t9_14 (.int .i64 (-1))) fun t10_15 =>
    bnd (gdv t10_15 false (.tuple []) (afield 1 x1)) fun t12_16 =>
    bnd (gdv t10_15 false (.tuple []) (aload false 1 t12_16 H)) fun t13_17 =>
    bnd (gdv t10_15 false (.tuple []) (ibin .gtr t13_17 (.int .i64 255))) fun t14_18 =>
    bnd (apick t10_15 (.bool true) t14_18) fun t15_19 =>
    bnd (gdv t15_19 false (.tuple []) (afield 1 x1)) fun t17_20 =>
    bnd (gdv t15_19 false (.tuple []) (aload false 1 t17_20 H)) fun t18_21 =>
    bnd (gdv t15_19 false (.tuple []) (ibin .eql t18_21 (.int .i64 10))) fun t19_22 =>
    bnd (apick t15_19 (.bool true) t19_22) fun t20_23 =>
    bnd (gdv t20_23 false (.tuple []) (afield 2 x1)) fun t22_24 =>
    bnd (gdv t20_23 false (.tuple []) (aload false 1 t22_24 H)) fun t23_25 =>
    bnd (gdv t20_23 false (.tuple []) (ibin .lss t23_25 (.int .i64 0))) fun t24_26 =>
    bnd (apick t20_23 (.bool true) t24_26) fun t25_27 =>
    bnd (gdv t25_27 false (.tuple []) (afield 2 x1)) fun t27_28 =>
    bnd (gdv t25_27 false (.tuple []) (aload false 1 t27_28 H)) fun t28_29 =>
    bnd (gdv t25_27 false (.tuple []) (ibin .gtr t28_29 (.int .i64 31))) fun t29_30 =>
    bnd (apick t25_27 (.bool true) t29_30) fun t30_31 =>
    cnd t30_31
      (some ((.int .i64 2), H))
      (R20_Check_J2 x1 H0 H) := (CXM_eq [3, 5, 7, 8, 10] _ _ _ _).trans (by kernel_rfl)
theorem F_R20_Check_eq (p0 : AV) (H : Hp) : C_R20_Check [p0] H = F_R20_Check p0 H := (callw_cxm (C := cfg) (fn := Tryz.f31) (c := bodyOf Tryz.f31) (n := 45) [3, 5, 7, 8, 10] Tryz.func31 (by kernel_rfl) (by kernel_rfl) [p0] (by kernel_rfl) H).trans (by kernel_rfl)

noncomputable def sortkey_Extract_J3 (x0 x7 x10 : AV) (H0 H : Hp) : Res := CXL cfg (callw cfg) (LPL cfg (cfg.keep 41) 70) (cfg.keep 41) 70 seqL blockL (sub (bodyOf Tryz.f41) [1, 1, 1, 1, 1, 1, 1]) (retL cfg 70 41 Tryz.f41 H0) [(0, x0), (7, x7), (10, x10)] H
noncomputable def sortkey_Extract_J2 (x0 x7 x10 : AV) (H0 H : Hp) : Res := CXL cfg (callw cfg) (LPL cfg (cfg.keep 41) 70) (cfg.keep 41) 70 seqL blockL (sub (bodyOf Tryz.f41) [1, 1, 1, 1, 1, 1]) (retL cfg 70 41 Tryz.f41 H0) [(0, x0), (7, x7), (10, x10)] H
noncomputable def sortkey_Extract_J1 (x0 x2 x4 x7 x8 : AV) (H0 H : Hp) : Res := CXL cfg (callw cfg) (LPL cfg (cfg.keep 41) 70) (cfg.keep 41) 70 seqL blockL (sub (bodyOf Tryz.f41) [1, 1, 1]) (retL cfg 70 41 Tryz.f41 H0) [(0, x0), (2, x2), (4, x4), (7, x7), (8, x8)] H
noncomputable def F_sortkey_Extract (p0 p1 p2 : AV) (H : Hp) : Res :=
  bnd (abox p1 H) fun r4_1 =>
  bnd (afield 0 r4_1.1) fun t16_2 =>
  bnd (aload false 1 t16_2 r4_1.2) fun t17_3 =>
  bnd (amax2 t17_3 (.int .i64 1)) fun t18_4 =>
  bnd (C_sortkey_field [p0, t18_4, p2] r4_1.2) fun r20_5 =>
  bnd (aext r20_5.1 0) fun t21_6 =>
  bnd (aext r20_5.1 1) fun t22_7 =>
  bnd (aext r20_5.1 2) fun t23_8 =>
  bnd (aun .not t23_8) fun t25_36 =>
  cnd t25_36
    (some ((.str []), r20_5.2))
    (sortkey_Extract_J1 p0 p2 r4_1.1 t21_6 t22_7 H r20_5.2)
theorem sortkey_Extract_J3_eq (x0 x7 x10 : AV) (H0 H : Hp) : sortkey_Extract_J3 x0 x7 x10 H0 H =
    bnd (asliceS x0 (some x7) (some x10) none) fun t69_17 =>
    some (t69_17, H) := (CXM_eq [4, 12, 14] _ _ _ _).trans (by kernel_rfl)
theorem sortkey_Extract_J2_eq (x0 x7 x10 : AV) (H0 H : Hp) : sortkey_Extract_J2 x0 x7 x10 H0 H =
    bnd (ibin .lss x10 x7) fun t65_18 =>
    cnd t65_18
      (some ((.str []), H))
      (sortkey_Extract_J3 x0 x7 x10 H0 H) := (CXM_eq [4, 12, 14] _ _ _ _).trans (by kernel_rfl)
theorem sortkey_Extract_J1_eq (x0 x2 x4 x7 x8 : AV) (H0 H : Hp) : sortkey_Extract_J1 x0 x2 x4 x7 x8 H0 H =
    bnd (afield 1 x4) fun t27_9 =>
    bnd (aload false 1 t27_9 H) fun t28_10 =>
    bnd (amax2 t28_10 (.int .i64 1)) fun t29_11 =>
    bnd (ibin .sub t29_11 (.int .i64 1)) fun t30_12 =>
    bnd (ibin .sub x8 x7) fun t33_13 =>
    bnd (amin2 t30_12 t33_13) fun t34_14 =>
    bnd (ibin .add x7 t34_14) fun t35_15 =>
    bnd (alenD .string x0) fun t37_16 =>
    bnd (afield 2 x4) fun t38_19 =>
    bnd (aload false 1 t38_19 H) fun t39_20 =>
    bnd (ibin .gtr t39_20 (.int .i64 0)) fun t40_21 =>
    cnd t40_21
      (bnd (afield 2 x4) fun t43_22 =>
      bnd (aload false 1 t43_22 H) fun t44_23 =>
      bnd (C_sortkey_field [x0, t44_23, x2] H) fun r46_24 =>
      bnd (aext r46_24.1 0) fun t47_25 =>
      bnd (aext r46_24.1 1) fun t48_26 =>
      bnd (aext r46_24.1 2) fun t49_27 =>
      cnd t49_27
        (bnd (afield 3 x4) fun t52_28 =>
        bnd (aload false 1 t52_28 r46_24.2) fun t53_29 =>
        bnd (ibin .gtr t53_29 (.int .i64 0)) fun t54_30 =>
        cnd t54_30
          (bnd (afield 3 x4) fun t56_31 =>
          bnd (aload false 1 t56_31 r46_24.2) fun t57_32 =>
          bnd (ibin .sub t48_26 t47_25) fun t60_33 =>
          bnd (amin2 t57_32 t60_33) fun t61_34 =>
          bnd (ibin .add t47_25 t61_34) fun t62_35 =>
          sortkey_Extract_J2 x0 t35_15 t62_35 H0 r46_24.2)
          (sortkey_Extract_J2 x0 t35_15 t48_26 H0 r46_24.2))
        (sortkey_Extract_J2 x0 t35_15 t37_16 H0 r46_24.2))
      (sortkey_Extract_J2 x0 t35_15 t37_16 H0 H) := (CXM_eq [4, 12, 14] _ _ _ _).trans (by kernel_rfl)
theorem F_sortkey_Extract_eq (p0 p1 p2 : AV) (H : Hp) : C_sortkey_Extract [p0, p1, p2] H = F_sortkey_Extract p0 p1 p2 H := (callw_cxm (C := cfg) (fn := Tryz.f41) (c := bodyOf Tryz.f41) (n := 70) [4, 12, 14] Tryz.func41 (by kernel_rfl) (by kernel_rfl) [p0, p1, p2] (by kernel_rfl) H).trans (by kernel_rfl)

noncomputable def R20_Extract_J3 (x0 x11 x12 : AV) (H0 H : Hp) : Res := CXL cfg (callw cfg) (LPL cfg (cfg.keep 44) 84) (cfg.keep 44) 84 seqL blockL (sub (bodyOf Tryz.f44) [1, 1, 1, 1, 1, 1, 1, 1]) (retL cfg 84 44 Tryz.f44 H0) [(0, x0), (11, x11), (12, x12)] H
noncomputable def R20_Extract_J2 (x0 x11 x12 : AV) (H0 H : Hp) : Res := CXL cfg (callw cfg) (LPL cfg (cfg.keep 44) 84) (cfg.keep 44) 84 seqL blockL (sub (bodyOf Tryz.f44) [1, 1, 1, 1, 1, 1, 1]) (retL cfg 84 44 Tryz.f44 H0) [(0, x0), (11, x11), (12, x12)] H
noncomputable def R20_Extract_J1 (x0 x4 x7 x8 x9 : AV) (H0 H : Hp) : Res := CXL cfg (callw cfg) (LPL cfg (cfg.keep 44) 84) (cfg.keep 44) 84 seqL blockL (sub (bodyOf Tryz.f44) [1, 1, 1, 1]) (retL cfg 84 44 Tryz.f44 H0) [(0, x0), (4, x4), (7, x7), (8, x8), (9, x9)] H
noncomputable def F_R20_Extract (p0 p1 p2 : AV) (H : Hp) : Res :=
  bnd (abox p1 H) fun r4_1 =>
  bnd (C_R20_Fields [p0, p2] r4_1.2) fun r16_2 =>
  frzK r4_1.1 r16_2.2 fun z4_3 z4_3H =>
  bnd (afield 0 z4_3) fun t17_4 =>
  bnd (aload false 1 t17_4 z4_3H) fun t18_5 =>
  bnd (C_R20_most [t18_5, (.int .i64 1)] z4_3H) fun r19_6 =>
  bnd (afield 1 z4_3) fun t20_7 =>
  bnd (aloadv false 1 t20_7) fun t21_8 =>
  bnd (C_R20_most [t21_8, (.int .i64 1)] r19_6.2) fun r22_9 =>
  bnd (alenD (.slice 84) r16_2.1) fun t25_62 =>
  bnd (ibin .gtr r19_6.1 t25_62) fun t26_63 =>
  cnd t26_63
    (some ((.str []), r22_9.2))
    (R20_Extract_J1 p0 z4_3 r16_2.1 r19_6.1 r22_9.1 H r22_9.2)
theorem R20_Extract_J3_eq (x0 x11 x12 : AV) (H0 H : Hp) : R20_Extract_J3 x0 x11 x12 H0 H =
    bnd (asliceS x0 (some x11) (some x12) none) fun t83_27 =>
    some (t83_27, H) := (CXM_eq [5, 12, 14] _ _ _ _).trans (by kernel_rfl)
theorem R20_Extract_J2_eq (x0 x11 x12 : AV) (H0 H : Hp) : R20_Extract_J2 x0 x11 x12 H0 H =
    bnd (ibin .leq x12 x11) fun t79_28 =>
    cnd t79_28
      (some ((.str []), H))
      (R20_Extract_J3 x0 x11 x12 H0 H) := (CXM_eq [5, 12, 14] _ _ _ _).trans (by kernel_rfl)
theorem R20_Extract_J1_eq (x0 x4 x7 x8 x9 : AV) (H0 H : Hp) : R20_Extract_J1 x0 x4 x7 x8 x9 H0 H =
    bnd (ibin .sub x8 (.int .i64 1)) fun t29_10 =>
    bnd (aindexS 2 x7 t29_10) fun t30_11 =>
    bnd (aload true 2 t30_11 H) fun t31_12 =>
    bnd (some ((.ptr H.length 0), H ++ [.cells [(.int .i64 0), (.int .i64 0)]])) fun r10_13 =>
    bnd (astoreU 2 r10_13.1 t31_12 r10_13.2) fun r_14 =>
    frzK r10_13.1 r_14.2 fun z10_15 z10_15H =>
    bnd (afield 0 z10_15) fun t32_16 =>
    bnd (aloadv false 1 t32_16) fun t33_17 =>
    bnd (ibin .sub x9 (.int .i64 1)) fun t35_18 =>
    bnd (afield 1 z10_15) fun t36_19 =>
    bnd (aload false 1 t36_19 z10_15H) fun t37_20 =>
    bnd (afield 0 z10_15) fun t38_21 =>
    bnd (aload false 1 t38_21 z10_15H) fun t39_22 =>
    bnd (ibin .sub t37_20 t39_22) fun t40_23 =>
    bnd (C_R20_least [t35_18, t40_23] z10_15H) fun r41_24 =>
    bnd (ibin .add t33_17 r41_24.1) fun t42_25 =>
    bnd (alenD .string x0) fun t44_26 =>
    bnd (afield 2 x4) fun t45_29 =>
    bnd (aload false 1 t45_29 r41_24.2) fun t46_30 =>
    bnd (ibin .gtr t46_30 (.int .i64 0)) fun t47_31 =>
    bnd (gdv t47_31 true (.tuple []) (afield 2 x4)) fun t49_32 =>
    bnd (gdv t47_31 true (.tuple []) (aload false 1 t49_32 r41_24.2)) fun t50_33 =>
    bnd (gdv t47_31 true (.tuple []) (some x7)) fun t51_34 =>
    bnd (gdv t47_31 true (.tuple []) (alenD (.slice 84) t51_34)) fun t52_35 =>
    bnd (gdv t47_31 true (.tuple []) (ibin .leq t50_33 t52_35)) fun t53_36 =>
    bnd (apick t47_31 t53_36 (.bool false)) fun t54_37 =>
    cnd t54_37
      (bnd (afield 2 x4) fun t56_38 =>
      bnd (aload false 1 t56_38 r41_24.2) fun t57_39 =>
      bnd (ibin .sub t57_39 (.int .i64 1)) fun t58_40 =>
      bnd (aindexS 2 x7 t58_40) fun t59_41 =>
      bnd (aload true 2 t59_41 r41_24.2) fun t60_42 =>
      bnd (some ((.ptr r41_24.2.length 0), r41_24.2 ++ [.cells [(.int .i64 0), (.int .i64 0)]])) fun r13_43 =>
      bnd (astoreU 2 r13_43.1 t60_42 r13_43.2) fun r_44 =>
      bnd (afield 1 r13_43.1) fun t61_45 =>
      bnd (aload false 1 t61_45 r_44.2) fun t62_46 =>
      bnd (afield 3 x4) fun t63_47 =>
      bnd (aload false 1 t63_47 r_44.2) fun t64_48 =>
      bnd (ibin .gtr t64_48 (.int .i64 0)) fun t65_49 =>
      cnd t65_49
        (frzK r13_43.1 r_44.2 fun z13_50 z13_50H =>
        bnd (afield 0 z13_50) fun t66_51 =>
        bnd (aloadv false 1 t66_51) fun t67_52 =>
        bnd (afield 3 x4) fun t68_53 =>
        bnd (aload false 1 t68_53 z13_50H) fun t69_54 =>
        bnd (afield 1 z13_50) fun t70_55 =>
        bnd (aload false 1 t70_55 z13_50H) fun t71_56 =>
        bnd (afield 0 z13_50) fun t72_57 =>
        bnd (aload false 1 t72_57 z13_50H) fun t73_58 =>
        bnd (ibin .sub t71_56 t73_58) fun t74_59 =>
        bnd (C_R20_least [t69_54, t74_59] z13_50H) fun r75_60 =>
        bnd (ibin .add t67_52 r75_60.1) fun t76_61 =>
        R20_Extract_J2 x0 t42_25 t76_61 H0 r75_60.2)
        (R20_Extract_J2 x0 t42_25 t62_46 H0 r_44.2))
      (R20_Extract_J2 x0 t42_25 t44_26 H0 r41_24.2) := (CXM_eq [5, 12, 14] _ _ _ _).trans (by kernel_rfl)
theorem F_R20_Extract_eq (p0 p1 p2 : AV) (H : Hp) : C_R20_Extract [p0, p1, p2] H = F_R20_Extract p0 p1 p2 H := (callw_cxm (C := cfg) (fn := Tryz.f44) (c := bodyOf Tryz.f44) (n := 84) [5, 12, 14] Tryz.func44 (by kernel_rfl) (by kernel_rfl) [p0, p1, p2] (by kernel_rfl) H).trans (by kernel_rfl)

noncomputable def F_R20_Has (p0 p1 : AV) (H : Hp) : Res :=
  bnd (ibin .quo p0 p1) fun t7_1 =>
  bnd (ibin .rem t7_1 (.int .i64 2)) fun t8_2 =>
  bnd (ibin .eql t8_2 (.int .i64 1)) fun t9_3 =>
  some (t9_3, H)
theorem F_R20_Has_eq (p0 p1 : AV) (H : Hp) : C_R20_Has [p0, p1] H = F_R20_Has p0 p1 H := (callw_cxm (C := cfg) (fn := Tryz.f47) (c := bodyOf Tryz.f47) (n := 10) [] Tryz.func47 (by kernel_rfl) (by kernel_rfl) [p0, p1] (by kernel_rfl) H).trans (by kernel_rfl)

noncomputable def R20_right_J1 (x1 : AV) (H0 H : Hp) : Res := CXL cfg (callw cfg) (LPL cfg (cfg.keep 49) 39) (cfg.keep 49) 39 seqL blockL (sub (bodyOf Tryz.f49) [1, 1]) (retL cfg 39 49 Tryz.f49 H0) [(1, x1)] H
noncomputable def F_R20_right (p0 : AV) (H : Hp) : Res :=
  bnd (abox p0 H) fun r1_1 =>
  bnd (afield 0 r1_1.1) fun t3_9 =>
  bnd (aload false 1 t3_9 r1_1.2) fun t4_10 =>
  bnd (ibin .lss t4_10 (.int .i64 1)) fun t5_11 =>
  bnd (gdv t5_11 false (.tuple []) (afield 1 r1_1.1)) fun t7_12 =>
  bnd (gdv t5_11 false (.tuple []) (aload false 1 t7_12 r1_1.2)) fun t8_13 =>
  bnd (gdv t5_11 false (.tuple []) (ibin .lss t8_13 (.int .i64 1))) fun t9_14 =>
  bnd (apick t5_11 (.bool true) t9_14) fun t10_15 =>
  bnd (gdv t10_15 false (.tuple []) (afield 2 r1_1.1)) fun t12_16 =>
  bnd (gdv t10_15 false (.tuple []) (aload false 1 t12_16 r1_1.2)) fun t13_17 =>
  bnd (gdv t10_15 false (.tuple []) (ibin .lss t13_17 (.int .i64 0))) fun t14_18 =>
  bnd (apick t10_15 (.bool true) t14_18) fun t15_19 =>
  bnd (gdv t15_19 false (.tuple []) (afield 3 r1_1.1)) fun t17_20 =>
  bnd (gdv t15_19 false (.tuple []) (aload false 1 t17_20 r1_1.2)) fun t18_21 =>
  bnd (gdv t15_19 false (.tuple []) (ibin .lss t18_21 (.int .i64 0))) fun t19_22 =>
  bnd (apick t15_19 (.bool true) t19_22) fun t20_23 =>
  bnd (gdv t20_23 false (.tuple []) (afield 2 r1_1.1)) fun t22_24 =>
  bnd (gdv t20_23 false (.tuple []) (aload false 1 t22_24 r1_1.2)) fun t23_25 =>
  bnd (gdv t20_23 false (.tuple []) (ibin .eql t23_25 (.int .i64 0))) fun t24_26 =>
  bnd (gdv t20_23 false (.tuple []) (some t24_26)) fun t25_27 =>
  bnd (gdv t25_27 true (.tuple []) (afield 3 r1_1.1)) fun t26_28 =>
  bnd (gdv t25_27 true (.tuple []) (aload false 1 t26_28 r1_1.2)) fun t27_29 =>
  bnd (gdv t25_27 true (.tuple []) (ibin .neq t27_29 (.int .i64 0))) fun t28_30 =>
  bnd (gdv t20_23 false (.tuple []) (apick t25_27 t28_30 (.bool false))) fun t29_31 =>
  bnd (apick t20_23 (.bool true) t29_31) fun t30_32 =>
  cnd t30_32
    (some ((.bool false), r1_1.2))
    (R20_right_J1 r1_1.1 H r1_1.2)
theorem R20_right_J1_eq (x1 : AV) (H0 H : Hp) : R20_right_J1 x1 H0 H =
    bnd (afield 4 x1) fun t31_2 =>
    bnd (aload false 1 t31_2 H) fun t32_3 =>
    bnd (ibin .geq t32_3 (.int .i64 0)) fun t33_4 =>
    bnd (gdv t33_4 true (.tuple []) (afield 4 x1)) fun t35_5 =>
    bnd (gdv t33_4 true (.tuple []) (aload false 1 t35_5 H)) fun t36_6 =>
    bnd (gdv t33_4 true (.tuple []) (ibin .leq t36_6 (.int .i64 31))) fun t37_7 =>
    bnd (apick t33_4 t37_7 (.bool false)) fun t38_8 =>
    some (t38_8, H) := (CXM_eq [3] _ _ _ _).trans (by kernel_rfl)
theorem F_R20_right_eq (p0 : AV) (H : Hp) : C_R20_right [p0] H = F_R20_right p0 H := (callw_cxm (C := cfg) (fn := Tryz.f49) (c := bodyOf Tryz.f49) (n := 39) [3] Tryz.func49 (by kernel_rfl) (by kernel_rfl) [p0] (by kernel_rfl) H).trans (by kernel_rfl)

noncomputable def sortkey_field_J2 (H0 H : Hp) : Res := CXL cfg (callw cfg) (LPL cfg (cfg.keep 59) 83) (cfg.keep 59) 83 seqL blockL (sub (bodyOf Tryz.f59) [1, 1, 1]) (retL cfg 83 59 Tryz.f59 H0) [] H
noncomputable def sortkey_field_K1 (H0 : Hp) : KL := seqL (fun k al H => CXL cfg (callw cfg) (LPL cfg (cfg.keep 59) 83) (cfg.keep 59) 83 seqL blockL (sub (bodyOf Tryz.f59) [1, 1, 1]) k (trimL (cfg.keep 59) (sub (bodyOf Tryz.f59) [1, 1, 1]) al) H) (retL cfg 83 59 Tryz.f59 H0)
theorem sortkey_field_K1_tame (H0 : Hp) : Tame 83 (sortkey_field_K1 H0) := tame_seq (C := cfg) (kp := cfg.keep 59) (sub (bodyOf Tryz.f59) [1, 1, 1]) (tame_ret 59 Tryz.f59 H0)
noncomputable def sortkey_field_J4 (x0 x1 x6 x11 : AV) (H0 H : Hp) : Res := CXL cfg (callw cfg) (LPL cfg (cfg.keep 59) 83) (cfg.keep 59) 83 seqL blockL (sub (bodyOf Tryz.f59) [1, 1, 0, 1, 0, 0, 1, 1]) (seqL (fun k al H => LPL cfg (cfg.keep 59) 83 (sub (bodyOf Tryz.f59) [1, 1, 0, 1, 0, 0]) k (trimL (cfg.keep 59) (sub (bodyOf Tryz.f59) [1, 1, 0, 1, 0, 0]) al) H) (blockL 2 (sortkey_field_K1 H0))) [(0, x0), (1, x1), (6, x6), (11, x11)] H
noncomputable def sortkey_field_K2 (H0 : Hp) : KL := seqL (fun k al H => CXL cfg (callw cfg) (LPL cfg (cfg.keep 59) 83) (cfg.keep 59) 83 seqL blockL (sub (bodyOf Tryz.f59) [1, 1, 0, 1, 0, 0, 1, 1]) k (trimL (cfg.keep 59) (sub (bodyOf Tryz.f59) [1, 1, 0, 1, 0, 0, 1, 1]) al) H) (seqL (fun k al H => LPL cfg (cfg.keep 59) 83 (sub (bodyOf Tryz.f59) [1, 1, 0, 1, 0, 0]) k (trimL (cfg.keep 59) (sub (bodyOf Tryz.f59) [1, 1, 0, 1, 0, 0]) al) H) (blockL 2 (sortkey_field_K1 H0)))
theorem sortkey_field_K2_tame (H0 : Hp) : Tame 83 (sortkey_field_K2 H0) := tame_seq (C := cfg) (kp := cfg.keep 59) (sub (bodyOf Tryz.f59) [1, 1, 0, 1, 0, 0, 1, 1]) (tame_loop (C := cfg) (kp := cfg.keep 59) (sub (bodyOf Tryz.f59) [1, 1, 0, 1, 0, 0]) (tame_block 2 (sortkey_field_K1_tame H0)))
noncomputable def sortkey_field_J7 (x0 x1 x7 x11 : AV) (H0 H : Hp) : Res := CXL cfg (callw cfg) (LPL cfg (cfg.keep 59) 83) (cfg.keep 59) 83 seqL blockL (sub (bodyOf Tryz.f59) [1, 1, 0, 1, 0, 0, 1, 0, 0, 1, 1, 1, 1]) (blockL 3 (sortkey_field_K2 H0)) [(0, x0), (1, x1), (7, x7), (11, x11)] H
noncomputable def sortkey_field_J6 (x0 x1 x6 x7 x11 : AV) (H0 H : Hp) : Res := CXL cfg (callw cfg) (LPL cfg (cfg.keep 59) 83) (cfg.keep 59) 83 seqL blockL (sub (bodyOf Tryz.f59) [1, 1, 0, 1, 0, 0, 1, 0, 0, 1, 1, 1]) (blockL 3 (sortkey_field_K2 H0)) [(0, x0), (1, x1), (6, x6), (7, x7), (11, x11)] H
noncomputable def sortkey_field_K3 (H0 : Hp) : KL := seqL (fun k al H => CXL cfg (callw cfg) (LPL cfg (cfg.keep 59) 83) (cfg.keep 59) 83 seqL blockL (sub (bodyOf Tryz.f59) [1, 1, 0, 1, 0, 0, 1, 0, 0, 1, 1, 1]) k (trimL (cfg.keep 59) (sub (bodyOf Tryz.f59) [1, 1, 0, 1, 0, 0, 1, 0, 0, 1, 1, 1]) al) H) (blockL 3 (sortkey_field_K2 H0))
theorem sortkey_field_K3_tame (H0 : Hp) : Tame 83 (sortkey_field_K3 H0) := tame_seq (C := cfg) (kp := cfg.keep 59) (sub (bodyOf Tryz.f59) [1, 1, 0, 1, 0, 0, 1, 0, 0, 1, 1, 1]) (tame_block 3 (sortkey_field_K2_tame H0))
noncomputable def sortkey_field_J8 (x0 x1 x6 x7 x11 : AV) (H0 H : Hp) : Res := CXL cfg (callw cfg) (LPL cfg (cfg.keep 59) 83) (cfg.keep 59) 83 seqL blockL (sub (bodyOf Tryz.f59) [1, 1, 0, 1, 0, 0, 1, 0, 0, 1, 1, 0, 0, 0, 1]) (seqL (fun k al H => LPL cfg (cfg.keep 59) 83 (sub (bodyOf Tryz.f59) [1, 1, 0, 1, 0, 0, 1, 0, 0, 1, 1, 0, 0, 0]) k (trimL (cfg.keep 59) (sub (bodyOf Tryz.f59) [1, 1, 0, 1, 0, 0, 1, 0, 0, 1, 1, 0, 0, 0]) al) H) (blockL 6 (sortkey_field_K3 H0))) [(0, x0), (1, x1), (6, x6), (7, x7), (11, x11)] H
noncomputable def sortkey_field_L2 (x0 x1 x6 x7 x11 : AV) (H0 H : Hp) : Res := LPL cfg (cfg.keep 59) 83 (sub (bodyOf Tryz.f59) [1, 1, 0, 1, 0, 0, 1, 0, 0, 1, 1, 0, 0, 0]) (blockL 6 (sortkey_field_K3 H0)) [(0, x0), (1, x1), (6, x6), (7, x7), (11, x11)] H
noncomputable def sortkey_field_J5 (x0 x1 x6 x7 x11 : AV) (H0 H : Hp) : Res := CXL cfg (callw cfg) (LPL cfg (cfg.keep 59) 83) (cfg.keep 59) 83 seqL blockL (sub (bodyOf Tryz.f59) [1, 1, 0, 1, 0, 0, 1, 0, 0, 1, 1]) (blockL 3 (sortkey_field_K2 H0)) [(0, x0), (1, x1), (6, x6), (7, x7), (11, x11)] H
noncomputable def sortkey_field_K4 (H0 : Hp) : KL := seqL (fun k al H => CXL cfg (callw cfg) (LPL cfg (cfg.keep 59) 83) (cfg.keep 59) 83 seqL blockL (sub (bodyOf Tryz.f59) [1, 1, 0, 1, 0, 0, 1, 0, 0, 1, 1]) k (trimL (cfg.keep 59) (sub (bodyOf Tryz.f59) [1, 1, 0, 1, 0, 0, 1, 0, 0, 1, 1]) al) H) (blockL 3 (sortkey_field_K2 H0))
theorem sortkey_field_K4_tame (H0 : Hp) : Tame 83 (sortkey_field_K4 H0) := tame_seq (C := cfg) (kp := cfg.keep 59) (sub (bodyOf Tryz.f59) [1, 1, 0, 1, 0, 0, 1, 0, 0, 1, 1]) (tame_block 3 (sortkey_field_K2_tame H0))
noncomputable def sortkey_field_J9 (x0 x1 x6 x7 x11 : AV) (H0 H : Hp) : Res := CXL cfg (callw cfg) (LPL cfg (cfg.keep 59) 83) (cfg.keep 59) 83 seqL blockL (sub (bodyOf Tryz.f59) [1, 1, 0, 1, 0, 0, 1, 0, 0, 1, 0, 0, 0, 1]) (seqL (fun k al H => LPL cfg (cfg.keep 59) 83 (sub (bodyOf Tryz.f59) [1, 1, 0, 1, 0, 0, 1, 0, 0, 1, 0, 0, 0]) k (trimL (cfg.keep 59) (sub (bodyOf Tryz.f59) [1, 1, 0, 1, 0, 0, 1, 0, 0, 1, 0, 0, 0]) al) H) (blockL 4 (sortkey_field_K4 H0))) [(0, x0), (1, x1), (6, x6), (7, x7), (11, x11)] H
noncomputable def sortkey_field_L3 (x0 x1 x6 x7 x11 : AV) (H0 H : Hp) : Res := LPL cfg (cfg.keep 59) 83 (sub (bodyOf Tryz.f59) [1, 1, 0, 1, 0, 0, 1, 0, 0, 1, 0, 0, 0]) (blockL 4 (sortkey_field_K4 H0)) [(0, x0), (1, x1), (6, x6), (7, x7), (11, x11)] H
noncomputable def sortkey_field_J3 (x0 x1 x6 x11 : AV) (H0 H : Hp) : Res := CXL cfg (callw cfg) (LPL cfg (cfg.keep 59) 83) (cfg.keep 59) 83 seqL blockL (sub (bodyOf Tryz.f59) [1, 1, 0, 1, 0, 0, 1]) (seqL (fun k al H => LPL cfg (cfg.keep 59) 83 (sub (bodyOf Tryz.f59) [1, 1, 0, 1, 0, 0]) k (trimL (cfg.keep 59) (sub (bodyOf Tryz.f59) [1, 1, 0, 1, 0, 0]) al) H) (blockL 2 (sortkey_field_K1 H0))) [(0, x0), (1, x1), (6, x6), (11, x11)] H
noncomputable def sortkey_field_L1 (x0 x1 x6 x11 : AV) (H0 H : Hp) : Res := LPL cfg (cfg.keep 59) 83 (sub (bodyOf Tryz.f59) [1, 1, 0, 1, 0, 0]) (blockL 2 (sortkey_field_K1 H0)) [(0, x0), (1, x1), (6, x6), (11, x11)] H
noncomputable def sortkey_field_J1 (x0 x1 x6 : AV) (H0 H : Hp) : Res := CXL cfg (callw cfg) (LPL cfg (cfg.keep 59) 83) (cfg.keep 59) 83 seqL blockL (sub (bodyOf Tryz.f59) [1, 1]) (retL cfg 83 59 Tryz.f59 H0) [(0, x0), (1, x1), (6, x6)] H
noncomputable def sortkey_field_K5 (H0 : Hp) : KL := seqL (fun k al H => CXL cfg (callw cfg) (LPL cfg (cfg.keep 59) 83) (cfg.keep 59) 83 seqL blockL (sub (bodyOf Tryz.f59) [1, 1]) k (trimL (cfg.keep 59) (sub (bodyOf Tryz.f59) [1, 1]) al) H) (retL cfg 83 59 Tryz.f59 H0)
theorem sortkey_field_K5_tame (H0 : Hp) : Tame 83 (sortkey_field_K5 H0) := tame_seq (C := cfg) (kp := cfg.keep 59) (sub (bodyOf Tryz.f59) [1, 1]) (tame_ret 59 Tryz.f59 H0)
noncomputable def sortkey_field_J10 (x0 x1 x2 x6 x9 : AV) (H0 H : Hp) : Res := CXL cfg (callw cfg) (LPL cfg (cfg.keep 59) 83) (cfg.keep 59) 83 seqL blockL (sub (bodyOf Tryz.f59) [1, 0, 1, 0, 1, 0, 0, 1]) (seqL (fun k al H => LPL cfg (cfg.keep 59) 83 (sub (bodyOf Tryz.f59) [1, 0, 1, 0, 1, 0, 0]) k (trimL (cfg.keep 59) (sub (bodyOf Tryz.f59) [1, 0, 1, 0, 1, 0, 0]) al) H) (blockL 0 (sortkey_field_K5 H0))) [(0, x0), (1, x1), (2, x2), (6, x6), (9, x9)] H
noncomputable def sortkey_field_K6 (H0 : Hp) : KL := seqL (fun k al H => CXL cfg (callw cfg) (LPL cfg (cfg.keep 59) 83) (cfg.keep 59) 83 seqL blockL (sub (bodyOf Tryz.f59) [1, 0, 1, 0, 1, 0, 0, 1]) k (trimL (cfg.keep 59) (sub (bodyOf Tryz.f59) [1, 0, 1, 0, 1, 0, 0, 1]) al) H) (seqL (fun k al H => LPL cfg (cfg.keep 59) 83 (sub (bodyOf Tryz.f59) [1, 0, 1, 0, 1, 0, 0]) k (trimL (cfg.keep 59) (sub (bodyOf Tryz.f59) [1, 0, 1, 0, 1, 0, 0]) al) H) (blockL 0 (sortkey_field_K5 H0)))
noncomputable def sortkey_field_J12 (x0 x1 x2 x6 x9 x10 : AV) (H0 H : Hp) : Res := CXL cfg (callw cfg) (LPL cfg (cfg.keep 59) 83) (cfg.keep 59) 83 seqL blockL (sub (bodyOf Tryz.f59) [1, 0, 1, 0, 1, 0, 0, 0, 0, 1, 1, 1]) (blockL 1 (sortkey_field_K6 H0)) [(0, x0), (1, x1), (2, x2), (6, x6), (9, x9), (10, x10)] H
noncomputable def sortkey_field_J11 (x0 x1 x2 x6 x9 x10 : AV) (H0 H : Hp) : Res := CXL cfg (callw cfg) (LPL cfg (cfg.keep 59) 83) (cfg.keep 59) 83 seqL blockL (sub (bodyOf Tryz.f59) [1, 0, 1, 0, 1, 0, 0, 0, 0, 1, 1]) (blockL 1 (sortkey_field_K6 H0)) [(0, x0), (1, x1), (2, x2), (6, x6), (9, x9), (10, x10)] H
noncomputable def sortkey_field_L4 (x0 x1 x2 x6 x9 : AV) (H0 H : Hp) : Res := LPL cfg (cfg.keep 59) 83 (sub (bodyOf Tryz.f59) [1, 0, 1, 0, 1, 0, 0]) (blockL 0 (sortkey_field_K5 H0)) [(0, x0), (1, x1), (2, x2), (6, x6), (9, x9)] H
noncomputable def F_sortkey_field (p0 p1 p2 : AV) (H : Hp) : Res :=
  bnd (ibin .geq p2 (.int .i64 0)) fun t13_22 =>
  bnd (gdv t13_22 true (.tuple []) (some p2)) fun t15_23 =>
  bnd (gdv t13_22 true (.tuple []) (ibin .leq t15_23 (.int .i64 255))) fun t16_24 =>
  bnd (apick t13_22 t16_24 (.bool false)) fun t17_25 =>
  cnd t17_25
    (sortkey_field_L4 p0 p1 p2 (.int .i64 0) (.int .i64 1) H H)
    (sortkey_field_J1 p0 p1 (.int .i64 0) H H)
theorem sortkey_field_J2_eq (H0 H : Hp) : sortkey_field_J2 H0 H =
    some ((.tuple [(.int .i64 0), (.int .i64 0), (.bool false)]), H) := (CXM_eq [3, 7, 9, 10, 12, 13, 15, 16, 17, 18, 20, 21] _ _ _ _).trans (by kernel_rfl)
theorem sortkey_field_J4_eq (x0 x1 x6 x11 : AV) (H0 H : Hp) : sortkey_field_J4 x0 x1 x6 x11 H0 H =
    bnd (ibin .add x11 (.int .i64 1)) fun t50_1 =>
    sortkey_field_L1 x0 x1 x6 t50_1 H0 H := (CXM_eq [3, 7, 9, 10, 12, 13, 15, 16, 17, 18, 20, 21] _ _ _ _).trans (by kernel_rfl)
theorem sortkey_field_J7_eq (x0 x1 x7 x11 : AV) (H0 H : Hp) : sortkey_field_J7 x0 x1 x7 x11 H0 H =
    sortkey_field_J4 x0 x1 x7 x11 H0 H := (CXM_eq [3, 7, 9, 10, 12, 13, 15, 16, 17, 18, 20, 21] _ _ _ _).trans (by kernel_rfl)
theorem sortkey_field_J6_eq (x0 x1 x6 x7 x11 : AV) (H0 H : Hp) : sortkey_field_J6 x0 x1 x6 x7 x11 H0 H =
    bnd (ibin .eql x11 x1) fun t79_2 =>
    cnd t79_2
      (some ((.tuple [x6, x7, (.bool true)]), H))
      (sortkey_field_J7 x0 x1 x7 x11 H0 H) := (CXM_eq [3, 7, 9, 10, 12, 13, 15, 16, 17, 18, 20, 21] _ _ _ _).trans (by kernel_rfl)
theorem sortkey_field_J8_eq (x0 x1 x6 x7 x11 : AV) (H0 H : Hp) : sortkey_field_J8 x0 x1 x6 x7 x11 H0 H =
    bnd (ibin .add x7 (.int .i64 1)) fun t76_3 =>
    sortkey_field_L2 x0 x1 x6 t76_3 x11 H0 H := (CXM_eq [3, 7, 9, 10, 12, 13, 15, 16, 17, 18, 20, 21] _ _ _ _).trans (by kernel_rfl)
theorem sortkey_field_L2_eq (x0 x1 x6 x7 x11 : AV) (H0 H : Hp) : sortkey_field_L2 x0 x1 x6 x7 x11 H0 H =
    bnd (alenD .string x0) fun t66_4 =>
    bnd (ibin .lss x7 t66_4) fun t67_5 =>
    bnd (gdv t67_5 true (.tuple []) (some x0)) fun t69_6 =>
    bnd (gdv t67_5 true (.tuple []) (some x7)) fun t70_7 =>
    bnd (gdv t67_5 true (.tuple []) (aindexStr t69_6 t70_7)) fun t71_8 =>
    bnd (gdv t67_5 true ((.tuple []), H) (C_sortkey_blank [t71_8] H)) fun r72_9 =>
    bnd (gdv t67_5 true (.tuple []) (aun .not r72_9.1)) fun t73_10 =>
    bnd (apick t67_5 t73_10 (.bool false)) fun t74_11 =>
    cnd t74_11
      (sortkey_field_J8 x0 x1 x6 x7 x11 H0 r72_9.2)
      (sortkey_field_J6 x0 x1 x6 x7 x11 H0 r72_9.2) := (LPL_eqm (C := cfg) [3, 7, 9, 10, 12, 13, 15, 16, 17, 18, 20, 21] (tame_block 6 (sortkey_field_K3_tame H0)) _ _).trans (by kernel_rfl)
theorem sortkey_field_J5_eq (x0 x1 x6 x7 x11 : AV) (H0 H : Hp) : sortkey_field_J5 x0 x1 x6 x7 x11 H0 H =
    sortkey_field_L2 x0 x1 x6 x7 x11 H0 H := (CXM_eq [3, 7, 9, 10, 12, 13, 15, 16, 17, 18, 20, 21] _ _ _ _).trans (by kernel_rfl)
theorem sortkey_field_J9_eq (x0 x1 x6 x7 x11 : AV) (H0 H : Hp) : sortkey_field_J9 x0 x1 x6 x7 x11 H0 H =
    bnd (ibin .add x7 (.int .i64 1)) fun t63_12 =>
    sortkey_field_L3 x0 x1 x6 t63_12 x11 H0 H := (CXM_eq [3, 7, 9, 10, 12, 13, 15, 16, 17, 18, 20, 21] _ _ _ _).trans (by kernel_rfl)
theorem sortkey_field_L3_eq (x0 x1 x6 x7 x11 : AV) (H0 H : Hp) : sortkey_field_L3 x0 x1 x6 x7 x11 H0 H =
    bnd (alenD .string x0) fun t54_13 =>
    bnd (ibin .lss x7 t54_13) fun t55_14 =>
    bnd (gdv t55_14 true (.tuple []) (some x0)) fun t57_15 =>
    bnd (gdv t55_14 true (.tuple []) (some x7)) fun t58_16 =>
    bnd (gdv t55_14 true (.tuple []) (aindexStr t57_15 t58_16)) fun t59_17 =>
    bnd (gdv t55_14 true ((.tuple []), H) (C_sortkey_blank [t59_17] H)) fun r60_18 =>
    bnd (apick t55_14 r60_18.1 (.bool false)) fun t61_19 =>
    cnd t61_19
      (sortkey_field_J9 x0 x1 x6 x7 x11 H0 r60_18.2)
      (sortkey_field_J5 x0 x1 x6 x7 x11 H0 r60_18.2) := (LPL_eqm (C := cfg) [3, 7, 9, 10, 12, 13, 15, 16, 17, 18, 20, 21] (tame_block 4 (sortkey_field_K4_tame H0)) _ _).trans (by kernel_rfl)
theorem sortkey_field_J3_eq (x0 x1 x6 x11 : AV) (H0 H : Hp) : sortkey_field_J3 x0 x1 x6 x11 H0 H =
    sortkey_field_L3 x0 x1 x6 x6 x11 H0 H := (CXM_eq [3, 7, 9, 10, 12, 13, 15, 16, 17, 18, 20, 21] _ _ _ _).trans (by kernel_rfl)
theorem sortkey_field_L1_eq (x0 x1 x6 x11 : AV) (H0 H : Hp) : sortkey_field_L1 x0 x1 x6 x11 H0 H =
    bnd (alenD .string x0) fun t47_20 =>
    bnd (ibin .lss x6 t47_20) fun t48_21 =>
    cnd t48_21
      (sortkey_field_J3 x0 x1 x6 x11 H0 H)
      (sortkey_field_J2 H0 H) := (LPL_eqm (C := cfg) [3, 7, 9, 10, 12, 13, 15, 16, 17, 18, 20, 21] (tame_block 2 (sortkey_field_K1_tame H0)) _ _).trans (by kernel_rfl)
theorem sortkey_field_J1_eq (x0 x1 x6 : AV) (H0 H : Hp) : sortkey_field_J1 x0 x1 x6 H0 H =
    sortkey_field_L1 x0 x1 x6 (.int .i64 1) H0 H := (CXM_eq [3, 7, 9, 10, 12, 13, 15, 16, 17, 18, 20, 21] _ _ _ _).trans (by kernel_rfl)
theorem sortkey_field_J10_eq (x0 x1 x2 x6 x9 : AV) (H0 H : Hp) : sortkey_field_J10 x0 x1 x2 x6 x9 H0 H =
    bnd (ibin .add x9 (.int .i64 1)) fun t19_26 =>
    sortkey_field_L4 x0 x1 x2 x6 t19_26 H0 H := (CXM_eq [3, 7, 9, 10, 12, 13, 15, 16, 17, 18, 20, 21] _ _ _ _).trans (by kernel_rfl)
theorem sortkey_field_J12_eq (x0 x1 x2 x6 x9 x10 : AV) (H0 H : Hp) : sortkey_field_J12 x0 x1 x2 x6 x9 x10 H0 H =
    bnd (ibin .add x10 (.int .i64 1)) fun t43_30 =>
    bnd (ibin .add x6 t43_30) fun t44_31 =>
    sortkey_field_J10 x0 x1 x2 t44_31 x9 H0 H := (CXM_eq [3, 7, 9, 10, 12, 13, 15, 16, 17, 18, 20, 21] _ _ _ _).trans (by kernel_rfl)
theorem sortkey_field_J11_eq (x0 x1 x2 x6 x9 x10 : AV) (H0 H : Hp) : sortkey_field_J11 x0 x1 x2 x6 x9 x10 H0 H =
    bnd (ibin .eql x9 x1) fun t36_32 =>
    cnd t36_32
      (bnd (ibin .add x6 x10) fun t40_33 =>
      some ((.tuple [x6, t40_33, (.bool true)]), H))
      (sortkey_field_J12 x0 x1 x2 x6 x9 x10 H0 H) := (CXM_eq [3, 7, 9, 10, 12, 13, 15, 16, 17, 18, 20, 21] _ _ _ _).trans (by kernel_rfl)
theorem sortkey_field_L4_eq (x0 x1 x2 x6 x9 : AV) (H0 H : Hp) : sortkey_field_L4 x0 x1 x2 x6 x9 H0 H =
    bnd (asliceS x0 (some x6) none none) fun t22_27 =>
    bnd (cvInt .u8 x2) fun t24_28 =>
    bnd (C_strings_IndexByte [t22_27, t24_28] H) fun r25_29 =>
    bnd (ibin .lss r25_29.1 (.int .i64 0)) fun t27_34 =>
    cnd t27_34
      (bnd (alenD .string x0) fun t30_35 =>
      bnd (ibin .eql x9 x1) fun t33_36 =>
      some ((.tuple [x6, t30_35, t33_36]), r25_29.2))
      (sortkey_field_J11 x0 x1 x2 x6 x9 r25_29.1 H0 r25_29.2) := (LPL_eqm (C := cfg) [3, 7, 9, 10, 12, 13, 15, 16, 17, 18, 20, 21] (tame_block 0 (sortkey_field_K5_tame H0)) _ _).trans (by kernel_rfl)
theorem F_sortkey_field_eq (p0 p1 p2 : AV) (H : Hp) : C_sortkey_field [p0, p1, p2] H = F_sortkey_field p0 p1 p2 H := (callw_cxm (C := cfg) (fn := Tryz.f59) (c := bodyOf Tryz.f59) (n := 83) [3, 7, 9, 10, 12, 13, 15, 16, 17, 18, 20, 21] Tryz.func59 (by kernel_rfl) (by kernel_rfl) [p0, p1, p2] (by kernel_rfl) H).trans (by kernel_rfl)

noncomputable def R20_Fields_J3 (x5 : AV) (H0 H : Hp) : Res := CXL cfg (callw cfg) (LPL cfg (cfg.keep 62) 78) (cfg.keep 62) 78 seqL blockL (sub (bodyOf Tryz.f62) [1, 1, 1, 1, 1, 1]) (retL cfg 78 62 Tryz.f62 H0) [(5, x5)] H
noncomputable def R20_Fields_J2 (x0 x5 x6 : AV) (H0 H : Hp) : Res := CXL cfg (callw cfg) (LPL cfg (cfg.keep 62) 78) (cfg.keep 62) 78 seqL blockL (sub (bodyOf Tryz.f62) [1, 1, 1, 1, 1]) (retL cfg 78 62 Tryz.f62 H0) [(0, x0), (5, x5), (6, x6)] H
noncomputable def R20_Fields_K1 (H0 : Hp) : KL := seqL (fun k al H => CXL cfg (callw cfg) (LPL cfg (cfg.keep 62) 78) (cfg.keep 62) 78 seqL blockL (sub (bodyOf Tryz.f62) [1, 1, 1, 1, 1]) k (trimL (cfg.keep 62) (sub (bodyOf Tryz.f62) [1, 1, 1, 1, 1]) al) H) (retL cfg 78 62 Tryz.f62 H0)
theorem R20_Fields_K1_tame (H0 : Hp) : Tame 78 (R20_Fields_K1 H0) := tame_seq (C := cfg) (kp := cfg.keep 62) (sub (bodyOf Tryz.f62) [1, 1, 1, 1, 1]) (tame_ret 62 Tryz.f62 H0)
noncomputable def R20_Fields_J5 (x0 x5 x6 x8 : AV) (H0 H : Hp) : Res := CXL cfg (callw cfg) (LPL cfg (cfg.keep 62) 78) (cfg.keep 62) 78 seqL blockL (sub (bodyOf Tryz.f62) [1, 1, 1, 1, 0, 1, 0, 0, 1, 1]) (seqL (fun k al H => LPL cfg (cfg.keep 62) 78 (sub (bodyOf Tryz.f62) [1, 1, 1, 1, 0, 1, 0, 0]) k (trimL (cfg.keep 62) (sub (bodyOf Tryz.f62) [1, 1, 1, 1, 0, 1, 0, 0]) al) H) (blockL 2 (R20_Fields_K1 H0))) [(0, x0), (5, x5), (6, x6), (8, x8)] H
noncomputable def R20_Fields_J4 (x0 x5 x6 x8 : AV) (H0 H : Hp) : Res := CXL cfg (callw cfg) (LPL cfg (cfg.keep 62) 78) (cfg.keep 62) 78 seqL blockL (sub (bodyOf Tryz.f62) [1, 1, 1, 1, 0, 1, 0, 0, 1]) (seqL (fun k al H => LPL cfg (cfg.keep 62) 78 (sub (bodyOf Tryz.f62) [1, 1, 1, 1, 0, 1, 0, 0]) k (trimL (cfg.keep 62) (sub (bodyOf Tryz.f62) [1, 1, 1, 1, 0, 1, 0, 0]) al) H) (blockL 2 (R20_Fields_K1 H0))) [(0, x0), (5, x5), (6, x6), (8, x8)] H
noncomputable def R20_Fields_L1 (x0 x5 x6 x8 : AV) (H0 H : Hp) : Res := LPL cfg (cfg.keep 62) 78 (sub (bodyOf Tryz.f62) [1, 1, 1, 1, 0, 1, 0, 0]) (blockL 2 (R20_Fields_K1 H0)) [(0, x0), (5, x5), (6, x6), (8, x8)] H
noncomputable def R20_Fields_J1 (x0 x5 x6 : AV) (H0 H : Hp) : Res := CXL cfg (callw cfg) (LPL cfg (cfg.keep 62) 78) (cfg.keep 62) 78 seqL blockL (sub (bodyOf Tryz.f62) [1, 1, 1, 1]) (retL cfg 78 62 Tryz.f62 H0) [(0, x0), (5, x5), (6, x6)] H
noncomputable def R20_Fields_K2 (H0 : Hp) : KL := seqL (fun k al H => CXL cfg (callw cfg) (LPL cfg (cfg.keep 62) 78) (cfg.keep 62) 78 seqL blockL (sub (bodyOf Tryz.f62) [1, 1, 1, 1]) k (trimL (cfg.keep 62) (sub (bodyOf Tryz.f62) [1, 1, 1, 1]) al) H) (retL cfg 78 62 Tryz.f62 H0)
theorem R20_Fields_K2_tame (H0 : Hp) : Tame 78 (R20_Fields_K2 H0) := tame_seq (C := cfg) (kp := cfg.keep 62) (sub (bodyOf Tryz.f62) [1, 1, 1, 1]) (tame_ret 62 Tryz.f62 H0)
noncomputable def R20_Fields_J6 (x0 x5 x6 : AV) (H0 H : Hp) : Res := CXL cfg (callw cfg) (LPL cfg (cfg.keep 62) 78) (cfg.keep 62) 78 seqL blockL (sub (bodyOf Tryz.f62) [1, 1, 1, 0, 1, 0, 1]) (R20_Fields_K2 H0) [(0, x0), (5, x5), (6, x6)] H
noncomputable def R20_Fields_K3 (H0 : Hp) : KL := seqL (fun k al H => CXL cfg (callw cfg) (LPL cfg (cfg.keep 62) 78) (cfg.keep 62) 78 seqL blockL (sub (bodyOf Tryz.f62) [1, 1, 1, 0, 1, 0, 1]) k (trimL (cfg.keep 62) (sub (bodyOf Tryz.f62) [1, 1, 1, 0, 1, 0, 1]) al) H) (R20_Fields_K2 H0)
theorem R20_Fields_K3_tame (H0 : Hp) : Tame 78 (R20_Fields_K3 H0) := tame_seq (C := cfg) (kp := cfg.keep 62) (sub (bodyOf Tryz.f62) [1, 1, 1, 0, 1, 0, 1]) (R20_Fields_K2_tame H0)
noncomputable def R20_Fields_J8 (x0 x1 x5 x6 x7 : AV) (H0 H : Hp) : Res := CXL cfg (callw cfg) (LPL cfg (cfg.keep 62) 78) (cfg.keep 62) 78 seqL blockL (sub (bodyOf Tryz.f62) [1, 1, 1, 0, 1, 0, 0, 1, 0, 0, 1, 1]) (seqL (fun k al H => LPL cfg (cfg.keep 62) 78 (sub (bodyOf Tryz.f62) [1, 1, 1, 0, 1, 0, 0, 1, 0, 0]) k (trimL (cfg.keep 62) (sub (bodyOf Tryz.f62) [1, 1, 1, 0, 1, 0, 0, 1, 0, 0]) al) H) (blockL 0 (R20_Fields_K3 H0))) [(0, x0), (1, x1), (5, x5), (6, x6), (7, x7)] H
noncomputable def R20_Fields_J7 (x0 x1 x5 x6 x7 : AV) (H0 H : Hp) : Res := CXL cfg (callw cfg) (LPL cfg (cfg.keep 62) 78) (cfg.keep 62) 78 seqL blockL (sub (bodyOf Tryz.f62) [1, 1, 1, 0, 1, 0, 0, 1, 0, 0, 1]) (seqL (fun k al H => LPL cfg (cfg.keep 62) 78 (sub (bodyOf Tryz.f62) [1, 1, 1, 0, 1, 0, 0, 1, 0, 0]) k (trimL (cfg.keep 62) (sub (bodyOf Tryz.f62) [1, 1, 1, 0, 1, 0, 0, 1, 0, 0]) al) H) (blockL 0 (R20_Fields_K3 H0))) [(0, x0), (1, x1), (5, x5), (6, x6), (7, x7)] H
noncomputable def R20_Fields_L2 (x0 x1 x5 x6 x7 : AV) (H0 H : Hp) : Res := LPL cfg (cfg.keep 62) 78 (sub (bodyOf Tryz.f62) [1, 1, 1, 0, 1, 0, 0, 1, 0, 0]) (blockL 0 (R20_Fields_K3 H0)) [(0, x0), (1, x1), (5, x5), (6, x6), (7, x7)] H
noncomputable def F_R20_Fields (p0 p1 : AV) (H : Hp) : Res :=
  bnd (ibin .geq p1 (.int .i64 0)) fun t10_22 =>
  bnd (gdv t10_22 true (.tuple []) (some p1)) fun t12_23 =>
  bnd (gdv t10_22 true (.tuple []) (ibin .leq t12_23 (.int .i64 255))) fun t13_24 =>
  bnd (apick t10_22 t13_24 (.bool false)) fun t14_25 =>
  cnd t14_25
    (R20_Fields_L2 p0 p1 .nils (.int .i64 0) (.int .i64 0) H H)
    (R20_Fields_J1 p0 .nils (.int .i64 0) H H)
theorem R20_Fields_J3_eq (x5 : AV) (H0 H : Hp) : R20_Fields_J3 x5 H0 H =
    some (x5, H) := (CXM_eq [6, 7, 10, 11, 13, 14, 17, 19] _ _ _ _).trans (by kernel_rfl)
theorem R20_Fields_J2_eq (x0 x5 x6 : AV) (H0 H : Hp) : R20_Fields_J2 x0 x5 x6 H0 H =
    bnd (alenD .string x0) fun t68_1 =>
    bnd (ibin .gtr t68_1 (.int .i64 0)) fun t69_2 =>
    cnd t69_2
      (bnd (alenD .string x0) fun t73_3 =>
      bnd ((afill [(0, 1, x6), (1, 1, t73_3)] [(.int .i64 0), (.int .i64 0)]).map .agg) fun t74_4 =>
      bnd ((setElems 2 [(0, t74_4)] [(.agg [(.int .i64 0), (.int .i64 0)])]).map (.vs 2 .clip)) fun t75_5 =>
      bnd (aappE 2 16 x5 t75_5 H) fun r76_6 =>
      R20_Fields_J3 r76_6.1 H0 r76_6.2)
      (R20_Fields_J3 x5 H0 H) := (CXM_eq [6, 7, 10, 11, 13, 14, 17, 19] _ _ _ _).trans (by kernel_rfl)
theorem R20_Fields_J5_eq (x0 x5 x6 x8 : AV) (H0 H : Hp) : R20_Fields_J5 x0 x5 x6 x8 H0 H =
    bnd (ibin .add x8 (.int .i64 1)) fun t47_7 =>
    R20_Fields_L1 x0 x5 x6 t47_7 H0 H := (CXM_eq [6, 7, 10, 11, 13, 14, 17, 19] _ _ _ _).trans (by kernel_rfl)
theorem R20_Fields_J4_eq (x0 x5 x6 x8 : AV) (H0 H : Hp) : R20_Fields_J4 x0 x5 x6 x8 H0 H =
    bnd (aindexStr x0 x8) fun t50_8 =>
    bnd (C_R20_blank [t50_8] H) fun r51_9 =>
    bnd (gdv r51_9.1 true (.tuple []) (some x0)) fun t53_10 =>
    bnd (gdv r51_9.1 true (.tuple []) (some x8)) fun t54_11 =>
    bnd (gdv r51_9.1 true (.tuple []) (ibin .sub t54_11 (.int .i64 1))) fun t55_12 =>
    bnd (gdv r51_9.1 true (.tuple []) (aindexStr t53_10 t55_12)) fun t56_13 =>
    bnd (gdv r51_9.1 true ((.tuple []), r51_9.2) (C_R20_blank [t56_13] r51_9.2)) fun r57_14 =>
    bnd (gdv r51_9.1 true (.tuple []) (aun .not r57_14.1)) fun t58_15 =>
    bnd (apick r51_9.1 t58_15 (.bool false)) fun t59_16 =>
    cnd t59_16
      (bnd ((afill [(0, 1, x6), (1, 1, x8)] [(.int .i64 0), (.int .i64 0)]).map .agg) fun t63_17 =>
      bnd ((setElems 2 [(0, t63_17)] [(.agg [(.int .i64 0), (.int .i64 0)])]).map (.vs 2 .clip)) fun t64_18 =>
      bnd (aappE 2 16 x5 t64_18 r57_14.2) fun r65_19 =>
      R20_Fields_J5 x0 r65_19.1 x8 x8 H0 r65_19.2)
      (R20_Fields_J5 x0 x5 x6 x8 H0 r57_14.2) := (CXM_eq [6, 7, 10, 11, 13, 14, 17, 19] _ _ _ _).trans (by kernel_rfl)
theorem R20_Fields_L1_eq (x0 x5 x6 x8 : AV) (H0 H : Hp) : R20_Fields_L1 x0 x5 x6 x8 H0 H =
    bnd (alenD .string x0) fun t44_20 =>
    bnd (ibin .lss x8 t44_20) fun t45_21 =>
    cnd t45_21
      (R20_Fields_J4 x0 x5 x6 x8 H0 H)
      (R20_Fields_J2 x0 x5 x6 H0 H) := (LPL_eqm (C := cfg) [6, 7, 10, 11, 13, 14, 17, 19] (tame_block 2 (R20_Fields_K1_tame H0)) _ _).trans (by kernel_rfl)
theorem R20_Fields_J1_eq (x0 x5 x6 : AV) (H0 H : Hp) : R20_Fields_J1 x0 x5 x6 H0 H =
    R20_Fields_L1 x0 x5 x6 (.int .i64 1) H0 H := (CXM_eq [6, 7, 10, 11, 13, 14, 17, 19] _ _ _ _).trans (by kernel_rfl)
theorem R20_Fields_J6_eq (x0 x5 x6 : AV) (H0 H : Hp) : R20_Fields_J6 x0 x5 x6 H0 H =
    bnd (alenD .string x0) fun t38_26 =>
    bnd ((afill [(0, 1, x6), (1, 1, t38_26)] [(.int .i64 0), (.int .i64 0)]).map .agg) fun t39_27 =>
    bnd ((setElems 2 [(0, t39_27)] [(.agg [(.int .i64 0), (.int .i64 0)])]).map (.vs 2 .clip)) fun t40_28 =>
    bnd (aappE 2 16 x5 t40_28 H) fun r41_29 =>
    some (r41_29.1, r41_29.2) := (CXM_eq [6, 7, 10, 11, 13, 14, 17, 19] _ _ _ _).trans (by kernel_rfl)
theorem R20_Fields_J8_eq (x0 x1 x5 x6 x7 : AV) (H0 H : Hp) : R20_Fields_J8 x0 x1 x5 x6 x7 H0 H =
    bnd (ibin .add x7 (.int .i64 1)) fun t20_30 =>
    R20_Fields_L2 x0 x1 x5 x6 t20_30 H0 H := (CXM_eq [6, 7, 10, 11, 13, 14, 17, 19] _ _ _ _).trans (by kernel_rfl)
theorem R20_Fields_J7_eq (x0 x1 x5 x6 x7 : AV) (H0 H : Hp) : R20_Fields_J7 x0 x1 x5 x6 x7 H0 H =
    bnd (aindexStr x0 x7) fun t23_31 =>
    bnd (cvInt .i64 t23_31) fun t24_32 =>
    bnd (ibin .eql t24_32 x1) fun t26_33 =>
    cnd t26_33
      (bnd ((afill [(0, 1, x6), (1, 1, x7)] [(.int .i64 0), (.int .i64 0)]).map .agg) fun t30_34 =>
      bnd ((setElems 2 [(0, t30_34)] [(.agg [(.int .i64 0), (.int .i64 0)])]).map (.vs 2 .clip)) fun t31_35 =>
      bnd (aappE 2 16 x5 t31_35 H) fun r32_36 =>
      bnd (ibin .add x7 (.int .i64 1)) fun t34_37 =>
      R20_Fields_J8 x0 x1 r32_36.1 t34_37 x7 H0 r32_36.2)
      (R20_Fields_J8 x0 x1 x5 x6 x7 H0 H) := (CXM_eq [6, 7, 10, 11, 13, 14, 17, 19] _ _ _ _).trans (by kernel_rfl)
theorem R20_Fields_L2_eq (x0 x1 x5 x6 x7 : AV) (H0 H : Hp) : R20_Fields_L2 x0 x1 x5 x6 x7 H0 H =
    bnd (alenD .string x0) fun t17_38 =>
    bnd (ibin .lss x7 t17_38) fun t18_39 =>
    cnd t18_39
      (R20_Fields_J7 x0 x1 x5 x6 x7 H0 H)
      (R20_Fields_J6 x0 x5 x6 H0 H) := (LPL_eqm (C := cfg) [6, 7, 10, 11, 13, 14, 17, 19] (tame_block 0 (R20_Fields_K3_tame H0)) _ _).trans (by kernel_rfl)
theorem F_R20_Fields_eq (p0 p1 : AV) (H : Hp) : C_R20_Fields [p0, p1] H = F_R20_Fields p0 p1 H := (callw_cxm (C := cfg) (fn := Tryz.f62) (c := bodyOf Tryz.f62) (n := 78) [6, 7, 10, 11, 13, 14, 17, 19] Tryz.func62 (by kernel_rfl) (by kernel_rfl) [p0, p1] (by kernel_rfl) H).trans (by kernel_rfl)

noncomputable def R20_most_J1 (x1 : AV) (H0 H : Hp) : Res := CXL cfg (callw cfg) (LPL cfg (cfg.keep 63) 10) (cfg.keep 63) 10 seqL blockL (sub (bodyOf Tryz.f63) [1, 1]) (retL cfg 10 63 Tryz.f63 H0) [(1, x1)] H
noncomputable def F_R20_most (p0 p1 : AV) (H : Hp) : Res :=
  bnd (ibin .gtr p0 p1) fun t7_1 =>
  cnd t7_1
    (some (p0, H))
    (R20_most_J1 p1 H H)
theorem R20_most_J1_eq (x1 : AV) (H0 H : Hp) : R20_most_J1 x1 H0 H =
    some (x1, H) := (CXM_eq [3] _ _ _ _).trans (by kernel_rfl)
theorem F_R20_most_eq (p0 p1 : AV) (H : Hp) : C_R20_most [p0, p1] H = F_R20_most p0 p1 H := (callw_cxm (C := cfg) (fn := Tryz.f63) (c := bodyOf Tryz.f63) (n := 10) [3] Tryz.func63 (by kernel_rfl) (by kernel_rfl) [p0, p1] (by kernel_rfl) H).trans (by kernel_rfl)

noncomputable def R20_least_J1 (x1 : AV) (H0 H : Hp) : Res := CXL cfg (callw cfg) (LPL cfg (cfg.keep 64) 10) (cfg.keep 64) 10 seqL blockL (sub (bodyOf Tryz.f64) [1, 1]) (retL cfg 10 64 Tryz.f64 H0) [(1, x1)] H
noncomputable def F_R20_least (p0 p1 : AV) (H : Hp) : Res :=
  bnd (ibin .lss p0 p1) fun t7_1 =>
  cnd t7_1
    (some (p0, H))
    (R20_least_J1 p1 H H)
theorem R20_least_J1_eq (x1 : AV) (H0 H : Hp) : R20_least_J1 x1 H0 H =
    some (x1, H) := (CXM_eq [3] _ _ _ _).trans (by kernel_rfl)
theorem F_R20_least_eq (p0 p1 : AV) (H : Hp) : C_R20_least [p0, p1] H = F_R20_least p0 p1 H := (callw_cxm (C := cfg) (fn := Tryz.f64) (c := bodyOf Tryz.f64) (n := 10) [3] Tryz.func64 (by kernel_rfl) (by kernel_rfl) [p0, p1] (by kernel_rfl) H).trans (by kernel_rfl)

noncomputable def F_sortkey_blank (p0 : AV) (H : Hp) : Res :=
  bnd (ibin .eql p0 (.int .u8 32)) fun t4_1 =>
  bnd (gdv t4_1 false (.tuple []) (some p0)) fun t6_2 =>
  bnd (gdv t4_1 false (.tuple []) (ibin .eql t6_2 (.int .u8 9))) fun t7_3 =>
  bnd (apick t4_1 (.bool true) t7_3) fun t8_4 =>
  some (t8_4, H)
theorem F_sortkey_blank_eq (p0 : AV) (H : Hp) : C_sortkey_blank [p0] H = F_sortkey_blank p0 H := (callw_cxm (C := cfg) (fn := Tryz.f81) (c := bodyOf Tryz.f81) (n := 9) [] Tryz.func81 (by kernel_rfl) (by kernel_rfl) [p0] (by kernel_rfl) H).trans (by kernel_rfl)

noncomputable def F_strings_IndexByte (p0 p1 : AV) (H : Hp) : Res :=
  bnd (C_internal_stringslite_IndexByte [p0, p1] H) fun r7_1 =>
  some (r7_1.1, r7_1.2)
theorem F_strings_IndexByte_eq (p0 p1 : AV) (H : Hp) : C_strings_IndexByte [p0, p1] H = F_strings_IndexByte p0 p1 H := (callw_cxm (C := cfg) (fn := Tryz.f85) (c := bodyOf Tryz.f85) (n := 8) [] Tryz.func85 (by kernel_rfl) (by kernel_rfl) [p0, p1] (by kernel_rfl) H).trans (by kernel_rfl)

noncomputable def F_R20_blank (p0 : AV) (H : Hp) : Res :=
  bnd (ibin .eql p0 (.int .u8 32)) fun t4_1 =>
  bnd (gdv t4_1 false (.tuple []) (some p0)) fun t6_2 =>
  bnd (gdv t4_1 false (.tuple []) (ibin .eql t6_2 (.int .u8 9))) fun t7_3 =>
  bnd (apick t4_1 (.bool true) t7_3) fun t8_4 =>
  some (t8_4, H)
theorem F_R20_blank_eq (p0 : AV) (H : Hp) : C_R20_blank [p0] H = F_R20_blank p0 H := (callw_cxm (C := cfg) (fn := Tryz.f87) (c := bodyOf Tryz.f87) (n := 9) [] Tryz.func87 (by kernel_rfl) (by kernel_rfl) [p0] (by kernel_rfl) H).trans (by kernel_rfl)

noncomputable def F_internal_stringslite_IndexByte (p0 p1 : AV) (H : Hp) : Res :=
  bnd (extC .indexByte [p0, p1] H) fun r7_1 =>
  some (r7_1.1, r7_1.2)
theorem F_internal_stringslite_IndexByte_eq (p0 p1 : AV) (H : Hp) : C_internal_stringslite_IndexByte [p0, p1] H = F_internal_stringslite_IndexByte p0 p1 H := (callw_cxm (C := cfg) (fn := Tryz.f104) (c := bodyOf Tryz.f104) (n := 8) [] Tryz.func104 (by kernel_rfl) (by kernel_rfl) [p0, p1] (by kernel_rfl) H).trans (by kernel_rfl)

theorem V_memsort_Sort_1 (a b args : List AV) (H : Hp) : acall cfg (callw cfg) (.fn (.func 28) a b) args H = flatC C_memsort_Sort_1 (a ++ args ++ b) H := by kernel_rfl
theorem V_memsort_Sort_2 (a b args : List AV) (H : Hp) : acall cfg (callw cfg) (.fn (.func 30) a b) args H = flatC C_memsort_Sort_2 (a ++ args ++ b) H := by kernel_rfl
theorem V_sortkey_parts_1 (a b args : List AV) (H : Hp) : acall cfg (callw cfg) (.fn (.func 53) a b) args H = C_sortkey_parts_1 (a ++ args ++ b) H := by kernel_rfl
theorem Q_sortkey_parts_2 (a b args : List AV) (H : Hp) : acallQ cfg (callw cfg) (.fn (.func 54) a b) args H = flatC C_sortkey_parts_2 (a ++ args ++ b) H := by kernel_rfl
theorem Q_sortkey_dict (a b args : List AV) (H : Hp) : acallQ cfg (callw cfg) (.fn (.func 56) a b) args H = flatC C_sortkey_dict (a ++ args ++ b) H := by kernel_rfl
theorem Q_sortkey_parts_3 (a b args : List AV) (H : Hp) : acallQ cfg (callw cfg) (.fn (.func 57) a b) args H = flatC C_sortkey_parts_3 (a ++ args ++ b) H := by kernel_rfl
theorem V_locale_Compare_1 (a b args : List AV) (H : Hp) : acall cfg (callw cfg) (.fn (.func 66) a b) args H = flatC C_locale_Compare_1 (a ++ args ++ b) H := by kernel_rfl
theorem Q_locale_Compare_1 (a b args : List AV) (H : Hp) : acallQ cfg (callw cfg) (.fn (.func 66) a b) args H = flatC C_locale_Compare_1 (a ++ args ++ b) H := by kernel_rfl
theorem V_locale_Compare_1_1 (a b args : List AV) (H : Hp) : acall cfg (callw cfg) (.fn (.func 68) a b) args H = C_locale_Compare_1_1 (a ++ args ++ b) H := by kernel_rfl
theorem user_ok : ∀ f ∈ userList, UserOk Tryz.prog f :=
  userOk_cons Tryz.call3 (
  userOk_cons Tryz.call4 (
  userOk_cons Tryz.call5 (
  userOk_cons Tryz.call6 (
  userOk_cons Tryz.call7 (
  userOk_cons Tryz.call8 (
  userOk_cons Tryz.call9 (
  userOk_cons Tryz.call10 (
  userOk_cons Tryz.call11 (
  userOk_cons Tryz.call12 (
  userOk_cons Tryz.call13 (
  userOk_cons Tryz.call14 (
  userOk_cons Tryz.call15 (
  userOk_cons Tryz.call16 (
  userOk_cons Tryz.call17 (
  userOk_cons Tryz.call18 (
  userOk_cons Tryz.call19 (
  userOk_cons Tryz.call20 (
  userOk_cons Tryz.call21 (
  userOk_cons Tryz.call22 (
  userOk_cons Tryz.call23 (
  userOk_cons Tryz.call24 (
  userOk_cons Tryz.call25 (
  userOk_cons Tryz.call26 (
  userOk_cons Tryz.call27 (
  userOk_cons Tryz.call28 (
  userOk_cons Tryz.call29 (
  userOk_cons Tryz.call30 (
  userOk_cons Tryz.call31 (
  userOk_cons Tryz.call32 (
  userOk_cons Tryz.call33 (
  userOk_cons Tryz.call34 (
  userOk_cons Tryz.call35 (
  userOk_cons Tryz.call36 (
  userOk_cons Tryz.call37 (
  userOk_cons Tryz.call38 (
  userOk_cons Tryz.call39 (
  userOk_cons Tryz.call40 (
  userOk_cons Tryz.call41 (
  userOk_cons Tryz.call42 (
  userOk_cons Tryz.call43 (
  userOk_cons Tryz.call44 (
  userOk_cons Tryz.call45 (
  userOk_cons Tryz.call46 (
  userOk_cons Tryz.call47 (
  userOk_cons Tryz.call48 (
  userOk_cons Tryz.call49 (
  userOk_cons Tryz.call50 (
  userOk_cons Tryz.call51 (
  userOk_cons Tryz.call52 (
  userOk_cons Tryz.call53 (
  userOk_cons Tryz.call54 (
  userOk_cons Tryz.call55 (
  userOk_cons Tryz.call56 (
  userOk_cons Tryz.call57 (
  userOk_cons Tryz.call58 (
  userOk_cons Tryz.call59 (
  userOk_cons Tryz.call60 (
  userOk_cons Tryz.call61 (
  userOk_cons Tryz.call62 (
  userOk_cons Tryz.call63 (
  userOk_cons Tryz.call64 (
  userOk_cons Tryz.call65 (
  userOk_cons Tryz.call66 (
  userOk_cons Tryz.call67 (
  userOk_cons Tryz.call68 (
  userOk_cons Tryz.call69 (
  userOk_cons Tryz.call70 (
  userOk_cons Tryz.call71 (
  userOk_cons Tryz.call72 (
  userOk_cons Tryz.call73 (
  userOk_cons Tryz.call74 (
  userOk_cons Tryz.call75 (
  userOk_cons Tryz.call76 (
  userOk_cons Tryz.call77 (
  userOk_cons Tryz.call78 (
  userOk_cons Tryz.call79 (
  userOk_cons Tryz.call80 (
  userOk_cons Tryz.call81 (
  userOk_cons Tryz.call82 (
  userOk_cons Tryz.call83 (
  userOk_cons Tryz.call84 (
  userOk_cons Tryz.call85 (
  userOk_cons Tryz.call86 (
  userOk_cons Tryz.call87 (
  userOk_cons Tryz.call88 (
  userOk_cons Tryz.call89 (
  userOk_cons Tryz.call90 (
  userOk_cons Tryz.call91 (
  userOk_cons Tryz.call92 (
  userOk_cons Tryz.call93 (
  userOk_cons Tryz.call94 (
  userOk_cons Tryz.call95 (
  userOk_cons Tryz.call96 (
  userOk_cons Tryz.call97 (
  userOk_cons Tryz.call98 (
  userOk_cons Tryz.call99 (
  userOk_cons Tryz.call100 (
  userOk_cons Tryz.call101 (
  userOk_cons Tryz.call102 (
  userOk_cons Tryz.call103 (
  userOk_cons Tryz.call104 (
  userOk_cons Tryz.call105 (
  userOk_cons Tryz.call106 (
  userOk_cons Tryz.call107 (
  userOk_cons Tryz.call108 (
  userOk_cons Tryz.call109 (
  userOk_cons Tryz.call110 (
  userOk_cons Tryz.call111 (
  userOk_cons Tryz.call113 (
  userOk_cons Tryz.call114 (
  userOk_cons Tryz.call115 (
  userOk_cons Tryz.call116 (
  userOk_cons Tryz.call117 (
  userOk_cons Tryz.call118 (
  userOk_cons Tryz.call119 (
  userOk_cons Tryz.call122 (
  userOk_cons Tryz.call123 (
  userOk_cons Tryz.call124 (
  userOk_cons Tryz.call125 (
  userOk_cons Tryz.call127 (
  userOk_cons Tryz.call128 (
  userOk_cons Tryz.call129 (
  userOk_cons Tryz.call130 (
  userOk_cons Tryz.call131 (
  userOk_cons Tryz.call132 (
  userOk_cons Tryz.call133 (
  userOk_cons Tryz.call134 (
  userOk_cons Tryz.call135 (
  userOk_cons Tryz.call136 (
  userOk_cons Tryz.call137 (
  userOk_cons Tryz.call138 (
  userOk_cons Tryz.call139 (
  userOk_cons Tryz.call140 (
  userOk_cons Tryz.call141 (
  userOk_cons Tryz.call142 (
  userOk_cons Tryz.call143 (
  userOk_cons Tryz.call144 (
  userOk_cons Tryz.call145 (
  userOk_cons Tryz.call146 (
  userOk_cons Tryz.call147 (
  userOk_cons Tryz.call148 (
  userOk_cons Tryz.call149 (
  userOk_cons Tryz.call150 (
  userOk_cons Tryz.call151 (
  userOk_cons Tryz.call152 (
  userOk_cons Tryz.call153 (
  userOk_cons Tryz.call154 (
  userOk_cons Tryz.call155 (
  userOk_cons Tryz.call156 (
  userOk_cons Tryz.call157 (
  userOk_cons Tryz.call158 (userOk_nil))))))))))))))))))))))))))))))))))))))))))))))))))))))))))))))))))))))))))))))))))))))))))))))))))))))))))))))))))))))))))))))))))))))))))))))))))))))))
theorem eq_ok : ∀ t ∈ eqList, Tryz.prog.stoodInHeld t = false ∧ Tryz.prog.eqGuardType Tryz.prog.depth t = false := by
  intro t ht
  simp only [eqList, List.mem_cons, List.not_mem_nil, or_false] at ht

theorem ext112_ok (args : Array Value) (w : World) : (callFunc 112 args).run Tryz.prog w = (do pure (.value (← extF .cmp args)) : Sem Next).run Tryz.prog w := by kernel_rfl
theorem ext120_ok (args : Array Value) (w : World) : (callFunc 120 args).run Tryz.prog w = (do pure (.value (← extF .same args)) : Sem Next).run Tryz.prog w := by kernel_rfl
theorem ext121_ok (args : Array Value) (w : World) : (callFunc 121 args).run Tryz.prog w = (do pure (.value (← extF .indexByte args)) : Sem Next).run Tryz.prog w := by kernel_rfl
theorem ext_ok : ∀ f e, cfg.ext f = some e → ∀ (args : Array Value) (w : World), (callFunc f args).run Tryz.prog w = (do pure (.value (← extF e args)) : Sem Next).run Tryz.prog w := by
  intro f e h
  have h2 := lookup_mem (l := extList) h
  simp only [extList, List.mem_cons, Prod.mk.injEq, List.not_mem_nil, or_false] at h2
  rcases h2 with ⟨rfl, rfl⟩ | ⟨rfl, rfl⟩ | ⟨rfl, rfl⟩
  · exact ext112_ok
  · exact ext120_ok
  · exact ext121_ok
theorem sum_ok : ∀ f g, cfg.sum f = some g → cfg.user f = true ∧ SumOk cfg f g := by
  intro f g h
  have h2 := lookup_mem (l := sumList) h
  simp only [sumList, List.mem_cons, Prod.mk.injEq, List.not_mem_nil, or_false] at h2
  rcases h2 with ⟨rfl, rfl⟩
  · exact ⟨by kernel_rfl, trimA_ok (C := cfg) rfl (fun _ => rfl)⟩
theorem eff_ok : ∀ f g, cfg.eff f = some g → cfg.user f = true ∧ EffOk cfg f g := by
  intro f g h
  have h2 := lookup_mem (l := effList) h
  simp only [effList, List.mem_cons, Prod.mk.injEq, List.not_mem_nil, or_false] at h2
  rcases h2 with ⟨rfl, rfl⟩ | ⟨rfl, rfl⟩
  · exact ⟨by kernel_rfl, byteE_ok (C := cfg) rfl (fun _ => rfl)⟩
  · exact ⟨by kernel_rfl, stringE_ok (C := cfg) rfl (fun _ => rfl)⟩
theorem cfg_ok : okCfg cfg :=
  ⟨fun t h => eq_ok t (List.contains_iff_mem.1 h), fun f h => user_ok f (List.contains_iff_mem.1 h), by kernel_rfl, ext_ok, sum_ok, eff_ok⟩
end Go.Am
