/-
  The functions of the translation over the abstract machine: written by program (wip/gen.py).
-/
import Derived.Test.YtomfadecfjephaaDoorProg
import Derived.Test.YtomfadecfjephaaDoorWkPx
namespace Go.Am
open Go.Proofs
set_option maxRecDepth 100000
set_option linter.unusedVariables false
set_option linter.unusedSimpArgs false

def keepList : List (Nat × List (Nat × List Nat)) := [(3, [(3, [2, 3, 4]), (6, [2, 3, 4, 7]), (7, [2, 3, 4, 7, 8]), (8, [2, 3, 4, 7, 8]), (9, [2, 3, 4, 7, 8]), (11, [2, 3, 4, 7]), (12, [2, 3, 4, 7, 9]), (13, [2, 3, 4, 7, 9]), (14, [2, 3, 4, 7, 9]), (16, [2, 3, 4, 7, 9]), (18, [2, 3, 4, 7, 9, 10, 11, 12]), (19, [2, 3, 4, 7, 9, 10, 11, 12]), (20, [2, 3, 4, 7, 9, 10, 11, 12]), (22, [2, 3, 4, 7, 9, 10, 11]), (23, [2, 3, 4, 7, 9, 10, 11, 13]), (24, [2, 3, 4, 7, 9, 10, 11, 13]), (25, [2, 3, 4, 7, 9, 10, 11, 13]), (27, [2, 3, 4, 7, 9, 10, 11]), (29, [2, 3, 4, 7, 9, 10, 11]), (31, [])]),
  (4, [(4, [0, 1, 5]), (6, [0, 1, 6, 7]), (7, [0, 1, 6, 7]), (8, [0, 1, 6, 7]), (10, [0, 1, 6]), (11, [0, 1, 6, 8]), (12, [0, 1, 6, 8]), (13, [0, 1, 6, 8]), (15, [0, 1, 6])]),
  (5, [(3, [2, 3, 4]), (5, [2, 3, 4, 7, 8]), (6, [2, 3, 4, 7, 8]), (7, [2, 3, 4, 7, 8]), (8, [2, 3, 4, 7]), (1000008, [3, 4])]),
  (6, [(3, [2]), (4, [2, 7]), (5, [2, 7]), (6, [2, 7]), (8, [])]),
  (7, [(3, [1]), (5, [1]), (6, [1, 3]), (7, [1, 3]), (8, [1, 3]), (10, [])]),
  (9, [(3, [2, 3, 4]), (6, [7]), (1000003, [3, 4])]),
  (10, [(3, [2, 3, 4]), (4, [2, 3, 4, 7]), (5, [2, 3, 4, 7]), (6, [2, 3, 4, 7]), (9, [])]),
  (11, [(3, [0, 1]), (4, [0, 1, 5]), (5, [0, 1, 5]), (6, [0, 1, 5]), (8, [])]),
  (12, [(5, [2, 3, 4, 5]), (8, [9])]),
  (13, [(3, [0, 1, 5, 6]), (4, [0, 1, 5, 6]), (5, [0, 1, 5, 6]), (7, [5])]),
  (14, [(4, [0, 1, 2, 3, 4]), (5, [0, 1, 2, 3, 4]), (6, [0, 1, 2, 3, 4]), (9, [0, 1, 2, 3, 4, 5, 6]), (11, [0, 1, 2, 3, 4, 5, 6]), (14, [0, 1, 2, 3])]),
  (15, [(3, [0, 3, 4]), (4, [0, 3, 4]), (5, [0, 3, 4]), (6, [3])]),
  (16, [(3, [2, 3, 4]), (7, [3, 4, 7, 8, 9, 10]), (8, [3, 4, 7, 8, 9]), (9, [3, 4, 7, 8, 9, 10]), (11, [3, 4, 9]), (13, [9]), (1000003, [3, 4])]),
  (18, [(3, [1])]),
  (19, [(3, [1]), (5, [1]), (6, [33, 34, 35]), (7, [33, 34, 35, 36]), (10, [33, 34, 35]), (11, [])]),
  (20, [(3, [0])]),
  (21, [(3, [0, 1]), (6, [1, 6, 7, 8]), (7, [1, 6, 7, 8]), (12, [6, 7, 8])]),
  (23, [(5, [2, 3, 4, 5]), (8, [9])]),
  (24, [(3, [1, 5, 8, 9, 10]), (4, [1, 5, 8, 9, 10, 11]), (7, [1, 5, 8, 9, 10]), (8, [5])]),
  (26, [(4, [2, 3, 4, 5]), (5, [2, 3, 4, 5, 26, 27, 28]), (6, [2, 3, 4, 5, 26, 27, 28, 29]), (10, [2, 3, 4, 5, 10, 11, 26, 27, 28]), (13, [2, 3, 4, 5, 26, 27, 28]), (14, []), (1000010, [4, 5, 10])]),
  (27, [(3, [1, 2])]),
  (28, [(4, [2, 3, 4, 5]), (5, [2, 3, 4, 5, 9]), (6, [2, 3, 4, 5, 9]), (7, [2, 3, 4, 5, 9]), (10, [2, 3, 4, 5, 9, 10]), (13, []), (1000010, [4, 5, 10])]),
  (29, [(5, [1, 2])]),
  (31, [(3, [0, 3, 9, 10, 11]), (4, [0, 3, 9, 10, 11, 12]), (8, [0, 3, 9, 10, 11]), (9, [0, 3]), (11, [6, 25, 26, 27]), (12, [6, 25, 26, 27, 28]), (14, [6, 25, 26, 27]), (15, [6])]),
  (33, [(3, [0])]),
  (34, [(3, [0, 1, 5, 8, 9, 10]), (4, [0, 1, 5, 8, 9, 10, 11]), (7, [0, 1, 5, 8, 9, 10]), (8, [5])]),
  (36, [(3, [1, 2])]),
  (37, [(5, [1, 2, 8, 9, 24, 25]), (6, [1, 2, 8, 9, 24, 25, 26]), (9, [1, 2, 8, 9, 10, 24, 25]), (11, [1, 2, 8, 9, 24, 25]), (12, [1, 2, 8, 9]), (14, [1, 2, 8, 9]), (16, [1, 2]), (1000002, [3])]),
  (38, [(4, [4, 5, 6, 7, 9]), (8, [4, 5, 6, 7, 9]), (1000011, [4])]),
  (39, [(4, [0, 2, 4, 7, 8]), (12, [0, 7, 10]), (14, [0, 7, 10])]),
  (40, [(5, [3, 9]), (7, [9])]),
  (41, [(5, [0, 4, 7, 8, 9]), (12, [0, 11, 12]), (14, [0, 11, 12]), (1000002, [4]), (1000006, [10]), (1000011, [13])]),
  (42, [(3, [1, 2])]),
  (43, [(2, [0, 1, 5]), (3, [0, 1, 5]), (4, [0, 1, 5]), (6, [0, 1, 5]), (8, [0, 1]), (10, [0, 1]), (12, [])]),
  (44, [(3, [1, 2, 5, 6]), (4, [1, 2, 5, 6]), (10, [5])]),
  (45, [(3, [0, 1, 5, 6, 7]), (4, [0, 1, 5, 6, 7]), (5, [0, 1, 5, 6, 7]), (6, [1, 5, 6]), (7, [1, 5, 6, 8]), (8, [1, 5, 6, 8]), (9, [1, 5, 6, 8]), (10, [5, 6])]),
  (46, [(3, [0, 1]), (6, [0])]),
  (47, [(3, [1, 2])]),
  (49, [(3, [1, 2, 3, 6, 16, 17, 18]), (4, [1, 2, 3, 6, 16, 17, 18, 19]), (6, [1, 2, 3, 6, 16, 17, 18]), (7, [1, 2, 3, 6]), (8, [1, 2, 3, 6, 9]), (9, [1, 2, 3, 6, 9]), (14, [1, 2, 3, 6, 9, 10, 11]), (15, [1, 2, 3, 6, 9, 10])]),
  (52, [(2, [0, 4]), (3, [0, 4]), (4, [0, 4]), (7, [0, 4, 5]), (14, [5, 6, 7, 8, 9]), (16, [5, 7, 8, 9]), (19, [9, 11])]),
  (53, [(5, [])]),
  (57, [(3, [0, 3, 7, 8]), (4, [0, 3, 7, 8, 9]), (8, [0, 3, 7, 8]), (9, [3])]),
  (60, [(3, [0, 1, 2, 6, 9]), (4, [0, 1, 2, 6, 9]), (7, [0, 1, 2, 6, 9, 10]), (9, [0, 1, 2, 6, 9, 10]), (10, [0, 1, 6]), (11, [0, 1, 6, 11]), (12, [0, 1, 6, 11]), (13, [0, 1, 6, 11]), (14, [0, 1, 6, 7, 11]), (15, [0, 1, 6, 7, 11]), (16, [0, 1, 6, 7, 11]), (17, [0, 1, 6, 7, 11]), (18, [0, 1, 6, 7, 11]), (20, [0, 1, 7, 11]), (21, [])]),
  (61, [(5, [5, 7]), (7, [])]),
  (62, [(1, [1, 2, 3]), (2, [1, 2, 3]), (3, [1, 2, 3]), (5, [1, 2, 3]), (7, [1])]),
  (63, [(5, [0, 1, 5, 6, 7]), (6, [0, 1, 5, 6, 7]), (7, [0, 1, 5, 6, 7]), (10, [0, 5, 6]), (11, [0, 5, 6]), (12, [0, 5, 6, 8]), (13, [0, 5, 6, 8]), (14, [0, 5, 6, 8]), (17, [0, 5, 6]), (19, [5])]),
  (64, [(3, [1])]),
  (65, [(3, [1])]),
  (66, [(3, [1]), (5, [1]), (6, [1, 3]), (7, [1, 3]), (8, [1, 3]), (10, [1]), (12, [1]), (15, [1])]),
  (67, [(2, [1, 2, 3, 7]), (3, [1, 2, 3, 7]), (4, [1, 2, 3, 7]), (6, [])]),
  (68, [(3, [1]), (5, [1]), (6, [1, 27, 28, 29]), (7, [1, 27, 28, 29, 30]), (10, [1, 27, 28, 29]), (11, [1]), (14, [1])]),
  (69, [(3, [0, 1, 5, 6]), (4, [0, 1, 5, 6, 7]), (6, [0, 1, 5, 6]), (7, [0, 1])]),
  (71, [(2, [0, 3]), (3, [0, 3]), (4, [3])]),
  (72, [(3, [0, 1, 5, 8, 9]), (4, [0, 1, 5, 8, 9, 10]), (8, [0, 1, 5, 8, 9]), (9, [1, 5])]),
  (80, [(3, [0, 5, 10, 11]), (4, [0, 5, 10, 11, 12]), (6, [0, 5, 10, 11]), (7, [5])]),
  (82, [(2, [0, 4]), (3, [0, 4]), (4, [0, 4]), (7, [0, 4, 5]), (14, [0, 4, 5, 6, 7, 8]), (16, [0, 4, 5, 6, 7, 8]), (18, [0, 4, 5, 6, 7, 8]), (21, [5, 7, 10]), (23, [7, 10])]),
  (84, [(3, [0, 3, 4]), (4, [0, 3, 4]), (5, [0, 3, 4]), (8, [3])]),
  (86, [(3, [0]), (4, [0, 3]), (5, [0, 3]), (6, [0, 3]), (9, [])]),
  (88, [(3, [0]), (4, [0, 3]), (5, [0, 3]), (6, [0, 3]), (8, [0, 3]), (9, [0, 3, 4]), (10, [0, 3, 4]), (11, [0, 3, 4]), (13, [])]),
  (89, [(3, [0]), (4, [0, 3]), (5, [0, 3]), (6, [0, 3]), (8, [0, 3]), (9, [0, 3, 4]), (10, [0, 3, 4]), (11, [0, 3, 4]), (13, [])]),
  (90, [(2, [0, 7, 8]), (3, [0, 7, 8, 9]), (8, [0, 7, 8]), (9, [0])]),
  (91, [(3, [0]), (5, [3, 10, 11, 12]), (6, [3, 10, 11, 12, 13]), (9, [3, 5, 10, 11, 12]), (11, [3, 5, 10, 11, 12]), (12, [3, 10, 11, 12]), (13, [])]),
  (92, [(3, [0]), (5, [3, 10, 11, 12]), (6, [3, 10, 11, 12, 13]), (9, [3, 5, 10, 11, 12]), (11, [3, 5, 10, 11, 12]), (12, [3, 10, 11, 12]), (13, [])]),
  (93, [(3, [0, 1, 2, 7, 11, 12]), (4, [0, 1, 2, 7, 11, 12, 13]), (8, [0, 1, 2, 7, 11, 12]), (9, [7])]),
  (95, [(3, [0, 3, 5]), (4, [0, 3, 5, 6]), (8, [0, 3, 5]), (9, [3])]),
  (101, [(1, [0, 1]), (2, [0, 1]), (3, [1])]),
  (102, [(3, [0, 1, 6, 7]), (4, [0, 1, 6, 7]), (5, [0, 1, 6, 7]), (8, [1, 6]), (9, [1, 6, 8]), (10, [1, 6, 8]), (11, [1, 6, 8]), (14, [6])]),
  (103, [(3, [0, 1, 5, 6]), (4, [0, 1, 5, 6]), (5, [0, 1, 5, 6]), (6, [5])])]
def userList : List Nat := [3, 4, 5, 6, 7, 8, 9, 10, 11, 12, 13, 14, 15, 16, 17, 18, 19, 20, 21, 22, 23, 24, 25, 26, 27, 28, 29, 30, 31, 32, 33, 34, 35, 36, 37, 38, 39, 40, 41, 42, 43, 44, 45, 46, 47, 48, 49, 50, 51, 52, 53, 54, 55, 56, 57, 58, 59, 60, 61, 62, 63, 64, 65, 66, 67, 68, 69, 70, 71, 72, 73, 74, 75, 76, 77, 78, 79, 80, 81, 82, 83, 84, 85, 86, 87, 88, 89, 90, 91, 92, 93, 95, 96, 97, 98, 99, 100, 101, 102, 103, 104, 105, 108, 109]
def pureList : List Nat := [16]
def flatList : List Nat := [6, 7, 8, 9, 10, 11, 12, 13, 14, 15, 17, 18, 19, 20, 21, 22, 23, 24, 25, 26, 27, 28, 29, 30, 32, 35, 36, 37, 38, 40, 42, 43, 44, 45, 47, 48, 51, 52, 53, 55, 57, 58, 59, 61, 62, 66, 67, 68, 69, 70, 71, 72, 80, 82, 84, 85, 86, 87, 88, 89, 90, 91, 92, 93, 95, 101, 102, 103]
def extList : List (Nat × ExtK) := [(94, .cmp), (106, .same), (107, .indexByte)]
def eqList : List Nat := []
noncomputable def sumList : List (Nat × (List AV → Option AV)) := [(56, trimA)]
noncomputable def effList : List (Nat × EffFn) := [(78, byteE), (79, stringE)]
def bldList : List (Nat × Nat) := [(104, 5)]
def wrbList : List Nat := [56]
def qkList : List (Nat × List Nat) := [(11, [12]), (14, [15])]
def linList : List Nat := [30]
noncomputable def cfg : Cfg := { P := Tryd.prog, glob := globF, sum := fun f => sumList.lookup f, user := fun f => userList.contains f, eqok := fun t => eqList.contains t, pure := fun f => pureList.contains f, flat := fun f => flatList.contains f, ext := fun f => extList.lookup f, keep := keepTab keepList, eff := fun f => effList.lookup f, bld := fun t => bldList.lookup t, lin := fun t => linList.contains t, qk := fun t a => qkList.contains (t, a), wrb := fun t => wrbList.contains t }
noncomputable def C_L21_MemsortBytes : List AV → Hp → Res := callw cfg 4
noncomputable def C_L21_few : List AV → Hp → Res := callw cfg 6
noncomputable def C_L21_awake : List AV → Hp → Res := callw cfg 8
noncomputable def C_memsort_Sort : List AV → Hp → Res := callw cfg 9
noncomputable def C_memsort_Unsorted : List AV → Hp → Res := callw cfg 10
noncomputable def C_R21_Same : List AV → Hp → Res := callw cfg 11
noncomputable def C_L21_times : List AV → Hp → Res := callw cfg 13
noncomputable def C_R05_Default : List AV → Hp → Res := callw cfg 14
noncomputable def C_L07_Light : List AV → Hp → Res := callw cfg 17
noncomputable def C_sortkey_Check : List AV → Hp → Res := callw cfg 19
noncomputable def C_slices_Clone_of_string_string : List AV → Hp → Res := callw cfg 20
noncomputable def C_memsort_mergeSort_of_string : List AV → Hp → Res := callw cfg 21
noncomputable def C_memsort_Sort_1 : List AV → Hp → Res := callw cfg 22
noncomputable def C_sortkey_Order : List AV → Hp → Res := callw cfg 23
noncomputable def C_memsort_once_of_string : List AV → Hp → Res := callw cfg 24
noncomputable def C_memsort_Sort_2 : List AV → Hp → Res := callw cfg 25
noncomputable def C_sortkey_Compare : List AV → Hp → Res := callw cfg 26
noncomputable def C_sortkey_valid : List AV → Hp → Res := callw cfg 36
noncomputable def C_locale_Compare : List AV → Hp → Res := callw cfg 37
noncomputable def C_sortkey_parts : List AV → Hp → Res := callw cfg 38
noncomputable def C_sortkey_Extract : List AV → Hp → Res := callw cfg 39
noncomputable def C_R05_valid : List AV → Hp → Res := callw cfg 42
noncomputable def C_locale_valid : List AV → Hp → Res := callw cfg 47
noncomputable def C_locale_Compare_1 : List AV → Hp → Res := callw cfg 48
noncomputable def C_locale_each : List AV → Hp → Res := callw cfg 49
noncomputable def C_locale_Compare_1_1 : List AV → Hp → Res := callw cfg 50
noncomputable def C_strings_Compare : List AV → Hp → Res := callw cfg 51
noncomputable def C_decimal_Prefix : List AV → Hp → Res := callw cfg 52
noncomputable def C_sortkey_sign : List AV → Hp → Res := callw cfg 53
noncomputable def C_sortkey_parts_1 : List AV → Hp → Res := callw cfg 54
noncomputable def C_sortkey_parts_2 : List AV → Hp → Res := callw cfg 55
noncomputable def C_sortkey_dict : List AV → Hp → Res := callw cfg 57
noncomputable def C_sortkey_parts_3 : List AV → Hp → Res := callw cfg 58
noncomputable def C_locale_Upper : List AV → Hp → Res := callw cfg 59
noncomputable def C_sortkey_field : List AV → Hp → Res := callw cfg 60
noncomputable def C_R05_Check : List AV → Hp → Res := callw cfg 66
noncomputable def C_locale_Check : List AV → Hp → Res := callw cfg 68
noncomputable def C_locale_Default : List AV → Hp → Res := callw cfg 69
noncomputable def C_internal_bytealg_CompareString : List AV → Hp → Res := callw cfg 70
noncomputable def C_decimal_digits : List AV → Hp → Res := callw cfg 71
noncomputable def C_decimal_value : List AV → Hp → Res := callw cfg 72
noncomputable def C_sortkey_blank : List AV → Hp → Res := callw cfg 77
noncomputable def C_locale_mapped : List AV → Hp → Res := callw cfg 80
noncomputable def C_strings_IndexByte : List AV → Hp → Res := callw cfg 81
noncomputable def C_R05_Upper : List AV → Hp → Res := callw cfg 85
noncomputable def C_R05_IsName : List AV → Hp → Res := callw cfg 86
noncomputable def C_R05_light : List AV → Hp → Res := callw cfg 87
noncomputable def C_R05_checkClasses : List AV → Hp → Res := callw cfg 88
noncomputable def C_R05_checkElements : List AV → Hp → Res := callw cfg 89
noncomputable def C_locale_name : List AV → Hp → Res := callw cfg 90
noncomputable def C_locale_checkClasses : List AV → Hp → Res := callw cfg 91
noncomputable def C_locale_checkElements : List AV → Hp → Res := callw cfg 92
noncomputable def C_decimal_fraction : List AV → Hp → Res := callw cfg 95
noncomputable def C_internal_stringslite_IndexByte : List AV → Hp → Res := callw cfg 100
noncomputable def C_R05_mapped : List AV → Hp → Res := callw cfg 103

noncomputable def sortkey_Check_J3 (H0 H : Hp) : Res := CXL cfg (callw cfg) (LPL cfg (cfg.keep 19) 78) (cfg.keep 19) 78 seqL blockL (sub (bodyOf Tryd.f19) [1, 1, 1, 1]) (retL cfg 78 19 Tryd.f19 H0) [] H
noncomputable def sortkey_Check_K1 (H0 : Hp) : KL := seqL (fun k al H => CXL cfg (callw cfg) (LPL cfg (cfg.keep 19) 78) (cfg.keep 19) 78 seqL blockL (sub (bodyOf Tryd.f19) [1, 1, 1, 1]) k (trimL (cfg.keep 19) (sub (bodyOf Tryd.f19) [1, 1, 1, 1]) al) H) (retL cfg 78 19 Tryd.f19 H0)
theorem sortkey_Check_K1_tame (H0 : Hp) : Tame 78 (sortkey_Check_K1 H0) := tame_seq (C := cfg) (kp := cfg.keep 19) (sub (bodyOf Tryd.f19) [1, 1, 1, 1]) (tame_ret 19 Tryd.f19 H0)
noncomputable def sortkey_Check_J5 (x33 x34 x35 : AV) (H0 H : Hp) : Res := CXL cfg (callw cfg) (LPL cfg (cfg.keep 19) 78) (cfg.keep 19) 78 seqL blockL (sub (bodyOf Tryd.f19) [1, 1, 1, 0, 1, 0, 0, 1, 1, 1]) (seqL (fun k al H => LPL cfg (cfg.keep 19) 78 (sub (bodyOf Tryd.f19) [1, 1, 1, 0, 1, 0, 0]) k (trimL (cfg.keep 19) (sub (bodyOf Tryd.f19) [1, 1, 1, 0, 1, 0, 0]) al) H) (blockL 0 (sortkey_Check_K1 H0))) [(33, x33), (34, x34), (35, x35)] H
noncomputable def sortkey_Check_J4 (x33 x34 x35 x36 : AV) (H0 H : Hp) : Res := CXL cfg (callw cfg) (LPL cfg (cfg.keep 19) 78) (cfg.keep 19) 78 seqL blockL (sub (bodyOf Tryd.f19) [1, 1, 1, 0, 1, 0, 0, 1, 1]) (seqL (fun k al H => LPL cfg (cfg.keep 19) 78 (sub (bodyOf Tryd.f19) [1, 1, 1, 0, 1, 0, 0]) k (trimL (cfg.keep 19) (sub (bodyOf Tryd.f19) [1, 1, 1, 0, 1, 0, 0]) al) H) (blockL 0 (sortkey_Check_K1 H0))) [(33, x33), (34, x34), (35, x35), (36, x36)] H
noncomputable def sortkey_Check_L1 (x33 x34 x35 : AV) (H0 H : Hp) : Res := LPL cfg (cfg.keep 19) 78 (sub (bodyOf Tryd.f19) [1, 1, 1, 0, 1, 0, 0]) (blockL 0 (sortkey_Check_K1 H0)) [(33, x33), (34, x34), (35, x35)] H
noncomputable def sortkey_Check_J2 (x1 : AV) (H0 H : Hp) : Res := CXL cfg (callw cfg) (LPL cfg (cfg.keep 19) 78) (cfg.keep 19) 78 seqL blockL (sub (bodyOf Tryd.f19) [1, 1, 1]) (retL cfg 78 19 Tryd.f19 H0) [(1, x1)] H
noncomputable def sortkey_Check_J1 (x1 : AV) (H0 H : Hp) : Res := CXL cfg (callw cfg) (LPL cfg (cfg.keep 19) 78) (cfg.keep 19) 78 seqL blockL (sub (bodyOf Tryd.f19) [1, 1]) (retL cfg 78 19 Tryd.f19 H0) [(1, x1)] H
noncomputable def F_sortkey_Check (p0 : AV) (H : Hp) : Res :=
  bnd (abox p0 H) fun r1 =>
  bnd (afield 0 r1.1) fun t5 =>
  bnd (aload false 1 t5 r1.2) fun t6 =>
  bnd (alenD (.slice 49) t6) fun t7 =>
  bnd (ibin .gtr t7 (.int .i64 8)) fun t8 =>
  cnd t8
    (some ((.int .i64 3), r1.2))
    (sortkey_Check_J1 r1.1 H r1.2)
theorem sortkey_Check_J3_eq (H0 H : Hp) : sortkey_Check_J3 H0 H =
    some ((.int .i64 0), H) := (CXM_eq [3, 5, 7, 10, 11] _ _ _ _).trans (by kernel_rfl)
theorem sortkey_Check_J5_eq (x33 x34 x35 : AV) (H0 H : Hp) : sortkey_Check_J5 x33 x34 x35 H0 H =
    bnd (ibin .add x35 (.int .i64 1)) fun t77 =>
    sortkey_Check_L1 x33 x34 t77 H0 H := (CXM_eq [3, 5, 7, 10, 11] _ _ _ _).trans (by kernel_rfl)
theorem sortkey_Check_J4_eq (x33 x34 x35 x36 : AV) (H0 H : Hp) : sortkey_Check_J4 x33 x34 x35 x36 H0 H =
    bnd (aindexS 5 x33 x35) fun t37 =>
    bnd (aload true 5 t37 H) fun t38 =>
    bnd (some ((.ptr H.length 0), H ++ [.cells [(.int .i64 0), (.int .i64 0), (.int .i64 0), (.int .i64 0), (.int .i64 0)]])) fun r4 =>
    bnd (astoreU 5 r4.1 t38 r4.2) fun r_10 =>
    bnd (afield 0 r4.1) fun t39 =>
    bnd (aload false 1 t39 r_10.2) fun t40 =>
    bnd (ibin .lss t40 (.int .i64 1)) fun t41 =>
    bnd (gdv t41 false (.tuple []) (afield 1 r4.1)) fun t43 =>
    bnd (gdv t41 false (.tuple []) (aload false 1 t43 r_10.2)) fun t44 =>
    bnd (gdv t41 false (.tuple []) (ibin .lss t44 (.int .i64 1))) fun t45 =>
    bnd (apick t41 (.bool true) t45) fun t46 =>
    bnd (gdv t46 false (.tuple []) (afield 2 r4.1)) fun t48 =>
    bnd (gdv t46 false (.tuple []) (aload false 1 t48 r_10.2)) fun t49 =>
    bnd (gdv t46 false (.tuple []) (ibin .lss t49 (.int .i64 0))) fun t50 =>
    bnd (apick t46 (.bool true) t50) fun t51 =>
    bnd (gdv t51 false (.tuple []) (afield 3 r4.1)) fun t53 =>
    bnd (gdv t51 false (.tuple []) (aload false 1 t53 r_10.2)) fun t54 =>
    bnd (gdv t51 false (.tuple []) (ibin .lss t54 (.int .i64 0))) fun t55 =>
    bnd (apick t51 (.bool true) t55) fun t56 =>
    bnd (gdv t56 false (.tuple []) (afield 2 r4.1)) fun t58 =>
    bnd (gdv t56 false (.tuple []) (aload false 1 t58 r_10.2)) fun t59 =>
    bnd (gdv t56 false (.tuple []) (ibin .eql t59 (.int .i64 0))) fun t60 =>
    bnd (gdv t56 false (.tuple []) (some t60)) fun t61 =>
    bnd (gdv t61 true (.tuple []) (afield 3 r4.1)) fun t62 =>
    bnd (gdv t61 true (.tuple []) (aload false 1 t62 r_10.2)) fun t63 =>
    bnd (gdv t61 true (.tuple []) (ibin .neq t63 (.int .i64 0))) fun t64 =>
    bnd (gdv t56 false (.tuple []) (apick t61 t64 (.bool false))) fun t65 =>
    bnd (apick t56 (.bool true) t65) fun t66 =>
    bnd (gdv t66 false (.tuple []) (afield 4 r4.1)) fun t68 =>
    bnd (gdv t66 false (.tuple []) (aload false 1 t68 r_10.2)) fun t69 =>
    bnd (gdv t66 false (.tuple []) (ibin .lss t69 (.int .i64 0))) fun t70 =>
    bnd (apick t66 (.bool true) t70) fun t71 =>
    bnd (gdv t71 false (.tuple []) (afield 4 r4.1)) fun t73 =>
    bnd (gdv t71 false (.tuple []) (aload false 1 t73 r_10.2)) fun t74 =>
    bnd (gdv t71 false (.tuple []) (ibin .gtr t74 (.int .i64 31))) fun t75 =>
    bnd (apick t71 (.bool true) t75) fun t76 =>
    cnd t76
      (some ((.int .i64 2), r_10.2))
      (sortkey_Check_J5 x33 x34 x35 H0 r_10.2) := (CXM_eq [3, 5, 7, 10, 11] _ _ _ _).trans (by kernel_rfl)
theorem sortkey_Check_L1_eq (x33 x34 x35 : AV) (H0 H : Hp) : sortkey_Check_L1 x33 x34 x35 H0 H =
    bnd (ibin .lss x35 x34) fun t36 =>
    cnd t36
      (sortkey_Check_J4 x33 x34 x35 t36 H0 H)
      (sortkey_Check_J3 H0 H) := (LPL_eqm (C := cfg) [3, 5, 7, 10, 11] (tame_block 0 (sortkey_Check_K1_tame H0)) _ _).trans (by kernel_rfl)
theorem sortkey_Check_J2_eq (x1 : AV) (H0 H : Hp) : sortkey_Check_J2 x1 H0 H =
    bnd (afield 0 x1) fun t32 =>
    bnd (aload false 1 t32 H) fun t33 =>
    bnd (alenD (.slice 49) t33) fun t34 =>
    sortkey_Check_L1 t33 t34 (.int .i64 0) H0 H := (CXM_eq [3, 5, 7, 10, 11] _ _ _ _).trans (by kernel_rfl)
theorem sortkey_Check_J1_eq (x1 : AV) (H0 H : Hp) : sortkey_Check_J1 x1 H0 H =
    bnd (afield 1 x1) fun t9 =>
    bnd (aload false 1 t9 H) fun t10 =>
    bnd (ibin .lss t10 (.int .i64 (-1))) fun t11 =>
    bnd (gdv t11 false (.tuple []) (afield 1 x1)) fun t13 =>
    bnd (gdv t11 false (.tuple []) (aload false 1 t13 H)) fun t14 =>
    bnd (gdv t11 false (.tuple []) (ibin .gtr t14 (.int .i64 255))) fun t15 =>
    bnd (apick t11 (.bool true) t15) fun t16 =>
    bnd (gdv t16 false (.tuple []) (afield 1 x1)) fun t18 =>
    bnd (gdv t16 false (.tuple []) (aload false 1 t18 H)) fun t19 =>
    bnd (gdv t16 false (.tuple []) (ibin .eql t19 (.int .i64 10))) fun t20 =>
    bnd (apick t16 (.bool true) t20) fun t21 =>
    bnd (gdv t21 false (.tuple []) (afield 2 x1)) fun t23 =>
    bnd (gdv t21 false (.tuple []) (aload false 1 t23 H)) fun t24 =>
    bnd (gdv t21 false (.tuple []) (ibin .lss t24 (.int .i64 0))) fun t25 =>
    bnd (apick t21 (.bool true) t25) fun t26 =>
    bnd (gdv t26 false (.tuple []) (afield 2 x1)) fun t28 =>
    bnd (gdv t26 false (.tuple []) (aload false 1 t28 H)) fun t29 =>
    bnd (gdv t26 false (.tuple []) (ibin .gtr t29 (.int .i64 31))) fun t30 =>
    bnd (apick t26 (.bool true) t30) fun t31 =>
    cnd t31
      (some ((.int .i64 2), H))
      (sortkey_Check_J2 x1 H0 H) := (CXM_eq [3, 5, 7, 10, 11] _ _ _ _).trans (by kernel_rfl)
theorem F_sortkey_Check_eq (p0 : AV) (H : Hp) : C_sortkey_Check [p0] H = F_sortkey_Check p0 H := (callw_cxm (C := cfg) (fn := Tryd.f19) (c := bodyOf Tryd.f19) (n := 78) [3, 5, 7, 10, 11] Tryd.func19 (by kernel_rfl) (by kernel_rfl) [p0] (by kernel_rfl) H).trans (by kernel_rfl)

noncomputable def sortkey_Extract_J3 (x0 x7 x10 : AV) (H0 H : Hp) : Res := CXL cfg (callw cfg) (LPL cfg (cfg.keep 39) 70) (cfg.keep 39) 70 seqL blockL (sub (bodyOf Tryd.f39) [1, 1, 1, 1, 1, 1, 1]) (retL cfg 70 39 Tryd.f39 H0) [(0, x0), (7, x7), (10, x10)] H
noncomputable def sortkey_Extract_J2 (x0 x7 x10 : AV) (H0 H : Hp) : Res := CXL cfg (callw cfg) (LPL cfg (cfg.keep 39) 70) (cfg.keep 39) 70 seqL blockL (sub (bodyOf Tryd.f39) [1, 1, 1, 1, 1, 1]) (retL cfg 70 39 Tryd.f39 H0) [(0, x0), (7, x7), (10, x10)] H
noncomputable def sortkey_Extract_J1 (x0 x2 x4 x7 x8 : AV) (H0 H : Hp) : Res := CXL cfg (callw cfg) (LPL cfg (cfg.keep 39) 70) (cfg.keep 39) 70 seqL blockL (sub (bodyOf Tryd.f39) [1, 1, 1]) (retL cfg 70 39 Tryd.f39 H0) [(0, x0), (2, x2), (4, x4), (7, x7), (8, x8)] H
noncomputable def F_sortkey_Extract (p0 p1 p2 : AV) (H : Hp) : Res :=
  bnd (abox p1 H) fun r4 =>
  bnd (afield 0 r4.1) fun t16 =>
  bnd (aload false 1 t16 r4.2) fun t17 =>
  bnd (amax2 t17 (.int .i64 1)) fun t18 =>
  bnd (C_sortkey_field [p0, t18, p2] r4.2) fun r20 =>
  bnd (aext r20.1 0) fun t21 =>
  bnd (aext r20.1 1) fun t22 =>
  bnd (aext r20.1 2) fun t23 =>
  bnd (aun .not t23) fun t25 =>
  cnd t25
    (some ((.str []), r20.2))
    (sortkey_Extract_J1 p0 p2 r4.1 t21 t22 H r20.2)
theorem sortkey_Extract_J3_eq (x0 x7 x10 : AV) (H0 H : Hp) : sortkey_Extract_J3 x0 x7 x10 H0 H =
    bnd (asliceS x0 (some x7) (some x10) none) fun t69 =>
    some (t69, H) := (CXM_eq [4, 12, 14] _ _ _ _).trans (by kernel_rfl)
theorem sortkey_Extract_J2_eq (x0 x7 x10 : AV) (H0 H : Hp) : sortkey_Extract_J2 x0 x7 x10 H0 H =
    bnd (ibin .lss x10 x7) fun t65 =>
    cnd t65
      (some ((.str []), H))
      (sortkey_Extract_J3 x0 x7 x10 H0 H) := (CXM_eq [4, 12, 14] _ _ _ _).trans (by kernel_rfl)
theorem sortkey_Extract_J1_eq (x0 x2 x4 x7 x8 : AV) (H0 H : Hp) : sortkey_Extract_J1 x0 x2 x4 x7 x8 H0 H =
    bnd (afield 1 x4) fun t27 =>
    bnd (aload false 1 t27 H) fun t28 =>
    bnd (amax2 t28 (.int .i64 1)) fun t29 =>
    bnd (ibin .sub t29 (.int .i64 1)) fun t30 =>
    bnd (ibin .sub x8 x7) fun t33 =>
    bnd (amin2 t30 t33) fun t34 =>
    bnd (ibin .add x7 t34) fun t35 =>
    bnd (alenD .string x0) fun t37 =>
    bnd (afield 2 x4) fun t38 =>
    bnd (aload false 1 t38 H) fun t39 =>
    bnd (ibin .gtr t39 (.int .i64 0)) fun t40 =>
    cnd t40
      (bnd (afield 2 x4) fun t43 =>
      bnd (aload false 1 t43 H) fun t44 =>
      bnd (C_sortkey_field [x0, t44, x2] H) fun r46 =>
      bnd (aext r46.1 0) fun t47 =>
      bnd (aext r46.1 1) fun t48 =>
      bnd (aext r46.1 2) fun t49 =>
      cnd t49
        (bnd (afield 3 x4) fun t52 =>
        bnd (aload false 1 t52 r46.2) fun t53 =>
        bnd (ibin .gtr t53 (.int .i64 0)) fun t54 =>
        cnd t54
          (bnd (afield 3 x4) fun t56 =>
          bnd (aload false 1 t56 r46.2) fun t57 =>
          bnd (ibin .sub t48 t47) fun t60 =>
          bnd (amin2 t57 t60) fun t61 =>
          bnd (ibin .add t47 t61) fun t62 =>
          sortkey_Extract_J2 x0 t35 t62 H0 r46.2)
          (sortkey_Extract_J2 x0 t35 t48 H0 r46.2))
        (sortkey_Extract_J2 x0 t35 t37 H0 r46.2))
      (sortkey_Extract_J2 x0 t35 t37 H0 H) := (CXM_eq [4, 12, 14] _ _ _ _).trans (by kernel_rfl)
theorem F_sortkey_Extract_eq (p0 p1 p2 : AV) (H : Hp) : C_sortkey_Extract [p0, p1, p2] H = F_sortkey_Extract p0 p1 p2 H := (callw_cxm (C := cfg) (fn := Tryd.f39) (c := bodyOf Tryd.f39) (n := 70) [4, 12, 14] Tryd.func39 (by kernel_rfl) (by kernel_rfl) [p0, p1, p2] (by kernel_rfl) H).trans (by kernel_rfl)

noncomputable def sortkey_field_J2 (H0 H : Hp) : Res := CXL cfg (callw cfg) (LPL cfg (cfg.keep 60) 83) (cfg.keep 60) 83 seqL blockL (sub (bodyOf Tryd.f60) [1, 1, 1]) (retL cfg 83 60 Tryd.f60 H0) [] H
noncomputable def sortkey_field_K1 (H0 : Hp) : KL := seqL (fun k al H => CXL cfg (callw cfg) (LPL cfg (cfg.keep 60) 83) (cfg.keep 60) 83 seqL blockL (sub (bodyOf Tryd.f60) [1, 1, 1]) k (trimL (cfg.keep 60) (sub (bodyOf Tryd.f60) [1, 1, 1]) al) H) (retL cfg 83 60 Tryd.f60 H0)
theorem sortkey_field_K1_tame (H0 : Hp) : Tame 83 (sortkey_field_K1 H0) := tame_seq (C := cfg) (kp := cfg.keep 60) (sub (bodyOf Tryd.f60) [1, 1, 1]) (tame_ret 60 Tryd.f60 H0)
noncomputable def sortkey_field_J4 (x0 x1 x6 x11 : AV) (H0 H : Hp) : Res := CXL cfg (callw cfg) (LPL cfg (cfg.keep 60) 83) (cfg.keep 60) 83 seqL blockL (sub (bodyOf Tryd.f60) [1, 1, 0, 1, 0, 0, 1, 1]) (seqL (fun k al H => LPL cfg (cfg.keep 60) 83 (sub (bodyOf Tryd.f60) [1, 1, 0, 1, 0, 0]) k (trimL (cfg.keep 60) (sub (bodyOf Tryd.f60) [1, 1, 0, 1, 0, 0]) al) H) (blockL 2 (sortkey_field_K1 H0))) [(0, x0), (1, x1), (6, x6), (11, x11)] H
noncomputable def sortkey_field_K2 (H0 : Hp) : KL := seqL (fun k al H => CXL cfg (callw cfg) (LPL cfg (cfg.keep 60) 83) (cfg.keep 60) 83 seqL blockL (sub (bodyOf Tryd.f60) [1, 1, 0, 1, 0, 0, 1, 1]) k (trimL (cfg.keep 60) (sub (bodyOf Tryd.f60) [1, 1, 0, 1, 0, 0, 1, 1]) al) H) (seqL (fun k al H => LPL cfg (cfg.keep 60) 83 (sub (bodyOf Tryd.f60) [1, 1, 0, 1, 0, 0]) k (trimL (cfg.keep 60) (sub (bodyOf Tryd.f60) [1, 1, 0, 1, 0, 0]) al) H) (blockL 2 (sortkey_field_K1 H0)))
theorem sortkey_field_K2_tame (H0 : Hp) : Tame 83 (sortkey_field_K2 H0) := tame_seq (C := cfg) (kp := cfg.keep 60) (sub (bodyOf Tryd.f60) [1, 1, 0, 1, 0, 0, 1, 1]) (tame_loop (C := cfg) (kp := cfg.keep 60) (sub (bodyOf Tryd.f60) [1, 1, 0, 1, 0, 0]) (tame_block 2 (sortkey_field_K1_tame H0)))
noncomputable def sortkey_field_J7 (x0 x1 x7 x11 : AV) (H0 H : Hp) : Res := CXL cfg (callw cfg) (LPL cfg (cfg.keep 60) 83) (cfg.keep 60) 83 seqL blockL (sub (bodyOf Tryd.f60) [1, 1, 0, 1, 0, 0, 1, 0, 0, 1, 1, 1, 1]) (blockL 3 (sortkey_field_K2 H0)) [(0, x0), (1, x1), (7, x7), (11, x11)] H
noncomputable def sortkey_field_J6 (x0 x1 x6 x7 x11 : AV) (H0 H : Hp) : Res := CXL cfg (callw cfg) (LPL cfg (cfg.keep 60) 83) (cfg.keep 60) 83 seqL blockL (sub (bodyOf Tryd.f60) [1, 1, 0, 1, 0, 0, 1, 0, 0, 1, 1, 1]) (blockL 3 (sortkey_field_K2 H0)) [(0, x0), (1, x1), (6, x6), (7, x7), (11, x11)] H
noncomputable def sortkey_field_K3 (H0 : Hp) : KL := seqL (fun k al H => CXL cfg (callw cfg) (LPL cfg (cfg.keep 60) 83) (cfg.keep 60) 83 seqL blockL (sub (bodyOf Tryd.f60) [1, 1, 0, 1, 0, 0, 1, 0, 0, 1, 1, 1]) k (trimL (cfg.keep 60) (sub (bodyOf Tryd.f60) [1, 1, 0, 1, 0, 0, 1, 0, 0, 1, 1, 1]) al) H) (blockL 3 (sortkey_field_K2 H0))
theorem sortkey_field_K3_tame (H0 : Hp) : Tame 83 (sortkey_field_K3 H0) := tame_seq (C := cfg) (kp := cfg.keep 60) (sub (bodyOf Tryd.f60) [1, 1, 0, 1, 0, 0, 1, 0, 0, 1, 1, 1]) (tame_block 3 (sortkey_field_K2_tame H0))
noncomputable def sortkey_field_J8 (x0 x1 x6 x7 x11 : AV) (H0 H : Hp) : Res := CXL cfg (callw cfg) (LPL cfg (cfg.keep 60) 83) (cfg.keep 60) 83 seqL blockL (sub (bodyOf Tryd.f60) [1, 1, 0, 1, 0, 0, 1, 0, 0, 1, 1, 0, 0, 0, 1]) (seqL (fun k al H => LPL cfg (cfg.keep 60) 83 (sub (bodyOf Tryd.f60) [1, 1, 0, 1, 0, 0, 1, 0, 0, 1, 1, 0, 0, 0]) k (trimL (cfg.keep 60) (sub (bodyOf Tryd.f60) [1, 1, 0, 1, 0, 0, 1, 0, 0, 1, 1, 0, 0, 0]) al) H) (blockL 6 (sortkey_field_K3 H0))) [(0, x0), (1, x1), (6, x6), (7, x7), (11, x11)] H
noncomputable def sortkey_field_L2 (x0 x1 x6 x7 x11 : AV) (H0 H : Hp) : Res := LPL cfg (cfg.keep 60) 83 (sub (bodyOf Tryd.f60) [1, 1, 0, 1, 0, 0, 1, 0, 0, 1, 1, 0, 0, 0]) (blockL 6 (sortkey_field_K3 H0)) [(0, x0), (1, x1), (6, x6), (7, x7), (11, x11)] H
noncomputable def sortkey_field_J5 (x0 x1 x6 x7 x11 : AV) (H0 H : Hp) : Res := CXL cfg (callw cfg) (LPL cfg (cfg.keep 60) 83) (cfg.keep 60) 83 seqL blockL (sub (bodyOf Tryd.f60) [1, 1, 0, 1, 0, 0, 1, 0, 0, 1, 1]) (blockL 3 (sortkey_field_K2 H0)) [(0, x0), (1, x1), (6, x6), (7, x7), (11, x11)] H
noncomputable def sortkey_field_K4 (H0 : Hp) : KL := seqL (fun k al H => CXL cfg (callw cfg) (LPL cfg (cfg.keep 60) 83) (cfg.keep 60) 83 seqL blockL (sub (bodyOf Tryd.f60) [1, 1, 0, 1, 0, 0, 1, 0, 0, 1, 1]) k (trimL (cfg.keep 60) (sub (bodyOf Tryd.f60) [1, 1, 0, 1, 0, 0, 1, 0, 0, 1, 1]) al) H) (blockL 3 (sortkey_field_K2 H0))
theorem sortkey_field_K4_tame (H0 : Hp) : Tame 83 (sortkey_field_K4 H0) := tame_seq (C := cfg) (kp := cfg.keep 60) (sub (bodyOf Tryd.f60) [1, 1, 0, 1, 0, 0, 1, 0, 0, 1, 1]) (tame_block 3 (sortkey_field_K2_tame H0))
noncomputable def sortkey_field_J9 (x0 x1 x6 x7 x11 : AV) (H0 H : Hp) : Res := CXL cfg (callw cfg) (LPL cfg (cfg.keep 60) 83) (cfg.keep 60) 83 seqL blockL (sub (bodyOf Tryd.f60) [1, 1, 0, 1, 0, 0, 1, 0, 0, 1, 0, 0, 0, 1]) (seqL (fun k al H => LPL cfg (cfg.keep 60) 83 (sub (bodyOf Tryd.f60) [1, 1, 0, 1, 0, 0, 1, 0, 0, 1, 0, 0, 0]) k (trimL (cfg.keep 60) (sub (bodyOf Tryd.f60) [1, 1, 0, 1, 0, 0, 1, 0, 0, 1, 0, 0, 0]) al) H) (blockL 4 (sortkey_field_K4 H0))) [(0, x0), (1, x1), (6, x6), (7, x7), (11, x11)] H
noncomputable def sortkey_field_L3 (x0 x1 x6 x7 x11 : AV) (H0 H : Hp) : Res := LPL cfg (cfg.keep 60) 83 (sub (bodyOf Tryd.f60) [1, 1, 0, 1, 0, 0, 1, 0, 0, 1, 0, 0, 0]) (blockL 4 (sortkey_field_K4 H0)) [(0, x0), (1, x1), (6, x6), (7, x7), (11, x11)] H
noncomputable def sortkey_field_J3 (x0 x1 x6 x11 : AV) (H0 H : Hp) : Res := CXL cfg (callw cfg) (LPL cfg (cfg.keep 60) 83) (cfg.keep 60) 83 seqL blockL (sub (bodyOf Tryd.f60) [1, 1, 0, 1, 0, 0, 1]) (seqL (fun k al H => LPL cfg (cfg.keep 60) 83 (sub (bodyOf Tryd.f60) [1, 1, 0, 1, 0, 0]) k (trimL (cfg.keep 60) (sub (bodyOf Tryd.f60) [1, 1, 0, 1, 0, 0]) al) H) (blockL 2 (sortkey_field_K1 H0))) [(0, x0), (1, x1), (6, x6), (11, x11)] H
noncomputable def sortkey_field_L1 (x0 x1 x6 x11 : AV) (H0 H : Hp) : Res := LPL cfg (cfg.keep 60) 83 (sub (bodyOf Tryd.f60) [1, 1, 0, 1, 0, 0]) (blockL 2 (sortkey_field_K1 H0)) [(0, x0), (1, x1), (6, x6), (11, x11)] H
noncomputable def sortkey_field_J1 (x0 x1 x6 : AV) (H0 H : Hp) : Res := CXL cfg (callw cfg) (LPL cfg (cfg.keep 60) 83) (cfg.keep 60) 83 seqL blockL (sub (bodyOf Tryd.f60) [1, 1]) (retL cfg 83 60 Tryd.f60 H0) [(0, x0), (1, x1), (6, x6)] H
noncomputable def sortkey_field_K5 (H0 : Hp) : KL := seqL (fun k al H => CXL cfg (callw cfg) (LPL cfg (cfg.keep 60) 83) (cfg.keep 60) 83 seqL blockL (sub (bodyOf Tryd.f60) [1, 1]) k (trimL (cfg.keep 60) (sub (bodyOf Tryd.f60) [1, 1]) al) H) (retL cfg 83 60 Tryd.f60 H0)
theorem sortkey_field_K5_tame (H0 : Hp) : Tame 83 (sortkey_field_K5 H0) := tame_seq (C := cfg) (kp := cfg.keep 60) (sub (bodyOf Tryd.f60) [1, 1]) (tame_ret 60 Tryd.f60 H0)
noncomputable def sortkey_field_J10 (x0 x1 x2 x6 x9 : AV) (H0 H : Hp) : Res := CXL cfg (callw cfg) (LPL cfg (cfg.keep 60) 83) (cfg.keep 60) 83 seqL blockL (sub (bodyOf Tryd.f60) [1, 0, 1, 0, 1, 0, 0, 1]) (seqL (fun k al H => LPL cfg (cfg.keep 60) 83 (sub (bodyOf Tryd.f60) [1, 0, 1, 0, 1, 0, 0]) k (trimL (cfg.keep 60) (sub (bodyOf Tryd.f60) [1, 0, 1, 0, 1, 0, 0]) al) H) (blockL 0 (sortkey_field_K5 H0))) [(0, x0), (1, x1), (2, x2), (6, x6), (9, x9)] H
noncomputable def sortkey_field_K6 (H0 : Hp) : KL := seqL (fun k al H => CXL cfg (callw cfg) (LPL cfg (cfg.keep 60) 83) (cfg.keep 60) 83 seqL blockL (sub (bodyOf Tryd.f60) [1, 0, 1, 0, 1, 0, 0, 1]) k (trimL (cfg.keep 60) (sub (bodyOf Tryd.f60) [1, 0, 1, 0, 1, 0, 0, 1]) al) H) (seqL (fun k al H => LPL cfg (cfg.keep 60) 83 (sub (bodyOf Tryd.f60) [1, 0, 1, 0, 1, 0, 0]) k (trimL (cfg.keep 60) (sub (bodyOf Tryd.f60) [1, 0, 1, 0, 1, 0, 0]) al) H) (blockL 0 (sortkey_field_K5 H0)))
noncomputable def sortkey_field_J12 (x0 x1 x2 x6 x9 x10 : AV) (H0 H : Hp) : Res := CXL cfg (callw cfg) (LPL cfg (cfg.keep 60) 83) (cfg.keep 60) 83 seqL blockL (sub (bodyOf Tryd.f60) [1, 0, 1, 0, 1, 0, 0, 0, 0, 1, 1, 1]) (blockL 1 (sortkey_field_K6 H0)) [(0, x0), (1, x1), (2, x2), (6, x6), (9, x9), (10, x10)] H
noncomputable def sortkey_field_J11 (x0 x1 x2 x6 x9 x10 : AV) (H0 H : Hp) : Res := CXL cfg (callw cfg) (LPL cfg (cfg.keep 60) 83) (cfg.keep 60) 83 seqL blockL (sub (bodyOf Tryd.f60) [1, 0, 1, 0, 1, 0, 0, 0, 0, 1, 1]) (blockL 1 (sortkey_field_K6 H0)) [(0, x0), (1, x1), (2, x2), (6, x6), (9, x9), (10, x10)] H
noncomputable def sortkey_field_L4 (x0 x1 x2 x6 x9 : AV) (H0 H : Hp) : Res := LPL cfg (cfg.keep 60) 83 (sub (bodyOf Tryd.f60) [1, 0, 1, 0, 1, 0, 0]) (blockL 0 (sortkey_field_K5 H0)) [(0, x0), (1, x1), (2, x2), (6, x6), (9, x9)] H
noncomputable def F_sortkey_field (p0 p1 p2 : AV) (H : Hp) : Res :=
  bnd (ibin .geq p2 (.int .i64 0)) fun t13 =>
  bnd (gdv t13 true (.tuple []) (some p2)) fun t15 =>
  bnd (gdv t13 true (.tuple []) (ibin .leq t15 (.int .i64 255))) fun t16 =>
  bnd (apick t13 t16 (.bool false)) fun t17 =>
  cnd t17
    (sortkey_field_L4 p0 p1 p2 (.int .i64 0) (.int .i64 1) H H)
    (sortkey_field_J1 p0 p1 (.int .i64 0) H H)
theorem sortkey_field_J2_eq (H0 H : Hp) : sortkey_field_J2 H0 H =
    some ((.tuple [(.int .i64 0), (.int .i64 0), (.bool false)]), H) := (CXM_eq [3, 7, 9, 10, 12, 13, 15, 16, 17, 18, 20, 21] _ _ _ _).trans (by kernel_rfl)
theorem sortkey_field_J4_eq (x0 x1 x6 x11 : AV) (H0 H : Hp) : sortkey_field_J4 x0 x1 x6 x11 H0 H =
    bnd (ibin .add x11 (.int .i64 1)) fun t50 =>
    sortkey_field_L1 x0 x1 x6 t50 H0 H := (CXM_eq [3, 7, 9, 10, 12, 13, 15, 16, 17, 18, 20, 21] _ _ _ _).trans (by kernel_rfl)
theorem sortkey_field_J7_eq (x0 x1 x7 x11 : AV) (H0 H : Hp) : sortkey_field_J7 x0 x1 x7 x11 H0 H =
    sortkey_field_J4 x0 x1 x7 x11 H0 H := (CXM_eq [3, 7, 9, 10, 12, 13, 15, 16, 17, 18, 20, 21] _ _ _ _).trans (by kernel_rfl)
theorem sortkey_field_J6_eq (x0 x1 x6 x7 x11 : AV) (H0 H : Hp) : sortkey_field_J6 x0 x1 x6 x7 x11 H0 H =
    bnd (ibin .eql x11 x1) fun t79 =>
    cnd t79
      (some ((.tuple [x6, x7, (.bool true)]), H))
      (sortkey_field_J7 x0 x1 x7 x11 H0 H) := (CXM_eq [3, 7, 9, 10, 12, 13, 15, 16, 17, 18, 20, 21] _ _ _ _).trans (by kernel_rfl)
theorem sortkey_field_J8_eq (x0 x1 x6 x7 x11 : AV) (H0 H : Hp) : sortkey_field_J8 x0 x1 x6 x7 x11 H0 H =
    bnd (ibin .add x7 (.int .i64 1)) fun t76 =>
    sortkey_field_L2 x0 x1 x6 t76 x11 H0 H := (CXM_eq [3, 7, 9, 10, 12, 13, 15, 16, 17, 18, 20, 21] _ _ _ _).trans (by kernel_rfl)
theorem sortkey_field_L2_eq (x0 x1 x6 x7 x11 : AV) (H0 H : Hp) : sortkey_field_L2 x0 x1 x6 x7 x11 H0 H =
    bnd (alenD .string x0) fun t66 =>
    bnd (ibin .lss x7 t66) fun t67 =>
    bnd (gdv t67 true (.tuple []) (some x0)) fun t69 =>
    bnd (gdv t67 true (.tuple []) (some x7)) fun t70 =>
    bnd (gdv t67 true (.tuple []) (aindexStr t69 t70)) fun t71 =>
    bnd (gdv t67 true ((.tuple []), H) (C_sortkey_blank [t71] H)) fun r72 =>
    bnd (gdv t67 true (.tuple []) (aun .not r72.1)) fun t73 =>
    bnd (apick t67 t73 (.bool false)) fun t74 =>
    cnd t74
      (sortkey_field_J8 x0 x1 x6 x7 x11 H0 r72.2)
      (sortkey_field_J6 x0 x1 x6 x7 x11 H0 r72.2) := (LPL_eqm (C := cfg) [3, 7, 9, 10, 12, 13, 15, 16, 17, 18, 20, 21] (tame_block 6 (sortkey_field_K3_tame H0)) _ _).trans (by kernel_rfl)
theorem sortkey_field_J5_eq (x0 x1 x6 x7 x11 : AV) (H0 H : Hp) : sortkey_field_J5 x0 x1 x6 x7 x11 H0 H =
    sortkey_field_L2 x0 x1 x6 x7 x11 H0 H := (CXM_eq [3, 7, 9, 10, 12, 13, 15, 16, 17, 18, 20, 21] _ _ _ _).trans (by kernel_rfl)
theorem sortkey_field_J9_eq (x0 x1 x6 x7 x11 : AV) (H0 H : Hp) : sortkey_field_J9 x0 x1 x6 x7 x11 H0 H =
    bnd (ibin .add x7 (.int .i64 1)) fun t63 =>
    sortkey_field_L3 x0 x1 x6 t63 x11 H0 H := (CXM_eq [3, 7, 9, 10, 12, 13, 15, 16, 17, 18, 20, 21] _ _ _ _).trans (by kernel_rfl)
theorem sortkey_field_L3_eq (x0 x1 x6 x7 x11 : AV) (H0 H : Hp) : sortkey_field_L3 x0 x1 x6 x7 x11 H0 H =
    bnd (alenD .string x0) fun t54 =>
    bnd (ibin .lss x7 t54) fun t55 =>
    bnd (gdv t55 true (.tuple []) (some x0)) fun t57 =>
    bnd (gdv t55 true (.tuple []) (some x7)) fun t58 =>
    bnd (gdv t55 true (.tuple []) (aindexStr t57 t58)) fun t59 =>
    bnd (gdv t55 true ((.tuple []), H) (C_sortkey_blank [t59] H)) fun r60 =>
    bnd (apick t55 r60.1 (.bool false)) fun t61 =>
    cnd t61
      (sortkey_field_J9 x0 x1 x6 x7 x11 H0 r60.2)
      (sortkey_field_J5 x0 x1 x6 x7 x11 H0 r60.2) := (LPL_eqm (C := cfg) [3, 7, 9, 10, 12, 13, 15, 16, 17, 18, 20, 21] (tame_block 4 (sortkey_field_K4_tame H0)) _ _).trans (by kernel_rfl)
theorem sortkey_field_J3_eq (x0 x1 x6 x11 : AV) (H0 H : Hp) : sortkey_field_J3 x0 x1 x6 x11 H0 H =
    sortkey_field_L3 x0 x1 x6 x6 x11 H0 H := (CXM_eq [3, 7, 9, 10, 12, 13, 15, 16, 17, 18, 20, 21] _ _ _ _).trans (by kernel_rfl)
theorem sortkey_field_L1_eq (x0 x1 x6 x11 : AV) (H0 H : Hp) : sortkey_field_L1 x0 x1 x6 x11 H0 H =
    bnd (alenD .string x0) fun t47 =>
    bnd (ibin .lss x6 t47) fun t48 =>
    cnd t48
      (sortkey_field_J3 x0 x1 x6 x11 H0 H)
      (sortkey_field_J2 H0 H) := (LPL_eqm (C := cfg) [3, 7, 9, 10, 12, 13, 15, 16, 17, 18, 20, 21] (tame_block 2 (sortkey_field_K1_tame H0)) _ _).trans (by kernel_rfl)
theorem sortkey_field_J1_eq (x0 x1 x6 : AV) (H0 H : Hp) : sortkey_field_J1 x0 x1 x6 H0 H =
    sortkey_field_L1 x0 x1 x6 (.int .i64 1) H0 H := (CXM_eq [3, 7, 9, 10, 12, 13, 15, 16, 17, 18, 20, 21] _ _ _ _).trans (by kernel_rfl)
theorem sortkey_field_J10_eq (x0 x1 x2 x6 x9 : AV) (H0 H : Hp) : sortkey_field_J10 x0 x1 x2 x6 x9 H0 H =
    bnd (ibin .add x9 (.int .i64 1)) fun t19 =>
    sortkey_field_L4 x0 x1 x2 x6 t19 H0 H := (CXM_eq [3, 7, 9, 10, 12, 13, 15, 16, 17, 18, 20, 21] _ _ _ _).trans (by kernel_rfl)
theorem sortkey_field_J12_eq (x0 x1 x2 x6 x9 x10 : AV) (H0 H : Hp) : sortkey_field_J12 x0 x1 x2 x6 x9 x10 H0 H =
    bnd (ibin .add x10 (.int .i64 1)) fun t43 =>
    bnd (ibin .add x6 t43) fun t44 =>
    sortkey_field_J10 x0 x1 x2 t44 x9 H0 H := (CXM_eq [3, 7, 9, 10, 12, 13, 15, 16, 17, 18, 20, 21] _ _ _ _).trans (by kernel_rfl)
theorem sortkey_field_J11_eq (x0 x1 x2 x6 x9 x10 : AV) (H0 H : Hp) : sortkey_field_J11 x0 x1 x2 x6 x9 x10 H0 H =
    bnd (ibin .eql x9 x1) fun t36 =>
    cnd t36
      (bnd (ibin .add x6 x10) fun t40 =>
      some ((.tuple [x6, t40, (.bool true)]), H))
      (sortkey_field_J12 x0 x1 x2 x6 x9 x10 H0 H) := (CXM_eq [3, 7, 9, 10, 12, 13, 15, 16, 17, 18, 20, 21] _ _ _ _).trans (by kernel_rfl)
theorem sortkey_field_L4_eq (x0 x1 x2 x6 x9 : AV) (H0 H : Hp) : sortkey_field_L4 x0 x1 x2 x6 x9 H0 H =
    bnd (asliceS x0 (some x6) none none) fun t22 =>
    bnd (cvInt .u8 x2) fun t24 =>
    bnd (C_strings_IndexByte [t22, t24] H) fun r25 =>
    bnd (ibin .lss r25.1 (.int .i64 0)) fun t27 =>
    cnd t27
      (bnd (alenD .string x0) fun t30 =>
      bnd (ibin .eql x9 x1) fun t33 =>
      some ((.tuple [x6, t30, t33]), r25.2))
      (sortkey_field_J11 x0 x1 x2 x6 x9 r25.1 H0 r25.2) := (LPL_eqm (C := cfg) [3, 7, 9, 10, 12, 13, 15, 16, 17, 18, 20, 21] (tame_block 0 (sortkey_field_K5_tame H0)) _ _).trans (by kernel_rfl)
theorem F_sortkey_field_eq (p0 p1 p2 : AV) (H : Hp) : C_sortkey_field [p0, p1, p2] H = F_sortkey_field p0 p1 p2 H := (callw_cxm (C := cfg) (fn := Tryd.f60) (c := bodyOf Tryd.f60) (n := 83) [3, 7, 9, 10, 12, 13, 15, 16, 17, 18, 20, 21] Tryd.func60 (by kernel_rfl) (by kernel_rfl) [p0, p1, p2] (by kernel_rfl) H).trans (by kernel_rfl)

noncomputable def F_sortkey_blank (p0 : AV) (H : Hp) : Res :=
  bnd (ibin .eql p0 (.int .u8 32)) fun t4 =>
  bnd (gdv t4 false (.tuple []) (some p0)) fun t6 =>
  bnd (gdv t4 false (.tuple []) (ibin .eql t6 (.int .u8 9))) fun t7 =>
  bnd (apick t4 (.bool true) t7) fun t8 =>
  some (t8, H)
theorem F_sortkey_blank_eq (p0 : AV) (H : Hp) : C_sortkey_blank [p0] H = F_sortkey_blank p0 H := (callw_cxm (C := cfg) (fn := Tryd.f77) (c := bodyOf Tryd.f77) (n := 9) [] Tryd.func77 (by kernel_rfl) (by kernel_rfl) [p0] (by kernel_rfl) H).trans (by kernel_rfl)

noncomputable def F_strings_IndexByte (p0 p1 : AV) (H : Hp) : Res :=
  bnd (C_internal_stringslite_IndexByte [p0, p1] H) fun r7 =>
  some (r7.1, r7.2)
theorem F_strings_IndexByte_eq (p0 p1 : AV) (H : Hp) : C_strings_IndexByte [p0, p1] H = F_strings_IndexByte p0 p1 H := (callw_cxm (C := cfg) (fn := Tryd.f81) (c := bodyOf Tryd.f81) (n := 8) [] Tryd.func81 (by kernel_rfl) (by kernel_rfl) [p0, p1] (by kernel_rfl) H).trans (by kernel_rfl)

noncomputable def F_internal_stringslite_IndexByte (p0 p1 : AV) (H : Hp) : Res :=
  bnd (extC .indexByte [p0, p1] H) fun r7 =>
  some (r7.1, r7.2)
theorem F_internal_stringslite_IndexByte_eq (p0 p1 : AV) (H : Hp) : C_internal_stringslite_IndexByte [p0, p1] H = F_internal_stringslite_IndexByte p0 p1 H := (callw_cxm (C := cfg) (fn := Tryd.f100) (c := bodyOf Tryd.f100) (n := 8) [] Tryd.func100 (by kernel_rfl) (by kernel_rfl) [p0, p1] (by kernel_rfl) H).trans (by kernel_rfl)

theorem V_memsort_Sort_1 (a b args : List AV) (H : Hp) : acall cfg (callw cfg) (.fn (.func 22) a b) args H = flatC C_memsort_Sort_1 (a ++ args ++ b) H := by kernel_rfl
theorem V_memsort_Sort_2 (a b args : List AV) (H : Hp) : acall cfg (callw cfg) (.fn (.func 25) a b) args H = flatC C_memsort_Sort_2 (a ++ args ++ b) H := by kernel_rfl
theorem V_locale_Compare_1 (a b args : List AV) (H : Hp) : acall cfg (callw cfg) (.fn (.func 48) a b) args H = flatC C_locale_Compare_1 (a ++ args ++ b) H := by kernel_rfl
theorem Q_locale_Compare_1 (a b args : List AV) (H : Hp) : acallQ cfg (callw cfg) (.fn (.func 48) a b) args H = flatC C_locale_Compare_1 (a ++ args ++ b) H := by kernel_rfl
theorem V_locale_Compare_1_1 (a b args : List AV) (H : Hp) : acall cfg (callw cfg) (.fn (.func 50) a b) args H = C_locale_Compare_1_1 (a ++ args ++ b) H := by kernel_rfl
theorem V_sortkey_parts_1 (a b args : List AV) (H : Hp) : acall cfg (callw cfg) (.fn (.func 54) a b) args H = C_sortkey_parts_1 (a ++ args ++ b) H := by kernel_rfl
theorem Q_sortkey_parts_2 (a b args : List AV) (H : Hp) : acallQ cfg (callw cfg) (.fn (.func 55) a b) args H = flatC C_sortkey_parts_2 (a ++ args ++ b) H := by kernel_rfl
theorem Q_sortkey_dict (a b args : List AV) (H : Hp) : acallQ cfg (callw cfg) (.fn (.func 57) a b) args H = flatC C_sortkey_dict (a ++ args ++ b) H := by kernel_rfl
theorem Q_sortkey_parts_3 (a b args : List AV) (H : Hp) : acallQ cfg (callw cfg) (.fn (.func 58) a b) args H = flatC C_sortkey_parts_3 (a ++ args ++ b) H := by kernel_rfl
theorem user_ok : ∀ f ∈ userList, UserOk Tryd.prog f :=
  userOk_cons Tryd.call3 (
  userOk_cons Tryd.call4 (
  userOk_cons Tryd.call5 (
  userOk_cons Tryd.call6 (
  userOk_cons Tryd.call7 (
  userOk_cons Tryd.call8 (
  userOk_cons Tryd.call9 (
  userOk_cons Tryd.call10 (
  userOk_cons Tryd.call11 (
  userOk_cons Tryd.call12 (
  userOk_cons Tryd.call13 (
  userOk_cons Tryd.call14 (
  userOk_cons Tryd.call15 (
  userOk_cons Tryd.call16 (
  userOk_cons Tryd.call17 (
  userOk_cons Tryd.call18 (
  userOk_cons Tryd.call19 (
  userOk_cons Tryd.call20 (
  userOk_cons Tryd.call21 (
  userOk_cons Tryd.call22 (
  userOk_cons Tryd.call23 (
  userOk_cons Tryd.call24 (
  userOk_cons Tryd.call25 (
  userOk_cons Tryd.call26 (
  userOk_cons Tryd.call27 (
  userOk_cons Tryd.call28 (
  userOk_cons Tryd.call29 (
  userOk_cons Tryd.call30 (
  userOk_cons Tryd.call31 (
  userOk_cons Tryd.call32 (
  userOk_cons Tryd.call33 (
  userOk_cons Tryd.call34 (
  userOk_cons Tryd.call35 (
  userOk_cons Tryd.call36 (
  userOk_cons Tryd.call37 (
  userOk_cons Tryd.call38 (
  userOk_cons Tryd.call39 (
  userOk_cons Tryd.call40 (
  userOk_cons Tryd.call41 (
  userOk_cons Tryd.call42 (
  userOk_cons Tryd.call43 (
  userOk_cons Tryd.call44 (
  userOk_cons Tryd.call45 (
  userOk_cons Tryd.call46 (
  userOk_cons Tryd.call47 (
  userOk_cons Tryd.call48 (
  userOk_cons Tryd.call49 (
  userOk_cons Tryd.call50 (
  userOk_cons Tryd.call51 (
  userOk_cons Tryd.call52 (
  userOk_cons Tryd.call53 (
  userOk_cons Tryd.call54 (
  userOk_cons Tryd.call55 (
  userOk_cons Tryd.call56 (
  userOk_cons Tryd.call57 (
  userOk_cons Tryd.call58 (
  userOk_cons Tryd.call59 (
  userOk_cons Tryd.call60 (
  userOk_cons Tryd.call61 (
  userOk_cons Tryd.call62 (
  userOk_cons Tryd.call63 (
  userOk_cons Tryd.call64 (
  userOk_cons Tryd.call65 (
  userOk_cons Tryd.call66 (
  userOk_cons Tryd.call67 (
  userOk_cons Tryd.call68 (
  userOk_cons Tryd.call69 (
  userOk_cons Tryd.call70 (
  userOk_cons Tryd.call71 (
  userOk_cons Tryd.call72 (
  userOk_cons Tryd.call73 (
  userOk_cons Tryd.call74 (
  userOk_cons Tryd.call75 (
  userOk_cons Tryd.call76 (
  userOk_cons Tryd.call77 (
  userOk_cons Tryd.call78 (
  userOk_cons Tryd.call79 (
  userOk_cons Tryd.call80 (
  userOk_cons Tryd.call81 (
  userOk_cons Tryd.call82 (
  userOk_cons Tryd.call83 (
  userOk_cons Tryd.call84 (
  userOk_cons Tryd.call85 (
  userOk_cons Tryd.call86 (
  userOk_cons Tryd.call87 (
  userOk_cons Tryd.call88 (
  userOk_cons Tryd.call89 (
  userOk_cons Tryd.call90 (
  userOk_cons Tryd.call91 (
  userOk_cons Tryd.call92 (
  userOk_cons Tryd.call93 (
  userOk_cons Tryd.call95 (
  userOk_cons Tryd.call96 (
  userOk_cons Tryd.call97 (
  userOk_cons Tryd.call98 (
  userOk_cons Tryd.call99 (
  userOk_cons Tryd.call100 (
  userOk_cons Tryd.call101 (
  userOk_cons Tryd.call102 (
  userOk_cons Tryd.call103 (
  userOk_cons Tryd.call104 (
  userOk_cons Tryd.call105 (
  userOk_cons Tryd.call108 (
  userOk_cons Tryd.call109 (userOk_nil))))))))))))))))))))))))))))))))))))))))))))))))))))))))))))))))))))))))))))))))))))))))))))))))))))))))
theorem eq_ok : ∀ t ∈ eqList, Tryd.prog.stoodInHeld t = false ∧ Tryd.prog.eqGuardType Tryd.prog.depth t = false := by
  intro t ht
  simp only [eqList, List.mem_cons, List.not_mem_nil, or_false] at ht

theorem ext94_ok (args : Array Value) (w : World) : (callFunc 94 args).run Tryd.prog w = (do pure (.value (← extF .cmp args)) : Sem Next).run Tryd.prog w := by kernel_rfl
theorem ext106_ok (args : Array Value) (w : World) : (callFunc 106 args).run Tryd.prog w = (do pure (.value (← extF .same args)) : Sem Next).run Tryd.prog w := by kernel_rfl
theorem ext107_ok (args : Array Value) (w : World) : (callFunc 107 args).run Tryd.prog w = (do pure (.value (← extF .indexByte args)) : Sem Next).run Tryd.prog w := by kernel_rfl
theorem ext_ok : ∀ f e, cfg.ext f = some e → ∀ (args : Array Value) (w : World), (callFunc f args).run Tryd.prog w = (do pure (.value (← extF e args)) : Sem Next).run Tryd.prog w := by
  intro f e h
  have h2 := lookup_mem (l := extList) h
  simp only [extList, List.mem_cons, Prod.mk.injEq, List.not_mem_nil, or_false] at h2
  rcases h2 with ⟨rfl, rfl⟩ | ⟨rfl, rfl⟩ | ⟨rfl, rfl⟩
  · exact ext94_ok
  · exact ext106_ok
  · exact ext107_ok
theorem sum_ok : ∀ f g, cfg.sum f = some g → cfg.user f = true ∧ SumOk cfg f g := by
  intro f g h
  have h2 := lookup_mem (l := sumList) h
  simp only [sumList, List.mem_cons, Prod.mk.injEq, List.not_mem_nil, or_false] at h2
  rcases h2 with ⟨rfl, rfl⟩
  · exact ⟨by kernel_rfl, trimA_ok (C := cfg) rfl (fun _ => rfl)⟩
theorem eff_ok : ∀ f g, cfg.eff f = some g → cfg.user f = true ∧ EffOk cfg f g := by
  intro f g h
  have h2 := lookup_mem (l := effList) h
  simp only [effList, List.mem_cons, Prod.mk.injEq, List.not_mem_nil, or_false] at h2
  rcases h2 with ⟨rfl, rfl⟩ | ⟨rfl, rfl⟩
  · exact ⟨by kernel_rfl, byteE_ok (C := cfg) rfl (fun _ => rfl)⟩
  · exact ⟨by kernel_rfl, stringE_ok (C := cfg) rfl (fun _ => rfl)⟩
theorem cfg_ok : okCfg cfg :=
  ⟨fun t h => eq_ok t (List.contains_iff_mem.1 h), fun f h => user_ok f (List.contains_iff_mem.1 h), by kernel_rfl, ext_ok, sum_ok, eff_ok⟩
end Go.Am
