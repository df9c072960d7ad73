/-
  The functions of the translation over the abstract machine: written by program (wip/gen.py).
-/
import Derived.Test.YtijddagljnlfmaaGreatDoorProg
import Derived.Test.YtijddagljnlfmaaGreatDoorTkPx
namespace Go.Am
open Go.Proofs
set_option maxRecDepth 100000
set_option linter.unusedVariables false
set_option linter.unusedSimpArgs false

def keepList : List (Nat × List (Nat × List Nat)) := [(4, [(1000001, [4])]),
  (5, [(1000001, [4, 5])]),
  (6, [(4, [2, 3, 4, 5, 6, 11, 12]), (6, [2, 3, 6, 11, 12]), (1000001, [5, 6]), (1000002, [5, 6]), (1000004, [5, 6])]),
  (7, [(4, [0, 3, 4, 6])]),
  (8, [(4, [0, 1, 5, 6, 7]), (5, [0, 1, 5, 6, 7]), (6, [0, 1, 5, 6, 7]), (8, [0, 1, 5, 6, 7]), (10, [0, 1, 5, 6]), (12, [0, 1, 5, 6]), (14, [0, 1, 5, 6, 8, 9]), (15, [0, 1, 5, 6, 8, 9]), (16, [0, 1, 5, 6, 8, 9]), (18, [0, 1, 5, 6, 8, 9]), (19, [0, 1, 5, 8])]),
  (9, [(1000001, [1])]),
  (10, [(4, [1, 2, 5])]),
  (11, [(2, [0, 2, 6]), (3, [0, 2, 6]), (4, [0, 2, 6]), (7, [0, 2, 6, 7]), (8, [0, 2, 6, 7]), (11, [0, 2, 6]), (1000010, [6])]),
  (12, [(3, [0, 2, 6, 7]), (4, [0, 2, 6, 7]), (6, [0, 2, 6, 7]), (9, [0, 2, 6, 8, 9]), (10, [0, 2, 6, 7]), (1000011, [6])]),
  (13, [(3, [2, 3]), (4, [2, 3, 5]), (5, [2, 3, 5]), (6, [2, 3, 5]), (8, [])]),
  (14, [(3, [0, 1]), (4, [0, 1, 5]), (5, [0, 1, 5]), (6, [0, 1, 5]), (8, [])]),
  (15, [(5, [1, 2])]),
  (16, [(4, [0, 2, 4, 7, 8]), (12, [0, 7, 10]), (14, [0, 7, 10])]),
  (17, [(5, [0, 4, 7, 8, 9]), (12, [0, 11, 12]), (14, [0, 11, 12]), (1000002, [4]), (1000006, [10]), (1000011, [13])]),
  (18, [(4, [2, 3, 4, 5]), (5, [2, 3, 4, 5, 26, 27, 28]), (6, [2, 3, 4, 5, 26, 27, 28, 29]), (10, [2, 3, 4, 5, 10, 11, 26, 27, 28]), (13, [2, 3, 4, 5, 26, 27, 28]), (14, []), (1000010, [4, 5, 10])]),
  (19, [(4, [2, 3, 4, 5]), (5, [2, 3, 4, 5, 9]), (6, [2, 3, 4, 5, 9]), (7, [2, 3, 4, 5, 9]), (10, [2, 3, 4, 5, 9, 10]), (13, []), (1000010, [4, 5, 10])]),
  (20, [(5, [2, 3, 4, 5]), (8, [9])]),
  (21, [(5, [2, 3, 4, 5]), (8, [9])]),
  (22, [(3, [0, 2, 3]), (5, [0, 2, 3]), (7, [])]),
  (23, [(3, [1]), (5, [1]), (6, [33, 34, 35]), (7, [33, 34, 35, 36]), (10, [33, 34, 35]), (11, [])]),
  (24, [(3, [1]), (5, [1]), (6, [1, 3]), (7, [1, 3]), (8, [1, 3]), (10, [])]),
  (25, [(3, [1]), (6, [1, 3]), (8, [1, 3]), (10, [1, 3]), (12, [1, 3]), (13, [3, 41, 42, 43]), (14, [3, 41, 42, 43, 44]), (16, [3, 41, 42, 43]), (17, [3])]),
  (26, [(4, [1, 3]), (6, [1, 3]), (8, [1, 3]), (10, [1, 3]), (12, [1, 3]), (13, [1, 3, 4]), (14, [1, 3, 4]), (15, [1, 3, 4]), (16, [3])]),
  (27, [(1, [0, 1]), (2, [0, 1]), (14, [0, 5, 7]), (17, [7, 9]), (18, [0, 6]), (19, [])]),
  (28, [(3, [1, 2, 3, 6, 9, 10]), (4, [1, 2, 3, 6, 9, 10]), (5, [1, 2, 3, 6, 9, 10]), (9, [1, 2, 3, 6, 9, 10, 11, 12]), (11, [3, 6, 9, 10, 11, 12]), (13, [1, 2, 3, 6, 9, 10]), (16, [1, 2, 3, 6, 9, 10, 15]), (17, [2, 3, 6])]),
  (29, [(4, [0, 1, 2, 3, 4]), (5, [0, 1, 2, 3, 4]), (6, [0, 1, 2, 3, 4]), (9, [0, 1, 2, 3, 4, 5, 6]), (11, [0, 1, 2, 3, 4, 5, 6]), (14, [0, 1, 2, 3])]),
  (30, [(3, [0, 1, 2, 6, 9]), (4, [0, 1, 2, 6, 9]), (7, [0, 1, 2, 6, 9, 10]), (9, [0, 1, 2, 6, 9, 10]), (10, [0, 1, 6]), (11, [0, 1, 6, 11]), (12, [0, 1, 6, 11]), (13, [0, 1, 6, 11]), (14, [0, 1, 6, 7, 11]), (15, [0, 1, 6, 7, 11]), (16, [0, 1, 6, 7, 11]), (17, [0, 1, 6, 7, 11]), (18, [0, 1, 6, 7, 11]), (20, [0, 1, 7, 11]), (21, [])]),
  (31, [(5, [0, 1, 5, 6, 7]), (6, [0, 1, 5, 6, 7]), (7, [0, 1, 5, 6, 7]), (10, [0, 5, 6]), (11, [0, 5, 6]), (12, [0, 5, 6, 8]), (13, [0, 5, 6, 8]), (14, [0, 5, 6, 8]), (17, [0, 5, 6]), (19, [5])]),
  (32, [(3, [1])]),
  (33, [(3, [1])]),
  (34, [(3, [1, 2])]),
  (35, [(4, [4, 5, 6, 7, 9]), (8, [4, 5, 6, 7, 9])]),
  (36, [(3, [1, 2])]),
  (37, [(5, [3, 9]), (7, [9]), (1000004, [4])]),
  (38, [(5, [1, 2, 8, 9, 24, 25]), (6, [1, 2, 8, 9, 24, 25, 26]), (9, [1, 2, 8, 9, 10, 24, 25]), (11, [1, 2, 8, 9, 24, 25]), (12, [1, 2, 8, 9]), (14, [1, 2, 8, 9]), (16, [1, 2])]),
  (39, [(5, [1, 2]), (1000002, [3])]),
  (41, [(3, [1])]),
  (42, [(3, [0, 3, 5]), (4, [0, 3, 5, 6]), (7, [0, 3, 5]), (8, [3])]),
  (43, [(4, [1, 3]), (8, [1, 3])]),
  (44, [(4, [0, 3, 4, 5]), (5, [0, 3, 4, 5]), (6, [0, 3, 4, 5]), (8, [3])]),
  (45, [(4, [1, 3]), (8, [1, 3])]),
  (46, [(12, [])]),
  (47, [(3, [0]), (5, [0])]),
  (48, [(3, [0, 1]), (6, [6])]),
  (49, [(3, [0, 1])]),
  (50, [(4, [2, 3, 6]), (6, [2, 3, 6]), (8, [2, 3, 6])]),
  (51, [(8, [2, 4])]),
  (55, [(2, [0, 4]), (3, [0, 4]), (4, [0, 4]), (7, [0, 4, 5]), (14, [5, 6, 7, 8, 9]), (16, [5, 7, 8, 9]), (19, [9, 11])]),
  (56, [(5, [])]),
  (59, [(3, [0, 1]), (5, [0, 1]), (8, [0, 1])]),
  (60, [(3, [0, 3, 7, 8]), (4, [0, 3, 7, 8, 9]), (8, [0, 3, 7, 8]), (9, [3])]),
  (63, [(5, [5, 7]), (7, [])]),
  (64, [(1, [1, 2, 3]), (2, [1, 2, 3]), (3, [1, 2, 3]), (5, [1, 2, 3]), (7, [1])]),
  (65, [(3, [1, 2])]),
  (67, [(3, [1, 2, 3, 6, 16, 17, 18]), (4, [1, 2, 3, 6, 16, 17, 18, 19]), (6, [1, 2, 3, 6, 16, 17, 18]), (7, [1, 2, 3, 6]), (8, [1, 2, 3, 6, 9]), (9, [1, 2, 3, 6, 9]), (14, [1, 2, 3, 6, 9, 10, 11]), (15, [1, 2, 3, 6, 9, 10])]),
  (70, [(3, [1, 2])]),
  (71, [(2, [0, 1, 5]), (3, [0, 1, 5]), (4, [0, 1, 5]), (6, [0, 1, 5]), (8, [0, 1]), (10, [0, 1]), (12, [])]),
  (72, [(3, [1, 2, 5, 6]), (4, [1, 2, 5, 6]), (10, [5])]),
  (73, [(3, [0, 1, 5, 6, 7]), (4, [0, 1, 5, 6, 7]), (5, [0, 1, 5, 6, 7]), (6, [1, 5, 6]), (7, [1, 5, 6, 8]), (8, [1, 5, 6, 8]), (9, [1, 5, 6, 8]), (10, [5, 6])]),
  (75, [(12, [])]),
  (76, [(3, [0]), (5, [0, 3, 4]), (6, [0, 3, 4]), (7, [0, 3, 4]), (10, [0, 3, 4, 5]), (11, [0, 3]), (13, [3])]),
  (77, [(6, [0, 2, 4, 5, 6, 7]), (8, [2, 4, 5, 7]), (10, [2, 4, 5, 7]), (12, [2, 4, 5])]),
  (78, [(5, [0, 2, 4, 5]), (7, [2, 4, 5]), (9, [2, 4, 5]), (11, [2, 4, 5, 6, 7]), (12, [2, 4, 5, 6, 7]), (13, [2, 4, 5, 6, 7]), (15, [2, 4, 5, 6])]),
  (79, [(3, [0, 1])]),
  (81, [(2, [0, 3]), (3, [0, 3]), (4, [3])]),
  (82, [(3, [0, 1, 5, 8, 9]), (4, [0, 1, 5, 8, 9, 10]), (8, [0, 1, 5, 8, 9]), (9, [1, 5])]),
  (83, [(1, [0, 1]), (2, [0, 1]), (3, [0])]),
  (84, [(2, [0, 2, 4]), (3, [0, 2, 4]), (4, [0, 2, 4]), (7, [0, 2, 4, 5]), (8, [2])]),
  (85, [(1, [0, 1]), (2, [0, 1]), (3, [0, 1]), (4, [0])]),
  (86, [(1, [0, 1]), (2, [0, 1]), (4, [0, 1, 6]), (5, [0])]),
  (89, [(3, [0, 5, 10, 11]), (4, [0, 5, 10, 11, 12]), (6, [0, 5, 10, 11]), (7, [5])]),
  (90, [(2, [0, 4]), (3, [0, 4]), (4, [0, 4]), (7, [0, 4, 5]), (14, [0, 4, 5, 6, 7, 8]), (16, [0, 4, 5, 6, 7, 8]), (18, [0, 4, 5, 6, 7, 8]), (21, [5, 7, 10]), (23, [7, 10])]),
  (91, [(3, [0, 3, 4]), (4, [0, 3, 4]), (5, [0, 3, 4]), (8, [3])]),
  (93, [(3, [1]), (5, [1]), (6, [1, 27, 28, 29]), (7, [1, 27, 28, 29, 30]), (10, [1, 27, 28, 29]), (11, [1]), (14, [1])]),
  (94, [(3, [0, 1, 5, 6]), (4, [0, 1, 5, 6, 7]), (6, [0, 1, 5, 6]), (7, [0, 1])]),
  (96, [(3, [1]), (5, [1]), (6, [1, 3]), (7, [1, 3]), (8, [1, 3]), (10, [1]), (12, [1]), (15, [1])]),
  (97, [(2, [1, 2, 3, 7]), (3, [1, 2, 3, 7]), (4, [1, 2, 3, 7]), (6, [])]),
  (99, [(6, [0, 1, 7]), (7, [0, 1, 7]), (9, [1, 7])]),
  (101, [(9, [0, 6, 11]), (10, [0, 6, 11]), (12, [0, 6, 11])]),
  (102, [(3, [1])]),
  (104, [(3, [0, 3, 5]), (4, [0, 3, 5, 6]), (8, [0, 3, 5]), (9, [3])]),
  (109, [(1, [0, 1]), (2, [0, 1]), (3, [1])]),
  (110, [(3, [0, 1, 6, 7]), (4, [0, 1, 6, 7]), (5, [0, 1, 6, 7]), (8, [1, 6]), (9, [1, 6, 8]), (10, [1, 6, 8]), (11, [1, 6, 8]), (14, [6])]),
  (111, [(3, [0, 1, 5, 6]), (4, [0, 1, 5, 6]), (5, [0, 1, 5, 6]), (6, [5])]),
  (112, [(2, [0, 7, 8]), (3, [0, 7, 8, 9]), (8, [0, 7, 8]), (9, [0])]),
  (113, [(3, [0]), (5, [3, 10, 11, 12]), (6, [3, 10, 11, 12, 13]), (9, [3, 5, 10, 11, 12]), (11, [3, 5, 10, 11, 12]), (12, [3, 10, 11, 12]), (13, [])]),
  (114, [(3, [0]), (5, [3, 10, 11, 12]), (6, [3, 10, 11, 12, 13]), (9, [3, 5, 10, 11, 12]), (11, [3, 5, 10, 11, 12]), (12, [3, 10, 11, 12]), (13, [])]),
  (115, [(3, [0, 1, 2, 7, 11, 12]), (4, [0, 1, 2, 7, 11, 12, 13]), (8, [0, 1, 2, 7, 11, 12]), (9, [7])]),
  (117, [(3, [0]), (4, [0, 3]), (5, [0, 3]), (6, [0, 3]), (9, [])]),
  (119, [(3, [0]), (4, [0, 3]), (5, [0, 3]), (6, [0, 3]), (8, [0, 3]), (9, [0, 3, 4]), (10, [0, 3, 4]), (11, [0, 3, 4]), (13, [])]),
  (120, [(3, [0]), (4, [0, 3]), (5, [0, 3]), (6, [0, 3]), (8, [0, 3]), (9, [0, 3, 4]), (10, [0, 3, 4]), (11, [0, 3, 4]), (13, [])]),
  (122, [(6, [1, 7, 8, 9])]),
  (124, [(5, [0, 1, 8, 9, 10]), (7, [0, 8, 9])]),
  (125, [(4, [0, 4]), (9, [0, 4, 5, 6]), (13, [0, 5, 8, 9]), (16, [0, 5, 8, 10]), (18, [0, 5, 8, 10]), (21, [0, 5, 8, 10, 11]), (23, [0, 5, 10, 11]), (26, [5, 10, 11, 12])]),
  (126, [(38, [175]), (39, [175, 176, 177]), (42, [])]),
  (129, [(2, [0, 3]), (3, [0, 3]), (4, [3])]),
  (130, [(3, [0]), (6, [4])]),
  (131, [(2, [0, 3]), (3, [0, 3]), (4, [3])]),
  (132, [(4, [0, 4]), (6, [0, 4]), (8, [0, 4, 5, 6]), (9, [0, 4, 5, 6]), (10, [0, 4, 5, 6]), (13, [0, 4, 5, 6, 7]), (14, [0, 4, 5]), (16, [5]), (18, [5])]),
  (133, [(5, [])]),
  (140, [(4, [0, 3]), (6, [3]), (7, [3, 27, 28]), (8, [3, 27, 28, 29]), (11, [3, 27, 28]), (12, [])]),
  (142, [(3, [0]), (4, [0, 3]), (5, [0, 3]), (6, [0, 3]), (8, [])])]
def userList : List Nat := [3, 4, 5, 6, 7, 8, 9, 10, 11, 12, 13, 14, 15, 16, 17, 18, 19, 20, 21, 22, 23, 24, 25, 26, 27, 28, 29, 30, 31, 32, 33, 34, 35, 36, 37, 38, 39, 40, 41, 42, 43, 44, 45, 46, 47, 48, 49, 50, 51, 52, 53, 54, 55, 56, 57, 58, 59, 60, 61, 62, 63, 64, 65, 66, 67, 68, 69, 70, 71, 72, 73, 74, 75, 76, 77, 78, 79, 80, 81, 82, 83, 84, 85, 86, 87, 88, 89, 90, 91, 92, 93, 94, 95, 96, 97, 98, 99, 100, 101, 102, 104, 105, 106, 107, 108, 109, 110, 111, 112, 113, 114, 115, 117, 118, 119, 120, 121, 122, 123, 124, 125, 126, 128, 129, 130, 131, 132, 133, 134, 136, 137, 138, 139, 140, 141, 142, 143, 144, 145, 146, 147, 148, 149, 150, 151, 152, 153, 154, 155, 156, 157, 158, 159, 160, 161]
def pureList : List Nat := [25, 26]
def flatList : List Nat := [12, 13, 14, 15, 23, 24, 40, 41, 42, 43, 44, 45, 46, 74, 75, 76, 77, 78, 79, 101, 102, 124, 129, 130, 131, 132, 140, 142]
def extList : List (Nat × ExtK) := [(103, .indexByte), (116, .cmp), (127, .same)]
def eqList : List Nat := [34]
noncomputable def sumList : List (Nat × (List AV → Option AV)) := [(98, itoaA), (141, atoiA)]
noncomputable def cfg : Cfg := { P := Tryz.prog, glob := globF, sum := fun f => sumList.lookup f, user := fun f => userList.contains f, eqok := fun t => eqList.contains t, pure := fun f => pureList.contains f, flat := fun f => flatList.contains f, ext := fun f => extList.lookup f, keep := keepTab keepList }
noncomputable def C_texttoolslaw20_SortkeyParses : List AV → Hp → Res := callw cfg 3
noncomputable def C_sortkey_Parse : List AV → Hp → Res := callw cfg 11
noncomputable def C_texttoolsref20_Parse : List AV → Hp → Res := callw cfg 12
noncomputable def C_texttoolsref20_SameSpec : List AV → Hp → Res := callw cfg 13
noncomputable def C_texttoolsref03_SameTexts : List AV → Hp → Res := callw cfg 14
noncomputable def C_sortkey_reader_option : List AV → Hp → Res := callw cfg 27
noncomputable def C_texttoolsref20_options : List AV → Hp → Res := callw cfg 28
noncomputable def C_texttoolsref20_Has : List AV → Hp → Res := callw cfg 40
noncomputable def C_sortkey_flag : List AV → Hp → Res := callw cfg 46
noncomputable def C_sortkey_reader_value : List AV → Hp → Res := callw cfg 47
noncomputable def C_sortkey_reader_key : List AV → Hp → Res := callw cfg 48
noncomputable def C_sortkey_reader_separator : List AV → Hp → Res := callw cfg 49
noncomputable def C_texttoolsref20_valued : List AV → Hp → Res := callw cfg 50
noncomputable def C_texttoolsref20_simple : List AV → Hp → Res := callw cfg 51
noncomputable def C_texttoolsref20_flag : List AV → Hp → Res := callw cfg 75
noncomputable def C_sortkey_key : List AV → Hp → Res := callw cfg 77
noncomputable def C_texttoolsref20_key : List AV → Hp → Res := callw cfg 78
noncomputable def C_texttoolsref20_with : List AV → Hp → Res := callw cfg 79
noncomputable def C_sortkey_place_read : List AV → Hp → Res := callw cfg 99
noncomputable def C_strings_HasPrefix : List AV → Hp → Res := callw cfg 100
noncomputable def C_texttoolsref20_half : List AV → Hp → Res := callw cfg 101
noncomputable def C_texttoolsref20_both : List AV → Hp → Res := callw cfg 102
noncomputable def C_sortkey_place_number : List AV → Hp → Res := callw cfg 122
noncomputable def C_internal_stringslite_HasPrefix : List AV → Hp → Res := callw cfg 123
noncomputable def C_texttoolsref20_number : List AV → Hp → Res := callw cfg 124
noncomputable def C_sortkey_digits : List AV → Hp → Res := callw cfg 129
noncomputable def C_num_Parse : List AV → Hp → Res := callw cfg 130
noncomputable def C_texttoolsref20_digits : List AV → Hp → Res := callw cfg 131
noncomputable def C_texttoolsref01_Parse : List AV → Hp → Res := callw cfg 132
noncomputable def C_num_decimal : List AV → Hp → Res := callw cfg 140
noncomputable def C_texttoolsref01_Digits : List AV → Hp → Res := callw cfg 142
noncomputable def C_texttoolslaw20_awake : List AV → Hp → Res := callw cfg 15

/-! ### texttoolslaw20_SortkeyExtracts -/
/-! ### texttoolslaw20_SortkeyFields -/
/-! ### sortkey_Extract -/
/-! ### texttoolsref20_Extract -/
/-! ### sortkey_field -/
/-! ### texttoolsref20_Fields -/
/-! ### texttoolsref20_most -/
/-! ### texttoolsref20_least -/
/-! ### strings_IndexByte -/
/-! ### sortkey_blank -/
/-! ### texttoolsref20_blank -/
/-! ### internal_stringslite_IndexByte -/
theorem V_sortkey_reader_key (a b args : List AV) (H : Hp) : acall cfg (callw cfg) (.fn (.func 48) a b) args H = C_sortkey_reader_key (a ++ args ++ b) H := by kernel_rfl
theorem V_sortkey_reader_separator (a b args : List AV) (H : Hp) : acall cfg (callw cfg) (.fn (.func 49) a b) args H = C_sortkey_reader_separator (a ++ args ++ b) H := by kernel_rfl
theorem user_ok : ∀ f ∈ userList, UserOk Tryz.prog f :=
  userOk_cons Tryz.call3 (
  userOk_cons Tryz.call4 (
  userOk_cons Tryz.call5 (
  userOk_cons Tryz.call6 (
  userOk_cons Tryz.call7 (
  userOk_cons Tryz.call8 (
  userOk_cons Tryz.call9 (
  userOk_cons Tryz.call10 (
  userOk_cons Tryz.call11 (
  userOk_cons Tryz.call12 (
  userOk_cons Tryz.call13 (
  userOk_cons Tryz.call14 (
  userOk_cons Tryz.call15 (
  userOk_cons Tryz.call16 (
  userOk_cons Tryz.call17 (
  userOk_cons Tryz.call18 (
  userOk_cons Tryz.call19 (
  userOk_cons Tryz.call20 (
  userOk_cons Tryz.call21 (
  userOk_cons Tryz.call22 (
  userOk_cons Tryz.call23 (
  userOk_cons Tryz.call24 (
  userOk_cons Tryz.call25 (
  userOk_cons Tryz.call26 (
  userOk_cons Tryz.call27 (
  userOk_cons Tryz.call28 (
  userOk_cons Tryz.call29 (
  userOk_cons Tryz.call30 (
  userOk_cons Tryz.call31 (
  userOk_cons Tryz.call32 (
  userOk_cons Tryz.call33 (
  userOk_cons Tryz.call34 (
  userOk_cons Tryz.call35 (
  userOk_cons Tryz.call36 (
  userOk_cons Tryz.call37 (
  userOk_cons Tryz.call38 (
  userOk_cons Tryz.call39 (
  userOk_cons Tryz.call40 (
  userOk_cons Tryz.call41 (
  userOk_cons Tryz.call42 (
  userOk_cons Tryz.call43 (
  userOk_cons Tryz.call44 (
  userOk_cons Tryz.call45 (
  userOk_cons Tryz.call46 (
  userOk_cons Tryz.call47 (
  userOk_cons Tryz.call48 (
  userOk_cons Tryz.call49 (
  userOk_cons Tryz.call50 (
  userOk_cons Tryz.call51 (
  userOk_cons Tryz.call52 (
  userOk_cons Tryz.call53 (
  userOk_cons Tryz.call54 (
  userOk_cons Tryz.call55 (
  userOk_cons Tryz.call56 (
  userOk_cons Tryz.call57 (
  userOk_cons Tryz.call58 (
  userOk_cons Tryz.call59 (
  userOk_cons Tryz.call60 (
  userOk_cons Tryz.call61 (
  userOk_cons Tryz.call62 (
  userOk_cons Tryz.call63 (
  userOk_cons Tryz.call64 (
  userOk_cons Tryz.call65 (
  userOk_cons Tryz.call66 (
  userOk_cons Tryz.call67 (
  userOk_cons Tryz.call68 (
  userOk_cons Tryz.call69 (
  userOk_cons Tryz.call70 (
  userOk_cons Tryz.call71 (
  userOk_cons Tryz.call72 (
  userOk_cons Tryz.call73 (
  userOk_cons Tryz.call74 (
  userOk_cons Tryz.call75 (
  userOk_cons Tryz.call76 (
  userOk_cons Tryz.call77 (
  userOk_cons Tryz.call78 (
  userOk_cons Tryz.call79 (
  userOk_cons Tryz.call80 (
  userOk_cons Tryz.call81 (
  userOk_cons Tryz.call82 (
  userOk_cons Tryz.call83 (
  userOk_cons Tryz.call84 (
  userOk_cons Tryz.call85 (
  userOk_cons Tryz.call86 (
  userOk_cons Tryz.call87 (
  userOk_cons Tryz.call88 (
  userOk_cons Tryz.call89 (
  userOk_cons Tryz.call90 (
  userOk_cons Tryz.call91 (
  userOk_cons Tryz.call92 (
  userOk_cons Tryz.call93 (
  userOk_cons Tryz.call94 (
  userOk_cons Tryz.call95 (
  userOk_cons Tryz.call96 (
  userOk_cons Tryz.call97 (
  userOk_cons Tryz.call98 (
  userOk_cons Tryz.call99 (
  userOk_cons Tryz.call100 (
  userOk_cons Tryz.call101 (
  userOk_cons Tryz.call102 (
  userOk_cons Tryz.call104 (
  userOk_cons Tryz.call105 (
  userOk_cons Tryz.call106 (
  userOk_cons Tryz.call107 (
  userOk_cons Tryz.call108 (
  userOk_cons Tryz.call109 (
  userOk_cons Tryz.call110 (
  userOk_cons Tryz.call111 (
  userOk_cons Tryz.call112 (
  userOk_cons Tryz.call113 (
  userOk_cons Tryz.call114 (
  userOk_cons Tryz.call115 (
  userOk_cons Tryz.call117 (
  userOk_cons Tryz.call118 (
  userOk_cons Tryz.call119 (
  userOk_cons Tryz.call120 (
  userOk_cons Tryz.call121 (
  userOk_cons Tryz.call122 (
  userOk_cons Tryz.call123 (
  userOk_cons Tryz.call124 (
  userOk_cons Tryz.call125 (
  userOk_cons Tryz.call126 (
  userOk_cons Tryz.call128 (
  userOk_cons Tryz.call129 (
  userOk_cons Tryz.call130 (
  userOk_cons Tryz.call131 (
  userOk_cons Tryz.call132 (
  userOk_cons Tryz.call133 (
  userOk_cons Tryz.call134 (
  userOk_cons Tryz.call136 (
  userOk_cons Tryz.call137 (
  userOk_cons Tryz.call138 (
  userOk_cons Tryz.call139 (
  userOk_cons Tryz.call140 (
  userOk_cons Tryz.call141 (
  userOk_cons Tryz.call142 (
  userOk_cons Tryz.call143 (
  userOk_cons Tryz.call144 (
  userOk_cons Tryz.call145 (
  userOk_cons Tryz.call146 (
  userOk_cons Tryz.call147 (
  userOk_cons Tryz.call148 (
  userOk_cons Tryz.call149 (
  userOk_cons Tryz.call150 (
  userOk_cons Tryz.call151 (
  userOk_cons Tryz.call152 (
  userOk_cons Tryz.call153 (
  userOk_cons Tryz.call154 (
  userOk_cons Tryz.call155 (
  userOk_cons Tryz.call156 (
  userOk_cons Tryz.call157 (
  userOk_cons Tryz.call158 (
  userOk_cons Tryz.call159 (
  userOk_cons Tryz.call160 (
  userOk_cons Tryz.call161 (userOk_nil)))))))))))))))))))))))))))))))))))))))))))))))))))))))))))))))))))))))))))))))))))))))))))))))))))))))))))))))))))))))))))))))))))))))))))))))))))))))))))
theorem eq_ok : ∀ t ∈ eqList, Tryz.prog.stoodInHeld t = false ∧ Tryz.prog.eqGuardType Tryz.prog.depth t = false := by
  intro t ht
  simp only [eqList, List.mem_cons, List.not_mem_nil, or_false] at ht
  rcases ht with rfl
  · exact ⟨Tryz.stoodInHeld34, Tryz.eqGuardType34⟩
theorem ext103_ok (args : Array Value) (w : World) : (callFunc 103 args).run Tryz.prog w = (do pure (.value (← extF .indexByte args)) : Sem Next).run Tryz.prog w := by kernel_rfl
theorem ext116_ok (args : Array Value) (w : World) : (callFunc 116 args).run Tryz.prog w = (do pure (.value (← extF .cmp args)) : Sem Next).run Tryz.prog w := by kernel_rfl
theorem ext127_ok (args : Array Value) (w : World) : (callFunc 127 args).run Tryz.prog w = (do pure (.value (← extF .same args)) : Sem Next).run Tryz.prog w := by kernel_rfl
theorem ext_ok : ∀ f e, cfg.ext f = some e → ∀ (args : Array Value) (w : World), (callFunc f args).run Tryz.prog w = (do pure (.value (← extF e args)) : Sem Next).run Tryz.prog w := by
  intro f e h
  have h2 := lookup_mem (l := extList) h
  simp only [extList, List.mem_cons, Prod.mk.injEq, List.not_mem_nil, or_false] at h2
  rcases h2 with ⟨rfl, rfl⟩ | ⟨rfl, rfl⟩ | ⟨rfl, rfl⟩
  · exact ext103_ok
  · exact ext116_ok
  · exact ext127_ok
theorem sum_ok : ∀ f g, cfg.sum f = some g → cfg.user f = true ∧ SumOk cfg f g := by
  intro f g h
  have h2 := lookup_mem (l := sumList) h
  simp only [sumList, List.mem_cons, Prod.mk.injEq, List.not_mem_nil, or_false] at h2
  rcases h2 with ⟨rfl, rfl⟩ | ⟨rfl, rfl⟩
  · exact ⟨by kernel_rfl, itoaA_ok (C := cfg) rfl (fun _ => rfl)⟩
  · exact ⟨by kernel_rfl, atoiA_ok (C := cfg) rfl (fun _ => rfl)⟩
theorem cfg_ok : okCfg cfg :=
  ⟨fun t h => eq_ok t (List.contains_iff_mem.1 h), fun f h => user_ok f (List.contains_iff_mem.1 h), by kernel_rfl, ext_ok, sum_ok⟩
end Go.Am
