/-
  The functions of the translation over the abstract machine: written by program (wip/gen.py).
-/
import Derived.Test.YtijddagljnlfmaaGreatDoorProg
import Derived.Test.YtijddagljnlfmaaGreatDoorSkPx
namespace Go.Am
open Go.Proofs
set_option maxRecDepth 100000
set_option linter.unusedVariables false
set_option linter.unusedSimpArgs false

def keepList : List (Nat × List (Nat × List Nat)) := [(4, [(1000001, [4])]),
  (5, [(1000001, [4, 5])]),
  (6, [(4, [2, 3, 4, 5, 6, 11, 12]), (6, [2, 3, 6, 11, 12]), (1000001, [5, 6]), (1000002, [5, 6]), (1000004, [5, 6])]),
  (7, [(4, [0, 3, 4, 6])]),
  (8, [(4, [0, 1, 5, 6, 7]), (5, [0, 1, 5, 6, 7]), (6, [0, 1, 5, 6, 7]), (8, [0, 1, 5, 6, 7]), (10, [0, 1, 5, 6]), (12, [0, 1, 5, 6]), (14, [0, 1, 5, 6, 8, 9]), (15, [0, 1, 5, 6, 8, 9]), (16, [0, 1, 5, 6, 8, 9]), (18, [0, 1, 5, 6, 8, 9]), (19, [0, 1, 5, 8])]),
  (9, [(1000001, [1])]),
  (10, [(4, [1, 2, 5])]),
  (11, [(2, [0, 2, 6]), (3, [0, 2, 6]), (4, [0, 2, 6]), (7, [0, 2, 6, 7]), (8, [0, 2, 6, 7]), (11, [0, 2, 6]), (1000010, [6])]),
  (12, [(3, [0, 2, 6, 7]), (4, [0, 2, 6, 7]), (6, [0, 2, 6, 7]), (9, [0, 2, 6, 8, 9]), (10, [0, 2, 6, 7]), (1000011, [6])]),
  (13, [(3, [2, 3]), (4, [2, 3, 5]), (5, [2, 3, 5]), (6, [2, 3, 5]), (8, [])]),
  (14, [(3, [0, 1]), (4, [0, 1, 5]), (5, [0, 1, 5]), (6, [0, 1, 5]), (8, [])]),
  (15, [(5, [1, 2])]),
  (16, [(4, [0, 2, 4, 7, 8]), (12, [0, 7, 10]), (14, [0, 7, 10])]),
  (17, [(5, [0, 4, 7, 8, 9]), (12, [0, 11, 12]), (14, [0, 11, 12]), (1000002, [4]), (1000006, [10]), (1000011, [13])]),
  (18, [(4, [2, 3, 4, 5]), (5, [2, 3, 4, 5, 26, 27, 28]), (6, [2, 3, 4, 5, 26, 27, 28, 29]), (10, [2, 3, 4, 5, 10, 11, 26, 27, 28]), (13, [2, 3, 4, 5, 26, 27, 28]), (14, []), (1000010, [4, 5, 10])]),
  (19, [(4, [2, 3, 4, 5]), (5, [2, 3, 4, 5, 9]), (6, [2, 3, 4, 5, 9]), (7, [2, 3, 4, 5, 9]), (10, [2, 3, 4, 5, 9, 10]), (13, []), (1000010, [4, 5, 10])]),
  (20, [(5, [2, 3, 4, 5]), (8, [9])]),
  (21, [(5, [2, 3, 4, 5]), (8, [9])]),
  (22, [(3, [0, 2, 3]), (5, [0, 2, 3]), (7, [])]),
  (23, [(3, [1]), (5, [1]), (6, [33, 34, 35]), (7, [33, 34, 35, 36]), (10, [33, 34, 35]), (11, [])]),
  (24, [(3, [1]), (5, [1]), (6, [1, 3]), (7, [1, 3]), (8, [1, 3]), (10, [])]),
  (25, [(3, [1]), (6, [1, 3]), (8, [1, 3]), (10, [1, 3]), (12, [1, 3]), (13, [3, 41, 42, 43]), (14, [3, 41, 42, 43, 44]), (16, [3, 41, 42, 43]), (17, [3])]),
  (26, [(4, [1, 3]), (6, [1, 3]), (8, [1, 3]), (10, [1, 3]), (12, [1, 3]), (13, [1, 3, 4]), (14, [1, 3, 4]), (15, [1, 3, 4]), (16, [3])]),
  (27, [(1, [0, 1]), (2, [0, 1]), (14, [0, 5, 7]), (17, [7, 9]), (18, [0, 6]), (19, [])]),
  (28, [(3, [1, 2, 3, 6, 9, 10]), (4, [1, 2, 3, 6, 9, 10]), (5, [1, 2, 3, 6, 9, 10]), (9, [1, 2, 3, 6, 9, 10, 11, 12]), (11, [3, 6, 9, 10, 11, 12]), (13, [1, 2, 3, 6, 9, 10]), (16, [1, 2, 3, 6, 9, 10, 15]), (17, [2, 3, 6]), (1000011, [3]), (1000013, [3])]),
  (29, [(4, [0, 1, 2, 3, 4]), (5, [0, 1, 2, 3, 4]), (6, [0, 1, 2, 3, 4]), (9, [0, 1, 2, 3, 4, 5, 6]), (11, [0, 1, 2, 3, 4, 5, 6]), (14, [0, 1, 2, 3])]),
  (30, [(3, [0, 1, 2, 6, 9]), (4, [0, 1, 2, 6, 9]), (7, [0, 1, 2, 6, 9, 10]), (9, [0, 1, 2, 6, 9, 10]), (10, [0, 1, 6]), (11, [0, 1, 6, 11]), (12, [0, 1, 6, 11]), (13, [0, 1, 6, 11]), (14, [0, 1, 6, 7, 11]), (15, [0, 1, 6, 7, 11]), (16, [0, 1, 6, 7, 11]), (17, [0, 1, 6, 7, 11]), (18, [0, 1, 6, 7, 11]), (20, [0, 1, 7, 11]), (21, [])]),
  (31, [(5, [0, 1, 5, 6, 7]), (6, [0, 1, 5, 6, 7]), (7, [0, 1, 5, 6, 7]), (10, [0, 5, 6]), (11, [0, 5, 6]), (12, [0, 5, 6, 8]), (13, [0, 5, 6, 8]), (14, [0, 5, 6, 8]), (17, [0, 5, 6]), (19, [5])]),
  (32, [(3, [1])]),
  (33, [(3, [1])]),
  (34, [(3, [1, 2])]),
  (35, [(4, [4, 5, 6, 7, 9]), (8, [4, 5, 6, 7, 9])]),
  (36, [(3, [1, 2])]),
  (37, [(5, [3, 9]), (7, [9]), (1000004, [4])]),
  (38, [(5, [1, 2, 8, 9, 24, 25]), (6, [1, 2, 8, 9, 24, 25, 26]), (9, [1, 2, 8, 9, 10, 24, 25]), (11, [1, 2, 8, 9, 24, 25]), (12, [1, 2, 8, 9]), (14, [1, 2, 8, 9]), (16, [1, 2])]),
  (39, [(5, [1, 2]), (1000002, [3])]),
  (41, [(3, [1])]),
  (42, [(3, [0, 3, 5]), (4, [0, 3, 5, 6]), (7, [0, 3, 5]), (8, [3])]),
  (43, [(4, [1, 3]), (8, [1, 3])]),
  (44, [(4, [0, 3, 4, 5]), (5, [0, 3, 4, 5]), (6, [0, 3, 4, 5]), (8, [3])]),
  (45, [(4, [1, 3]), (8, [1, 3])]),
  (46, [(12, [])]),
  (47, [(3, [0]), (5, [0])]),
  (48, [(3, [0, 1]), (6, [6])]),
  (49, [(3, [0, 1])]),
  (50, [(4, [2, 3, 6]), (6, [2, 3, 6]), (8, [2, 3, 6])]),
  (51, [(8, [2, 4])]),
  (55, [(2, [0, 4]), (3, [0, 4]), (4, [0, 4]), (7, [0, 4, 5]), (14, [5, 6, 7, 8, 9]), (16, [5, 7, 8, 9]), (19, [9, 11])]),
  (56, [(5, [])]),
  (59, [(3, [0, 1]), (5, [0, 1]), (8, [0, 1])]),
  (60, [(3, [0, 3, 7, 8]), (4, [0, 3, 7, 8, 9]), (8, [0, 3, 7, 8]), (9, [3])]),
  (63, [(5, [5, 7]), (7, [])]),
  (64, [(1, [1, 2, 3]), (2, [1, 2, 3]), (3, [1, 2, 3]), (5, [1, 2, 3]), (7, [1])]),
  (65, [(3, [1, 2])]),
  (67, [(3, [1, 2, 3, 6, 16, 17, 18]), (4, [1, 2, 3, 6, 16, 17, 18, 19]), (6, [1, 2, 3, 6, 16, 17, 18]), (7, [1, 2, 3, 6]), (8, [1, 2, 3, 6, 9]), (9, [1, 2, 3, 6, 9]), (14, [1, 2, 3, 6, 9, 10, 11]), (15, [1, 2, 3, 6, 9, 10])]),
  (70, [(3, [1, 2])]),
  (71, [(2, [0, 1, 5]), (3, [0, 1, 5]), (4, [0, 1, 5]), (6, [0, 1, 5]), (8, [0, 1]), (10, [0, 1]), (12, [])]),
  (72, [(3, [1, 2, 5, 6]), (4, [1, 2, 5, 6]), (10, [5])]),
  (73, [(3, [0, 1, 5, 6, 7]), (4, [0, 1, 5, 6, 7]), (5, [0, 1, 5, 6, 7]), (6, [1, 5, 6]), (7, [1, 5, 6, 8]), (8, [1, 5, 6, 8]), (9, [1, 5, 6, 8]), (10, [5, 6])]),
  (75, [(12, [])]),
  (76, [(3, [0]), (5, [0, 3, 4]), (6, [0, 3, 4]), (7, [0, 3, 4]), (10, [0, 3, 4, 5]), (11, [0, 3]), (13, [3])]),
  (77, [(6, [0, 2, 4, 5, 6, 7]), (8, [2, 4, 5, 7]), (10, [2, 4, 5, 7]), (12, [2, 4, 5])]),
  (78, [(5, [0, 2, 4, 5]), (7, [2, 4, 5]), (9, [2, 4, 5]), (11, [2, 4, 5, 6, 7]), (12, [2, 4, 5, 6, 7]), (13, [2, 4, 5, 6, 7]), (15, [2, 4, 5, 6])]),
  (79, [(3, [0, 1])]),
  (81, [(2, [0, 3]), (3, [0, 3]), (4, [3])]),
  (82, [(3, [0, 1, 5, 8, 9]), (4, [0, 1, 5, 8, 9, 10]), (8, [0, 1, 5, 8, 9]), (9, [1, 5])]),
  (83, [(1, [0, 1]), (2, [0, 1]), (3, [0])]),
  (84, [(2, [0, 2, 4]), (3, [0, 2, 4]), (4, [0, 2, 4]), (7, [0, 2, 4, 5]), (8, [2])]),
  (85, [(1, [0, 1]), (2, [0, 1]), (3, [0, 1]), (4, [0])]),
  (86, [(1, [0, 1]), (2, [0, 1]), (4, [0, 1, 6]), (5, [0])]),
  (89, [(3, [0, 5, 10, 11]), (4, [0, 5, 10, 11, 12]), (6, [0, 5, 10, 11]), (7, [5])]),
  (90, [(2, [0, 4]), (3, [0, 4]), (4, [0, 4]), (7, [0, 4, 5]), (14, [0, 4, 5, 6, 7, 8]), (16, [0, 4, 5, 6, 7, 8]), (18, [0, 4, 5, 6, 7, 8]), (21, [5, 7, 10]), (23, [7, 10])]),
  (91, [(3, [0, 3, 4]), (4, [0, 3, 4]), (5, [0, 3, 4]), (8, [3])]),
  (93, [(3, [1]), (5, [1]), (6, [1, 27, 28, 29]), (7, [1, 27, 28, 29, 30]), (10, [1, 27, 28, 29]), (11, [1]), (14, [1])]),
  (94, [(3, [0, 1, 5, 6]), (4, [0, 1, 5, 6, 7]), (6, [0, 1, 5, 6]), (7, [0, 1])]),
  (96, [(3, [1]), (5, [1]), (6, [1, 3]), (7, [1, 3]), (8, [1, 3]), (10, [1]), (12, [1]), (15, [1])]),
  (97, [(2, [1, 2, 3, 7]), (3, [1, 2, 3, 7]), (4, [1, 2, 3, 7]), (6, [])]),
  (99, [(6, [0, 1, 7]), (7, [0, 1, 7]), (9, [1, 7])]),
  (101, [(9, [0, 6, 11]), (10, [0, 6, 11]), (12, [0, 6, 11])]),
  (102, [(3, [1])]),
  (104, [(3, [0, 3, 5]), (4, [0, 3, 5, 6]), (8, [0, 3, 5]), (9, [3])]),
  (109, [(1, [0, 1]), (2, [0, 1]), (3, [1])]),
  (110, [(3, [0, 1, 6, 7]), (4, [0, 1, 6, 7]), (5, [0, 1, 6, 7]), (8, [1, 6]), (9, [1, 6, 8]), (10, [1, 6, 8]), (11, [1, 6, 8]), (14, [6])]),
  (111, [(3, [0, 1, 5, 6]), (4, [0, 1, 5, 6]), (5, [0, 1, 5, 6]), (6, [5])]),
  (112, [(2, [0, 7, 8]), (3, [0, 7, 8, 9]), (8, [0, 7, 8]), (9, [0])]),
  (113, [(3, [0]), (5, [3, 10, 11, 12]), (6, [3, 10, 11, 12, 13]), (9, [3, 5, 10, 11, 12]), (11, [3, 5, 10, 11, 12]), (12, [3, 10, 11, 12]), (13, [])]),
  (114, [(3, [0]), (5, [3, 10, 11, 12]), (6, [3, 10, 11, 12, 13]), (9, [3, 5, 10, 11, 12]), (11, [3, 5, 10, 11, 12]), (12, [3, 10, 11, 12]), (13, [])]),
  (115, [(3, [0, 1, 2, 7, 11, 12]), (4, [0, 1, 2, 7, 11, 12, 13]), (8, [0, 1, 2, 7, 11, 12]), (9, [7])]),
  (117, [(3, [0]), (4, [0, 3]), (5, [0, 3]), (6, [0, 3]), (9, [])]),
  (119, [(3, [0]), (4, [0, 3]), (5, [0, 3]), (6, [0, 3]), (8, [0, 3]), (9, [0, 3, 4]), (10, [0, 3, 4]), (11, [0, 3, 4]), (13, [])]),
  (120, [(3, [0]), (4, [0, 3]), (5, [0, 3]), (6, [0, 3]), (8, [0, 3]), (9, [0, 3, 4]), (10, [0, 3, 4]), (11, [0, 3, 4]), (13, [])]),
  (122, [(6, [1, 7, 8, 9])]),
  (124, [(5, [0, 1, 8, 9, 10]), (7, [0, 8, 9])]),
  (125, [(4, [0, 4]), (9, [0, 4, 5, 6]), (13, [0, 5, 8, 9]), (16, [0, 5, 8, 10]), (18, [0, 5, 8, 10]), (21, [0, 5, 8, 10, 11]), (23, [0, 5, 10, 11]), (26, [5, 10, 11, 12])]),
  (126, [(38, [175]), (39, [175, 176, 177]), (42, [])]),
  (129, [(2, [0, 3]), (3, [0, 3]), (4, [3])]),
  (130, [(3, [0]), (6, [4])]),
  (131, [(2, [0, 3]), (3, [0, 3]), (4, [3])]),
  (132, [(4, [0, 4]), (6, [0, 4]), (8, [0, 4, 5, 6]), (9, [0, 4, 5, 6]), (10, [0, 4, 5, 6]), (13, [0, 4, 5, 6, 7]), (14, [0, 4, 5]), (16, [5]), (18, [5])]),
  (133, [(5, [])]),
  (140, [(4, [0, 3]), (6, [3]), (7, [3, 27, 28]), (8, [3, 27, 28, 29]), (11, [3, 27, 28]), (12, [])]),
  (142, [(3, [0]), (4, [0, 3]), (5, [0, 3]), (6, [0, 3]), (8, [])])]
def userList : List Nat := [3, 4, 5, 6, 7, 8, 9, 10, 11, 12, 13, 14, 15, 16, 17, 18, 19, 20, 21, 22, 23, 24, 25, 26, 27, 28, 29, 30, 31, 32, 33, 34, 35, 36, 37, 38, 39, 40, 41, 42, 43, 44, 45, 46, 47, 48, 49, 50, 51, 52, 53, 54, 55, 56, 57, 58, 59, 60, 61, 62, 63, 64, 65, 66, 67, 68, 69, 70, 71, 72, 73, 74, 75, 76, 77, 78, 79, 80, 81, 82, 83, 84, 85, 86, 87, 88, 89, 90, 91, 92, 93, 94, 95, 96, 97, 98, 99, 100, 101, 102, 104, 105, 106, 107, 108, 109, 110, 111, 112, 113, 114, 115, 117, 118, 119, 120, 121, 122, 123, 124, 125, 126, 128, 129, 130, 131, 132, 133, 134, 136, 137, 138, 139, 140, 141, 142, 143, 144, 145, 146, 147, 148, 149, 150, 151, 152, 153, 154, 155, 156, 157, 158, 159, 160, 161]
def pureList : List Nat := [25, 26]
def flatList : List Nat := [13, 14, 15, 23, 24, 40, 41, 42, 43, 44, 45, 46, 74, 75, 76, 77, 79, 102, 129, 130, 131, 132, 140, 142]
def extList : List (Nat × ExtK) := [(103, .indexByte), (116, .cmp), (127, .same)]
def eqList : List Nat := [34]
noncomputable def sumList : List (Nat × (List AV → Option AV)) := [(98, itoaA), (141, atoiA)]
noncomputable def cfg : Cfg := { P := Tryz.prog, glob := globF, sum := fun f => sumList.lookup f, user := fun f => userList.contains f, eqok := fun t => eqList.contains t, pure := fun f => pureList.contains f, flat := fun f => flatList.contains f, ext := fun f => extList.lookup f, keep := keepTab keepList }
noncomputable def C_texttoolslaw20_SortkeyParses : List AV → Hp → Res := callw cfg 3
noncomputable def C_texttoolslaw20_SortkeyExtracts : List AV → Hp → Res := callw cfg 4
noncomputable def C_texttoolslaw20_SortkeyCompares : List AV → Hp → Res := callw cfg 5
noncomputable def C_texttoolslaw20_SortkeyOrders : List AV → Hp → Res := callw cfg 6
noncomputable def C_texttoolslaw20_SortkeyReads : List AV → Hp → Res := callw cfg 7
noncomputable def C_texttoolslaw20_SortkeyFields : List AV → Hp → Res := callw cfg 8
noncomputable def C_texttoolslaw20_SortkeyChecks : List AV → Hp → Res := callw cfg 9
noncomputable def C_texttoolslaw20_SortkeyRoundTrips : List AV → Hp → Res := callw cfg 10
noncomputable def C_sortkey_Parse : List AV → Hp → Res := callw cfg 11
noncomputable def C_texttoolsref20_Parse : List AV → Hp → Res := callw cfg 12
noncomputable def C_texttoolsref20_SameSpec : List AV → Hp → Res := callw cfg 13
noncomputable def C_texttoolsref03_SameTexts : List AV → Hp → Res := callw cfg 14
noncomputable def C_sortkey_Extract : List AV → Hp → Res := callw cfg 16
noncomputable def C_texttoolsref20_Extract : List AV → Hp → Res := callw cfg 17
noncomputable def C_sortkey_Compare : List AV → Hp → Res := callw cfg 18
noncomputable def C_texttoolsref20_Compare : List AV → Hp → Res := callw cfg 19
noncomputable def C_sortkey_Order : List AV → Hp → Res := callw cfg 20
noncomputable def C_texttoolsref20_Order : List AV → Hp → Res := callw cfg 21
noncomputable def C_texttoolslaw20_three : List AV → Hp → Res := callw cfg 22
noncomputable def C_sortkey_Check : List AV → Hp → Res := callw cfg 23
noncomputable def C_texttoolsref20_Check : List AV → Hp → Res := callw cfg 24
noncomputable def C_sortkey_Print : List AV → Hp → Res := callw cfg 25
noncomputable def C_texttoolsref20_Print : List AV → Hp → Res := callw cfg 26
noncomputable def C_sortkey_reader_option : List AV → Hp → Res := callw cfg 27
noncomputable def C_texttoolsref20_options : List AV → Hp → Res := callw cfg 28
noncomputable def C_texttoolsref05_Default : List AV → Hp → Res := callw cfg 29
noncomputable def C_sortkey_field : List AV → Hp → Res := callw cfg 30
noncomputable def C_texttoolsref20_Fields : List AV → Hp → Res := callw cfg 31
noncomputable def C_texttoolsref20_most : List AV → Hp → Res := callw cfg 32
noncomputable def C_texttoolsref20_least : List AV → Hp → Res := callw cfg 33
noncomputable def C_sortkey_valid : List AV → Hp → Res := callw cfg 34
noncomputable def C_sortkey_parts : List AV → Hp → Res := callw cfg 35
noncomputable def C_texttoolsref20_valid : List AV → Hp → Res := callw cfg 36
noncomputable def C_texttoolsref20_parts : List AV → Hp → Res := callw cfg 37
noncomputable def C_locale_Compare : List AV → Hp → Res := callw cfg 38
noncomputable def C_texttoolsref05_Compare : List AV → Hp → Res := callw cfg 39
noncomputable def C_texttoolsref20_Has : List AV → Hp → Res := callw cfg 40
noncomputable def C_texttoolsref20_right : List AV → Hp → Res := callw cfg 41
noncomputable def C_sortkey_text : List AV → Hp → Res := callw cfg 42
noncomputable def C_sortkey_keyText : List AV → Hp → Res := callw cfg 43
noncomputable def C_texttoolsref20_letters : List AV → Hp → Res := callw cfg 44
noncomputable def C_texttoolsref20_text : List AV → Hp → Res := callw cfg 45
noncomputable def C_sortkey_flag : List AV → Hp → Res := callw cfg 46
noncomputable def C_sortkey_reader_value : List AV → Hp → Res := callw cfg 47
noncomputable def C_sortkey_reader_key : List AV → Hp → Res := callw cfg 48
noncomputable def C_sortkey_reader_separator : List AV → Hp → Res := callw cfg 49
noncomputable def C_texttoolsref20_valued : List AV → Hp → Res := callw cfg 50
noncomputable def C_texttoolsref20_simple : List AV → Hp → Res := callw cfg 51
noncomputable def C_strings_IndexByte : List AV → Hp → Res := callw cfg 52
noncomputable def C_sortkey_blank : List AV → Hp → Res := callw cfg 53
noncomputable def C_texttoolsref20_blank : List AV → Hp → Res := callw cfg 54
noncomputable def C_decimal_Prefix : List AV → Hp → Res := callw cfg 55
noncomputable def C_sortkey_sign : List AV → Hp → Res := callw cfg 56
noncomputable def C_sortkey_parts_1 : List AV → Hp → Res := callw cfg 57
noncomputable def C_sortkey_parts_2 : List AV → Hp → Res := callw cfg 58
noncomputable def C_strings_TrimLeft : List AV → Hp → Res := callw cfg 59
noncomputable def C_sortkey_dict : List AV → Hp → Res := callw cfg 60
noncomputable def C_sortkey_parts_3 : List AV → Hp → Res := callw cfg 61
noncomputable def C_locale_Upper : List AV → Hp → Res := callw cfg 62
noncomputable def C_texttoolsref20_numbers : List AV → Hp → Res := callw cfg 63
noncomputable def C_texttoolsref20_shape : List AV → Hp → Res := callw cfg 64
noncomputable def C_locale_valid : List AV → Hp → Res := callw cfg 65
noncomputable def C_locale_Compare_1 : List AV → Hp → Res := callw cfg 66
noncomputable def C_locale_each : List AV → Hp → Res := callw cfg 67
noncomputable def C_locale_Compare_1_1 : List AV → Hp → Res := callw cfg 68
noncomputable def C_strings_Compare : List AV → Hp → Res := callw cfg 69
noncomputable def C_texttoolsref05_valid : List AV → Hp → Res := callw cfg 70
noncomputable def C_texttoolsref05_order : List AV → Hp → Res := callw cfg 71
noncomputable def C_texttoolsref05_weights : List AV → Hp → Res := callw cfg 72
noncomputable def C_texttoolsref05_Bytes : List AV → Hp → Res := callw cfg 73
noncomputable def C_num_Format : List AV → Hp → Res := callw cfg 74
noncomputable def C_texttoolsref20_flag : List AV → Hp → Res := callw cfg 75
noncomputable def C_texttoolsref01_Format : List AV → Hp → Res := callw cfg 76
noncomputable def C_sortkey_key : List AV → Hp → Res := callw cfg 77
noncomputable def C_texttoolsref20_key : List AV → Hp → Res := callw cfg 78
noncomputable def C_texttoolsref20_with : List AV → Hp → Res := callw cfg 79
noncomputable def C_internal_stringslite_IndexByte : List AV → Hp → Res := callw cfg 80
noncomputable def C_decimal_digits : List AV → Hp → Res := callw cfg 81
noncomputable def C_decimal_value : List AV → Hp → Res := callw cfg 82
noncomputable def C_strings_trimLeftByte : List AV → Hp → Res := callw cfg 83
noncomputable def C_strings_makeASCIISet : List AV → Hp → Res := callw cfg 84
noncomputable def C_strings_trimLeftASCII : List AV → Hp → Res := callw cfg 85
noncomputable def C_strings_trimLeftUnicode : List AV → Hp → Res := callw cfg 86
noncomputable def C_strings_Builder_WriteByte : List AV → Hp → Res := callw cfg 87
noncomputable def C_strings_Builder_String : List AV → Hp → Res := callw cfg 88
noncomputable def C_locale_mapped : List AV → Hp → Res := callw cfg 89
noncomputable def C_texttoolsref02_Prefix : List AV → Hp → Res := callw cfg 90
noncomputable def C_texttoolsref20_dict : List AV → Hp → Res := callw cfg 91
noncomputable def C_texttoolsref05_Upper : List AV → Hp → Res := callw cfg 92
noncomputable def C_locale_Check : List AV → Hp → Res := callw cfg 93
noncomputable def C_locale_Default : List AV → Hp → Res := callw cfg 94
noncomputable def C_internal_bytealg_CompareString : List AV → Hp → Res := callw cfg 95
noncomputable def C_texttoolsref05_Check : List AV → Hp → Res := callw cfg 96
noncomputable def C_texttoolsref05_find : List AV → Hp → Res := callw cfg 97
noncomputable def C_sortkey_place_read : List AV → Hp → Res := callw cfg 99
noncomputable def C_strings_HasPrefix : List AV → Hp → Res := callw cfg 100
noncomputable def C_texttoolsref20_half : List AV → Hp → Res := callw cfg 101
noncomputable def C_texttoolsref20_both : List AV → Hp → Res := callw cfg 102
noncomputable def C_decimal_fraction : List AV → Hp → Res := callw cfg 104
noncomputable def C_strings_asciiSet_contains : List AV → Hp → Res := callw cfg 105
noncomputable def C_unicode_utf8_DecodeRuneInString : List AV → Hp → Res := callw cfg 106
noncomputable def C_strings_ContainsRune : List AV → Hp → Res := callw cfg 107
noncomputable def C_strings_Builder_copyCheck : List AV → Hp → Res := callw cfg 108
noncomputable def C_texttoolsref02_digits : List AV → Hp → Res := callw cfg 109
noncomputable def C_texttoolsref02_number : List AV → Hp → Res := callw cfg 110
noncomputable def C_texttoolsref05_mapped : List AV → Hp → Res := callw cfg 111
noncomputable def C_locale_name : List AV → Hp → Res := callw cfg 112
noncomputable def C_locale_checkClasses : List AV → Hp → Res := callw cfg 113
noncomputable def C_locale_checkElements : List AV → Hp → Res := callw cfg 114
noncomputable def C_locale_shifted : List AV → Hp → Res := callw cfg 115
noncomputable def C_texttoolsref05_IsName : List AV → Hp → Res := callw cfg 117
noncomputable def C_texttoolsref05_light : List AV → Hp → Res := callw cfg 118
noncomputable def C_texttoolsref05_checkClasses : List AV → Hp → Res := callw cfg 119
noncomputable def C_texttoolsref05_checkElements : List AV → Hp → Res := callw cfg 120
noncomputable def C_sortkey_place_number : List AV → Hp → Res := callw cfg 122
noncomputable def C_internal_stringslite_HasPrefix : List AV → Hp → Res := callw cfg 123
noncomputable def C_texttoolsref20_number : List AV → Hp → Res := callw cfg 124
noncomputable def C_unicode_utf8_decodeRuneInStringSlow : List AV → Hp → Res := callw cfg 125
noncomputable def C_strings_IndexRune : List AV → Hp → Res := callw cfg 126
noncomputable def C_sortkey_digits : List AV → Hp → Res := callw cfg 129
noncomputable def C_num_Parse : List AV → Hp → Res := callw cfg 130
noncomputable def C_texttoolsref20_digits : List AV → Hp → Res := callw cfg 131
noncomputable def C_texttoolsref01_Parse : List AV → Hp → Res := callw cfg 132
noncomputable def C_unicode_utf8_ValidRune : List AV → Hp → Res := callw cfg 133
noncomputable def C_num_decimal : List AV → Hp → Res := callw cfg 140
noncomputable def C_texttoolsref01_Digits : List AV → Hp → Res := callw cfg 142
noncomputable def C_texttoolslaw20_awake : List AV → Hp → Res := callw cfg 15

/-! ### texttoolslaw20_SortkeyExtracts -/
noncomputable def F_texttoolslaw20_SortkeyExtracts (p0 p1 p2 : AV) (H : Hp) : Res :=
  bnd (abox p1 H) fun r4_1 =>
  frzK r4_1.1 r4_1.2 fun z4_2 z4_2H =>
  bnd (aload true 5 z4_2 z4_2H) fun t8_3 =>
  bnd (C_sortkey_Extract [p0, t8_3, p2] z4_2H) fun r10_4 =>
  bnd (aloadv true 5 z4_2) fun t12_5 =>
  bnd (C_texttoolsref20_Extract [p0, t12_5, p2] r10_4.2) fun r14_6 =>
  bnd (sbin .eql r10_4.1 r14_6.1) fun t15_7 =>
  bnd (gdv t15_7 true ((.tuple []), r14_6.2) (flatC C_texttoolslaw20_awake [] r14_6.2)) fun r17_8 =>
  bnd (apick t15_7 r17_8.1 (.bool false)) fun t18_9 =>
  some (t18_9, r17_8.2)
theorem F_texttoolslaw20_SortkeyExtracts_eq (p0 p1 p2 : AV) (H : Hp) : C_texttoolslaw20_SortkeyExtracts [p0, p1, p2] H = F_texttoolslaw20_SortkeyExtracts p0 p1 p2 H := (callw_cxm (C := cfg) (fn := Tryz.f4) (c := bodyOf Tryz.f4) (n := 19) [] Tryz.func4 (by kernel_rfl) (by kernel_rfl) [p0, p1, p2] (by kernel_rfl) H).trans (by kernel_rfl)

/-! ### texttoolslaw20_SortkeyFields -/
noncomputable def texttoolslaw20_SortkeyFields_J3 (x0 x1 x5 x8 : AV) (H0 H : Hp) : Res := CXL cfg (callw cfg) (LPL cfg (cfg.keep 8) 117) (cfg.keep 8) 117 seqL blockL (sub (bodyOf Tryz.f8) [1, 1, 1, 1, 1, 1, 1]) (retL cfg 117 8 Tryz.f8 H0) [(0, x0), (1, x1), (5, x5), (8, x8)] H
noncomputable def texttoolslaw20_SortkeyFields_K1 (H0 : Hp) : KL := seqL (fun k al H => CXL cfg (callw cfg) (LPL cfg (cfg.keep 8) 117) (cfg.keep 8) 117 seqL blockL (sub (bodyOf Tryz.f8) [1, 1, 1, 1, 1, 1, 1]) k (trimL (cfg.keep 8) (sub (bodyOf Tryz.f8) [1, 1, 1, 1, 1, 1, 1]) al) H) (retL cfg 117 8 Tryz.f8 H0)
theorem texttoolslaw20_SortkeyFields_K1_tame (H0 : Hp) : Tame 117 (texttoolslaw20_SortkeyFields_K1 H0) := tame_seq (C := cfg) (kp := cfg.keep 8) (sub (bodyOf Tryz.f8) [1, 1, 1, 1, 1, 1, 1]) (tame_ret 8 Tryz.f8 H0)
noncomputable def texttoolslaw20_SortkeyFields_J5 (x0 x1 x5 x6 x8 x9 : AV) (H0 H : Hp) : Res := CXL cfg (callw cfg) (LPL cfg (cfg.keep 8) 117) (cfg.keep 8) 117 seqL blockL (sub (bodyOf Tryz.f8) [1, 1, 1, 1, 1, 1, 0, 1, 0, 0, 1, 1]) (seqL (fun k al H => LPL cfg (cfg.keep 8) 117 (sub (bodyOf Tryz.f8) [1, 1, 1, 1, 1, 1, 0, 1, 0, 0]) k (trimL (cfg.keep 8) (sub (bodyOf Tryz.f8) [1, 1, 1, 1, 1, 1, 0, 1, 0, 0]) al) H) (blockL 2 (texttoolslaw20_SortkeyFields_K1 H0))) [(0, x0), (1, x1), (5, x5), (6, x6), (8, x8), (9, x9)] H
noncomputable def texttoolslaw20_SortkeyFields_K2 (H0 : Hp) : KL := seqL (fun k al H => CXL cfg (callw cfg) (LPL cfg (cfg.keep 8) 117) (cfg.keep 8) 117 seqL blockL (sub (bodyOf Tryz.f8) [1, 1, 1, 1, 1, 1, 0, 1, 0, 0, 1, 1]) k (trimL (cfg.keep 8) (sub (bodyOf Tryz.f8) [1, 1, 1, 1, 1, 1, 0, 1, 0, 0, 1, 1]) al) H) (seqL (fun k al H => LPL cfg (cfg.keep 8) 117 (sub (bodyOf Tryz.f8) [1, 1, 1, 1, 1, 1, 0, 1, 0, 0]) k (trimL (cfg.keep 8) (sub (bodyOf Tryz.f8) [1, 1, 1, 1, 1, 1, 0, 1, 0, 0]) al) H) (blockL 2 (texttoolslaw20_SortkeyFields_K1 H0)))
theorem texttoolslaw20_SortkeyFields_K2_tame (H0 : Hp) : Tame 117 (texttoolslaw20_SortkeyFields_K2 H0) := tame_seq (C := cfg) (kp := cfg.keep 8) (sub (bodyOf Tryz.f8) [1, 1, 1, 1, 1, 1, 0, 1, 0, 0, 1, 1]) (tame_loop (C := cfg) (kp := cfg.keep 8) (sub (bodyOf Tryz.f8) [1, 1, 1, 1, 1, 1, 0, 1, 0, 0]) (tame_block 2 (texttoolslaw20_SortkeyFields_K1_tame H0)))
noncomputable def texttoolslaw20_SortkeyFields_J6 (x0 x1 x5 x6 x8 x9 : AV) (H0 H : Hp) : Res := CXL cfg (callw cfg) (LPL cfg (cfg.keep 8) 117) (cfg.keep 8) 117 seqL blockL (sub (bodyOf Tryz.f8) [1, 1, 1, 1, 1, 1, 0, 1, 0, 0, 1, 0, 0, 1]) (blockL 3 (texttoolslaw20_SortkeyFields_K2 H0)) [(0, x0), (1, x1), (5, x5), (6, x6), (8, x8), (9, x9)] H
noncomputable def texttoolslaw20_SortkeyFields_J4 (x0 x1 x5 x6 x8 x9 : AV) (H0 H : Hp) : Res := CXL cfg (callw cfg) (LPL cfg (cfg.keep 8) 117) (cfg.keep 8) 117 seqL blockL (sub (bodyOf Tryz.f8) [1, 1, 1, 1, 1, 1, 0, 1, 0, 0, 1]) (seqL (fun k al H => LPL cfg (cfg.keep 8) 117 (sub (bodyOf Tryz.f8) [1, 1, 1, 1, 1, 1, 0, 1, 0, 0]) k (trimL (cfg.keep 8) (sub (bodyOf Tryz.f8) [1, 1, 1, 1, 1, 1, 0, 1, 0, 0]) al) H) (blockL 2 (texttoolslaw20_SortkeyFields_K1 H0))) [(0, x0), (1, x1), (5, x5), (6, x6), (8, x8), (9, x9)] H
noncomputable def texttoolslaw20_SortkeyFields_L1 (x0 x1 x5 x6 x8 x9 : AV) (H0 H : Hp) : Res := LPL cfg (cfg.keep 8) 117 (sub (bodyOf Tryz.f8) [1, 1, 1, 1, 1, 1, 0, 1, 0, 0]) (blockL 2 (texttoolslaw20_SortkeyFields_K1 H0)) [(0, x0), (1, x1), (5, x5), (6, x6), (8, x8), (9, x9)] H
noncomputable def texttoolslaw20_SortkeyFields_J2 (x0 x1 x5 x6 : AV) (H0 H : Hp) : Res := CXL cfg (callw cfg) (LPL cfg (cfg.keep 8) 117) (cfg.keep 8) 117 seqL blockL (sub (bodyOf Tryz.f8) [1, 1, 1, 1, 1]) (retL cfg 117 8 Tryz.f8 H0) [(0, x0), (1, x1), (5, x5), (6, x6)] H
noncomputable def texttoolslaw20_SortkeyFields_J1 (x0 x1 x5 x6 : AV) (H0 H : Hp) : Res := CXL cfg (callw cfg) (LPL cfg (cfg.keep 8) 117) (cfg.keep 8) 117 seqL blockL (sub (bodyOf Tryz.f8) [1, 1, 1, 1]) (retL cfg 117 8 Tryz.f8 H0) [(0, x0), (1, x1), (5, x5), (6, x6)] H
noncomputable def texttoolslaw20_SortkeyFields_K3 (H0 : Hp) : KL := seqL (fun k al H => CXL cfg (callw cfg) (LPL cfg (cfg.keep 8) 117) (cfg.keep 8) 117 seqL blockL (sub (bodyOf Tryz.f8) [1, 1, 1, 1]) k (trimL (cfg.keep 8) (sub (bodyOf Tryz.f8) [1, 1, 1, 1]) al) H) (retL cfg 117 8 Tryz.f8 H0)
theorem texttoolslaw20_SortkeyFields_K3_tame (H0 : Hp) : Tame 117 (texttoolslaw20_SortkeyFields_K3 H0) := tame_seq (C := cfg) (kp := cfg.keep 8) (sub (bodyOf Tryz.f8) [1, 1, 1, 1]) (tame_ret 8 Tryz.f8 H0)
noncomputable def texttoolslaw20_SortkeyFields_J8 (x0 x1 x5 x6 x7 : AV) (H0 H : Hp) : Res := CXL cfg (callw cfg) (LPL cfg (cfg.keep 8) 117) (cfg.keep 8) 117 seqL blockL (sub (bodyOf Tryz.f8) [1, 1, 1, 0, 1, 0, 0, 1, 1]) (seqL (fun k al H => LPL cfg (cfg.keep 8) 117 (sub (bodyOf Tryz.f8) [1, 1, 1, 0, 1, 0, 0]) k (trimL (cfg.keep 8) (sub (bodyOf Tryz.f8) [1, 1, 1, 0, 1, 0, 0]) al) H) (blockL 0 (texttoolslaw20_SortkeyFields_K3 H0))) [(0, x0), (1, x1), (5, x5), (6, x6), (7, x7)] H
noncomputable def texttoolslaw20_SortkeyFields_K4 (H0 : Hp) : KL := seqL (fun k al H => CXL cfg (callw cfg) (LPL cfg (cfg.keep 8) 117) (cfg.keep 8) 117 seqL blockL (sub (bodyOf Tryz.f8) [1, 1, 1, 0, 1, 0, 0, 1, 1]) k (trimL (cfg.keep 8) (sub (bodyOf Tryz.f8) [1, 1, 1, 0, 1, 0, 0, 1, 1]) al) H) (seqL (fun k al H => LPL cfg (cfg.keep 8) 117 (sub (bodyOf Tryz.f8) [1, 1, 1, 0, 1, 0, 0]) k (trimL (cfg.keep 8) (sub (bodyOf Tryz.f8) [1, 1, 1, 0, 1, 0, 0]) al) H) (blockL 0 (texttoolslaw20_SortkeyFields_K3 H0)))
theorem texttoolslaw20_SortkeyFields_K4_tame (H0 : Hp) : Tame 117 (texttoolslaw20_SortkeyFields_K4 H0) := tame_seq (C := cfg) (kp := cfg.keep 8) (sub (bodyOf Tryz.f8) [1, 1, 1, 0, 1, 0, 0, 1, 1]) (tame_loop (C := cfg) (kp := cfg.keep 8) (sub (bodyOf Tryz.f8) [1, 1, 1, 0, 1, 0, 0]) (tame_block 0 (texttoolslaw20_SortkeyFields_K3_tame H0)))
noncomputable def texttoolslaw20_SortkeyFields_J9 (x0 x1 x5 x6 x7 : AV) (H0 H : Hp) : Res := CXL cfg (callw cfg) (LPL cfg (cfg.keep 8) 117) (cfg.keep 8) 117 seqL blockL (sub (bodyOf Tryz.f8) [1, 1, 1, 0, 1, 0, 0, 1, 0, 0, 1]) (blockL 1 (texttoolslaw20_SortkeyFields_K4 H0)) [(0, x0), (1, x1), (5, x5), (6, x6), (7, x7)] H
noncomputable def texttoolslaw20_SortkeyFields_J7 (x0 x1 x5 x6 x7 : AV) (H0 H : Hp) : Res := CXL cfg (callw cfg) (LPL cfg (cfg.keep 8) 117) (cfg.keep 8) 117 seqL blockL (sub (bodyOf Tryz.f8) [1, 1, 1, 0, 1, 0, 0, 1]) (seqL (fun k al H => LPL cfg (cfg.keep 8) 117 (sub (bodyOf Tryz.f8) [1, 1, 1, 0, 1, 0, 0]) k (trimL (cfg.keep 8) (sub (bodyOf Tryz.f8) [1, 1, 1, 0, 1, 0, 0]) al) H) (blockL 0 (texttoolslaw20_SortkeyFields_K3 H0))) [(0, x0), (1, x1), (5, x5), (6, x6), (7, x7)] H
noncomputable def texttoolslaw20_SortkeyFields_L2 (x0 x1 x5 x6 x7 : AV) (H0 H : Hp) : Res := LPL cfg (cfg.keep 8) 117 (sub (bodyOf Tryz.f8) [1, 1, 1, 0, 1, 0, 0]) (blockL 0 (texttoolslaw20_SortkeyFields_K3 H0)) [(0, x0), (1, x1), (5, x5), (6, x6), (7, x7)] H
noncomputable def F_texttoolslaw20_SortkeyFields (p0 p1 : AV) (H : Hp) : Res :=
  bnd (ibin .geq p1 (.int .i64 0)) fun t11_1 =>
  bnd (gdv t11_1 true (.tuple []) (some p1)) fun t13_2 =>
  bnd (gdv t11_1 true (.tuple []) (ibin .leq t13_2 (.int .i64 255))) fun t14_3 =>
  bnd (apick t11_1 t14_3 (.bool false)) fun t15_4 =>
  texttoolslaw20_SortkeyFields_L2 p0 p1 (.int .i64 0) t15_4 (.int .i64 0) H H
theorem texttoolslaw20_SortkeyFields_J3_eq (x0 x1 x5 x8 : AV) (H0 H : Hp) : texttoolslaw20_SortkeyFields_J3 x0 x1 x5 x8 H0 H =
    bnd (cvOfBytes x8) fun t94_5 =>
    bnd (sbin .eql t94_5 x0) fun t96_6 =>
    bnd (gdv t96_6 true (.tuple []) (some x0)) fun t98_7 =>
    bnd (gdv t96_6 true (.tuple []) (some x5)) fun t99_8 =>
    bnd (gdv t96_6 true (.tuple []) (ibin .add t99_8 (.int .i64 1))) fun t100_9 =>
    bnd (gdv t96_6 true (.tuple []) ((afill [(0, 1, t100_9), (1, 1, (.int .i64 1))] [(.int .i64 0), (.int .i64 0), (.int .i64 0), (.int .i64 0), (.int .i64 0)]).map .agg)) fun t101_10 =>
    bnd (gdv t96_6 true (.tuple []) (some x1)) fun t102_11 =>
    bnd (gdv t96_6 true ((.tuple []), H) (C_sortkey_Extract [t98_7, t101_10, t102_11] H)) fun r103_12 =>
    bnd (gdv t96_6 true (.tuple []) (sbin .eql r103_12.1 (.str []))) fun t104_13 =>
    bnd (apick t96_6 t104_13 (.bool false)) fun t105_14 =>
    bnd (gdv t105_14 true (.tuple []) (some x0)) fun t107_15 =>
    bnd (gdv t105_14 true (.tuple []) ((afill [(0, 1, (.int .i64 1)), (1, 1, (.int .i64 1))] [(.int .i64 0), (.int .i64 0), (.int .i64 0), (.int .i64 0), (.int .i64 0)]).map .agg)) fun t108_16 =>
    bnd (gdv t105_14 true (.tuple []) (some x1)) fun t109_17 =>
    bnd (gdv t105_14 true ((.tuple []), r103_12.2) (C_sortkey_Extract [t107_15, t108_16, t109_17] r103_12.2)) fun r110_18 =>
    bnd (gdv t105_14 true (.tuple []) (some x0)) fun t111_19 =>
    bnd (gdv t105_14 true (.tuple []) (sbin .eql r110_18.1 t111_19)) fun t112_20 =>
    bnd (apick t105_14 t112_20 (.bool false)) fun t113_21 =>
    bnd (gdv t113_21 true ((.tuple []), r110_18.2) (flatC C_texttoolslaw20_awake [] r110_18.2)) fun r115_22 =>
    bnd (apick t113_21 r115_22.1 (.bool false)) fun t116_23 =>
    some (t116_23, r115_22.2) := (CXM_eq [5, 6, 8, 10, 12, 15, 16, 18, 19] _ _ _ _).trans (by kernel_rfl)
theorem texttoolslaw20_SortkeyFields_J5_eq (x0 x1 x5 x6 x8 x9 : AV) (H0 H : Hp) : texttoolslaw20_SortkeyFields_J5 x0 x1 x5 x6 x8 x9 H0 H =
    bnd (ibin .add x9 (.int .i64 1)) fun t74_24 =>
    texttoolslaw20_SortkeyFields_L1 x0 x1 x5 x6 x8 t74_24 H0 H := (CXM_eq [5, 6, 8, 10, 12, 15, 16, 18, 19] _ _ _ _).trans (by kernel_rfl)
theorem texttoolslaw20_SortkeyFields_J6_eq (x0 x1 x5 x6 x8 x9 : AV) (H0 H : Hp) : texttoolslaw20_SortkeyFields_J6 x0 x1 x5 x6 x8 x9 H0 H =
    bnd ((afill [(0, 1, x9), (1, 1, (.int .i64 1)), (2, 1, x9)] [(.int .i64 0), (.int .i64 0), (.int .i64 0), (.int .i64 0), (.int .i64 0)]).map .agg) fun t89_25 =>
    bnd (C_sortkey_Extract [x0, t89_25, x1] H) fun r91_26 =>
    bnd (aappE 1 1 x8 r91_26.1 r91_26.2) fun r92_27 =>
    texttoolslaw20_SortkeyFields_J5 x0 x1 x5 x6 r92_27.1 x9 H0 r92_27.2 := (CXM_eq [5, 6, 8, 10, 12, 15, 16, 18, 19] _ _ _ _).trans (by kernel_rfl)
theorem texttoolslaw20_SortkeyFields_J4_eq (x0 x1 x5 x6 x8 x9 : AV) (H0 H : Hp) : texttoolslaw20_SortkeyFields_J4 x0 x1 x5 x6 x8 x9 H0 H =
    bnd (ibin .gtr x9 (.int .i64 1)) fun t76_28 =>
    bnd (gdv t76_28 true (.tuple []) (some x6)) fun t78_29 =>
    bnd (apick t76_28 t78_29 (.bool false)) fun t79_30 =>
    cnd t79_30
      (bnd (cvInt .u8 x1) fun t82_31 =>
      bnd ((setElems 1 [(0, t82_31)] [(.int .u8 0)]).map (.vs 1 .clip)) fun t83_32 =>
      bnd (aappE 1 1 x8 t83_32 H) fun r84_33 =>
      texttoolslaw20_SortkeyFields_J6 x0 x1 x5 x6 r84_33.1 x9 H0 r84_33.2)
      (texttoolslaw20_SortkeyFields_J6 x0 x1 x5 x6 x8 x9 H0 H) := (CXM_eq [5, 6, 8, 10, 12, 15, 16, 18, 19] _ _ _ _).trans (by kernel_rfl)
theorem texttoolslaw20_SortkeyFields_L1_eq (x0 x1 x5 x6 x8 x9 : AV) (H0 H : Hp) : texttoolslaw20_SortkeyFields_L1 x0 x1 x5 x6 x8 x9 H0 H =
    bnd (ibin .leq x9 x5) fun t72_34 =>
    cnd t72_34
      (texttoolslaw20_SortkeyFields_J4 x0 x1 x5 x6 x8 x9 H0 H)
      (texttoolslaw20_SortkeyFields_J3 x0 x1 x5 x8 H0 H) := (LPL_eqm (C := cfg) [5, 6, 8, 10, 12, 15, 16, 18, 19] (tame_block 2 (texttoolslaw20_SortkeyFields_K1_tame H0)) _ _).trans (by kernel_rfl)
theorem texttoolslaw20_SortkeyFields_J2_eq (x0 x1 x5 x6 : AV) (H0 H : Hp) : texttoolslaw20_SortkeyFields_J2 x0 x1 x5 x6 H0 H =
    texttoolslaw20_SortkeyFields_L1 x0 x1 x5 x6 .nils (.int .i64 1) H0 H := (CXM_eq [5, 6, 8, 10, 12, 15, 16, 18, 19] _ _ _ _).trans (by kernel_rfl)
theorem texttoolslaw20_SortkeyFields_J1_eq (x0 x1 x5 x6 : AV) (H0 H : Hp) : texttoolslaw20_SortkeyFields_J1 x0 x1 x5 x6 H0 H =
    cnd x6
      (bnd (ibin .add x5 (.int .i64 1)) fun t69_35 =>
      texttoolslaw20_SortkeyFields_J2 x0 x1 t69_35 x6 H0 H)
      (texttoolslaw20_SortkeyFields_J2 x0 x1 x5 x6 H0 H) := (CXM_eq [5, 6, 8, 10, 12, 15, 16, 18, 19] _ _ _ _).trans (by kernel_rfl)
theorem texttoolslaw20_SortkeyFields_J8_eq (x0 x1 x5 x6 x7 : AV) (H0 H : Hp) : texttoolslaw20_SortkeyFields_J8 x0 x1 x5 x6 x7 H0 H =
    bnd (ibin .add x7 (.int .i64 1)) fun t21_36 =>
    texttoolslaw20_SortkeyFields_L2 x0 x1 x5 x6 t21_36 H0 H := (CXM_eq [5, 6, 8, 10, 12, 15, 16, 18, 19] _ _ _ _).trans (by kernel_rfl)
theorem texttoolslaw20_SortkeyFields_J9_eq (x0 x1 x5 x6 x7 : AV) (H0 H : Hp) : texttoolslaw20_SortkeyFields_J9 x0 x1 x5 x6 x7 H0 H =
    bnd (aun .not x6) fun t34_37 =>
    bnd (gdv t34_37 true (.tuple []) (some x7)) fun t36_38 =>
    bnd (gdv t34_37 true (.tuple []) (ibin .eql t36_38 (.int .i64 0))) fun t37_39 =>
    bnd (gdv t34_37 true (.tuple []) (some t37_39)) fun t38_40 =>
    bnd (gdv t38_40 false (.tuple []) (some x0)) fun t39_41 =>
    bnd (gdv t38_40 false (.tuple []) (some x7)) fun t40_42 =>
    bnd (gdv t38_40 false (.tuple []) (aindexStr t39_41 t40_42)) fun t41_43 =>
    bnd (gdv t38_40 false (.tuple []) (ibin .eql t41_43 (.int .u8 32))) fun t42_44 =>
    bnd (gdv t38_40 false (.tuple []) (some t42_44)) fun t43_45 =>
    bnd (gdv t43_45 false (.tuple []) (some x0)) fun t44_46 =>
    bnd (gdv t43_45 false (.tuple []) (some x7)) fun t45_47 =>
    bnd (gdv t43_45 false (.tuple []) (aindexStr t44_46 t45_47)) fun t46_48 =>
    bnd (gdv t43_45 false (.tuple []) (ibin .eql t46_48 (.int .u8 9))) fun t47_49 =>
    bnd (gdv t38_40 false (.tuple []) (apick t43_45 (.bool true) t47_49)) fun t48_50 =>
    bnd (gdv t38_40 false (.tuple []) (some t48_50)) fun t49_51 =>
    bnd (gdv t49_51 true (.tuple []) (some x0)) fun t50_52 =>
    bnd (gdv t49_51 true (.tuple []) (some x7)) fun t51_53 =>
    bnd (gdv t49_51 true (.tuple []) (ibin .sub t51_53 (.int .i64 1))) fun t52_54 =>
    bnd (gdv t49_51 true (.tuple []) (aindexStr t50_52 t52_54)) fun t53_55 =>
    bnd (gdv t49_51 true (.tuple []) (ibin .neq t53_55 (.int .u8 32))) fun t54_56 =>
    bnd (gdv t38_40 false (.tuple []) (apick t49_51 t54_56 (.bool false))) fun t55_57 =>
    bnd (gdv t38_40 false (.tuple []) (some t55_57)) fun t56_58 =>
    bnd (gdv t56_58 true (.tuple []) (some x0)) fun t57_59 =>
    bnd (gdv t56_58 true (.tuple []) (some x7)) fun t58_60 =>
    bnd (gdv t56_58 true (.tuple []) (ibin .sub t58_60 (.int .i64 1))) fun t59_61 =>
    bnd (gdv t56_58 true (.tuple []) (aindexStr t57_59 t59_61)) fun t60_62 =>
    bnd (gdv t56_58 true (.tuple []) (ibin .neq t60_62 (.int .u8 9))) fun t61_63 =>
    bnd (gdv t38_40 false (.tuple []) (apick t56_58 t61_63 (.bool false))) fun t62_64 =>
    bnd (gdv t34_37 true (.tuple []) (apick t38_40 (.bool true) t62_64)) fun t63_65 =>
    bnd (apick t34_37 t63_65 (.bool false)) fun t64_66 =>
    cnd t64_66
      (bnd (ibin .add x5 (.int .i64 1)) fun t66_67 =>
      texttoolslaw20_SortkeyFields_J8 x0 x1 t66_67 x6 x7 H0 H)
      (texttoolslaw20_SortkeyFields_J8 x0 x1 x5 x6 x7 H0 H) := (CXM_eq [5, 6, 8, 10, 12, 15, 16, 18, 19] _ _ _ _).trans (by kernel_rfl)
theorem texttoolslaw20_SortkeyFields_J7_eq (x0 x1 x5 x6 x7 : AV) (H0 H : Hp) : texttoolslaw20_SortkeyFields_J7 x0 x1 x5 x6 x7 H0 H =
    bnd (gdv x6 true (.tuple []) (some x0)) fun t24_68 =>
    bnd (gdv x6 true (.tuple []) (some x7)) fun t25_69 =>
    bnd (gdv x6 true (.tuple []) (aindexStr t24_68 t25_69)) fun t26_70 =>
    bnd (gdv x6 true (.tuple []) (cvInt .i64 t26_70)) fun t27_71 =>
    bnd (gdv x6 true (.tuple []) (some x1)) fun t28_72 =>
    bnd (gdv x6 true (.tuple []) (ibin .eql t27_71 t28_72)) fun t29_73 =>
    bnd (apick x6 t29_73 (.bool false)) fun t30_74 =>
    cnd t30_74
      (bnd (ibin .add x5 (.int .i64 1)) fun t32_75 =>
      texttoolslaw20_SortkeyFields_J9 x0 x1 t32_75 x6 x7 H0 H)
      (texttoolslaw20_SortkeyFields_J9 x0 x1 x5 x6 x7 H0 H) := (CXM_eq [5, 6, 8, 10, 12, 15, 16, 18, 19] _ _ _ _).trans (by kernel_rfl)
theorem texttoolslaw20_SortkeyFields_L2_eq (x0 x1 x5 x6 x7 : AV) (H0 H : Hp) : texttoolslaw20_SortkeyFields_L2 x0 x1 x5 x6 x7 H0 H =
    bnd (alenD .string x0) fun t18_76 =>
    bnd (ibin .lss x7 t18_76) fun t19_77 =>
    cnd t19_77
      (texttoolslaw20_SortkeyFields_J7 x0 x1 x5 x6 x7 H0 H)
      (texttoolslaw20_SortkeyFields_J1 x0 x1 x5 x6 H0 H) := (LPL_eqm (C := cfg) [5, 6, 8, 10, 12, 15, 16, 18, 19] (tame_block 0 (texttoolslaw20_SortkeyFields_K3_tame H0)) _ _).trans (by kernel_rfl)
theorem F_texttoolslaw20_SortkeyFields_eq (p0 p1 : AV) (H : Hp) : C_texttoolslaw20_SortkeyFields [p0, p1] H = F_texttoolslaw20_SortkeyFields p0 p1 H := (callw_cxm (C := cfg) (fn := Tryz.f8) (c := bodyOf Tryz.f8) (n := 117) [5, 6, 8, 10, 12, 15, 16, 18, 19] Tryz.func8 (by kernel_rfl) (by kernel_rfl) [p0, p1] (by kernel_rfl) H).trans (by kernel_rfl)

/-! ### sortkey_Extract -/
noncomputable def sortkey_Extract_J3 (x0 x7 x10 : AV) (H0 H : Hp) : Res := CXL cfg (callw cfg) (LPL cfg (cfg.keep 16) 70) (cfg.keep 16) 70 seqL blockL (sub (bodyOf Tryz.f16) [1, 1, 1, 1, 1, 1, 1]) (retL cfg 70 16 Tryz.f16 H0) [(0, x0), (7, x7), (10, x10)] H
noncomputable def sortkey_Extract_J2 (x0 x7 x10 : AV) (H0 H : Hp) : Res := CXL cfg (callw cfg) (LPL cfg (cfg.keep 16) 70) (cfg.keep 16) 70 seqL blockL (sub (bodyOf Tryz.f16) [1, 1, 1, 1, 1, 1]) (retL cfg 70 16 Tryz.f16 H0) [(0, x0), (7, x7), (10, x10)] H
noncomputable def sortkey_Extract_J1 (x0 x2 x4 x7 x8 : AV) (H0 H : Hp) : Res := CXL cfg (callw cfg) (LPL cfg (cfg.keep 16) 70) (cfg.keep 16) 70 seqL blockL (sub (bodyOf Tryz.f16) [1, 1, 1]) (retL cfg 70 16 Tryz.f16 H0) [(0, x0), (2, x2), (4, x4), (7, x7), (8, x8)] H
noncomputable def F_sortkey_Extract (p0 p1 p2 : AV) (H : Hp) : Res :=
  bnd (abox p1 H) fun r4_1 =>
  bnd (afield 0 r4_1.1) fun t16_2 =>
  bnd (aload false 1 t16_2 r4_1.2) fun t17_3 =>
  bnd (amax2 t17_3 (.int .i64 1)) fun t18_4 =>
  bnd (C_sortkey_field [p0, t18_4, p2] r4_1.2) fun r20_5 =>
  bnd (aext r20_5.1 0) fun t21_6 =>
  bnd (aext r20_5.1 1) fun t22_7 =>
  bnd (aext r20_5.1 2) fun t23_8 =>
  bnd (aun .not t23_8) fun t25_36 =>
  cnd t25_36
    (some ((.str []), r20_5.2))
    (sortkey_Extract_J1 p0 p2 r4_1.1 t21_6 t22_7 H r20_5.2)
theorem sortkey_Extract_J3_eq (x0 x7 x10 : AV) (H0 H : Hp) : sortkey_Extract_J3 x0 x7 x10 H0 H =
    bnd (asliceS x0 (some x7) (some x10) none) fun t69_17 =>
    some (t69_17, H) := (CXM_eq [4, 12, 14] _ _ _ _).trans (by kernel_rfl)
theorem sortkey_Extract_J2_eq (x0 x7 x10 : AV) (H0 H : Hp) : sortkey_Extract_J2 x0 x7 x10 H0 H =
    bnd (ibin .lss x10 x7) fun t65_18 =>
    cnd t65_18
      (some ((.str []), H))
      (sortkey_Extract_J3 x0 x7 x10 H0 H) := (CXM_eq [4, 12, 14] _ _ _ _).trans (by kernel_rfl)
theorem sortkey_Extract_J1_eq (x0 x2 x4 x7 x8 : AV) (H0 H : Hp) : sortkey_Extract_J1 x0 x2 x4 x7 x8 H0 H =
    bnd (afield 1 x4) fun t27_9 =>
    bnd (aload false 1 t27_9 H) fun t28_10 =>
    bnd (amax2 t28_10 (.int .i64 1)) fun t29_11 =>
    bnd (ibin .sub t29_11 (.int .i64 1)) fun t30_12 =>
    bnd (ibin .sub x8 x7) fun t33_13 =>
    bnd (amin2 t30_12 t33_13) fun t34_14 =>
    bnd (ibin .add x7 t34_14) fun t35_15 =>
    bnd (alenD .string x0) fun t37_16 =>
    bnd (afield 2 x4) fun t38_19 =>
    bnd (aload false 1 t38_19 H) fun t39_20 =>
    bnd (ibin .gtr t39_20 (.int .i64 0)) fun t40_21 =>
    cnd t40_21
      (bnd (afield 2 x4) fun t43_22 =>
      bnd (aload false 1 t43_22 H) fun t44_23 =>
      bnd (C_sortkey_field [x0, t44_23, x2] H) fun r46_24 =>
      bnd (aext r46_24.1 0) fun t47_25 =>
      bnd (aext r46_24.1 1) fun t48_26 =>
      bnd (aext r46_24.1 2) fun t49_27 =>
      cnd t49_27
        (bnd (afield 3 x4) fun t52_28 =>
        bnd (aload false 1 t52_28 r46_24.2) fun t53_29 =>
        bnd (ibin .gtr t53_29 (.int .i64 0)) fun t54_30 =>
        cnd t54_30
          (bnd (afield 3 x4) fun t56_31 =>
          bnd (aload false 1 t56_31 r46_24.2) fun t57_32 =>
          bnd (ibin .sub t48_26 t47_25) fun t60_33 =>
          bnd (amin2 t57_32 t60_33) fun t61_34 =>
          bnd (ibin .add t47_25 t61_34) fun t62_35 =>
          sortkey_Extract_J2 x0 t35_15 t62_35 H0 r46_24.2)
          (sortkey_Extract_J2 x0 t35_15 t48_26 H0 r46_24.2))
        (sortkey_Extract_J2 x0 t35_15 t37_16 H0 r46_24.2))
      (sortkey_Extract_J2 x0 t35_15 t37_16 H0 H) := (CXM_eq [4, 12, 14] _ _ _ _).trans (by kernel_rfl)
theorem F_sortkey_Extract_eq (p0 p1 p2 : AV) (H : Hp) : C_sortkey_Extract [p0, p1, p2] H = F_sortkey_Extract p0 p1 p2 H := (callw_cxm (C := cfg) (fn := Tryz.f16) (c := bodyOf Tryz.f16) (n := 70) [4, 12, 14] Tryz.func16 (by kernel_rfl) (by kernel_rfl) [p0, p1, p2] (by kernel_rfl) H).trans (by kernel_rfl)

/-! ### texttoolsref20_Extract -/
noncomputable def texttoolsref20_Extract_J3 (x0 x11 x12 : AV) (H0 H : Hp) : Res := CXL cfg (callw cfg) (LPL cfg (cfg.keep 17) 84) (cfg.keep 17) 84 seqL blockL (sub (bodyOf Tryz.f17) [1, 1, 1, 1, 1, 1, 1, 1]) (retL cfg 84 17 Tryz.f17 H0) [(0, x0), (11, x11), (12, x12)] H
noncomputable def texttoolsref20_Extract_J2 (x0 x11 x12 : AV) (H0 H : Hp) : Res := CXL cfg (callw cfg) (LPL cfg (cfg.keep 17) 84) (cfg.keep 17) 84 seqL blockL (sub (bodyOf Tryz.f17) [1, 1, 1, 1, 1, 1, 1]) (retL cfg 84 17 Tryz.f17 H0) [(0, x0), (11, x11), (12, x12)] H
noncomputable def texttoolsref20_Extract_J1 (x0 x4 x7 x8 x9 : AV) (H0 H : Hp) : Res := CXL cfg (callw cfg) (LPL cfg (cfg.keep 17) 84) (cfg.keep 17) 84 seqL blockL (sub (bodyOf Tryz.f17) [1, 1, 1, 1]) (retL cfg 84 17 Tryz.f17 H0) [(0, x0), (4, x4), (7, x7), (8, x8), (9, x9)] H
noncomputable def F_texttoolsref20_Extract (p0 p1 p2 : AV) (H : Hp) : Res :=
  bnd (abox p1 H) fun r4_1 =>
  bnd (C_texttoolsref20_Fields [p0, p2] r4_1.2) fun r16_2 =>
  frzK r4_1.1 r16_2.2 fun z4_3 z4_3H =>
  bnd (afield 0 z4_3) fun t17_4 =>
  bnd (aload false 1 t17_4 z4_3H) fun t18_5 =>
  bnd (C_texttoolsref20_most [t18_5, (.int .i64 1)] z4_3H) fun r19_6 =>
  bnd (afield 1 z4_3) fun t20_7 =>
  bnd (aloadv false 1 t20_7) fun t21_8 =>
  bnd (C_texttoolsref20_most [t21_8, (.int .i64 1)] r19_6.2) fun r22_9 =>
  bnd (alenD (.slice 65) r16_2.1) fun t25_62 =>
  bnd (ibin .gtr r19_6.1 t25_62) fun t26_63 =>
  cnd t26_63
    (some ((.str []), r22_9.2))
    (texttoolsref20_Extract_J1 p0 z4_3 r16_2.1 r19_6.1 r22_9.1 H r22_9.2)
theorem texttoolsref20_Extract_J3_eq (x0 x11 x12 : AV) (H0 H : Hp) : texttoolsref20_Extract_J3 x0 x11 x12 H0 H =
    bnd (asliceS x0 (some x11) (some x12) none) fun t83_27 =>
    some (t83_27, H) := (CXM_eq [5, 12, 14] _ _ _ _).trans (by kernel_rfl)
theorem texttoolsref20_Extract_J2_eq (x0 x11 x12 : AV) (H0 H : Hp) : texttoolsref20_Extract_J2 x0 x11 x12 H0 H =
    bnd (ibin .leq x12 x11) fun t79_28 =>
    cnd t79_28
      (some ((.str []), H))
      (texttoolsref20_Extract_J3 x0 x11 x12 H0 H) := (CXM_eq [5, 12, 14] _ _ _ _).trans (by kernel_rfl)
theorem texttoolsref20_Extract_J1_eq (x0 x4 x7 x8 x9 : AV) (H0 H : Hp) : texttoolsref20_Extract_J1 x0 x4 x7 x8 x9 H0 H =
    bnd (ibin .sub x8 (.int .i64 1)) fun t29_10 =>
    bnd (aindexS 2 x7 t29_10) fun t30_11 =>
    bnd (aload true 2 t30_11 H) fun t31_12 =>
    bnd (some ((.ptr H.length 0), H ++ [.cells [(.int .i64 0), (.int .i64 0)]])) fun r10_13 =>
    bnd (astoreU 2 r10_13.1 t31_12 r10_13.2) fun r_14 =>
    frzK r10_13.1 r_14.2 fun z10_15 z10_15H =>
    bnd (afield 0 z10_15) fun t32_16 =>
    bnd (aloadv false 1 t32_16) fun t33_17 =>
    bnd (ibin .sub x9 (.int .i64 1)) fun t35_18 =>
    bnd (afield 1 z10_15) fun t36_19 =>
    bnd (aload false 1 t36_19 z10_15H) fun t37_20 =>
    bnd (afield 0 z10_15) fun t38_21 =>
    bnd (aload false 1 t38_21 z10_15H) fun t39_22 =>
    bnd (ibin .sub t37_20 t39_22) fun t40_23 =>
    bnd (C_texttoolsref20_least [t35_18, t40_23] z10_15H) fun r41_24 =>
    bnd (ibin .add t33_17 r41_24.1) fun t42_25 =>
    bnd (alenD .string x0) fun t44_26 =>
    bnd (afield 2 x4) fun t45_29 =>
    bnd (aload false 1 t45_29 r41_24.2) fun t46_30 =>
    bnd (ibin .gtr t46_30 (.int .i64 0)) fun t47_31 =>
    bnd (gdv t47_31 true (.tuple []) (afield 2 x4)) fun t49_32 =>
    bnd (gdv t47_31 true (.tuple []) (aload false 1 t49_32 r41_24.2)) fun t50_33 =>
    bnd (gdv t47_31 true (.tuple []) (some x7)) fun t51_34 =>
    bnd (gdv t47_31 true (.tuple []) (alenD (.slice 65) t51_34)) fun t52_35 =>
    bnd (gdv t47_31 true (.tuple []) (ibin .leq t50_33 t52_35)) fun t53_36 =>
    bnd (apick t47_31 t53_36 (.bool false)) fun t54_37 =>
    cnd t54_37
      (bnd (afield 2 x4) fun t56_38 =>
      bnd (aload false 1 t56_38 r41_24.2) fun t57_39 =>
      bnd (ibin .sub t57_39 (.int .i64 1)) fun t58_40 =>
      bnd (aindexS 2 x7 t58_40) fun t59_41 =>
      bnd (aload true 2 t59_41 r41_24.2) fun t60_42 =>
      bnd (some ((.ptr r41_24.2.length 0), r41_24.2 ++ [.cells [(.int .i64 0), (.int .i64 0)]])) fun r13_43 =>
      bnd (astoreU 2 r13_43.1 t60_42 r13_43.2) fun r_44 =>
      bnd (afield 1 r13_43.1) fun t61_45 =>
      bnd (aload false 1 t61_45 r_44.2) fun t62_46 =>
      bnd (afield 3 x4) fun t63_47 =>
      bnd (aload false 1 t63_47 r_44.2) fun t64_48 =>
      bnd (ibin .gtr t64_48 (.int .i64 0)) fun t65_49 =>
      cnd t65_49
        (frzK r13_43.1 r_44.2 fun z13_50 z13_50H =>
        bnd (afield 0 z13_50) fun t66_51 =>
        bnd (aloadv false 1 t66_51) fun t67_52 =>
        bnd (afield 3 x4) fun t68_53 =>
        bnd (aload false 1 t68_53 z13_50H) fun t69_54 =>
        bnd (afield 1 z13_50) fun t70_55 =>
        bnd (aload false 1 t70_55 z13_50H) fun t71_56 =>
        bnd (afield 0 z13_50) fun t72_57 =>
        bnd (aload false 1 t72_57 z13_50H) fun t73_58 =>
        bnd (ibin .sub t71_56 t73_58) fun t74_59 =>
        bnd (C_texttoolsref20_least [t69_54, t74_59] z13_50H) fun r75_60 =>
        bnd (ibin .add t67_52 r75_60.1) fun t76_61 =>
        texttoolsref20_Extract_J2 x0 t42_25 t76_61 H0 r75_60.2)
        (texttoolsref20_Extract_J2 x0 t42_25 t62_46 H0 r_44.2))
      (texttoolsref20_Extract_J2 x0 t42_25 t44_26 H0 r41_24.2) := (CXM_eq [5, 12, 14] _ _ _ _).trans (by kernel_rfl)
theorem F_texttoolsref20_Extract_eq (p0 p1 p2 : AV) (H : Hp) : C_texttoolsref20_Extract [p0, p1, p2] H = F_texttoolsref20_Extract p0 p1 p2 H := (callw_cxm (C := cfg) (fn := Tryz.f17) (c := bodyOf Tryz.f17) (n := 84) [5, 12, 14] Tryz.func17 (by kernel_rfl) (by kernel_rfl) [p0, p1, p2] (by kernel_rfl) H).trans (by kernel_rfl)

/-! ### sortkey_field -/
noncomputable def sortkey_field_J2 (H0 H : Hp) : Res := CXL cfg (callw cfg) (LPL cfg (cfg.keep 30) 83) (cfg.keep 30) 83 seqL blockL (sub (bodyOf Tryz.f30) [1, 1, 1]) (retL cfg 83 30 Tryz.f30 H0) [] H
noncomputable def sortkey_field_K1 (H0 : Hp) : KL := seqL (fun k al H => CXL cfg (callw cfg) (LPL cfg (cfg.keep 30) 83) (cfg.keep 30) 83 seqL blockL (sub (bodyOf Tryz.f30) [1, 1, 1]) k (trimL (cfg.keep 30) (sub (bodyOf Tryz.f30) [1, 1, 1]) al) H) (retL cfg 83 30 Tryz.f30 H0)
theorem sortkey_field_K1_tame (H0 : Hp) : Tame 83 (sortkey_field_K1 H0) := tame_seq (C := cfg) (kp := cfg.keep 30) (sub (bodyOf Tryz.f30) [1, 1, 1]) (tame_ret 30 Tryz.f30 H0)
noncomputable def sortkey_field_J4 (x0 x1 x6 x11 : AV) (H0 H : Hp) : Res := CXL cfg (callw cfg) (LPL cfg (cfg.keep 30) 83) (cfg.keep 30) 83 seqL blockL (sub (bodyOf Tryz.f30) [1, 1, 0, 1, 0, 0, 1, 1]) (seqL (fun k al H => LPL cfg (cfg.keep 30) 83 (sub (bodyOf Tryz.f30) [1, 1, 0, 1, 0, 0]) k (trimL (cfg.keep 30) (sub (bodyOf Tryz.f30) [1, 1, 0, 1, 0, 0]) al) H) (blockL 2 (sortkey_field_K1 H0))) [(0, x0), (1, x1), (6, x6), (11, x11)] H
noncomputable def sortkey_field_K2 (H0 : Hp) : KL := seqL (fun k al H => CXL cfg (callw cfg) (LPL cfg (cfg.keep 30) 83) (cfg.keep 30) 83 seqL blockL (sub (bodyOf Tryz.f30) [1, 1, 0, 1, 0, 0, 1, 1]) k (trimL (cfg.keep 30) (sub (bodyOf Tryz.f30) [1, 1, 0, 1, 0, 0, 1, 1]) al) H) (seqL (fun k al H => LPL cfg (cfg.keep 30) 83 (sub (bodyOf Tryz.f30) [1, 1, 0, 1, 0, 0]) k (trimL (cfg.keep 30) (sub (bodyOf Tryz.f30) [1, 1, 0, 1, 0, 0]) al) H) (blockL 2 (sortkey_field_K1 H0)))
theorem sortkey_field_K2_tame (H0 : Hp) : Tame 83 (sortkey_field_K2 H0) := tame_seq (C := cfg) (kp := cfg.keep 30) (sub (bodyOf Tryz.f30) [1, 1, 0, 1, 0, 0, 1, 1]) (tame_loop (C := cfg) (kp := cfg.keep 30) (sub (bodyOf Tryz.f30) [1, 1, 0, 1, 0, 0]) (tame_block 2 (sortkey_field_K1_tame H0)))
noncomputable def sortkey_field_J7 (x0 x1 x7 x11 : AV) (H0 H : Hp) : Res := CXL cfg (callw cfg) (LPL cfg (cfg.keep 30) 83) (cfg.keep 30) 83 seqL blockL (sub (bodyOf Tryz.f30) [1, 1, 0, 1, 0, 0, 1, 0, 0, 1, 1, 1, 1]) (blockL 3 (sortkey_field_K2 H0)) [(0, x0), (1, x1), (7, x7), (11, x11)] H
noncomputable def sortkey_field_J6 (x0 x1 x6 x7 x11 : AV) (H0 H : Hp) : Res := CXL cfg (callw cfg) (LPL cfg (cfg.keep 30) 83) (cfg.keep 30) 83 seqL blockL (sub (bodyOf Tryz.f30) [1, 1, 0, 1, 0, 0, 1, 0, 0, 1, 1, 1]) (blockL 3 (sortkey_field_K2 H0)) [(0, x0), (1, x1), (6, x6), (7, x7), (11, x11)] H
noncomputable def sortkey_field_K3 (H0 : Hp) : KL := seqL (fun k al H => CXL cfg (callw cfg) (LPL cfg (cfg.keep 30) 83) (cfg.keep 30) 83 seqL blockL (sub (bodyOf Tryz.f30) [1, 1, 0, 1, 0, 0, 1, 0, 0, 1, 1, 1]) k (trimL (cfg.keep 30) (sub (bodyOf Tryz.f30) [1, 1, 0, 1, 0, 0, 1, 0, 0, 1, 1, 1]) al) H) (blockL 3 (sortkey_field_K2 H0))
theorem sortkey_field_K3_tame (H0 : Hp) : Tame 83 (sortkey_field_K3 H0) := tame_seq (C := cfg) (kp := cfg.keep 30) (sub (bodyOf Tryz.f30) [1, 1, 0, 1, 0, 0, 1, 0, 0, 1, 1, 1]) (tame_block 3 (sortkey_field_K2_tame H0))
noncomputable def sortkey_field_J8 (x0 x1 x6 x7 x11 : AV) (H0 H : Hp) : Res := CXL cfg (callw cfg) (LPL cfg (cfg.keep 30) 83) (cfg.keep 30) 83 seqL blockL (sub (bodyOf Tryz.f30) [1, 1, 0, 1, 0, 0, 1, 0, 0, 1, 1, 0, 0, 0, 1]) (seqL (fun k al H => LPL cfg (cfg.keep 30) 83 (sub (bodyOf Tryz.f30) [1, 1, 0, 1, 0, 0, 1, 0, 0, 1, 1, 0, 0, 0]) k (trimL (cfg.keep 30) (sub (bodyOf Tryz.f30) [1, 1, 0, 1, 0, 0, 1, 0, 0, 1, 1, 0, 0, 0]) al) H) (blockL 6 (sortkey_field_K3 H0))) [(0, x0), (1, x1), (6, x6), (7, x7), (11, x11)] H
noncomputable def sortkey_field_L2 (x0 x1 x6 x7 x11 : AV) (H0 H : Hp) : Res := LPL cfg (cfg.keep 30) 83 (sub (bodyOf Tryz.f30) [1, 1, 0, 1, 0, 0, 1, 0, 0, 1, 1, 0, 0, 0]) (blockL 6 (sortkey_field_K3 H0)) [(0, x0), (1, x1), (6, x6), (7, x7), (11, x11)] H
noncomputable def sortkey_field_J5 (x0 x1 x6 x7 x11 : AV) (H0 H : Hp) : Res := CXL cfg (callw cfg) (LPL cfg (cfg.keep 30) 83) (cfg.keep 30) 83 seqL blockL (sub (bodyOf Tryz.f30) [1, 1, 0, 1, 0, 0, 1, 0, 0, 1, 1]) (blockL 3 (sortkey_field_K2 H0)) [(0, x0), (1, x1), (6, x6), (7, x7), (11, x11)] H
noncomputable def sortkey_field_K4 (H0 : Hp) : KL := seqL (fun k al H => CXL cfg (callw cfg) (LPL cfg (cfg.keep 30) 83) (cfg.keep 30) 83 seqL blockL (sub (bodyOf Tryz.f30) [1, 1, 0, 1, 0, 0, 1, 0, 0, 1, 1]) k (trimL (cfg.keep 30) (sub (bodyOf Tryz.f30) [1, 1, 0, 1, 0, 0, 1, 0, 0, 1, 1]) al) H) (blockL 3 (sortkey_field_K2 H0))
theorem sortkey_field_K4_tame (H0 : Hp) : Tame 83 (sortkey_field_K4 H0) := tame_seq (C := cfg) (kp := cfg.keep 30) (sub (bodyOf Tryz.f30) [1, 1, 0, 1, 0, 0, 1, 0, 0, 1, 1]) (tame_block 3 (sortkey_field_K2_tame H0))
noncomputable def sortkey_field_J9 (x0 x1 x6 x7 x11 : AV) (H0 H : Hp) : Res := CXL cfg (callw cfg) (LPL cfg (cfg.keep 30) 83) (cfg.keep 30) 83 seqL blockL (sub (bodyOf Tryz.f30) [1, 1, 0, 1, 0, 0, 1, 0, 0, 1, 0, 0, 0, 1]) (seqL (fun k al H => LPL cfg (cfg.keep 30) 83 (sub (bodyOf Tryz.f30) [1, 1, 0, 1, 0, 0, 1, 0, 0, 1, 0, 0, 0]) k (trimL (cfg.keep 30) (sub (bodyOf Tryz.f30) [1, 1, 0, 1, 0, 0, 1, 0, 0, 1, 0, 0, 0]) al) H) (blockL 4 (sortkey_field_K4 H0))) [(0, x0), (1, x1), (6, x6), (7, x7), (11, x11)] H
noncomputable def sortkey_field_L3 (x0 x1 x6 x7 x11 : AV) (H0 H : Hp) : Res := LPL cfg (cfg.keep 30) 83 (sub (bodyOf Tryz.f30) [1, 1, 0, 1, 0, 0, 1, 0, 0, 1, 0, 0, 0]) (blockL 4 (sortkey_field_K4 H0)) [(0, x0), (1, x1), (6, x6), (7, x7), (11, x11)] H
noncomputable def sortkey_field_J3 (x0 x1 x6 x11 : AV) (H0 H : Hp) : Res := CXL cfg (callw cfg) (LPL cfg (cfg.keep 30) 83) (cfg.keep 30) 83 seqL blockL (sub (bodyOf Tryz.f30) [1, 1, 0, 1, 0, 0, 1]) (seqL (fun k al H => LPL cfg (cfg.keep 30) 83 (sub (bodyOf Tryz.f30) [1, 1, 0, 1, 0, 0]) k (trimL (cfg.keep 30) (sub (bodyOf Tryz.f30) [1, 1, 0, 1, 0, 0]) al) H) (blockL 2 (sortkey_field_K1 H0))) [(0, x0), (1, x1), (6, x6), (11, x11)] H
noncomputable def sortkey_field_L1 (x0 x1 x6 x11 : AV) (H0 H : Hp) : Res := LPL cfg (cfg.keep 30) 83 (sub (bodyOf Tryz.f30) [1, 1, 0, 1, 0, 0]) (blockL 2 (sortkey_field_K1 H0)) [(0, x0), (1, x1), (6, x6), (11, x11)] H
noncomputable def sortkey_field_J1 (x0 x1 x6 : AV) (H0 H : Hp) : Res := CXL cfg (callw cfg) (LPL cfg (cfg.keep 30) 83) (cfg.keep 30) 83 seqL blockL (sub (bodyOf Tryz.f30) [1, 1]) (retL cfg 83 30 Tryz.f30 H0) [(0, x0), (1, x1), (6, x6)] H
noncomputable def sortkey_field_K5 (H0 : Hp) : KL := seqL (fun k al H => CXL cfg (callw cfg) (LPL cfg (cfg.keep 30) 83) (cfg.keep 30) 83 seqL blockL (sub (bodyOf Tryz.f30) [1, 1]) k (trimL (cfg.keep 30) (sub (bodyOf Tryz.f30) [1, 1]) al) H) (retL cfg 83 30 Tryz.f30 H0)
theorem sortkey_field_K5_tame (H0 : Hp) : Tame 83 (sortkey_field_K5 H0) := tame_seq (C := cfg) (kp := cfg.keep 30) (sub (bodyOf Tryz.f30) [1, 1]) (tame_ret 30 Tryz.f30 H0)
noncomputable def sortkey_field_J10 (x0 x1 x2 x6 x9 : AV) (H0 H : Hp) : Res := CXL cfg (callw cfg) (LPL cfg (cfg.keep 30) 83) (cfg.keep 30) 83 seqL blockL (sub (bodyOf Tryz.f30) [1, 0, 1, 0, 1, 0, 0, 1]) (seqL (fun k al H => LPL cfg (cfg.keep 30) 83 (sub (bodyOf Tryz.f30) [1, 0, 1, 0, 1, 0, 0]) k (trimL (cfg.keep 30) (sub (bodyOf Tryz.f30) [1, 0, 1, 0, 1, 0, 0]) al) H) (blockL 0 (sortkey_field_K5 H0))) [(0, x0), (1, x1), (2, x2), (6, x6), (9, x9)] H
noncomputable def sortkey_field_K6 (H0 : Hp) : KL := seqL (fun k al H => CXL cfg (callw cfg) (LPL cfg (cfg.keep 30) 83) (cfg.keep 30) 83 seqL blockL (sub (bodyOf Tryz.f30) [1, 0, 1, 0, 1, 0, 0, 1]) k (trimL (cfg.keep 30) (sub (bodyOf Tryz.f30) [1, 0, 1, 0, 1, 0, 0, 1]) al) H) (seqL (fun k al H => LPL cfg (cfg.keep 30) 83 (sub (bodyOf Tryz.f30) [1, 0, 1, 0, 1, 0, 0]) k (trimL (cfg.keep 30) (sub (bodyOf Tryz.f30) [1, 0, 1, 0, 1, 0, 0]) al) H) (blockL 0 (sortkey_field_K5 H0)))
theorem sortkey_field_K6_tame (H0 : Hp) : Tame 83 (sortkey_field_K6 H0) := tame_seq (C := cfg) (kp := cfg.keep 30) (sub (bodyOf Tryz.f30) [1, 0, 1, 0, 1, 0, 0, 1]) (tame_loop (C := cfg) (kp := cfg.keep 30) (sub (bodyOf Tryz.f30) [1, 0, 1, 0, 1, 0, 0]) (tame_block 0 (sortkey_field_K5_tame H0)))
noncomputable def sortkey_field_J12 (x0 x1 x2 x6 x9 x10 : AV) (H0 H : Hp) : Res := CXL cfg (callw cfg) (LPL cfg (cfg.keep 30) 83) (cfg.keep 30) 83 seqL blockL (sub (bodyOf Tryz.f30) [1, 0, 1, 0, 1, 0, 0, 0, 0, 1, 1, 1]) (blockL 1 (sortkey_field_K6 H0)) [(0, x0), (1, x1), (2, x2), (6, x6), (9, x9), (10, x10)] H
noncomputable def sortkey_field_J11 (x0 x1 x2 x6 x9 x10 : AV) (H0 H : Hp) : Res := CXL cfg (callw cfg) (LPL cfg (cfg.keep 30) 83) (cfg.keep 30) 83 seqL blockL (sub (bodyOf Tryz.f30) [1, 0, 1, 0, 1, 0, 0, 0, 0, 1, 1]) (blockL 1 (sortkey_field_K6 H0)) [(0, x0), (1, x1), (2, x2), (6, x6), (9, x9), (10, x10)] H
noncomputable def sortkey_field_L4 (x0 x1 x2 x6 x9 : AV) (H0 H : Hp) : Res := LPL cfg (cfg.keep 30) 83 (sub (bodyOf Tryz.f30) [1, 0, 1, 0, 1, 0, 0]) (blockL 0 (sortkey_field_K5 H0)) [(0, x0), (1, x1), (2, x2), (6, x6), (9, x9)] H
noncomputable def F_sortkey_field (p0 p1 p2 : AV) (H : Hp) : Res :=
  bnd (ibin .geq p2 (.int .i64 0)) fun t13_22 =>
  bnd (gdv t13_22 true (.tuple []) (some p2)) fun t15_23 =>
  bnd (gdv t13_22 true (.tuple []) (ibin .leq t15_23 (.int .i64 255))) fun t16_24 =>
  bnd (apick t13_22 t16_24 (.bool false)) fun t17_25 =>
  cnd t17_25
    (sortkey_field_L4 p0 p1 p2 (.int .i64 0) (.int .i64 1) H H)
    (sortkey_field_J1 p0 p1 (.int .i64 0) H H)
theorem sortkey_field_J2_eq (H0 H : Hp) : sortkey_field_J2 H0 H =
    some ((.tuple [(.int .i64 0), (.int .i64 0), (.bool false)]), H) := (CXM_eq [3, 7, 9, 10, 12, 13, 15, 16, 17, 18, 20, 21] _ _ _ _).trans (by kernel_rfl)
theorem sortkey_field_J4_eq (x0 x1 x6 x11 : AV) (H0 H : Hp) : sortkey_field_J4 x0 x1 x6 x11 H0 H =
    bnd (ibin .add x11 (.int .i64 1)) fun t50_1 =>
    sortkey_field_L1 x0 x1 x6 t50_1 H0 H := (CXM_eq [3, 7, 9, 10, 12, 13, 15, 16, 17, 18, 20, 21] _ _ _ _).trans (by kernel_rfl)
theorem sortkey_field_J7_eq (x0 x1 x7 x11 : AV) (H0 H : Hp) : sortkey_field_J7 x0 x1 x7 x11 H0 H =
    sortkey_field_J4 x0 x1 x7 x11 H0 H := (CXM_eq [3, 7, 9, 10, 12, 13, 15, 16, 17, 18, 20, 21] _ _ _ _).trans (by kernel_rfl)
theorem sortkey_field_J6_eq (x0 x1 x6 x7 x11 : AV) (H0 H : Hp) : sortkey_field_J6 x0 x1 x6 x7 x11 H0 H =
    bnd (ibin .eql x11 x1) fun t79_2 =>
    cnd t79_2
      (some ((.tuple [x6, x7, (.bool true)]), H))
      (sortkey_field_J7 x0 x1 x7 x11 H0 H) := (CXM_eq [3, 7, 9, 10, 12, 13, 15, 16, 17, 18, 20, 21] _ _ _ _).trans (by kernel_rfl)
theorem sortkey_field_J8_eq (x0 x1 x6 x7 x11 : AV) (H0 H : Hp) : sortkey_field_J8 x0 x1 x6 x7 x11 H0 H =
    bnd (ibin .add x7 (.int .i64 1)) fun t76_3 =>
    sortkey_field_L2 x0 x1 x6 t76_3 x11 H0 H := (CXM_eq [3, 7, 9, 10, 12, 13, 15, 16, 17, 18, 20, 21] _ _ _ _).trans (by kernel_rfl)
theorem sortkey_field_L2_eq (x0 x1 x6 x7 x11 : AV) (H0 H : Hp) : sortkey_field_L2 x0 x1 x6 x7 x11 H0 H =
    bnd (alenD .string x0) fun t66_4 =>
    bnd (ibin .lss x7 t66_4) fun t67_5 =>
    bnd (gdv t67_5 true (.tuple []) (some x0)) fun t69_6 =>
    bnd (gdv t67_5 true (.tuple []) (some x7)) fun t70_7 =>
    bnd (gdv t67_5 true (.tuple []) (aindexStr t69_6 t70_7)) fun t71_8 =>
    bnd (gdv t67_5 true ((.tuple []), H) (C_sortkey_blank [t71_8] H)) fun r72_9 =>
    bnd (gdv t67_5 true (.tuple []) (aun .not r72_9.1)) fun t73_10 =>
    bnd (apick t67_5 t73_10 (.bool false)) fun t74_11 =>
    cnd t74_11
      (sortkey_field_J8 x0 x1 x6 x7 x11 H0 r72_9.2)
      (sortkey_field_J6 x0 x1 x6 x7 x11 H0 r72_9.2) := (LPL_eqm (C := cfg) [3, 7, 9, 10, 12, 13, 15, 16, 17, 18, 20, 21] (tame_block 6 (sortkey_field_K3_tame H0)) _ _).trans (by kernel_rfl)
theorem sortkey_field_J5_eq (x0 x1 x6 x7 x11 : AV) (H0 H : Hp) : sortkey_field_J5 x0 x1 x6 x7 x11 H0 H =
    sortkey_field_L2 x0 x1 x6 x7 x11 H0 H := (CXM_eq [3, 7, 9, 10, 12, 13, 15, 16, 17, 18, 20, 21] _ _ _ _).trans (by kernel_rfl)
theorem sortkey_field_J9_eq (x0 x1 x6 x7 x11 : AV) (H0 H : Hp) : sortkey_field_J9 x0 x1 x6 x7 x11 H0 H =
    bnd (ibin .add x7 (.int .i64 1)) fun t63_12 =>
    sortkey_field_L3 x0 x1 x6 t63_12 x11 H0 H := (CXM_eq [3, 7, 9, 10, 12, 13, 15, 16, 17, 18, 20, 21] _ _ _ _).trans (by kernel_rfl)
theorem sortkey_field_L3_eq (x0 x1 x6 x7 x11 : AV) (H0 H : Hp) : sortkey_field_L3 x0 x1 x6 x7 x11 H0 H =
    bnd (alenD .string x0) fun t54_13 =>
    bnd (ibin .lss x7 t54_13) fun t55_14 =>
    bnd (gdv t55_14 true (.tuple []) (some x0)) fun t57_15 =>
    bnd (gdv t55_14 true (.tuple []) (some x7)) fun t58_16 =>
    bnd (gdv t55_14 true (.tuple []) (aindexStr t57_15 t58_16)) fun t59_17 =>
    bnd (gdv t55_14 true ((.tuple []), H) (C_sortkey_blank [t59_17] H)) fun r60_18 =>
    bnd (apick t55_14 r60_18.1 (.bool false)) fun t61_19 =>
    cnd t61_19
      (sortkey_field_J9 x0 x1 x6 x7 x11 H0 r60_18.2)
      (sortkey_field_J5 x0 x1 x6 x7 x11 H0 r60_18.2) := (LPL_eqm (C := cfg) [3, 7, 9, 10, 12, 13, 15, 16, 17, 18, 20, 21] (tame_block 4 (sortkey_field_K4_tame H0)) _ _).trans (by kernel_rfl)
theorem sortkey_field_J3_eq (x0 x1 x6 x11 : AV) (H0 H : Hp) : sortkey_field_J3 x0 x1 x6 x11 H0 H =
    sortkey_field_L3 x0 x1 x6 x6 x11 H0 H := (CXM_eq [3, 7, 9, 10, 12, 13, 15, 16, 17, 18, 20, 21] _ _ _ _).trans (by kernel_rfl)
theorem sortkey_field_L1_eq (x0 x1 x6 x11 : AV) (H0 H : Hp) : sortkey_field_L1 x0 x1 x6 x11 H0 H =
    bnd (alenD .string x0) fun t47_20 =>
    bnd (ibin .lss x6 t47_20) fun t48_21 =>
    cnd t48_21
      (sortkey_field_J3 x0 x1 x6 x11 H0 H)
      (sortkey_field_J2 H0 H) := (LPL_eqm (C := cfg) [3, 7, 9, 10, 12, 13, 15, 16, 17, 18, 20, 21] (tame_block 2 (sortkey_field_K1_tame H0)) _ _).trans (by kernel_rfl)
theorem sortkey_field_J1_eq (x0 x1 x6 : AV) (H0 H : Hp) : sortkey_field_J1 x0 x1 x6 H0 H =
    sortkey_field_L1 x0 x1 x6 (.int .i64 1) H0 H := (CXM_eq [3, 7, 9, 10, 12, 13, 15, 16, 17, 18, 20, 21] _ _ _ _).trans (by kernel_rfl)
theorem sortkey_field_J10_eq (x0 x1 x2 x6 x9 : AV) (H0 H : Hp) : sortkey_field_J10 x0 x1 x2 x6 x9 H0 H =
    bnd (ibin .add x9 (.int .i64 1)) fun t19_26 =>
    sortkey_field_L4 x0 x1 x2 x6 t19_26 H0 H := (CXM_eq [3, 7, 9, 10, 12, 13, 15, 16, 17, 18, 20, 21] _ _ _ _).trans (by kernel_rfl)
theorem sortkey_field_J12_eq (x0 x1 x2 x6 x9 x10 : AV) (H0 H : Hp) : sortkey_field_J12 x0 x1 x2 x6 x9 x10 H0 H =
    bnd (ibin .add x10 (.int .i64 1)) fun t43_30 =>
    bnd (ibin .add x6 t43_30) fun t44_31 =>
    sortkey_field_J10 x0 x1 x2 t44_31 x9 H0 H := (CXM_eq [3, 7, 9, 10, 12, 13, 15, 16, 17, 18, 20, 21] _ _ _ _).trans (by kernel_rfl)
theorem sortkey_field_J11_eq (x0 x1 x2 x6 x9 x10 : AV) (H0 H : Hp) : sortkey_field_J11 x0 x1 x2 x6 x9 x10 H0 H =
    bnd (ibin .eql x9 x1) fun t36_32 =>
    cnd t36_32
      (bnd (ibin .add x6 x10) fun t40_33 =>
      some ((.tuple [x6, t40_33, (.bool true)]), H))
      (sortkey_field_J12 x0 x1 x2 x6 x9 x10 H0 H) := (CXM_eq [3, 7, 9, 10, 12, 13, 15, 16, 17, 18, 20, 21] _ _ _ _).trans (by kernel_rfl)
theorem sortkey_field_L4_eq (x0 x1 x2 x6 x9 : AV) (H0 H : Hp) : sortkey_field_L4 x0 x1 x2 x6 x9 H0 H =
    bnd (asliceS x0 (some x6) none none) fun t22_27 =>
    bnd (cvInt .u8 x2) fun t24_28 =>
    bnd (C_strings_IndexByte [t22_27, t24_28] H) fun r25_29 =>
    bnd (ibin .lss r25_29.1 (.int .i64 0)) fun t27_34 =>
    cnd t27_34
      (bnd (alenD .string x0) fun t30_35 =>
      bnd (ibin .eql x9 x1) fun t33_36 =>
      some ((.tuple [x6, t30_35, t33_36]), r25_29.2))
      (sortkey_field_J11 x0 x1 x2 x6 x9 r25_29.1 H0 r25_29.2) := (LPL_eqm (C := cfg) [3, 7, 9, 10, 12, 13, 15, 16, 17, 18, 20, 21] (tame_block 0 (sortkey_field_K5_tame H0)) _ _).trans (by kernel_rfl)
theorem F_sortkey_field_eq (p0 p1 p2 : AV) (H : Hp) : C_sortkey_field [p0, p1, p2] H = F_sortkey_field p0 p1 p2 H := (callw_cxm (C := cfg) (fn := Tryz.f30) (c := bodyOf Tryz.f30) (n := 83) [3, 7, 9, 10, 12, 13, 15, 16, 17, 18, 20, 21] Tryz.func30 (by kernel_rfl) (by kernel_rfl) [p0, p1, p2] (by kernel_rfl) H).trans (by kernel_rfl)

/-! ### texttoolsref20_Fields -/
noncomputable def texttoolsref20_Fields_J3 (x5 : AV) (H0 H : Hp) : Res := CXL cfg (callw cfg) (LPL cfg (cfg.keep 31) 78) (cfg.keep 31) 78 seqL blockL (sub (bodyOf Tryz.f31) [1, 1, 1, 1, 1, 1]) (retL cfg 78 31 Tryz.f31 H0) [(5, x5)] H
noncomputable def texttoolsref20_Fields_J2 (x0 x5 x6 : AV) (H0 H : Hp) : Res := CXL cfg (callw cfg) (LPL cfg (cfg.keep 31) 78) (cfg.keep 31) 78 seqL blockL (sub (bodyOf Tryz.f31) [1, 1, 1, 1, 1]) (retL cfg 78 31 Tryz.f31 H0) [(0, x0), (5, x5), (6, x6)] H
noncomputable def texttoolsref20_Fields_K1 (H0 : Hp) : KL := seqL (fun k al H => CXL cfg (callw cfg) (LPL cfg (cfg.keep 31) 78) (cfg.keep 31) 78 seqL blockL (sub (bodyOf Tryz.f31) [1, 1, 1, 1, 1]) k (trimL (cfg.keep 31) (sub (bodyOf Tryz.f31) [1, 1, 1, 1, 1]) al) H) (retL cfg 78 31 Tryz.f31 H0)
theorem texttoolsref20_Fields_K1_tame (H0 : Hp) : Tame 78 (texttoolsref20_Fields_K1 H0) := tame_seq (C := cfg) (kp := cfg.keep 31) (sub (bodyOf Tryz.f31) [1, 1, 1, 1, 1]) (tame_ret 31 Tryz.f31 H0)
noncomputable def texttoolsref20_Fields_J5 (x0 x5 x6 x8 : AV) (H0 H : Hp) : Res := CXL cfg (callw cfg) (LPL cfg (cfg.keep 31) 78) (cfg.keep 31) 78 seqL blockL (sub (bodyOf Tryz.f31) [1, 1, 1, 1, 0, 1, 0, 0, 1, 1]) (seqL (fun k al H => LPL cfg (cfg.keep 31) 78 (sub (bodyOf Tryz.f31) [1, 1, 1, 1, 0, 1, 0, 0]) k (trimL (cfg.keep 31) (sub (bodyOf Tryz.f31) [1, 1, 1, 1, 0, 1, 0, 0]) al) H) (blockL 2 (texttoolsref20_Fields_K1 H0))) [(0, x0), (5, x5), (6, x6), (8, x8)] H
noncomputable def texttoolsref20_Fields_J4 (x0 x5 x6 x8 : AV) (H0 H : Hp) : Res := CXL cfg (callw cfg) (LPL cfg (cfg.keep 31) 78) (cfg.keep 31) 78 seqL blockL (sub (bodyOf Tryz.f31) [1, 1, 1, 1, 0, 1, 0, 0, 1]) (seqL (fun k al H => LPL cfg (cfg.keep 31) 78 (sub (bodyOf Tryz.f31) [1, 1, 1, 1, 0, 1, 0, 0]) k (trimL (cfg.keep 31) (sub (bodyOf Tryz.f31) [1, 1, 1, 1, 0, 1, 0, 0]) al) H) (blockL 2 (texttoolsref20_Fields_K1 H0))) [(0, x0), (5, x5), (6, x6), (8, x8)] H
noncomputable def texttoolsref20_Fields_L1 (x0 x5 x6 x8 : AV) (H0 H : Hp) : Res := LPL cfg (cfg.keep 31) 78 (sub (bodyOf Tryz.f31) [1, 1, 1, 1, 0, 1, 0, 0]) (blockL 2 (texttoolsref20_Fields_K1 H0)) [(0, x0), (5, x5), (6, x6), (8, x8)] H
noncomputable def texttoolsref20_Fields_J1 (x0 x5 x6 : AV) (H0 H : Hp) : Res := CXL cfg (callw cfg) (LPL cfg (cfg.keep 31) 78) (cfg.keep 31) 78 seqL blockL (sub (bodyOf Tryz.f31) [1, 1, 1, 1]) (retL cfg 78 31 Tryz.f31 H0) [(0, x0), (5, x5), (6, x6)] H
noncomputable def texttoolsref20_Fields_K2 (H0 : Hp) : KL := seqL (fun k al H => CXL cfg (callw cfg) (LPL cfg (cfg.keep 31) 78) (cfg.keep 31) 78 seqL blockL (sub (bodyOf Tryz.f31) [1, 1, 1, 1]) k (trimL (cfg.keep 31) (sub (bodyOf Tryz.f31) [1, 1, 1, 1]) al) H) (retL cfg 78 31 Tryz.f31 H0)
theorem texttoolsref20_Fields_K2_tame (H0 : Hp) : Tame 78 (texttoolsref20_Fields_K2 H0) := tame_seq (C := cfg) (kp := cfg.keep 31) (sub (bodyOf Tryz.f31) [1, 1, 1, 1]) (tame_ret 31 Tryz.f31 H0)
noncomputable def texttoolsref20_Fields_J6 (x0 x5 x6 : AV) (H0 H : Hp) : Res := CXL cfg (callw cfg) (LPL cfg (cfg.keep 31) 78) (cfg.keep 31) 78 seqL blockL (sub (bodyOf Tryz.f31) [1, 1, 1, 0, 1, 0, 1]) (texttoolsref20_Fields_K2 H0) [(0, x0), (5, x5), (6, x6)] H
noncomputable def texttoolsref20_Fields_K3 (H0 : Hp) : KL := seqL (fun k al H => CXL cfg (callw cfg) (LPL cfg (cfg.keep 31) 78) (cfg.keep 31) 78 seqL blockL (sub (bodyOf Tryz.f31) [1, 1, 1, 0, 1, 0, 1]) k (trimL (cfg.keep 31) (sub (bodyOf Tryz.f31) [1, 1, 1, 0, 1, 0, 1]) al) H) (texttoolsref20_Fields_K2 H0)
theorem texttoolsref20_Fields_K3_tame (H0 : Hp) : Tame 78 (texttoolsref20_Fields_K3 H0) := tame_seq (C := cfg) (kp := cfg.keep 31) (sub (bodyOf Tryz.f31) [1, 1, 1, 0, 1, 0, 1]) (texttoolsref20_Fields_K2_tame H0)
noncomputable def texttoolsref20_Fields_J8 (x0 x1 x5 x6 x7 : AV) (H0 H : Hp) : Res := CXL cfg (callw cfg) (LPL cfg (cfg.keep 31) 78) (cfg.keep 31) 78 seqL blockL (sub (bodyOf Tryz.f31) [1, 1, 1, 0, 1, 0, 0, 1, 0, 0, 1, 1]) (seqL (fun k al H => LPL cfg (cfg.keep 31) 78 (sub (bodyOf Tryz.f31) [1, 1, 1, 0, 1, 0, 0, 1, 0, 0]) k (trimL (cfg.keep 31) (sub (bodyOf Tryz.f31) [1, 1, 1, 0, 1, 0, 0, 1, 0, 0]) al) H) (blockL 0 (texttoolsref20_Fields_K3 H0))) [(0, x0), (1, x1), (5, x5), (6, x6), (7, x7)] H
noncomputable def texttoolsref20_Fields_J7 (x0 x1 x5 x6 x7 : AV) (H0 H : Hp) : Res := CXL cfg (callw cfg) (LPL cfg (cfg.keep 31) 78) (cfg.keep 31) 78 seqL blockL (sub (bodyOf Tryz.f31) [1, 1, 1, 0, 1, 0, 0, 1, 0, 0, 1]) (seqL (fun k al H => LPL cfg (cfg.keep 31) 78 (sub (bodyOf Tryz.f31) [1, 1, 1, 0, 1, 0, 0, 1, 0, 0]) k (trimL (cfg.keep 31) (sub (bodyOf Tryz.f31) [1, 1, 1, 0, 1, 0, 0, 1, 0, 0]) al) H) (blockL 0 (texttoolsref20_Fields_K3 H0))) [(0, x0), (1, x1), (5, x5), (6, x6), (7, x7)] H
noncomputable def texttoolsref20_Fields_L2 (x0 x1 x5 x6 x7 : AV) (H0 H : Hp) : Res := LPL cfg (cfg.keep 31) 78 (sub (bodyOf Tryz.f31) [1, 1, 1, 0, 1, 0, 0, 1, 0, 0]) (blockL 0 (texttoolsref20_Fields_K3 H0)) [(0, x0), (1, x1), (5, x5), (6, x6), (7, x7)] H
noncomputable def F_texttoolsref20_Fields (p0 p1 : AV) (H : Hp) : Res :=
  bnd (ibin .geq p1 (.int .i64 0)) fun t10_22 =>
  bnd (gdv t10_22 true (.tuple []) (some p1)) fun t12_23 =>
  bnd (gdv t10_22 true (.tuple []) (ibin .leq t12_23 (.int .i64 255))) fun t13_24 =>
  bnd (apick t10_22 t13_24 (.bool false)) fun t14_25 =>
  cnd t14_25
    (texttoolsref20_Fields_L2 p0 p1 .nils (.int .i64 0) (.int .i64 0) H H)
    (texttoolsref20_Fields_J1 p0 .nils (.int .i64 0) H H)
theorem texttoolsref20_Fields_J3_eq (x5 : AV) (H0 H : Hp) : texttoolsref20_Fields_J3 x5 H0 H =
    some (x5, H) := (CXM_eq [6, 7, 10, 11, 13, 14, 17, 19] _ _ _ _).trans (by kernel_rfl)
theorem texttoolsref20_Fields_J2_eq (x0 x5 x6 : AV) (H0 H : Hp) : texttoolsref20_Fields_J2 x0 x5 x6 H0 H =
    bnd (alenD .string x0) fun t68_1 =>
    bnd (ibin .gtr t68_1 (.int .i64 0)) fun t69_2 =>
    cnd t69_2
      (bnd (alenD .string x0) fun t73_3 =>
      bnd ((afill [(0, 1, x6), (1, 1, t73_3)] [(.int .i64 0), (.int .i64 0)]).map .agg) fun t74_4 =>
      bnd ((setElems 2 [(0, t74_4)] [(.agg [(.int .i64 0), (.int .i64 0)])]).map (.vs 2 .clip)) fun t75_5 =>
      bnd (aappE 2 16 x5 t75_5 H) fun r76_6 =>
      texttoolsref20_Fields_J3 r76_6.1 H0 r76_6.2)
      (texttoolsref20_Fields_J3 x5 H0 H) := (CXM_eq [6, 7, 10, 11, 13, 14, 17, 19] _ _ _ _).trans (by kernel_rfl)
theorem texttoolsref20_Fields_J5_eq (x0 x5 x6 x8 : AV) (H0 H : Hp) : texttoolsref20_Fields_J5 x0 x5 x6 x8 H0 H =
    bnd (ibin .add x8 (.int .i64 1)) fun t47_7 =>
    texttoolsref20_Fields_L1 x0 x5 x6 t47_7 H0 H := (CXM_eq [6, 7, 10, 11, 13, 14, 17, 19] _ _ _ _).trans (by kernel_rfl)
theorem texttoolsref20_Fields_J4_eq (x0 x5 x6 x8 : AV) (H0 H : Hp) : texttoolsref20_Fields_J4 x0 x5 x6 x8 H0 H =
    bnd (aindexStr x0 x8) fun t50_8 =>
    bnd (C_texttoolsref20_blank [t50_8] H) fun r51_9 =>
    bnd (gdv r51_9.1 true (.tuple []) (some x0)) fun t53_10 =>
    bnd (gdv r51_9.1 true (.tuple []) (some x8)) fun t54_11 =>
    bnd (gdv r51_9.1 true (.tuple []) (ibin .sub t54_11 (.int .i64 1))) fun t55_12 =>
    bnd (gdv r51_9.1 true (.tuple []) (aindexStr t53_10 t55_12)) fun t56_13 =>
    bnd (gdv r51_9.1 true ((.tuple []), r51_9.2) (C_texttoolsref20_blank [t56_13] r51_9.2)) fun r57_14 =>
    bnd (gdv r51_9.1 true (.tuple []) (aun .not r57_14.1)) fun t58_15 =>
    bnd (apick r51_9.1 t58_15 (.bool false)) fun t59_16 =>
    cnd t59_16
      (bnd ((afill [(0, 1, x6), (1, 1, x8)] [(.int .i64 0), (.int .i64 0)]).map .agg) fun t63_17 =>
      bnd ((setElems 2 [(0, t63_17)] [(.agg [(.int .i64 0), (.int .i64 0)])]).map (.vs 2 .clip)) fun t64_18 =>
      bnd (aappE 2 16 x5 t64_18 r57_14.2) fun r65_19 =>
      texttoolsref20_Fields_J5 x0 r65_19.1 x8 x8 H0 r65_19.2)
      (texttoolsref20_Fields_J5 x0 x5 x6 x8 H0 r57_14.2) := (CXM_eq [6, 7, 10, 11, 13, 14, 17, 19] _ _ _ _).trans (by kernel_rfl)
theorem texttoolsref20_Fields_L1_eq (x0 x5 x6 x8 : AV) (H0 H : Hp) : texttoolsref20_Fields_L1 x0 x5 x6 x8 H0 H =
    bnd (alenD .string x0) fun t44_20 =>
    bnd (ibin .lss x8 t44_20) fun t45_21 =>
    cnd t45_21
      (texttoolsref20_Fields_J4 x0 x5 x6 x8 H0 H)
      (texttoolsref20_Fields_J2 x0 x5 x6 H0 H) := (LPL_eqm (C := cfg) [6, 7, 10, 11, 13, 14, 17, 19] (tame_block 2 (texttoolsref20_Fields_K1_tame H0)) _ _).trans (by kernel_rfl)
theorem texttoolsref20_Fields_J1_eq (x0 x5 x6 : AV) (H0 H : Hp) : texttoolsref20_Fields_J1 x0 x5 x6 H0 H =
    texttoolsref20_Fields_L1 x0 x5 x6 (.int .i64 1) H0 H := (CXM_eq [6, 7, 10, 11, 13, 14, 17, 19] _ _ _ _).trans (by kernel_rfl)
theorem texttoolsref20_Fields_J6_eq (x0 x5 x6 : AV) (H0 H : Hp) : texttoolsref20_Fields_J6 x0 x5 x6 H0 H =
    bnd (alenD .string x0) fun t38_26 =>
    bnd ((afill [(0, 1, x6), (1, 1, t38_26)] [(.int .i64 0), (.int .i64 0)]).map .agg) fun t39_27 =>
    bnd ((setElems 2 [(0, t39_27)] [(.agg [(.int .i64 0), (.int .i64 0)])]).map (.vs 2 .clip)) fun t40_28 =>
    bnd (aappE 2 16 x5 t40_28 H) fun r41_29 =>
    some (r41_29.1, r41_29.2) := (CXM_eq [6, 7, 10, 11, 13, 14, 17, 19] _ _ _ _).trans (by kernel_rfl)
theorem texttoolsref20_Fields_J8_eq (x0 x1 x5 x6 x7 : AV) (H0 H : Hp) : texttoolsref20_Fields_J8 x0 x1 x5 x6 x7 H0 H =
    bnd (ibin .add x7 (.int .i64 1)) fun t20_30 =>
    texttoolsref20_Fields_L2 x0 x1 x5 x6 t20_30 H0 H := (CXM_eq [6, 7, 10, 11, 13, 14, 17, 19] _ _ _ _).trans (by kernel_rfl)
theorem texttoolsref20_Fields_J7_eq (x0 x1 x5 x6 x7 : AV) (H0 H : Hp) : texttoolsref20_Fields_J7 x0 x1 x5 x6 x7 H0 H =
    bnd (aindexStr x0 x7) fun t23_31 =>
    bnd (cvInt .i64 t23_31) fun t24_32 =>
    bnd (ibin .eql t24_32 x1) fun t26_33 =>
    cnd t26_33
      (bnd ((afill [(0, 1, x6), (1, 1, x7)] [(.int .i64 0), (.int .i64 0)]).map .agg) fun t30_34 =>
      bnd ((setElems 2 [(0, t30_34)] [(.agg [(.int .i64 0), (.int .i64 0)])]).map (.vs 2 .clip)) fun t31_35 =>
      bnd (aappE 2 16 x5 t31_35 H) fun r32_36 =>
      bnd (ibin .add x7 (.int .i64 1)) fun t34_37 =>
      texttoolsref20_Fields_J8 x0 x1 r32_36.1 t34_37 x7 H0 r32_36.2)
      (texttoolsref20_Fields_J8 x0 x1 x5 x6 x7 H0 H) := (CXM_eq [6, 7, 10, 11, 13, 14, 17, 19] _ _ _ _).trans (by kernel_rfl)
theorem texttoolsref20_Fields_L2_eq (x0 x1 x5 x6 x7 : AV) (H0 H : Hp) : texttoolsref20_Fields_L2 x0 x1 x5 x6 x7 H0 H =
    bnd (alenD .string x0) fun t17_38 =>
    bnd (ibin .lss x7 t17_38) fun t18_39 =>
    cnd t18_39
      (texttoolsref20_Fields_J7 x0 x1 x5 x6 x7 H0 H)
      (texttoolsref20_Fields_J6 x0 x5 x6 H0 H) := (LPL_eqm (C := cfg) [6, 7, 10, 11, 13, 14, 17, 19] (tame_block 0 (texttoolsref20_Fields_K3_tame H0)) _ _).trans (by kernel_rfl)
theorem F_texttoolsref20_Fields_eq (p0 p1 : AV) (H : Hp) : C_texttoolsref20_Fields [p0, p1] H = F_texttoolsref20_Fields p0 p1 H := (callw_cxm (C := cfg) (fn := Tryz.f31) (c := bodyOf Tryz.f31) (n := 78) [6, 7, 10, 11, 13, 14, 17, 19] Tryz.func31 (by kernel_rfl) (by kernel_rfl) [p0, p1] (by kernel_rfl) H).trans (by kernel_rfl)

/-! ### texttoolsref20_most -/
noncomputable def texttoolsref20_most_J1 (x1 : AV) (H0 H : Hp) : Res := CXL cfg (callw cfg) (LPL cfg (cfg.keep 32) 10) (cfg.keep 32) 10 seqL blockL (sub (bodyOf Tryz.f32) [1, 1]) (retL cfg 10 32 Tryz.f32 H0) [(1, x1)] H
noncomputable def F_texttoolsref20_most (p0 p1 : AV) (H : Hp) : Res :=
  bnd (ibin .gtr p0 p1) fun t7_1 =>
  cnd t7_1
    (some (p0, H))
    (texttoolsref20_most_J1 p1 H H)
theorem texttoolsref20_most_J1_eq (x1 : AV) (H0 H : Hp) : texttoolsref20_most_J1 x1 H0 H =
    some (x1, H) := (CXM_eq [3] _ _ _ _).trans (by kernel_rfl)
theorem F_texttoolsref20_most_eq (p0 p1 : AV) (H : Hp) : C_texttoolsref20_most [p0, p1] H = F_texttoolsref20_most p0 p1 H := (callw_cxm (C := cfg) (fn := Tryz.f32) (c := bodyOf Tryz.f32) (n := 10) [3] Tryz.func32 (by kernel_rfl) (by kernel_rfl) [p0, p1] (by kernel_rfl) H).trans (by kernel_rfl)

/-! ### texttoolsref20_least -/
noncomputable def texttoolsref20_least_J1 (x1 : AV) (H0 H : Hp) : Res := CXL cfg (callw cfg) (LPL cfg (cfg.keep 33) 10) (cfg.keep 33) 10 seqL blockL (sub (bodyOf Tryz.f33) [1, 1]) (retL cfg 10 33 Tryz.f33 H0) [(1, x1)] H
noncomputable def F_texttoolsref20_least (p0 p1 : AV) (H : Hp) : Res :=
  bnd (ibin .lss p0 p1) fun t7_1 =>
  cnd t7_1
    (some (p0, H))
    (texttoolsref20_least_J1 p1 H H)
theorem texttoolsref20_least_J1_eq (x1 : AV) (H0 H : Hp) : texttoolsref20_least_J1 x1 H0 H =
    some (x1, H) := (CXM_eq [3] _ _ _ _).trans (by kernel_rfl)
theorem F_texttoolsref20_least_eq (p0 p1 : AV) (H : Hp) : C_texttoolsref20_least [p0, p1] H = F_texttoolsref20_least p0 p1 H := (callw_cxm (C := cfg) (fn := Tryz.f33) (c := bodyOf Tryz.f33) (n := 10) [3] Tryz.func33 (by kernel_rfl) (by kernel_rfl) [p0, p1] (by kernel_rfl) H).trans (by kernel_rfl)

/-! ### strings_IndexByte -/
noncomputable def F_strings_IndexByte (p0 p1 : AV) (H : Hp) : Res :=
  bnd (C_internal_stringslite_IndexByte [p0, p1] H) fun r7_1 =>
  some (r7_1.1, r7_1.2)
theorem F_strings_IndexByte_eq (p0 p1 : AV) (H : Hp) : C_strings_IndexByte [p0, p1] H = F_strings_IndexByte p0 p1 H := (callw_cxm (C := cfg) (fn := Tryz.f52) (c := bodyOf Tryz.f52) (n := 8) [] Tryz.func52 (by kernel_rfl) (by kernel_rfl) [p0, p1] (by kernel_rfl) H).trans (by kernel_rfl)

/-! ### sortkey_blank -/
noncomputable def F_sortkey_blank (p0 : AV) (H : Hp) : Res :=
  bnd (ibin .eql p0 (.int .u8 32)) fun t4_1 =>
  bnd (gdv t4_1 false (.tuple []) (some p0)) fun t6_2 =>
  bnd (gdv t4_1 false (.tuple []) (ibin .eql t6_2 (.int .u8 9))) fun t7_3 =>
  bnd (apick t4_1 (.bool true) t7_3) fun t8_4 =>
  some (t8_4, H)
theorem F_sortkey_blank_eq (p0 : AV) (H : Hp) : C_sortkey_blank [p0] H = F_sortkey_blank p0 H := (callw_cxm (C := cfg) (fn := Tryz.f53) (c := bodyOf Tryz.f53) (n := 9) [] Tryz.func53 (by kernel_rfl) (by kernel_rfl) [p0] (by kernel_rfl) H).trans (by kernel_rfl)

/-! ### texttoolsref20_blank -/
noncomputable def F_texttoolsref20_blank (p0 : AV) (H : Hp) : Res :=
  bnd (ibin .eql p0 (.int .u8 32)) fun t4_1 =>
  bnd (gdv t4_1 false (.tuple []) (some p0)) fun t6_2 =>
  bnd (gdv t4_1 false (.tuple []) (ibin .eql t6_2 (.int .u8 9))) fun t7_3 =>
  bnd (apick t4_1 (.bool true) t7_3) fun t8_4 =>
  some (t8_4, H)
theorem F_texttoolsref20_blank_eq (p0 : AV) (H : Hp) : C_texttoolsref20_blank [p0] H = F_texttoolsref20_blank p0 H := (callw_cxm (C := cfg) (fn := Tryz.f54) (c := bodyOf Tryz.f54) (n := 9) [] Tryz.func54 (by kernel_rfl) (by kernel_rfl) [p0] (by kernel_rfl) H).trans (by kernel_rfl)

/-! ### internal_stringslite_IndexByte -/
noncomputable def F_internal_stringslite_IndexByte (p0 p1 : AV) (H : Hp) : Res :=
  bnd (extC .indexByte [p0, p1] H) fun r7_1 =>
  some (r7_1.1, r7_1.2)
theorem F_internal_stringslite_IndexByte_eq (p0 p1 : AV) (H : Hp) : C_internal_stringslite_IndexByte [p0, p1] H = F_internal_stringslite_IndexByte p0 p1 H := (callw_cxm (C := cfg) (fn := Tryz.f80) (c := bodyOf Tryz.f80) (n := 8) [] Tryz.func80 (by kernel_rfl) (by kernel_rfl) [p0, p1] (by kernel_rfl) H).trans (by kernel_rfl)

theorem V_sortkey_reader_key (a b args : List AV) (H : Hp) : acall cfg (callw cfg) (.fn (.func 48) a b) args H = C_sortkey_reader_key (a ++ args ++ b) H := by kernel_rfl
theorem V_sortkey_reader_separator (a b args : List AV) (H : Hp) : acall cfg (callw cfg) (.fn (.func 49) a b) args H = C_sortkey_reader_separator (a ++ args ++ b) H := by kernel_rfl
theorem V_sortkey_parts_1 (a b args : List AV) (H : Hp) : acall cfg (callw cfg) (.fn (.func 57) a b) args H = C_sortkey_parts_1 (a ++ args ++ b) H := by kernel_rfl
theorem V_sortkey_parts_2 (a b args : List AV) (H : Hp) : acall cfg (callw cfg) (.fn (.func 58) a b) args H = C_sortkey_parts_2 (a ++ args ++ b) H := by kernel_rfl
theorem V_sortkey_dict (a b args : List AV) (H : Hp) : acall cfg (callw cfg) (.fn (.func 60) a b) args H = C_sortkey_dict (a ++ args ++ b) H := by kernel_rfl
theorem V_sortkey_parts_3 (a b args : List AV) (H : Hp) : acall cfg (callw cfg) (.fn (.func 61) a b) args H = C_sortkey_parts_3 (a ++ args ++ b) H := by kernel_rfl
theorem V_locale_Compare_1 (a b args : List AV) (H : Hp) : acall cfg (callw cfg) (.fn (.func 66) a b) args H = C_locale_Compare_1 (a ++ args ++ b) H := by kernel_rfl
theorem V_locale_Compare_1_1 (a b args : List AV) (H : Hp) : acall cfg (callw cfg) (.fn (.func 68) a b) args H = C_locale_Compare_1_1 (a ++ args ++ b) H := by kernel_rfl
theorem user_ok : ∀ f ∈ userList, UserOk Tryz.prog f :=
  userOk_cons Tryz.call3 (
  userOk_cons Tryz.call4 (
  userOk_cons Tryz.call5 (
  userOk_cons Tryz.call6 (
  userOk_cons Tryz.call7 (
  userOk_cons Tryz.call8 (
  userOk_cons Tryz.call9 (
  userOk_cons Tryz.call10 (
  userOk_cons Tryz.call11 (
  userOk_cons Tryz.call12 (
  userOk_cons Tryz.call13 (
  userOk_cons Tryz.call14 (
  userOk_cons Tryz.call15 (
  userOk_cons Tryz.call16 (
  userOk_cons Tryz.call17 (
  userOk_cons Tryz.call18 (
  userOk_cons Tryz.call19 (
  userOk_cons Tryz.call20 (
  userOk_cons Tryz.call21 (
  userOk_cons Tryz.call22 (
  userOk_cons Tryz.call23 (
  userOk_cons Tryz.call24 (
  userOk_cons Tryz.call25 (
  userOk_cons Tryz.call26 (
  userOk_cons Tryz.call27 (
  userOk_cons Tryz.call28 (
  userOk_cons Tryz.call29 (
  userOk_cons Tryz.call30 (
  userOk_cons Tryz.call31 (
  userOk_cons Tryz.call32 (
  userOk_cons Tryz.call33 (
  userOk_cons Tryz.call34 (
  userOk_cons Tryz.call35 (
  userOk_cons Tryz.call36 (
  userOk_cons Tryz.call37 (
  userOk_cons Tryz.call38 (
  userOk_cons Tryz.call39 (
  userOk_cons Tryz.call40 (
  userOk_cons Tryz.call41 (
  userOk_cons Tryz.call42 (
  userOk_cons Tryz.call43 (
  userOk_cons Tryz.call44 (
  userOk_cons Tryz.call45 (
  userOk_cons Tryz.call46 (
  userOk_cons Tryz.call47 (
  userOk_cons Tryz.call48 (
  userOk_cons Tryz.call49 (
  userOk_cons Tryz.call50 (
  userOk_cons Tryz.call51 (
  userOk_cons Tryz.call52 (
  userOk_cons Tryz.call53 (
  userOk_cons Tryz.call54 (
  userOk_cons Tryz.call55 (
  userOk_cons Tryz.call56 (
  userOk_cons Tryz.call57 (
  userOk_cons Tryz.call58 (
  userOk_cons Tryz.call59 (
  userOk_cons Tryz.call60 (
  userOk_cons Tryz.call61 (
  userOk_cons Tryz.call62 (
  userOk_cons Tryz.call63 (
  userOk_cons Tryz.call64 (
  userOk_cons Tryz.call65 (
  userOk_cons Tryz.call66 (
  userOk_cons Tryz.call67 (
  userOk_cons Tryz.call68 (
  userOk_cons Tryz.call69 (
  userOk_cons Tryz.call70 (
  userOk_cons Tryz.call71 (
  userOk_cons Tryz.call72 (
  userOk_cons Tryz.call73 (
  userOk_cons Tryz.call74 (
  userOk_cons Tryz.call75 (
  userOk_cons Tryz.call76 (
  userOk_cons Tryz.call77 (
  userOk_cons Tryz.call78 (
  userOk_cons Tryz.call79 (
  userOk_cons Tryz.call80 (
  userOk_cons Tryz.call81 (
  userOk_cons Tryz.call82 (
  userOk_cons Tryz.call83 (
  userOk_cons Tryz.call84 (
  userOk_cons Tryz.call85 (
  userOk_cons Tryz.call86 (
  userOk_cons Tryz.call87 (
  userOk_cons Tryz.call88 (
  userOk_cons Tryz.call89 (
  userOk_cons Tryz.call90 (
  userOk_cons Tryz.call91 (
  userOk_cons Tryz.call92 (
  userOk_cons Tryz.call93 (
  userOk_cons Tryz.call94 (
  userOk_cons Tryz.call95 (
  userOk_cons Tryz.call96 (
  userOk_cons Tryz.call97 (
  userOk_cons Tryz.call98 (
  userOk_cons Tryz.call99 (
  userOk_cons Tryz.call100 (
  userOk_cons Tryz.call101 (
  userOk_cons Tryz.call102 (
  userOk_cons Tryz.call104 (
  userOk_cons Tryz.call105 (
  userOk_cons Tryz.call106 (
  userOk_cons Tryz.call107 (
  userOk_cons Tryz.call108 (
  userOk_cons Tryz.call109 (
  userOk_cons Tryz.call110 (
  userOk_cons Tryz.call111 (
  userOk_cons Tryz.call112 (
  userOk_cons Tryz.call113 (
  userOk_cons Tryz.call114 (
  userOk_cons Tryz.call115 (
  userOk_cons Tryz.call117 (
  userOk_cons Tryz.call118 (
  userOk_cons Tryz.call119 (
  userOk_cons Tryz.call120 (
  userOk_cons Tryz.call121 (
  userOk_cons Tryz.call122 (
  userOk_cons Tryz.call123 (
  userOk_cons Tryz.call124 (
  userOk_cons Tryz.call125 (
  userOk_cons Tryz.call126 (
  userOk_cons Tryz.call128 (
  userOk_cons Tryz.call129 (
  userOk_cons Tryz.call130 (
  userOk_cons Tryz.call131 (
  userOk_cons Tryz.call132 (
  userOk_cons Tryz.call133 (
  userOk_cons Tryz.call134 (
  userOk_cons Tryz.call136 (
  userOk_cons Tryz.call137 (
  userOk_cons Tryz.call138 (
  userOk_cons Tryz.call139 (
  userOk_cons Tryz.call140 (
  userOk_cons Tryz.call141 (
  userOk_cons Tryz.call142 (
  userOk_cons Tryz.call143 (
  userOk_cons Tryz.call144 (
  userOk_cons Tryz.call145 (
  userOk_cons Tryz.call146 (
  userOk_cons Tryz.call147 (
  userOk_cons Tryz.call148 (
  userOk_cons Tryz.call149 (
  userOk_cons Tryz.call150 (
  userOk_cons Tryz.call151 (
  userOk_cons Tryz.call152 (
  userOk_cons Tryz.call153 (
  userOk_cons Tryz.call154 (
  userOk_cons Tryz.call155 (
  userOk_cons Tryz.call156 (
  userOk_cons Tryz.call157 (
  userOk_cons Tryz.call158 (
  userOk_cons Tryz.call159 (
  userOk_cons Tryz.call160 (
  userOk_cons Tryz.call161 (userOk_nil)))))))))))))))))))))))))))))))))))))))))))))))))))))))))))))))))))))))))))))))))))))))))))))))))))))))))))))))))))))))))))))))))))))))))))))))))))))))))))
theorem eq_ok : ∀ t ∈ eqList, Tryz.prog.stoodInHeld t = false ∧ Tryz.prog.eqGuardType Tryz.prog.depth t = false := by
  intro t ht
  simp only [eqList, List.mem_cons, List.not_mem_nil, or_false] at ht
  rcases ht with rfl
  · exact ⟨Tryz.stoodInHeld34, Tryz.eqGuardType34⟩
theorem ext103_ok (args : Array Value) (w : World) : (callFunc 103 args).run Tryz.prog w = (do pure (.value (← extF .indexByte args)) : Sem Next).run Tryz.prog w := by kernel_rfl
theorem ext116_ok (args : Array Value) (w : World) : (callFunc 116 args).run Tryz.prog w = (do pure (.value (← extF .cmp args)) : Sem Next).run Tryz.prog w := by kernel_rfl
theorem ext127_ok (args : Array Value) (w : World) : (callFunc 127 args).run Tryz.prog w = (do pure (.value (← extF .same args)) : Sem Next).run Tryz.prog w := by kernel_rfl
theorem ext_ok : ∀ f e, cfg.ext f = some e → ∀ (args : Array Value) (w : World), (callFunc f args).run Tryz.prog w = (do pure (.value (← extF e args)) : Sem Next).run Tryz.prog w := by
  intro f e h
  have h2 := lookup_mem (l := extList) h
  simp only [extList, List.mem_cons, Prod.mk.injEq, List.not_mem_nil, or_false] at h2
  rcases h2 with ⟨rfl, rfl⟩ | ⟨rfl, rfl⟩ | ⟨rfl, rfl⟩
  · exact ext103_ok
  · exact ext116_ok
  · exact ext127_ok
theorem sum_ok : ∀ f g, cfg.sum f = some g → cfg.user f = true ∧ SumOk cfg f g := by
  intro f g h
  have h2 := lookup_mem (l := sumList) h
  simp only [sumList, List.mem_cons, Prod.mk.injEq, List.not_mem_nil, or_false] at h2
  rcases h2 with ⟨rfl, rfl⟩ | ⟨rfl, rfl⟩
  · exact ⟨by kernel_rfl, itoaA_ok (C := cfg) rfl (fun _ => rfl)⟩
  · exact ⟨by kernel_rfl, atoiA_ok (C := cfg) rfl (fun _ => rfl)⟩
theorem cfg_ok : okCfg cfg :=
  ⟨fun t h => eq_ok t (List.contains_iff_mem.1 h), fun f h => user_ok f (List.contains_iff_mem.1 h), by kernel_rfl, ext_ok, sum_ok⟩
end Go.Am
