/-
  The functions of the translation over the abstract machine: written by program (wip/gen.py).
-/
import Derived.Test.YtehanadfidoodaaGreatDoorProg
import Derived.Test.YtehanadfidoodaaGreatDoorNkPx
namespace Go.Am
open Go.Proofs
set_option maxRecDepth 100000
set_option linter.unusedVariables false
set_option linter.unusedSimpArgs false

def keepList : List (Nat × List (Nat × List Nat)) := [(3, [(3, [2, 3, 4])]),
  (4, [(4, [5, 6]), (5, [5, 6, 7]), (6, [5, 6, 7]), (7, [5, 6, 7]), (9, [])]),
  (5, [(4, [0, 1, 5, 6, 7]), (5, [0, 1, 5, 6, 7]), (6, [0, 1, 5, 6, 7]), (8, [0, 1, 5, 6, 7]), (10, [0, 1, 5, 6, 7]), (11, [0, 6])]),
  (6, [(3, [1, 2]), (4, [1, 2, 5]), (5, [1, 2, 5]), (6, [1, 2, 5]), (8, [1, 2]), (11, [1, 2, 6]), (14, [1, 2, 6, 8]), (16, [1, 2, 9, 10]), (17, [1, 2, 9, 10]), (20, [1, 2, 9, 10, 11, 12]), (21, [1, 2, 9, 10, 11]), (22, [1, 2, 9, 10])]),
  (7, [(3, [0, 1, 2]), (4, [0, 1, 2, 7]), (5, [0, 1, 2, 7]), (6, [0, 1, 2, 7]), (8, [0, 1, 2]), (12, [0, 1, 2, 8, 9]), (15, [0, 1, 2, 8, 9, 11]), (17, [0, 1, 2, 8, 12, 13, 14]), (18, [0, 1, 2, 8, 12, 13, 14]), (19, [0, 1, 2, 8, 12, 13, 14]), (24, [0, 1, 2, 8, 12, 13, 14]), (25, [0, 1, 2, 8, 12, 13, 14]), (27, [0, 1, 2, 8, 12, 13, 14, 18, 19, 20]), (31, [])]),
  (8, [(3, [0, 1]), (6, [5, 6]), (7, [5, 6, 7]), (8, [5, 6, 7]), (9, [5, 6, 7]), (11, [5, 6, 7]), (12, [5, 6, 7, 8]), (13, [5, 6, 7, 8]), (14, [5, 6, 7, 8]), (16, [])]),
  (9, [(3, [0, 1]), (6, [0, 1, 5, 6, 7]), (7, [0, 1, 5, 6, 7]), (8, [0, 1, 5, 6, 7]), (9, [0, 1, 5, 6, 7, 8]), (10, [0, 1, 5, 6, 7, 8]), (11, [0, 1, 5, 6, 7, 8]), (13, [0, 1, 5, 6, 7, 8]), (14, [0, 1, 5, 6, 7]), (16, [0, 6])]),
  (10, [(3, [2, 3, 4]), (1000004, [3, 4])]),
  (11, [(3, [2, 3, 4]), (6, [2, 3, 4, 7, 8]), (1000006, [3, 4])]),
  (13, [(3, [2, 3, 4]), (11, [3, 4, 7, 8, 15]), (19, [22, 23, 24, 25, 27, 28, 29]), (1000005, [3, 4]), (1000007, [3, 4]), (1000008, [3, 4])]),
  (14, [(3, [2, 3, 4]), (8, [2, 3, 7, 8, 9, 10, 11, 12, 13, 14]), (9, [2, 3, 7, 8, 9, 10, 11, 12, 13, 14]), (10, [2, 3, 7, 8, 9, 10, 11, 12, 13, 14]), (11, [2, 3, 7, 8, 9, 10, 11, 12, 13]), (13, [2, 3, 7, 8, 11, 13]), (1000016, [3, 15]), (1000017, [3, 15])]),
  (15, [(3, [2]), (4, [2, 7]), (5, [2, 7]), (6, [2, 7]), (8, [])]),
  (16, [(3, [0, 3, 4]), (4, [0, 3, 4]), (5, [0, 3, 4]), (6, [3])]),
  (18, [(3, [0, 1]), (4, [0, 1, 5]), (5, [0, 1, 5]), (6, [0, 1, 5]), (8, [])]),
  (19, [(3, [2, 3, 4]), (7, [3, 4, 7, 8, 9, 10]), (8, [3, 4, 7, 8, 9]), (9, [3, 4, 7, 8, 9, 10]), (11, [3, 4, 9]), (13, [9]), (1000003, [3, 4])]),
  (20, [(4, [2, 7, 8]), (5, [2, 7, 8]), (6, [2, 7, 8]), (7, [7]), (8, [2, 3, 4, 7]), (9, [2, 3, 4, 7, 9]), (11, [2, 3, 4, 7, 9, 10, 11]), (12, [2, 3, 4, 7, 9, 10, 11]), (13, [2, 3, 4, 7, 9, 10, 11]), (15, [2, 3, 4, 7, 9, 10]), (17, [2, 3, 4, 7, 9, 10])]),
  (21, [(5, [1, 5, 6, 7, 8, 15, 16, 17]), (6, [1, 5, 6, 7, 8, 15, 16, 17, 18]), (11, [1, 5, 6, 7, 8, 11, 15, 16, 17]), (12, [1, 5, 6, 7, 8, 15, 16, 17]), (13, [5, 6, 7]), (16, [6])]),
  (22, [(4, [0, 1, 5, 6, 7]), (5, [0, 1, 5, 6, 7]), (6, [0, 1, 5, 6, 7]), (15, [5])]),
  (23, [(3, [0, 1]), (4, [0, 1, 5]), (5, [0, 1, 5]), (6, [0, 1, 5]), (8, [])]),
  (24, [(9, [7, 8, 9, 10, 11, 12])]),
  (25, [(3, [0, 3, 4]), (4, [0, 3, 4]), (5, [0, 3, 4]), (6, [3])]),
  (26, [(3, [0, 3, 4]), (4, [0, 3, 4]), (5, [0, 3, 4]), (7, [0, 3, 4]), (8, [3])]),
  (28, [(3, [0, 1, 2]), (5, [0, 1, 2]), (6, [0, 1, 2, 18, 19, 20]), (7, [0, 1, 2, 18, 19, 20, 21]), (11, [0, 1, 2, 18, 19, 20]), (12, [0, 1, 2])]),
  (30, [(3, [0, 3, 5, 6]), (6, [0, 3, 5, 6, 10]), (9, [0, 10]), (12, [10])]),
  (31, [(4, [0, 1, 2, 3, 4]), (5, [0, 1, 2, 3, 4]), (6, [0, 1, 2, 3, 4]), (9, [0, 1, 2, 3, 4, 5, 6]), (11, [0, 1, 2, 3, 4, 5, 6]), (14, [0, 1, 2, 3])]),
  (32, [(3, [0, 1])]),
  (33, [(4, [5, 6, 7])]),
  (34, [(3, [2, 3, 4]), (6, [7]), (1000003, [3, 4])]),
  (36, [(3, [0]), (11, [0]), (13, [0])]),
  (37, [(1, [0, 1]), (3, [0, 1, 18, 19, 20]), (4, [0, 1, 18, 19, 20, 21]), (10, [0, 1, 18, 19, 20])]),
  (38, [(1000003, [1, 2])]),
  (39, [(4, [1, 5, 12, 13]), (5, [1, 5, 12, 13, 14]), (8, [1, 5, 6, 12, 13]), (10, [1, 5, 12, 13]), (11, [5])]),
  (40, [(3, [0, 1]), (5, [0, 1]), (7, [0, 1, 5, 6]), (8, [0, 1, 5, 6]), (10, [0, 1, 5, 6, 7, 8]), (11, [0, 1, 5, 6, 7, 8]), (12, [0, 1, 5, 6, 7, 8]), (14, [0, 1, 5, 6, 7]), (15, [5])]),
  (41, [(2, [0, 3]), (3, [0, 3]), (4, [0, 3]), (5, [0, 3, 4]), (6, [0, 3, 4]), (7, [0, 3, 4]), (9, [0, 3]), (11, [0])]),
  (42, [(4, [2, 3, 4, 5, 11, 12, 13, 14]), (5, [2, 3, 4, 5, 11, 12, 13, 14]), (6, [2, 3, 4, 5, 11, 13, 14]), (12, [2, 3, 4, 5, 11, 12, 13, 14, 15]), (14, [2, 3, 4, 5, 11, 12, 13, 14, 15]), (15, [11, 12, 13])]),
  (43, [(3, [0, 1, 6, 7]), (4, [0, 1, 6, 7]), (5, [0, 1, 6, 7]), (8, [0, 1, 6, 7, 8, 9]), (11, [0, 1, 6, 7, 8]), (12, [6])]),
  (44, [(1000002, [4])]),
  (45, [(3, [0, 1, 5, 6]), (4, [0, 1, 5, 6]), (5, [0, 1, 5, 6]), (6, [5])]),
  (46, [(3, [0, 3, 4]), (4, [0, 3, 4]), (5, [0, 3, 4]), (6, [3])]),
  (47, [(3, [0, 1]), (4, [0, 1, 5]), (5, [0, 1, 5]), (6, [0, 1, 5]), (8, [])]),
  (53, [(3, [0]), (5, [0, 3, 10, 11, 12]), (6, [0, 3, 10, 11, 12, 13]), (9, [0, 3, 10, 11, 12]), (10, [3])]),
  (58, [(3, [0]), (5, [0]), (6, [0]), (10, [0, 3]), (11, [0])]),
  (59, [(3, [0]), (6, [0, 5]), (7, [0, 5])]),
  (60, [(3, [0, 3, 5, 6]), (6, [0, 3, 5, 6, 10]), (8, [0, 5, 6, 10, 12, 31, 32, 33]), (9, [0, 5, 6, 10, 12, 31, 32, 33, 34]), (11, [0, 5, 6, 10, 12, 31, 32, 33]), (12, [0, 5, 6, 10, 12]), (13, [0, 10, 15]), (16, [0, 10, 15, 16, 17]), (17, [0, 10, 15, 16]), (20, [0, 10]), (23, [10])]),
  (61, [(3, [0])]),
  (63, [(3, [2, 3, 4]), (4, [2, 3, 4, 7]), (5, [2, 3, 4, 7]), (6, [2, 3, 4, 7]), (9, [])]),
  (64, [(3, [1]), (5, [1]), (6, [33, 34, 35]), (7, [33, 34, 35, 36]), (10, [33, 34, 35]), (11, [])]),
  (65, [(3, [0, 3, 9, 10, 11]), (4, [0, 3, 9, 10, 11, 12]), (8, [0, 3, 9, 10, 11]), (9, [0, 3]), (11, [6, 25, 26, 27]), (12, [6, 25, 26, 27, 28]), (14, [6, 25, 26, 27]), (15, [6])]),
  (67, [(5, [2, 3, 4, 5]), (8, [9])]),
  (68, [(3, [0])]),
  (69, [(3, [0, 1, 5, 8, 9, 10]), (4, [0, 1, 5, 8, 9, 10, 11]), (7, [0, 1, 5, 8, 9, 10]), (8, [5])]),
  (70, [(3, [1, 5, 8, 9, 10]), (4, [1, 5, 8, 9, 10, 11]), (7, [1, 5, 8, 9, 10]), (8, [5])]),
  (72, [(4, [2, 3, 4, 5]), (5, [2, 3, 4, 5, 26, 27, 28]), (6, [2, 3, 4, 5, 26, 27, 28, 29]), (10, [2, 3, 4, 5, 10, 11, 26, 27, 28]), (13, [2, 3, 4, 5, 26, 27, 28]), (14, []), (1000010, [4, 5, 10])]),
  (73, [(3, [1]), (5, [1]), (6, [1, 3]), (7, [1, 3]), (8, [1, 3]), (10, [])]),
  (74, [(5, [2, 3, 4, 5]), (8, [9])]),
  (75, [(3, [2, 3, 4, 7, 8]), (4, [2, 3, 4, 7, 8]), (5, [2, 3, 4, 7, 8]), (7, [7])]),
  (76, [(3, [0])]),
  (77, [(2, [0, 7, 8]), (3, [0, 7, 8, 9]), (8, [0, 7, 8]), (9, [0])]),
  (78, [(4, [0, 1, 5]), (6, [5, 6, 21, 22, 23]), (7, [5, 6, 21, 22, 23, 24]), (11, [5, 6, 21, 22, 23]), (12, [5])]),
  (79, [(4, [6])]),
  (80, [(3, [0]), (5, [0]), (9, [0, 4])]),
  (81, [(4, [0, 1, 2]), (6, [0, 1, 2]), (9, [0, 1, 8]), (11, [0, 1, 8])]),
  (82, [(4, [0, 1]), (7, [0, 1])]),
  (83, [(3, [0, 1]), (6, [1, 6, 7, 8]), (7, [1, 6, 7, 8]), (12, [6, 7, 8])]),
  (86, [(4, [0, 1, 2]), (7, [2, 10]), (9, [2, 10]), (12, [2, 12, 13])]),
  (94, [(4, [2, 3, 4, 7]), (5, [2, 3, 4, 7, 8]), (6, [2, 3, 4, 7, 8]), (7, [2, 3, 4, 7, 8]), (8, [3, 4, 7])]),
  (102, [(5, [1, 5, 6, 7, 20, 21, 22]), (6, [1, 5, 6, 7, 20, 21, 22, 23]), (10, [1, 5, 6, 7, 8, 10, 11, 20, 21, 22]), (12, [1, 5, 6, 7, 20, 21, 22]), (13, [1, 5, 7]), (15, [1, 5]), (18, [13])]),
  (103, [(3, [0, 3, 10, 11, 12]), (4, [0, 3, 10, 11, 12, 13]), (7, [0, 3, 10, 11, 12]), (8, [3])]),
  (104, [(3, [0, 1]), (6, [0])]),
  (105, [(3, [1, 2])]),
  (106, [(5, [1, 2, 8, 9, 24, 25]), (6, [1, 2, 8, 9, 24, 25, 26]), (9, [1, 2, 8, 9, 10, 24, 25]), (11, [1, 2, 8, 9, 24, 25]), (12, [1, 2, 8, 9]), (14, [1, 2, 8, 9]), (16, [1, 2]), (1000002, [3])]),
  (107, [(4, [4, 5, 6, 7, 9]), (8, [4, 5, 6, 7, 9]), (1000011, [4])]),
  (108, [(4, [0, 2, 4, 7, 8]), (12, [0, 7, 10]), (14, [0, 7, 10])]),
  (109, [(3, [1])]),
  (110, [(3, [1, 2])]),
  (111, [(4, [2, 3, 4, 5]), (5, [2, 3, 4, 5, 9]), (6, [2, 3, 4, 5, 9]), (7, [2, 3, 4, 5, 9]), (10, [2, 3, 4, 5, 9, 10]), (13, []), (1000010, [4, 5, 10])]),
  (112, [(5, [1, 2])]),
  (115, [(2, [0, 5, 6]), (3, [0, 5, 6, 7]), (6, [0, 5, 6]), (7, [0])]),
  (116, [(3, [0, 1]), (5, [0, 1]), (8, [6])]),
  (119, [(11, [0, 1]), (13, [0, 1])]),
  (120, [(7, [])]),
  (121, [(3, [4, 9, 10, 11]), (4, [4, 9, 10, 11, 12]), (8, [4, 7, 9, 10, 11]), (9, [4, 9, 10, 11]), (10, [4])]),
  (122, [(4, [0, 2, 7]), (6, [0, 2, 7])]),
  (123, [(4, [6])]),
  (124, [(4, [2, 3, 10]), (6, [2, 3, 10])]),
  (125, [(3, [0, 1]), (6, [1, 7]), (9, [1, 7, 8]), (11, [1, 7, 8]), (13, [1, 7, 8])]),
  (127, [(3, [0]), (4, [0, 3]), (5, [0, 3]), (6, [0, 3]), (9, [])]),
  (138, [(2, [2, 3, 4, 5, 9]), (3, [2, 3, 4, 5, 9]), (4, [2, 3, 9])]),
  (142, [(4, [0, 1, 5]), (5, [0, 1, 5, 6]), (6, [0, 1, 5, 6]), (7, [0, 1, 5, 6]), (11, [0, 5])]),
  (147, [(3, [1, 2])]),
  (149, [(3, [1, 2, 3, 6, 16, 17, 18]), (4, [1, 2, 3, 6, 16, 17, 18, 19]), (6, [1, 2, 3, 6, 16, 17, 18]), (7, [1, 2, 3, 6]), (8, [1, 2, 3, 6, 9]), (9, [1, 2, 3, 6, 9]), (14, [1, 2, 3, 6, 9, 10, 11]), (15, [1, 2, 3, 6, 9, 10])]),
  (152, [(2, [0, 4]), (3, [0, 4]), (4, [0, 4]), (7, [0, 4, 5]), (14, [5, 6, 7, 8, 9]), (16, [5, 7, 8, 9]), (19, [9, 11])]),
  (153, [(5, [])]),
  (157, [(3, [0, 3, 7, 8]), (4, [0, 3, 7, 8, 9]), (8, [0, 3, 7, 8]), (9, [3])]),
  (160, [(3, [0, 1, 2, 6, 9]), (4, [0, 1, 2, 6, 9]), (7, [0, 1, 2, 6, 9, 10]), (9, [0, 1, 2, 6, 9, 10]), (10, [0, 1, 6]), (11, [0, 1, 6, 11]), (12, [0, 1, 6, 11]), (13, [0, 1, 6, 11]), (14, [0, 1, 6, 7, 11]), (15, [0, 1, 6, 7, 11]), (16, [0, 1, 6, 7, 11]), (17, [0, 1, 6, 7, 11]), (18, [0, 1, 6, 7, 11]), (20, [0, 1, 7, 11]), (21, [])]),
  (161, [(5, [3, 9]), (7, [9])]),
  (162, [(5, [0, 4, 7, 8, 9]), (12, [0, 11, 12]), (14, [0, 11, 12]), (1000002, [4]), (1000006, [10]), (1000011, [13])]),
  (163, [(3, [1, 2])]),
  (164, [(2, [0, 1, 5]), (3, [0, 1, 5]), (4, [0, 1, 5]), (6, [0, 1, 5]), (8, [0, 1]), (10, [0, 1]), (12, [])]),
  (165, [(3, [1, 2, 5, 6]), (4, [1, 2, 5, 6]), (10, [5])]),
  (166, [(3, [0, 1, 5, 6, 7]), (4, [0, 1, 5, 6, 7]), (5, [0, 1, 5, 6, 7]), (6, [1, 5, 6]), (7, [1, 5, 6, 8]), (8, [1, 5, 6, 8]), (9, [1, 5, 6, 8]), (10, [5, 6])]),
  (167, [(6, [0])]),
  (169, [(2, [0, 7, 8]), (3, [0, 7, 8, 9]), (8, [0, 7, 8]), (9, [0])]),
  (170, [(3, [0])]),
  (184, [(2, [0, 1, 7, 8]), (3, [0, 1, 7, 8, 9]), (6, [0, 1, 7, 8]), (7, [])]),
  (185, [(2, [0, 1, 7, 8]), (3, [0, 1, 7, 8, 9]), (6, [0, 1, 7, 8]), (7, [])]),
  (186, [(3, [1]), (5, [1]), (6, [1, 27, 28, 29]), (7, [1, 27, 28, 29, 30]), (10, [1, 27, 28, 29]), (11, [1]), (14, [1])]),
  (187, [(3, [0, 1, 5, 6]), (4, [0, 1, 5, 6, 7]), (6, [0, 1, 5, 6]), (7, [0, 1])]),
  (189, [(2, [0, 3]), (3, [0, 3]), (4, [3])]),
  (190, [(3, [0, 1, 5, 8, 9]), (4, [0, 1, 5, 8, 9, 10]), (8, [0, 1, 5, 8, 9]), (9, [1, 5])]),
  (197, [(3, [0, 5, 10, 11]), (4, [0, 5, 10, 11, 12]), (6, [0, 5, 10, 11]), (7, [5])]),
  (199, [(5, [5, 7]), (7, [])]),
  (200, [(1, [1, 2, 3]), (2, [1, 2, 3]), (3, [1, 2, 3]), (5, [1, 2, 3]), (7, [1])]),
  (201, [(5, [0, 1, 5, 6, 7]), (6, [0, 1, 5, 6, 7]), (7, [0, 1, 5, 6, 7]), (10, [0, 5, 6]), (11, [0, 5, 6]), (12, [0, 5, 6, 8]), (13, [0, 5, 6, 8]), (14, [0, 5, 6, 8]), (17, [0, 5, 6]), (19, [5])]),
  (202, [(3, [1])]),
  (203, [(3, [1])]),
  (204, [(3, [1]), (5, [1]), (6, [1, 3]), (7, [1, 3]), (8, [1, 3]), (10, [1]), (12, [1]), (15, [1])]),
  (205, [(2, [1, 2, 3, 7]), (3, [1, 2, 3, 7]), (4, [1, 2, 3, 7]), (6, [])]),
  (208, [(3, [0, 3, 6, 7]), (4, [0, 3, 6, 7, 8]), (8, [0, 3, 6, 7]), (9, [3])]),
  (221, [(2, [0, 7, 8]), (3, [0, 7, 8, 9]), (8, [0, 7, 8]), (9, [0])]),
  (222, [(3, [0]), (5, [3, 10, 11, 12]), (6, [3, 10, 11, 12, 13]), (9, [3, 5, 10, 11, 12]), (11, [3, 5, 10, 11, 12]), (12, [3, 10, 11, 12]), (13, [])]),
  (223, [(3, [0]), (5, [3, 10, 11, 12]), (6, [3, 10, 11, 12, 13]), (9, [3, 5, 10, 11, 12]), (11, [3, 5, 10, 11, 12]), (12, [3, 10, 11, 12]), (13, [])]),
  (224, [(3, [0, 1, 2, 7, 11, 12]), (4, [0, 1, 2, 7, 11, 12, 13]), (8, [0, 1, 2, 7, 11, 12]), (9, [7])]),
  (226, [(3, [0, 3, 5]), (4, [0, 3, 5, 6]), (8, [0, 3, 5]), (9, [3])]),
  (231, [(2, [0, 4]), (3, [0, 4]), (4, [0, 4]), (7, [0, 4, 5]), (14, [0, 4, 5, 6, 7, 8]), (16, [0, 4, 5, 6, 7, 8]), (18, [0, 4, 5, 6, 7, 8]), (21, [5, 7, 10]), (23, [7, 10])]),
  (233, [(3, [0, 3, 4]), (4, [0, 3, 4]), (5, [0, 3, 4]), (8, [3])]),
  (236, [(3, [0]), (4, [0, 3]), (5, [0, 3]), (6, [0, 3]), (8, [0, 3]), (9, [0, 3, 4]), (10, [0, 3, 4]), (11, [0, 3, 4]), (13, [])]),
  (237, [(3, [0]), (4, [0, 3]), (5, [0, 3]), (6, [0, 3]), (8, [0, 3]), (9, [0, 3, 4]), (10, [0, 3, 4]), (11, [0, 3, 4]), (13, [])]),
  (250, [(1, [0, 1]), (2, [0, 1]), (3, [1])]),
  (251, [(3, [0, 1, 6, 7]), (4, [0, 1, 6, 7]), (5, [0, 1, 6, 7]), (8, [1, 6]), (9, [1, 6, 8]), (10, [1, 6, 8]), (11, [1, 6, 8]), (14, [6])]),
  (252, [(3, [0, 1, 5, 6]), (4, [0, 1, 5, 6]), (5, [0, 1, 5, 6]), (6, [5])])]
def userList : List Nat := [3, 4, 5, 6, 7, 8, 9, 10, 11, 12, 13, 14, 15, 16, 17, 18, 19, 20, 21, 22, 23, 24, 25, 26, 27, 28, 29, 30, 31, 32, 33, 34, 35, 36, 37, 38, 39, 40, 41, 42, 43, 44, 45, 46, 47, 48, 49, 50, 51, 52, 53, 54, 55, 56, 57, 58, 59, 60, 61, 62, 63, 64, 65, 66, 67, 68, 69, 70, 71, 72, 73, 74, 75, 76, 77, 78, 79, 80, 81, 82, 83, 84, 85, 86, 87, 88, 89, 90, 91, 92, 93, 94, 95, 96, 97, 98, 99, 100, 101, 102, 103, 104, 105, 106, 107, 108, 109, 110, 111, 112, 113, 114, 115, 116, 117, 118, 119, 120, 121, 122, 123, 124, 125, 126, 127, 128, 129, 130, 131, 132, 133, 134, 135, 136, 137, 138, 139, 140, 141, 142, 143, 144, 145, 146, 147, 148, 149, 150, 151, 152, 153, 154, 155, 156, 157, 158, 159, 160, 161, 162, 163, 164, 165, 166, 167, 168, 169, 170, 171, 172, 173, 174, 175, 176, 177, 178, 179, 180, 181, 182, 183, 184, 185, 186, 187, 188, 189, 190, 191, 192, 193, 194, 195, 196, 197, 198, 199, 200, 201, 202, 203, 204, 205, 206, 207, 208, 209, 210, 211, 212, 213, 214, 215, 216, 217, 218, 219, 220, 221, 222, 223, 224, 226, 227, 228, 229, 230, 231, 232, 233, 234, 235, 236, 237, 238, 240, 241, 242, 243, 244, 245, 246, 247, 248, 250, 251, 252, 253, 254, 255, 256, 257, 258, 259, 261, 262, 263, 264, 265, 266]
def pureList : List Nat := [19, 20]
def flatList : List Nat := [15, 16, 17, 18, 19, 20, 21, 22, 23, 24, 25, 26, 27, 31, 34, 38, 39, 40, 41, 46, 47, 52, 62, 63, 64, 66, 67, 70, 71, 72, 73, 74, 75, 76, 77, 83, 84, 85, 88, 89, 94, 105, 106, 107, 109, 110, 111, 112, 113, 114, 115, 118, 121, 125, 127, 128, 131, 134, 135, 138, 140, 146, 147, 148, 151, 152, 153, 155, 157, 158, 159, 161, 163, 164, 165, 166, 169, 170, 173, 178, 180, 183, 185, 186, 187, 188, 189, 190, 197, 199, 200, 204, 205, 208, 220, 221, 222, 223, 224, 226, 231, 233, 234, 235, 236, 237, 246, 250, 251, 252]
def extList : List (Nat × ExtK) := [(225, .cmp), (239, .same), (249, .indexByte)]
def roList : List Nat := [53, 54, 61, 78, 90, 103, 136, 181]
def eqList : List Nat := []
noncomputable def sumList : List (Nat × (List AV → Option AV)) := [(156, trimA), (168, itoaA)]
noncomputable def effList : List (Nat × EffFn) := [(87, namesE), (171, textE), (172, stringE), (196, byteE)]
def bldList : List (Nat × Nat) := [(192, 5)]
def wrbList : List Nat := [123]
def qkList : List (Nat × List Nat) := [(11, [12]), (14, [15])]
def linList : List Nat := [22, 32]
noncomputable def cfg : Cfg := { P := Tryz.prog, glob := globF, sum := fun f => sumList.lookup f, user := fun f => userList.contains f, eqok := fun t => eqList.contains t, pure := fun f => pureList.contains f, flat := fun f => flatList.contains f, ext := fun f => extList.lookup f, keep := keepTab keepList, eff := fun f => effList.lookup f, bld := fun t => bldList.lookup t, lin := fun t => linList.contains t, qk := fun t a => qkList.contains (t, a), wrb := fun t => wrbList.contains t, ro := fun f => roList.contains f }
noncomputable def C_L23_MergeGroups : List AV → Hp → Res := callw cfg 9
noncomputable def C_merge_Plan : List AV → Hp → Res := callw cfg 39
noncomputable def C_L23_awake : List AV → Hp → Res := callw cfg 38
theorem user_ok : ∀ f ∈ userList, UserOk Tryz.prog f :=
  userOk_cons Tryz.call3 (
  userOk_cons Tryz.call4 (
  userOk_cons Tryz.call5 (
  userOk_cons Tryz.call6 (
  userOk_cons Tryz.call7 (
  userOk_cons Tryz.call8 (
  userOk_cons Tryz.call9 (
  userOk_cons Tryz.call10 (
  userOk_cons Tryz.call11 (
  userOk_cons Tryz.call12 (
  userOk_cons Tryz.call13 (
  userOk_cons Tryz.call14 (
  userOk_cons Tryz.call15 (
  userOk_cons Tryz.call16 (
  userOk_cons Tryz.call17 (
  userOk_cons Tryz.call18 (
  userOk_cons Tryz.call19 (
  userOk_cons Tryz.call20 (
  userOk_cons Tryz.call21 (
  userOk_cons Tryz.call22 (
  userOk_cons Tryz.call23 (
  userOk_cons Tryz.call24 (
  userOk_cons Tryz.call25 (
  userOk_cons Tryz.call26 (
  userOk_cons Tryz.call27 (
  userOk_cons Tryz.call28 (
  userOk_cons Tryz.call29 (
  userOk_cons Tryz.call30 (
  userOk_cons Tryz.call31 (
  userOk_cons Tryz.call32 (
  userOk_cons Tryz.call33 (
  userOk_cons Tryz.call34 (
  userOk_cons Tryz.call35 (
  userOk_cons Tryz.call36 (
  userOk_cons Tryz.call37 (
  userOk_cons Tryz.call38 (
  userOk_cons Tryz.call39 (
  userOk_cons Tryz.call40 (
  userOk_cons Tryz.call41 (
  userOk_cons Tryz.call42 (
  userOk_cons Tryz.call43 (
  userOk_cons Tryz.call44 (
  userOk_cons Tryz.call45 (
  userOk_cons Tryz.call46 (
  userOk_cons Tryz.call47 (
  userOk_cons Tryz.call48 (
  userOk_cons Tryz.call49 (
  userOk_cons Tryz.call50 (
  userOk_cons Tryz.call51 (
  userOk_cons Tryz.call52 (
  userOk_cons Tryz.call53 (
  userOk_cons Tryz.call54 (
  userOk_cons Tryz.call55 (
  userOk_cons Tryz.call56 (
  userOk_cons Tryz.call57 (
  userOk_cons Tryz.call58 (
  userOk_cons Tryz.call59 (
  userOk_cons Tryz.call60 (
  userOk_cons Tryz.call61 (
  userOk_cons Tryz.call62 (
  userOk_cons Tryz.call63 (
  userOk_cons Tryz.call64 (
  userOk_cons Tryz.call65 (
  userOk_cons Tryz.call66 (
  userOk_cons Tryz.call67 (
  userOk_cons Tryz.call68 (
  userOk_cons Tryz.call69 (
  userOk_cons Tryz.call70 (
  userOk_cons Tryz.call71 (
  userOk_cons Tryz.call72 (
  userOk_cons Tryz.call73 (
  userOk_cons Tryz.call74 (
  userOk_cons Tryz.call75 (
  userOk_cons Tryz.call76 (
  userOk_cons Tryz.call77 (
  userOk_cons Tryz.call78 (
  userOk_cons Tryz.call79 (
  userOk_cons Tryz.call80 (
  userOk_cons Tryz.call81 (
  userOk_cons Tryz.call82 (
  userOk_cons Tryz.call83 (
  userOk_cons Tryz.call84 (
  userOk_cons Tryz.call85 (
  userOk_cons Tryz.call86 (
  userOk_cons Tryz.call87 (
  userOk_cons Tryz.call88 (
  userOk_cons Tryz.call89 (
  userOk_cons Tryz.call90 (
  userOk_cons Tryz.call91 (
  userOk_cons Tryz.call92 (
  userOk_cons Tryz.call93 (
  userOk_cons Tryz.call94 (
  userOk_cons Tryz.call95 (
  userOk_cons Tryz.call96 (
  userOk_cons Tryz.call97 (
  userOk_cons Tryz.call98 (
  userOk_cons Tryz.call99 (
  userOk_cons Tryz.call100 (
  userOk_cons Tryz.call101 (
  userOk_cons Tryz.call102 (
  userOk_cons Tryz.call103 (
  userOk_cons Tryz.call104 (
  userOk_cons Tryz.call105 (
  userOk_cons Tryz.call106 (
  userOk_cons Tryz.call107 (
  userOk_cons Tryz.call108 (
  userOk_cons Tryz.call109 (
  userOk_cons Tryz.call110 (
  userOk_cons Tryz.call111 (
  userOk_cons Tryz.call112 (
  userOk_cons Tryz.call113 (
  userOk_cons Tryz.call114 (
  userOk_cons Tryz.call115 (
  userOk_cons Tryz.call116 (
  userOk_cons Tryz.call117 (
  userOk_cons Tryz.call118 (
  userOk_cons Tryz.call119 (
  userOk_cons Tryz.call120 (
  userOk_cons Tryz.call121 (
  userOk_cons Tryz.call122 (
  userOk_cons Tryz.call123 (
  userOk_cons Tryz.call124 (
  userOk_cons Tryz.call125 (
  userOk_cons Tryz.call126 (
  userOk_cons Tryz.call127 (
  userOk_cons Tryz.call128 (
  userOk_cons Tryz.call129 (
  userOk_cons Tryz.call130 (
  userOk_cons Tryz.call131 (
  userOk_cons Tryz.call132 (
  userOk_cons Tryz.call133 (
  userOk_cons Tryz.call134 (
  userOk_cons Tryz.call135 (
  userOk_cons Tryz.call136 (
  userOk_cons Tryz.call137 (
  userOk_cons Tryz.call138 (
  userOk_cons Tryz.call139 (
  userOk_cons Tryz.call140 (
  userOk_cons Tryz.call141 (
  userOk_cons Tryz.call142 (
  userOk_cons Tryz.call143 (
  userOk_cons Tryz.call144 (
  userOk_cons Tryz.call145 (
  userOk_cons Tryz.call146 (
  userOk_cons Tryz.call147 (
  userOk_cons Tryz.call148 (
  userOk_cons Tryz.call149 (
  userOk_cons Tryz.call150 (
  userOk_cons Tryz.call151 (
  userOk_cons Tryz.call152 (
  userOk_cons Tryz.call153 (
  userOk_cons Tryz.call154 (
  userOk_cons Tryz.call155 (
  userOk_cons Tryz.call156 (
  userOk_cons Tryz.call157 (
  userOk_cons Tryz.call158 (
  userOk_cons Tryz.call159 (
  userOk_cons Tryz.call160 (
  userOk_cons Tryz.call161 (
  userOk_cons Tryz.call162 (
  userOk_cons Tryz.call163 (
  userOk_cons Tryz.call164 (
  userOk_cons Tryz.call165 (
  userOk_cons Tryz.call166 (
  userOk_cons Tryz.call167 (
  userOk_cons Tryz.call168 (
  userOk_cons Tryz.call169 (
  userOk_cons Tryz.call170 (
  userOk_cons Tryz.call171 (
  userOk_cons Tryz.call172 (
  userOk_cons Tryz.call173 (
  userOk_cons Tryz.call174 (
  userOk_cons Tryz.call175 (
  userOk_cons Tryz.call176 (
  userOk_cons Tryz.call177 (
  userOk_cons Tryz.call178 (
  userOk_cons Tryz.call179 (
  userOk_cons Tryz.call180 (
  userOk_cons Tryz.call181 (
  userOk_cons Tryz.call182 (
  userOk_cons Tryz.call183 (
  userOk_cons Tryz.call184 (
  userOk_cons Tryz.call185 (
  userOk_cons Tryz.call186 (
  userOk_cons Tryz.call187 (
  userOk_cons Tryz.call188 (
  userOk_cons Tryz.call189 (
  userOk_cons Tryz.call190 (
  userOk_cons Tryz.call191 (
  userOk_cons Tryz.call192 (
  userOk_cons Tryz.call193 (
  userOk_cons Tryz.call194 (
  userOk_cons Tryz.call195 (
  userOk_cons Tryz.call196 (
  userOk_cons Tryz.call197 (
  userOk_cons Tryz.call198 (
  userOk_cons Tryz.call199 (
  userOk_cons Tryz.call200 (
  userOk_cons Tryz.call201 (
  userOk_cons Tryz.call202 (
  userOk_cons Tryz.call203 (
  userOk_cons Tryz.call204 (
  userOk_cons Tryz.call205 (
  userOk_cons Tryz.call206 (
  userOk_cons Tryz.call207 (
  userOk_cons Tryz.call208 (
  userOk_cons Tryz.call209 (
  userOk_cons Tryz.call210 (
  userOk_cons Tryz.call211 (
  userOk_cons Tryz.call212 (
  userOk_cons Tryz.call213 (
  userOk_cons Tryz.call214 (
  userOk_cons Tryz.call215 (
  userOk_cons Tryz.call216 (
  userOk_cons Tryz.call217 (
  userOk_cons Tryz.call218 (
  userOk_cons Tryz.call219 (
  userOk_cons Tryz.call220 (
  userOk_cons Tryz.call221 (
  userOk_cons Tryz.call222 (
  userOk_cons Tryz.call223 (
  userOk_cons Tryz.call224 (
  userOk_cons Tryz.call226 (
  userOk_cons Tryz.call227 (
  userOk_cons Tryz.call228 (
  userOk_cons Tryz.call229 (
  userOk_cons Tryz.call230 (
  userOk_cons Tryz.call231 (
  userOk_cons Tryz.call232 (
  userOk_cons Tryz.call233 (
  userOk_cons Tryz.call234 (
  userOk_cons Tryz.call235 (
  userOk_cons Tryz.call236 (
  userOk_cons Tryz.call237 (
  userOk_cons Tryz.call238 (
  userOk_cons Tryz.call240 (
  userOk_cons Tryz.call241 (
  userOk_cons Tryz.call242 (
  userOk_cons Tryz.call243 (
  userOk_cons Tryz.call244 (
  userOk_cons Tryz.call245 (
  userOk_cons Tryz.call246 (
  userOk_cons Tryz.call247 (
  userOk_cons Tryz.call248 (
  userOk_cons Tryz.call250 (
  userOk_cons Tryz.call251 (
  userOk_cons Tryz.call252 (
  userOk_cons Tryz.call253 (
  userOk_cons Tryz.call254 (
  userOk_cons Tryz.call255 (
  userOk_cons Tryz.call256 (
  userOk_cons Tryz.call257 (
  userOk_cons Tryz.call258 (
  userOk_cons Tryz.call259 (
  userOk_cons Tryz.call261 (
  userOk_cons Tryz.call262 (
  userOk_cons Tryz.call263 (
  userOk_cons Tryz.call264 (
  userOk_cons Tryz.call265 (
  userOk_cons Tryz.call266 (userOk_nil))))))))))))))))))))))))))))))))))))))))))))))))))))))))))))))))))))))))))))))))))))))))))))))))))))))))))))))))))))))))))))))))))))))))))))))))))))))))))))))))))))))))))))))))))))))))))))))))))))))))))))))))))))))))))))))))))))))))))))))))))))))))))))))))))))
theorem eq_ok : ∀ t ∈ eqList, Tryz.prog.stoodInHeld t = false ∧ Tryz.prog.eqGuardType Tryz.prog.depth t = false := by
  intro t ht
  simp only [eqList, List.mem_cons, List.not_mem_nil, or_false] at ht

theorem ext225_ok (args : Array Value) (w : World) : (callFunc 225 args).run Tryz.prog w = (do pure (.value (← extF .cmp args)) : Sem Next).run Tryz.prog w := by kernel_rfl
theorem ext239_ok (args : Array Value) (w : World) : (callFunc 239 args).run Tryz.prog w = (do pure (.value (← extF .same args)) : Sem Next).run Tryz.prog w := by kernel_rfl
theorem ext249_ok (args : Array Value) (w : World) : (callFunc 249 args).run Tryz.prog w = (do pure (.value (← extF .indexByte args)) : Sem Next).run Tryz.prog w := by kernel_rfl
theorem ext_ok : ∀ f e, cfg.ext f = some e → ∀ (args : Array Value) (w : World), (callFunc f args).run Tryz.prog w = (do pure (.value (← extF e args)) : Sem Next).run Tryz.prog w := by
  intro f e h
  have h2 := lookup_mem (l := extList) h
  simp only [extList, List.mem_cons, Prod.mk.injEq, List.not_mem_nil, or_false] at h2
  rcases h2 with ⟨rfl, rfl⟩ | ⟨rfl, rfl⟩ | ⟨rfl, rfl⟩
  · exact ext225_ok
  · exact ext239_ok
  · exact ext249_ok
theorem sum_ok : ∀ f g, cfg.sum f = some g → cfg.user f = true ∧ SumOk cfg f g := by
  intro f g h
  have h2 := lookup_mem (l := sumList) h
  simp only [sumList, List.mem_cons, Prod.mk.injEq, List.not_mem_nil, or_false] at h2
  rcases h2 with ⟨rfl, rfl⟩ | ⟨rfl, rfl⟩
  · exact ⟨by kernel_rfl, trimA_ok (C := cfg) rfl (fun _ => rfl)⟩
  · exact ⟨by kernel_rfl, itoaA_ok (C := cfg) rfl (fun _ => rfl)⟩
theorem eff_ok : ∀ f g, cfg.eff f = some g → cfg.user f = true ∧ EffOk cfg f g := by
  intro f g h
  have h2 := lookup_mem (l := effList) h
  simp only [effList, List.mem_cons, Prod.mk.injEq, List.not_mem_nil, or_false] at h2
  rcases h2 with ⟨rfl, rfl⟩ | ⟨rfl, rfl⟩ | ⟨rfl, rfl⟩ | ⟨rfl, rfl⟩
  · exact ⟨by kernel_rfl, namesE_ok (C := cfg) rfl (fun _ => rfl)⟩
  · exact ⟨by kernel_rfl, textE_ok (C := cfg) rfl (fun _ => rfl)⟩
  · exact ⟨by kernel_rfl, stringE_ok (C := cfg) rfl (fun _ => rfl)⟩
  · exact ⟨by kernel_rfl, byteE_ok (C := cfg) rfl (fun _ => rfl)⟩
theorem cfg_ok : okCfg cfg :=
  ⟨fun t h => eq_ok t (List.contains_iff_mem.1 h), fun f h => user_ok f (List.contains_iff_mem.1 h), by kernel_rfl, ext_ok, sum_ok, eff_ok⟩
end Go.Am
