/-
  The functions of the translation over the abstract machine: written by program (wip/gen.py).
-/
import Derived.Test.YtgglgbfolgcaiaaGreatDoorProg
import Derived.Test.YtgglgbfolgcaiaaGreatDoorPvKx
namespace Go.Am
open Go.Proofs
set_option maxRecDepth 100000
set_option linter.unusedVariables false
set_option linter.unusedSimpArgs false

def keepList:List (Nat × List (Nat × List Nat)):=[(3,[(3,[0,3,4]),(4,[0,3,4]),(5,[0,3,4]),(7,[3])]),
 (4,[(3,[0,1,2,3])]),
 (7,[(3,[0,2]),(7,[0,2,3,36,37,38]),(8,[0,2,3,36,37,38,39]),(10,[0,2,3,36,37,38]),(11,[0,2,3]),(14,[2,3])]),
 (8,[(5,[1,3])]),
 (9,[(3,[0,1,2,6]),(6,[0,2,6]),(10,[0,7,8,9,113,114,115]),(11,[0,7,8,9,113,114,115,116]),(16,[0,7,8,9,11,12,113,114,115]),(17,[0,7,8,9,113,114,115])]),
 (10,[(0,[0]),(1,[0]),(2,[0]),(3,[0,2]),(4,[0]),(5,[0,2]),(6,[0,2])]),
 (12,[(3,[0,1,4]),(6,[1,4,6])]),
 (13,[(6,[1,3,7]),(7,[1,3,7,38,39,40]),(8,[1,3,7,38,39,40,41]),(12,[1,3,7,38,39,40]),(13,[1,3,7]),(19,[1,7]),(20,[7,128,129,130]),(21,[7,128,129,130,131]),(25,[7,128,129,130]),(26,[7]),(1000002,[3])]),
 (15,[(5,[3,4,5]),(7,[4,5,35,36,37]),(8,[4,5,35,36,37,38]),(10,[4,5,35,36,37]),(11,[4,5])]),
 (17,[(3,[0]),(7,[4])]),
 (18,[(6,[0]),(7,[0])]),
 (19,[(4,[0]),(20,[0,4,5]),(21,[0,4,5]),(23,[0,4,5])]),
 (20,[(3,[0,1]),(5,[0,1]),(8,[0,1])]),
 (22,[(3,[0,1,5,6]),(8,[6,9,10]),(10,[6,10]),(1000009,[9])]),
 (23,[(4,[0,1,2,3,4]),(5,[0,1,2,3,4]),(6,[0,1,2,3,4]),(9,[0,1,2,3,4,5,6]),(11,[0,1,2,3,4,5,6]),(14,[0,1,2,3])]),
 (24,[(4,[1,2]),(8,[1,2,6,7]),(9,[1,2,6,7]),(10,[1,2,6,7]),(11,[1,2,6,7,8]),(12,[1,2,6,7,8]),(13,[1,2,6,7,8]),(15,[1,2,6]),(16,[1,2,6,9]),(17,[1,2,6,9]),(18,[1,2,6,9]),(22,[1,2,6,9,10,11]),(23,[1,2,6]),(25,[1,2,6]),(1000014,[6]),(1000021,[10])]),
 (25,[(3,[0])]),
 (26,[(3,[0])]),
 (28,[(4,[1]),(5,[1,28,29]),(6,[1,28,29,30]),(9,[1,28,29]),(10,[1]),(11,[38,39,40]),(12,[38,39,40,41]),(15,[38,39,40]),(16,[])]),
 (31,[(2,[0,5,6,7]),(3,[0,5,6,7,8]),(6,[0,5,6,7]),(7,[0])]),
 (33,[(3,[0])]),
 (34,[(2,[1,2])]),
 (36,[(7,[0,1,5])]),
 (38,[(3,[0])]),
 (39,[(1,[0,7,8,9]),(2,[0,7,8,9,10]),(4,[0,7,8,9]),(5,[0])]),
 (40,[(2,[0,3]),(3,[0,3]),(6,[0,3]),(7,[3])]),
 (45,[(1,[0,1,4]),(2,[0,1,4]),(3,[0,1,4])]),
 (47,[(3,[0,1]),(4,[0,1,5]),(5,[0,1,5]),(6,[0,1,5]),(8,[])]),
 (50,[(3,[])]),
 (52,[(4,[0,8])]),
 (53,[(4,[])]),
 (54,[(4,[])]),
 (57,[(4,[0,1,7]),(6,[0,1]),(8,[0,1]),(11,[0,1]),(15,[0,10])]),
 (59,[(5,[])]),
 (60,[(4,[])]),
 (61,[(4,[])]),
 (62,[(4,[0,1,7]),(8,[0,1,8]),(11,[0,1]),(13,[])]),
 (65,[(3,[0,1,7,16,17,18]),(4,[0,1,7,16,17,18,19]),(8,[0,1,7,16,17,18]),(9,[0,7])]),
 (66,[(12,[1,5,6]),(1000001,[2])]),
 (67,[(2,[0,1,7,8]),(3,[0,1,7,8,9]),(6,[0,1,7,8]),(7,[])]),
 (68,[(2,[0,1,2,3,8,9]),(5,[0,1,2,3,8,9,10]),(7,[0,1,2,3,8,9,10]),(10,[0,1,2,3,8,9,10]),(15,[0,1,2,3,8,9,10,11,12]),(17,[0,1,2,3,8,9,10,11]),(20,[0,1,2,3,10,11])]),
 (69,[(2,[0])]),
 (70,[(3,[0,1,2,3]),(5,[0,1,2,3]),(7,[0,1,2,3]),(11,[0,1,2,3,9,10]),(12,[0,1,2,3,9,10]),(14,[0,1,2,3,9,10,11]),(17,[0,9,10])]),
 (71,[(9,[0,3]),(14,[0,5]),(17,[])]),
 (72,[(5,[0,1,5,6,7]),(9,[]),(10,[0,1,5,6]),(12,[0,1,6]),(20,[]),(1000012,[6]),(1000017,[6])]),
 (73,[(3,[0,1,2]),(5,[0,1,2]),(8,[1,2])]),
 (74,[(0,[0]),(1,[0]),(3,[0]),(4,[0])]),
 (75,[(6,[0,2,3]),(8,[0,2,3]),(11,[0,2,3]),(17,[2,3])]),
 (76,[(2,[0,1,5]),(3,[0,1,5]),(4,[0,1,5]),(7,[0,1,5,6]),(10,[0,1,5,6]),(13,[])]),
 (77,[(3,[0,3]),(9,[0,3,5]),(12,[0,3,5,7]),(26,[0,3,7])]),
 (80,[(3,[0,3,8,9]),(4,[0,3,8,9,10]),(16,[0,3,8,9]),(17,[3])]),
 (81,[(5,[0,4])]),
 (82,[(3,[1,2,3,4,5]),(6,[1,2,3,4,13]),(9,[1,2,3,4,15,16,17,31,32,33]),(10,[1,2,3,4,15,16,17,31,32,33,34]),(12,[1,2,3,4,15,16,17,19,31,32,33]),(18,[1,2,3,4,15,16,17,31,32,33]),(19,[2,15,16,17]),(22,[15,17])]),
 (87,[(1,[0,1,2,6]),(2,[0,1,2,6]),(3,[0,1,2,6]),(4,[0,1,2,6,7]),(5,[0,1,2,6,7]),(6,[0,1,2,6,7])]),
 (88,[(4,[0,6,7,8,9]),(5,[0,6,7,8,9]),(6,[0,6,7,8,9]),(7,[0,6,7,8]),(8,[0,6,7,10]),(9,[0,6,7,10]),(10,[0,6,7,10])]),
 (89,[(5,[0,1,6,7,8,9]),(6,[0,1,6,7,8,9]),(7,[0,1,6,7,8,9]),(10,[0,1,6,7,8,9,10])]),
 (90,[(11,[0,9,10,11,12]),(12,[9,11])]),
 (91,[(2,[0,6,7]),(3,[0,6,7])]),
 (92,[(3,[0,1,2,7,8]),(4,[0,1,2,7,8]),(5,[0,1,2,7,8]),(6,[0,1,2,7,8]),(7,[0,1,2,7,8]),(9,[0,1,2,7,8]),(11,[0,1,2,7,8]),(14,[0,1,2,7,8,9]),(15,[0,1,2,7,8,9]),(16,[0,1,2,7,8,9]),(17,[0,1,2,7,8,9]),(18,[0,1,2,7,8]),(20,[0,1,2,7,8,10]),(21,[0,1,2,7,8,10]),(22,[0,1,2,7,8,10]),(23,[0,1,2,7,8,10]),(24,[])]),
 (94,[(3,[0,1,9,10]),(4,[0,1,9,10]),(5,[0,1,9,10]),(6,[0,1,9,10]),(7,[0,1,9,10]),(8,[0,1,9,10]),(11,[9])]),
 (95,[(3,[0,1,10,11]),(4,[0,1,10,11]),(5,[0,1,10,11]),(6,[0,1,10,11]),(7,[0,1,10,11]),(10,[0,1,10,11]),(13,[0,1,10,11]),(14,[0,1,10,11]),(15,[0,1,10,11]),(16,[0,1,10,11]),(17,[0,1,10,11]),(18,[0,1,10,11]),(21,[0,1,11])]),
 (96,[(4,[0,2]),(7,[0,2])]),
 (97,[(4,[0,2]),(7,[0,2]),(10,[0,2])]),
 (98,[(4,[0,1]),(6,[0,1,6,7]),(7,[0,1,6,7]),(8,[0,1,6,7]),(11,[0,1,6]),(13,[6])]),
 (99,[(3,[0,1]),(5,[0,1]),(6,[0,1,5]),(9,[0,1,5,6])]),
 (101,[(4,[1,2,3,6,9])]),
 (103,[(5,[0,3,4]),(10,[4]),(11,[0,3,4,6]),(16,[0,4]),(19,[0,4,7])]),
 (104,[(0,[0]),(1,[0])]),
 (106,[(15,[0,3,4]),(26,[3,4])]),
 (107,[(8,[1])]),
 (109,[(3,[2]),(5,[2]),(7,[2]),(8,[2,5]),(9,[2,5]),(10,[2,5]),(13,[2]),(17,[2]),(19,[2]),(21,[2])]),
 (112,[(4,[0])]),
 (117,[(4,[1,2,6]),(7,[1,2,6,8,9,10]),(8,[1,2,6,8,9,10]),(11,[1,2,6,8,9,11,12]),(12,[1,2,6,8,9,11]),(17,[1,2,6,8,9,14,15]),(20,[8])]),
 (118,[(3,[1,5,7,11,12,13]),(4,[1,5,7,11,12,13,14]),(7,[1,5,7,9,11,12,13]),(8,[1,5,7,9,11,12,13]),(11,[1,5,7,11,12,13]),(12,[7])]),
 (121,[(5,[0,7,8,9]),(6,[0,7,8,9]),(10,[0,7,8,9,11]),(11,[0,7,8,9]),(12,[0,7,8,9,12]),(13,[0,7,8,9,12]),(14,[0,7,8,9,12]),(15,[8,9]),(16,[0,7,8,9,10]),(19,[]),(25,[0,7,8,9,14,15]),(26,[0,7,8,9,14,15]),(27,[0,7,8,9,14,15]),(29,[0,7,8,9,14,15,16]),(30,[0,7,8,9,14,15,16]),(31,[0,7,8,9,14,15,16]),(32,[8,9]),(33,[0,1,7,8,9]),(38,[175]),(39,[175,176,177]),(42,[])]),
 (122,[(1,[0,2,3,8]),(3,[0,2,3,8,9]),(5,[0,2,3,8,9]),(6,[0,2,3,8,9])]),
 (128,[(2,[2,4]),(3,[2,4,6]),(4,[2])]),
 (131,[(10,[0,1,5]),(15,[0,1,5,6,7,8,9,10]),(16,[0,1,5,6,7,8,9,10]),(20,[0,1,5,6,7,8,9,10,11]),(21,[0,1,5,6,7,8,9,10]),(23,[0,1,5,6,7,8,9,10]),(29,[]),(34,[8,13]),(35,[])]),
 (132,[(8,[8])]),
 (133,[(4,[0,1,2,8,11]),(11,[8,11])]),
 (134,[(18,[0,4]),(19,[4])]),
 (135,[(5,[0]),(8,[0,5])]),
 (136,[(8,[0,3]),(10,[0,3]),(11,[0,3,4,5]),(12,[0,3,4,5]),(17,[0,3,4,5]),(19,[0,3,4,5]),(21,[0,5])]),
 (137,[(3,[0,1,5]),(4,[0,1,5]),(5,[0,1,5]),(7,[0,5]),(9,[0,5])]),
 (138,[(3,[0,3]),(4,[0,3]),(5,[0,3]),(7,[0,3])]),
 (139,[(4,[0]),(8,[0,7]),(11,[8])]),
 (140,[(8,[0,3,4,6,7]),(11,[0,3,4,7,9]),(14,[3,4,10])]),
 (141,[(8,[0,3,4]),(12,[3,4])]),
 (142,[(4,[1,3])]),
 (143,[(14,[0,1,5]),(16,[5]),(18,[5]),(20,[])]),
 (144,[(5,[1]),(6,[1,3]),(8,[1,3]),(9,[1,3,4]),(10,[1,3,4]),(11,[1,3,4]),(13,[1]),(15,[])]),
 (145,[(2,[0,3]),(3,[0,3]),(4,[0,3]),(5,[0,3,4]),(6,[0,3,4]),(7,[0,3,4]),(9,[])]),
 (146,[(14,[3]),(16,[])]),
 (150,[(5,[])]),
 (153,[(4,[1,2])]),
 (154,[(4,[0,4]),(9,[0,4,5,6]),(13,[0,5,8,9]),(16,[0,5,8,10]),(18,[0,5,8,10]),(21,[0,5,8,10,11]),(23,[0,5,10,11]),(26,[5,10,11,12])]),
 (155,[(5,[0,1,5,6,7,8,9]),(6,[0,1,5,6,7,8,9]),(7,[0,1,5,6,7,8,9]),(8,[0,1,5,6,7,8]),(10,[0,1,5,6,7,8]),(11,[0,1,5,6,7,8,10]),(12,[0,1,5,6,7,8,10]),(18,[])]),
 (156,[(3,[1]),(5,[1]),(8,[1,4]),(1000001,[1]),(1000004,[1]),(1000005,[1]),(1000008,[1,4])]),
 (157,[(4,[1,3,4,6,8]),(6,[1,3,4,6,8]),(8,[4,6,8,13,56,57]),(9,[4,6,8,13,56,57,58]),(11,[4,6,8,13,56,57]),(12,[4,6,8,13]),(15,[6,8,13,15]),(1000013,[6])]),
 (159,[(6,[0,6,7]),(10,[0,6,7]),(11,[0,1,2,6,7]),(13,[0,6,7]),(15,[6,7])]),
 (160,[(5,[0,4,5,6])]),
 (161,[(4,[0])]),
 (162,[(2,[0,3]),(3,[0,3]),(4,[0,3]),(7,[4])]),
 (163,[(2,[0,1,4,5]),(3,[0,1,4,5]),(6,[0,1,4,5]),(10,[0,1,4,5,6]),(13,[0,1,4,5,7]),(15,[0,4,5])]),
 (164,[(2,[0,3,4,6]),(3,[0,3,4,6]),(11,[0,3,4,6,7,8,9]),(27,[0,3,4,6,7,8]),(29,[3,4,6])]),
 (165,[(3,[0,2,4,6]),(6,[0,4,6,7]),(9,[6,8])]),
 (166,[(3,[0,1,7,8]),(4,[0,1,7,8]),(5,[0,1,7,8]),(8,[0,1,7,8,9]),(10,[0,1,7,8]),(12,[0,1,7,8]),(17,[0,1,7,8,10]),(22,[0,1,7,8]),(23,[7])]),
 (167,[(3,[2])]),
 (168,[(3,[0,3,5,6]),(4,[0,3,5,6]),(5,[0,3,5,6]),(9,[0,3,5,6]),(13,[0,3,5,6]),(14,[5])]),
 (169,[(2,[0,1,5]),(3,[0,1,5]),(4,[0,1,5]),(6,[])]),
 (171,[(3,[1]),(1000001,[1]),(1000003,[1])]),
 (172,[(2,[0,3]),(3,[0,3]),(4,[0,3]),(8,[])]),
 (175,[(4,[0]),(8,[0,5,6]),(13,[5,7]),(14,[0,1])]),
 (177,[(3,[0,4,5]),(4,[0,4,5]),(5,[0,4,5]),(6,[0,4]),(8,[4,6,7,8]),(9,[4,6,7,8]),(10,[4,6,7,8]),(12,[4,6,7,8]),(13,[4,6])]),
 (178,[(11,[])]),
 (182,[(4,[1,2,4]),(6,[1,2,4]),(9,[1,4,7]),(14,[1,4,9])]),
 (183,[(3,[3,13,14,15]),(4,[3,13,14,15,16]),(6,[3,13,14,15]),(7,[3]),(1000001,[1])]),
 (184,[(4,[0,1,2,3])]),
 (185,[(6,[0,2,3,45,46,47]),(7,[0,2,3,45,46,47,48]),(10,[0,2,3,45,46,47])]),
 (187,[(4,[0,4]),(6,[0,4]),(8,[0,4,5,6]),(9,[0,4,5,6]),(10,[0,4,5,6]),(13,[0,4,5,6,7]),(14,[0,4,5]),(16,[5]),(18,[5])]),
 (189,[(4,[0,1,6,9]),(7,[6,12]),(1000004,[9]),(1000005,[9])]),
 (190,[(8,[0,1])]),
 (192,[(3,[1]),(6,[1]),(9,[1]),(11,[])]),
 (193,[(4,[1,3]),(5,[1,3,4]),(6,[1,3,4]),(7,[1,3,4]),(8,[3])]),
 (194,[(3,[1,2])]),
 (196,[(3,[0])]),
 (198,[(1,[0,1,4]),(2,[0,1,4]),(12,[0,1,4]),(20,[0,4,12]),(25,[0,4,12])]),
 (199,[(3,[0,1,2,3,4,10,11]),(7,[0,1,2,3,4,10,11,12,13]),(11,[0,1,3,4,10,11,12,13,14,15,16]),(12,[0,1,3,4,10,11,12,13,14,15,16]),(15,[0,1,3,4,10,11,12,13]),(18,[0,1,3,4,10,11,12,13,17]),(19,[0,1,3,4,10,11,12,13,17]),(23,[0,1,3,4,10,11,12,13]),(25,[0,3,4,10,11,12,13]),(28,[0,4,10,11,12,13]),(30,[10,12,13])]),
 (200,[(12,[0,3]),(14,[0,3,6,7,117,118,119]),(15,[0,3,6,7,117,118,119,120]),(17,[0,3,6,7,117,118,119]),(18,[0,3,6,7]),(20,[7])]),
 (202,[(4,[1,2]),(6,[1,2])]),
 (203,[(2,[0,3]),(4,[0,13,14,15]),(5,[0,13,14,15,16]),(7,[0,13,14,15])]),
 (204,[(4,[0,3])]),
 (205,[(3,[1,2]),(6,[2,3,17,18,19]),(7,[2,3,17,18,19,20]),(9,[2,3,17,18,19]),(10,[2,3]),(1000008,[3])]),
 (207,[(5,[0,2,3,5,9,10]),(9,[0,2,3,5,9,10,11,12]),(10,[0,3,5,9,10,11,12,13]),(11,[0,3,5,9,10,11,12,13]),(12,[0,3,5,9,10,11,12,13]),(14,[0,3,5,9,10,11,12,13,14,54,55,56]),(15,[0,3,5,9,10,11,12,13,14,54,55,56,57]),(17,[0,3,5,9,10,11,12,13,14,54,55,56]),(18,[0,3,5,9,10,11,12,13,14]),(21,[0,3,5,9,10,12,13,17]),(25,[0,3,5,9,10,11,12,13,19,20,96,97,98]),(26,[0,3,5,9,10,11,12,13,19,20,96,97,98,99]),(31,[0,3,5,9,10,11,12,13,19,20,96,97,98]),(32,[10])]),
 (208,[(2,[0,2,3,5,15,16,17]),(3,[0,2,3,5,15,16,17,18]),(7,[0,2,3,5,9,11,15,16,17]),(9,[0,2,3,5,15,16,17])]),
 (209,[(5,[0,2,3,5,8,9,10,11,12]),(6,[0,2,3,5,8,9,10,11,12]),(7,[0,2,3,5,8,9,10,11,12]),(10,[0,2,3,5,8,9,10,11,12,13]),(13,[0,2,3,5,8,9,10,11,12,13]),(16,[0,2,3,5,8,9,10,11,12,13,16]),(18,[0,2,3,5,8,9,10,11,12,17]),(1000012,[13])]),
 (210,[(3,[0]),(4,[0,3]),(5,[0,3]),(6,[0,3]),(8,[])]),
 (211,[(3,[0,1,5,6]),(5,[0,1,5,6]),(9,[6,9,10]),(11,[6,9,10]),(13,[6,10]),(1000012,[9])]),
 (212,[(3,[2,3]),(4,[2,3,5]),(5,[2,3,5]),(6,[2,3,5]),(8,[])]),
 (213,[(3,[1]),(4,[1,3]),(5,[1,3]),(6,[1,3]),(8,[])]),
 (214,[(3,[1,2]),(6,[1,2]),(7,[1,2]),(8,[1,2,6]),(9,[1,2,6]),(10,[1,2,6]),(13,[2,6,7]),(14,[1])]),
 (215,[(3,[1,2]),(4,[1,2,6]),(5,[1,2,6]),(6,[1,2,6]),(9,[2,6,7]),(10,[1,2]),(12,[1])]),
 (216,[(3,[1,3,4]),(4,[1,3,4]),(5,[1,3,4]),(6,[3])]),
 (217,[(3,[1,3,4]),(4,[1,3,4]),(5,[1,3,4]),(8,[3])]),
 (218,[(3,[1]),(4,[1,3]),(5,[1,3]),(6,[1,3]),(8,[])]),
 (219,[(4,[1,2,4]),(6,[1,2,4]),(9,[1,4,7]),(13,[1,4,9])]),
 (221,[(3,[])]),
 (223,[(2,[0])]),
 (224,[(20,[])]),
 (225,[(3,[1,10,11,12]),(4,[1,10,11,12,13]),(6,[1,10,11,12])]),
 (227,[(3,[1,3,7,8,9]),(4,[1,3,7,8,9,10]),(6,[1,3,7,8,9]),(7,[1,3]),(9,[3])]),
 (228,[(3,[1,2,3,7,8,9]),(4,[1,2,3,7,8,9,10]),(6,[1,2,3,7,8,9]),(7,[1,2,3])]),
 (229,[(3,[1,2]),(6,[1,2,3,18,19,20]),(7,[1,2,3,18,19,20,21]),(9,[1,2,3,18,19,20]),(10,[1,2,3]),(12,[2,3])]),
 (230,[(2,[0,1,4,10,11,12]),(3,[0,1,4,10,11,12,13]),(6,[0,1,4,6,10,11,12]),(10,[0,1,4,10,11,12]),(11,[0,4]),(12,[0,49,50,51]),(13,[0,49,50,51,52]),(15,[0,49,50,51])]),
 (231,[(6,[0,3]),(10,[0,6])]),
 (232,[(4,[0,4,6,7,12,13,14]),(5,[0,4,6,7,12,13,14]),(6,[0,4,6,7,12,13,14]),(20,[7,12])]),
 (234,[(5,[0,3,4,13])]),
 (236,[(6,[0,2])]),
 (237,[(2,[0,1,2,3,9]),(3,[0,1,2,3,9]),(4,[0,1,2,3,9]),(6,[])]),
 (239,[(4,[4,5])]),
 (240,[(3,[0,3]),(4,[0,18,19,20]),(5,[0,18,19,20,21]),(7,[0,18,19,20])]),
 (241,[(2,[0,2,3]),(3,[0,2,3]),(5,[2,3])]),
 (242,[(4,[6])]),
 (243,[(3,[1,3,4]),(4,[1,3,4]),(5,[1,3,4]),(6,[3])]),
 (244,[(4,[1,3]),(18,[])]),
 (246,[(2,[0,1,5]),(3,[0,1,5]),(4,[0,1,5]),(6,[])]),
 (247,[(4,[1,2]),(6,[1,2])]),
 (248,[(12,[0,3,5]),(13,[0,3,5]),(14,[0,3,5]),(19,[0])]),
 (249,[(3,[0])]),
 (250,[(3,[0])]),
 (251,[(11,[0,1,2])]),
 (252,[(11,[1,2,3,6]),(1000010,[3]),(1000011,[3])]),
 (255,[(3,[0,2])]),
 (256,[(4,[1,2,3,10,11]),(5,[1,2,3,10,11,12]),(9,[1,2,3,5,10,11]),(10,[1,2,3,10,11]),(11,[2,3]),(1000009,[3])]),
 (257,[(4,[0,2]),(5,[0,2]),(10,[0,2,3]),(13,[0,2,3]),(14,[0,2,3]),(15,[2,3])]),
 (260,[(3,[0,1,4])]),
 (261,[(3,[1,3,4]),(4,[1,3,4]),(5,[1,3,4]),(6,[1,3]),(8,[1,3]),(10,[1,3]),(12,[1,3]),(14,[1,3])]),
 (262,[(4,[1,2,3,4]),(5,[1,2,3,4]),(6,[1,2,3,4]),(7,[1,2,3]),(9,[2,3])]),
 (263,[(3,[0,1,5,6]),(4,[0,1,5,6]),(5,[0,1,5,6]),(11,[0,1,5]),(13,[0,5,8]),(14,[0,5,8]),(15,[0,5,8]),(16,[0])]),
 (264,[(5,[0,3,5]),(9,[0,5])]),
 (266,[(3,[2,5,10,11]),(4,[2,5,10,11,12]),(6,[2,5,10,11]),(7,[5])]),
 (267,[(3,[0,1]),(5,[0,1])]),
 (268,[(3,[0,3,4]),(19,[0,4,5])]),
 (270,[(4,[0,2]),(7,[0,2]),(10,[0,2,3])]),
 (271,[(3,[0])]),
 (273,[(3,[1,2,3,6]),(5,[1,2,3,6]),(7,[1,2,3,6,7,8]),(8,[1,2,3,6,7,8]),(9,[1,2,3,6,7,8]),(12,[1,2,3,6,7]),(13,[2,3,6,7,9]),(14,[2,3,6,7,9]),(15,[2,3,6,7,9]),(16,[6,7])]),
 (274,[(11,[0,3,4]),(13,[0,3,4]),(16,[0,3,4]),(17,[0,3,4]),(19,[0,3,4])]),
 (275,[(3,[0,3,4]),(1000004,[3]),(1000005,[3])]),
 (276,[(3,[1,4,5,6]),(4,[1,4,5,6]),(5,[1,4,5,6]),(6,[4,5])]),
 (277,[(17,[0,2,3])]),
 (278,[(5,[0,3]),(7,[0,3,4,5]),(8,[0,3,4]),(9,[0,3,4]),(11,[0,3,4]),(13,[4])]),
 (280,[(3,[1,3,4]),(4,[1,3,4]),(5,[1,3,4]),(7,[3])]),
 (282,[(3,[0,2,3,4]),(4,[0,2,3,4]),(5,[0,2,3,4]),(6,[2,3])]),
 (285,[(3,[2,4])]),
 (286,[(3,[3,4]),(1000003,[3])]),
 (287,[(6,[0,2,3,4]),(8,[0,2,3,4,5,6]),(9,[0,2,3,4,5]),(10,[0,2,3,4,5]),(11,[0,2,3,4,5]),(13,[0,2,3,4,5]),(17,[0,2,3,5]),(19,[2,5]),(1000010,[5])]),
 (288,[(3,[0,4]),(10,[0,4,5,6]),(12,[0,4,5,6]),(15,[0,4,5,6,7]),(17,[0,4,5,6,7])]),
 (289,[(4,[0,2,3]),(10,[2,5]),(17,[0,2,3])]),
 (290,[(3,[1])]),
 (292,[(3,[0,4,5,6,7,8]),(4,[0,4,5,6,7,8]),(5,[0,4,5,6,7,8]),(8,[6,7]),(1000005,[5])]),
 (293,[(3,[0,1,5,6]),(4,[0,1,5,6]),(5,[0,1,5,6]),(6,[5])]),
 (294,[(3,[1,2])]),
 (296,[(4,[0,2,3,4]),(5,[0,2,3,4]),(6,[0,2,3,4]),(9,[0,2,3,4]),(13,[2,5]),(14,[0,2,3]),(16,[0,2,3]),(19,[0,2,3,7]),(23,[0,2,3,7,8]),(26,[2,9])]),
 (297,[(1000001,[1])]),
 (299,[(2,[0,1,5]),(3,[0,1,5]),(4,[0,1,5]),(6,[])]),
 (300,[(3,[1]),(5,[1]),(6,[1,3]),(7,[1,3]),(8,[1,3]),(10,[1]),(12,[1]),(15,[1])]),
 (301,[(3,[1,2,4,6]),(4,[1,2,4,6]),(5,[1,2,4,6]),(7,[1,4])]),
 (303,[(4,[0,1]),(7,[0,5,47,48,49]),(8,[0,5,47,48,49,50]),(12,[0,5,47,48,49]),(13,[0,5,47,48,49]),(14,[5])]),
 (304,[(4,[0]),(6,[0]),(9,[0])]),
 (305,[(4,[1,2,3,6])]),
 (306,[(3,[0]),(4,[0,3]),(5,[0,3]),(6,[0,3]),(9,[])]),
 (308,[(3,[0]),(4,[0,3]),(5,[0,3]),(6,[0,3]),(8,[0,3]),(9,[0,3,4]),(10,[0,3,4]),(11,[0,3,4]),(13,[])]),
 (309,[(3,[0]),(4,[0,3]),(5,[0,3]),(6,[0,3]),(8,[0,3]),(9,[0,3,4]),(10,[0,3,4]),(11,[0,3,4]),(13,[])]),
 (310,[(29,[2]),(1000016,[6]),(1000028,[8])]),
 (311,[(3,[1,2,3,6,7,8]),(4,[1,2,3,6,7,8]),(5,[1,2,3,6,7,8]),(7,[6,7])]),
 (329,[(4,[6,9])]),
 (330,[(4,[1,2,3,6,8]),(9,[1,3,6,8,9,10,11,12]),(10,[1,3,6,8,9,10,11,12]),(12,[1,3,6,8,9,10,11,12]),(13,[1,3,6,8,9,10,11,12,48,49,50]),(14,[1,3,6,8,9,10,11,12,48,49,50,51]),(17,[1,3,6,8,9,10,11,12,48,49,50]),(18,[1,3,6,8,9,10,11,12]),(19,[1,3,6,8,9,10,11,12]),(21,[6,9,10]),(1000021,[10])]),
 (331,[(3,[1,2])]),
 (332,[(2,[0,1,3,4]),(3,[0,1,3,4]),(6,[0,1,3,4,11]),(20,[1])]),
 (333,[(4,[0,2,3,9,20,21,22]),(5,[0,2,3,9,20,21,22,23]),(9,[0,2,3,9,20,21,22]),(10,[9])]),
 (335,[(4,[1,3]),(6,[3,4,19,20,21]),(7,[3,4,19,20,21,22]),(19,[3,4,7,19,20,21]),(21,[3,4,19,20,21]),(22,[])])]
def userList:List Nat:=[3,4,5,6,7,8,9,10,11,12,13,14,15,16,17,18,19,20,21,22,23,24,25,26,27,28,29,30,31,32,33,34,35,36,37,38,39,40,41,42,43,44,45,46,47,48,49,50,51,52,53,54,55,56,57,58,59,60,61,62,63,64,65,66,67,68,69,70,71,72,73,74,75,76,77,78,79,80,81,82,83,84,85,86,87,88,89,90,91,92,93,94,95,96,97,98,99,100,101,102,103,104,105,106,107,108,109,110,111,112,113,114,115,116,117,118,119,120,121,122,123,124,125,126,127,128,129,131,132,133,134,135,136,137,138,139,140,141,142,143,144,145,146,147,148,150,151,153,154,155,156,157,158,159,160,161,162,163,164,165,166,167,168,169,170,171,172,173,174,175,177,178,179,180,181,182,183,184,185,186,187,188,189,190,191,192,193,194,195,196,197,198,199,200,201,202,203,204,205,206,207,208,209,210,211,212,213,214,215,216,217,218,219,220,221,222,223,224,225,226,227,228,229,230,231,232,233,234,235,236,237,238,239,240,241,242,243,244,245,246,247,248,249,250,251,252,253,254,255,256,257,258,259,260,261,262,263,264,265,266,267,268,269,270,271,272,273,274,275,276,277,278,279,280,281,282,283,284,285,286,287,288,289,290,291,292,293,294,295,296,297,298,299,300,301,302,303,304,305,306,307,308,309,310,311,329,330,331,332,333,334,335,336,337,338,339,340,341,342,343,344,345,346,347,348,349,350,351,352,353,354,355,356,357,358,359,360,361,362,363,364]
def pureList:List Nat:=[]
def flatList:List Nat:=[6,8,11,12,14,15,17,23,25,26,32,70,82,117,166,171,178,182,189,192,202,211,219,229,247,262,330]
def extList:List (Nat × ExtK):=[(130,.count),(149,.indexByte),(176,.same)]
def roList:List Nat:=[]
def eqList:List Nat:=[45,47,83]
noncomputable def sumList:List (Nat × (List AV→Option AV)):=[(105,knownA)]
noncomputable def effList:List (Nat × EffFn):=[(113,byteE),(114,textE),(116,stringE),(119,lenE)]
def bldList:List (Nat × Nat):=[(187,5)]
def wrbList:List Nat:=[]
def qkList:List (Nat × List Nat):=[]
def linList:List Nat:=[2,3,77,83,101,225,303]
def rstList:List ((Nat × Nat × Nat) × Nat):=[((36,71,68),2),((101,69,65),1)]
noncomputable def cfg:Cfg:={ P:=Tryz.prog,glob:=fun _=>none,sum:=fun f=>sumList.lookup f,user:=fun f=>userList.contains f,eqok:=fun t=>eqList.contains t,pure:=fun f=>pureList.contains f,flat:=fun f=>flatList.contains f,ext:=fun f=>extList.lookup f,keep:=keepTab keepList,eff:=fun f=>effList.lookup f,bld:=fun t=>bldList.lookup t,lin:=fun t=>linList.contains t,qk:=fun t a=>qkList.contains (t,a),wrb:=fun t=>wrbList.contains t,ro:=fun f=>roList.contains f,rst:=fun t a x=>(rstList.lookup (t,a,x)).getD 0 }
noncomputable def C_L38_SedvmNil:List AV→Hp→Res:=callw cfg 3
noncomputable def C_sedvm_Machine_Feed:List AV→Hp→Res:=callw cfg 4
noncomputable def C_sedvm_Machine_Done:List AV→Hp→Res:=callw cfg 5
noncomputable def C_sedvm_Machine_Close:List AV→Hp→Res:=callw cfg 7
noncomputable def C_R38_SameResult:List AV→Hp→Res:=callw cfg 6
noncomputable def C_L38_awake:List AV→Hp→Res:=callw cfg 8
noncomputable def L38_SedvmNil_J1 (x3:AV) (H0 H:Hp):Res:=CXL cfg (callw cfg) (LPL cfg (cfg.keep 3) 40) (cfg.keep 3) 40 seqL blockL (sub (bodyOf Tryz.f3) [1,1,1]) (retL cfg 40 3 Tryz.f3 H0) [(3,x3)] H
noncomputable def L38_SedvmNil_K1 (H0:Hp):KL:=seqL (fun k al H=>CXL cfg (callw cfg) (LPL cfg (cfg.keep 3) 40) (cfg.keep 3) 40 seqL blockL (sub (bodyOf Tryz.f3) [1,1,1]) k (trimL (cfg.keep 3) (sub (bodyOf Tryz.f3) [1,1,1]) al) H) (retL cfg 40 3 Tryz.f3 H0)
theorem L38_SedvmNil_K1_tame (H0:Hp):Tame 40 (L38_SedvmNil_K1 H0):=tame_seq (C:=cfg) (kp:=cfg.keep 3) (sub (bodyOf Tryz.f3) [1,1,1]) (tame_ret 3 Tryz.f3 H0)
noncomputable def L38_SedvmNil_J3 (x0 x3 x4:AV) (H0 H:Hp):Res:=CXL cfg (callw cfg) (LPL cfg (cfg.keep 3) 40) (cfg.keep 3) 40 seqL blockL (sub (bodyOf Tryz.f3) [1,1,0,1,0,0,1,1]) (seqL (fun k al H=>LPL cfg (cfg.keep 3) 40 (sub (bodyOf Tryz.f3) [1,1,0,1,0,0]) k (trimL (cfg.keep 3) (sub (bodyOf Tryz.f3) [1,1,0,1,0,0]) al) H) (blockL 0 (L38_SedvmNil_K1 H0))) [(0,x0),(3,x3),(4,x4)] H
noncomputable def L38_SedvmNil_J2 (x0 x3 x4:AV) (H0 H:Hp):Res:=CXL cfg (callw cfg) (LPL cfg (cfg.keep 3) 40) (cfg.keep 3) 40 seqL blockL (sub (bodyOf Tryz.f3) [1,1,0,1,0,0,1]) (seqL (fun k al H=>LPL cfg (cfg.keep 3) 40 (sub (bodyOf Tryz.f3) [1,1,0,1,0,0]) k (trimL (cfg.keep 3) (sub (bodyOf Tryz.f3) [1,1,0,1,0,0]) al) H) (blockL 0 (L38_SedvmNil_K1 H0))) [(0,x0),(3,x3),(4,x4)] H
noncomputable def L38_SedvmNil_L1 (x0 x3 x4:AV) (H0 H:Hp):Res:=LPL cfg (cfg.keep 3) 40 (sub (bodyOf Tryz.f3) [1,1,0,1,0,0]) (blockL 0 (L38_SedvmNil_K1 H0)) [(0,x0),(3,x3),(4,x4)] H
noncomputable def F_L38_SedvmNil (p0:AV) (H:Hp):Res :=
 L38_SedvmNil_L1 p0 .nilp (.int .i64 0) H H
theorem L38_SedvmNil_J1_eq (x3 : AV) (H0 H : Hp) : L38_SedvmNil_J1 x3 H0 H =
    bnd (C_sedvm_Machine_Close [x3] H) fun r34_1 =>
    bnd (some (.agg [(.str []),.nils,.nils,(.int .i64 0)])) fun t35_2 =>
    bnd (flatC C_R38_SameResult [r34_1.1,t35_2] r34_1.2) fun r36_3 =>
    bnd (gdv r36_3.1 true ((.tuple []),r36_3.2) (flatC C_L38_awake [] r36_3.2)) fun r38_4 =>
    bnd (apick r36_3.1 r38_4.1 (.bool false)) fun t39_5 =>
    some (t39_5,r38_4.2):=(CXM_eq [4,5,7] _ _ _ _).trans (by kernel_rfl)
theorem L38_SedvmNil_J3_eq (x0 x3 x4 : AV) (H0 H : Hp) : L38_SedvmNil_J3 x0 x3 x4 H0 H =
    bnd (ibin .add x4 (.int .i64 1)) fun t10_6 =>
    L38_SedvmNil_L1 x0 x3 t10_6 H0 H:=(CXM_eq [4,5,7] _ _ _ _).trans (by kernel_rfl)
theorem L38_SedvmNil_J2_eq (x0 x3 x4 : AV) (H0 H : Hp) : L38_SedvmNil_J2 x0 x3 x4 H0 H =
    bnd (aindexS 3 x0 x4) fun t14_7 =>
    bnd (afield 0 t14_7) fun t15_8 =>
    bnd (aload false 1 t15_8 H) fun t16_9 =>
    bnd (aindexS 3 x0 x4) fun t19_10 =>
    bnd (afield 1 t19_10) fun t20_11 =>
    bnd (aload false 1 t20_11 H) fun t21_12 =>
    bnd (aindexS 3 x0 x4) fun t24_13 =>
    bnd (afield 2 t24_13) fun t25_14 =>
    bnd (aload false 1 t25_14 H) fun t26_15 =>
    bnd (C_sedvm_Machine_Feed [x3,t16_9,t21_12,t26_15] H) fun r27_16 =>
    bnd (sbin .neq r27_16.1 (.str [])) fun t28_17 =>
    bnd (gdv t28_17 false (.tuple []) (some x3)) fun t30_18 =>
    bnd (gdv t28_17 false ((.tuple []),r27_16.2) (C_sedvm_Machine_Done [t30_18] r27_16.2)) fun r31_19 =>
    bnd (apick t28_17 (.bool true) r31_19.1) fun t32_20 =>
    cnd t32_20
     (some ((.bool false),r31_19.2))
     (L38_SedvmNil_J3 x0 x3 x4 H0 r31_19.2):=(CXM_eq [4,5,7] _ _ _ _).trans (by kernel_rfl)
theorem L38_SedvmNil_L1_eq (x0 x3 x4 : AV) (H0 H : Hp) : L38_SedvmNil_L1 x0 x3 x4 H0 H =
    bnd (alenD (.slice 26) x0) fun t7_21 =>
    bnd (ibin .lss x4 t7_21) fun t8_22 =>
    cnd t8_22
     (L38_SedvmNil_J2 x0 x3 x4 H0 H)
     (L38_SedvmNil_J1 x3 H0 H):=(LPL_eqm (C:=cfg) [4,5,7] (tame_block 0 (L38_SedvmNil_K1_tame H0)) _ _).trans (by kernel_rfl)
theorem F_L38_SedvmNil_eq (p0:AV) (H:Hp):C_L38_SedvmNil [p0] H=F_L38_SedvmNil p0 H:=(callw_cxm (C:=cfg) (fn:=Tryz.f3) (c:=bodyOf Tryz.f3) (n:=40) [4,5,7] Tryz.func3 (by kernel_rfl) (by kernel_rfl) [p0] (by kernel_rfl) H).trans (by kernel_rfl)

noncomputable def sedvm_Machine_Feed_J1 (x0 x1 x2 x3:AV) (H0 H:Hp):Res:=CXL cfg (callw cfg) (LPL cfg (cfg.keep 4) 63) (cfg.keep 4) 63 seqL blockL (sub (bodyOf Tryz.f4) [1,1]) (retL cfg 63 4 Tryz.f4 H0) [(0,x0),(1,x1),(2,x2),(3,x3)] H
noncomputable def F_sedvm_Machine_Feed (p0 p1 p2 p3:AV) (H:Hp):Res :=
 bnd (ebin (.pointer 58) .eql p0 .nilp) fun t11_30 =>
 bnd (gdv t11_30 false (.tuple []) (some p0)) fun t13_31 =>
 bnd (gdv t11_30 false (.tuple []) (anil t13_31)) fun t14_32 =>
 bnd (gdv t11_30 false (.tuple []) (afield 11 t14_32)) fun t15_33 =>
 bnd (gdv t11_30 false (.tuple []) (aload false 1 t15_33 H)) fun t16_34 =>
 bnd (apick t11_30 (.bool true) t16_34) fun t17_35 =>
 bnd (gdv t17_35 false (.tuple []) (some p0)) fun t19_36 =>
 bnd (gdv t17_35 false (.tuple []) (anil t19_36)) fun t20_37 =>
 bnd (gdv t17_35 false (.tuple []) (afield 9 t20_37)) fun t21_38 =>
 bnd (gdv t17_35 false (.tuple []) (aload false 1 t21_38 H)) fun t22_39 =>
 bnd (apick t17_35 (.bool true) t22_39) fun t23_40 =>
 cnd t23_40
  (some ((.str []),H))
  (sedvm_Machine_Feed_J1 p0 p1 p2 p3 H H)
theorem F_sedvm_Machine_Feed_eq (p0 p1 p2 p3:AV) (H:Hp):C_sedvm_Machine_Feed [p0,p1,p2,p3] H=F_sedvm_Machine_Feed p0 p1 p2 p3 H:=(callw_cxm (C:=cfg) (fn:=Tryz.f4) (c:=bodyOf Tryz.f4) (n:=63) [3] Tryz.func4 (by kernel_rfl) (by kernel_rfl) [p0,p1,p2,p3] (by kernel_rfl) H).trans (by kernel_rfl)

noncomputable def F_sedvm_Machine_Done (p0:AV) (H:Hp):Res :=
 bnd (ebin (.pointer 58) .neq p0 .nilp) fun t4_1 =>
 bnd (gdv t4_1 true (.tuple []) (some p0)) fun t6_2 =>
 bnd (gdv t4_1 true (.tuple []) (anil t6_2)) fun t7_3 =>
 bnd (gdv t4_1 true (.tuple []) (afield 11 t7_3)) fun t8_4 =>
 bnd (gdv t4_1 true (.tuple []) (aload false 1 t8_4 H)) fun t9_5 =>
 bnd (apick t4_1 t9_5 (.bool false)) fun t10_6 =>
 some (t10_6,H)
theorem F_sedvm_Machine_Done_eq (p0:AV) (H:Hp):C_sedvm_Machine_Done [p0] H=F_sedvm_Machine_Done p0 H:=(callw_cxm (C:=cfg) (fn:=Tryz.f5) (c:=bodyOf Tryz.f5) (n:=11) [] Tryz.func5 (by kernel_rfl) (by kernel_rfl) [p0] (by kernel_rfl) H).trans (by kernel_rfl)

noncomputable def sedvm_Machine_Close_J1 (x0 x2:AV) (H0 H:Hp):Res:=CXL cfg (callw cfg) (LPL cfg (cfg.keep 7) 71) (cfg.keep 7) 71 seqL blockL (sub (bodyOf Tryz.f7) [1,1]) (retL cfg 71 7 Tryz.f7 H0) [(0,x0),(2,x2)] H
noncomputable def F_sedvm_Machine_Close (p0:AV) (H:Hp):Res :=
 bnd (some ((.ptr H.length 0),H++[.cells [(.str []),.nils,.nils,(.int .i64 0)]])) fun r2_1 =>
 bnd (ebin (.pointer 58) .eql p0 .nilp) fun t7_55 =>
 bnd (gdv t7_55 false (.tuple []) (some p0)) fun t9_56 =>
 bnd (gdv t7_55 false (.tuple []) (anil t9_56)) fun t10_57 =>
 bnd (gdv t7_55 false (.tuple []) (afield 10 t10_57)) fun t11_58 =>
 bnd (gdv t7_55 false (.tuple []) (aload false 1 t11_58 r2_1.2)) fun t12_59 =>
 bnd (apick t7_55 (.bool true) t12_59) fun t13_60 =>
 cnd t13_60
  (bnd (some (.agg [(.str []),.nils,.nils,(.int .i64 0)])) fun t14_61 =>
  bnd (astoreU 4 r2_1.1 t14_61 r2_1.2) fun r_62 =>
  bnd (aload true 4 r2_1.1 r_62.2) fun v2_63 =>
  some (v2_63,r_62.2))
  (sedvm_Machine_Close_J1 p0 r2_1.1 H r2_1.2)
theorem F_sedvm_Machine_Close_eq (p0:AV) (H:Hp):C_sedvm_Machine_Close [p0] H=F_sedvm_Machine_Close p0 H:=(callw_cxm (C:=cfg) (fn:=Tryz.f7) (c:=bodyOf Tryz.f7) (n:=71) [3,8,10,11,14] Tryz.func7 (by kernel_rfl) (by kernel_rfl) [p0] (by kernel_rfl) H).trans (by kernel_rfl)

theorem user_ok:∀ f ∈ userList,UserOk Tryz.prog f :=
 userOk_cons Tryz.call3 (
 userOk_cons Tryz.call4 (
 userOk_cons Tryz.call5 (
 userOk_cons Tryz.call6 (
 userOk_cons Tryz.call7 (
 userOk_cons Tryz.call8 (
 userOk_cons Tryz.call9 (
 userOk_cons Tryz.call10 (
 userOk_cons Tryz.call11 (
 userOk_cons Tryz.call12 (
 userOk_cons Tryz.call13 (
 userOk_cons Tryz.call14 (
 userOk_cons Tryz.call15 (
 userOk_cons Tryz.call16 (
 userOk_cons Tryz.call17 (
 userOk_cons Tryz.call18 (
 userOk_cons Tryz.call19 (
 userOk_cons Tryz.call20 (
 userOk_cons Tryz.call21 (
 userOk_cons Tryz.call22 (
 userOk_cons Tryz.call23 (
 userOk_cons Tryz.call24 (
 userOk_cons Tryz.call25 (
 userOk_cons Tryz.call26 (
 userOk_cons Tryz.call27 (
 userOk_cons Tryz.call28 (
 userOk_cons Tryz.call29 (
 userOk_cons Tryz.call30 (
 userOk_cons Tryz.call31 (
 userOk_cons Tryz.call32 (
 userOk_cons Tryz.call33 (
 userOk_cons Tryz.call34 (
 userOk_cons Tryz.call35 (
 userOk_cons Tryz.call36 (
 userOk_cons Tryz.call37 (
 userOk_cons Tryz.call38 (
 userOk_cons Tryz.call39 (
 userOk_cons Tryz.call40 (
 userOk_cons Tryz.call41 (
 userOk_cons Tryz.call42 (
 userOk_cons Tryz.call43 (
 userOk_cons Tryz.call44 (
 userOk_cons Tryz.call45 (
 userOk_cons Tryz.call46 (
 userOk_cons Tryz.call47 (
 userOk_cons Tryz.call48 (
 userOk_cons Tryz.call49 (
 userOk_cons Tryz.call50 (
 userOk_cons Tryz.call51 (
 userOk_cons Tryz.call52 (
 userOk_cons Tryz.call53 (
 userOk_cons Tryz.call54 (
 userOk_cons Tryz.call55 (
 userOk_cons Tryz.call56 (
 userOk_cons Tryz.call57 (
 userOk_cons Tryz.call58 (
 userOk_cons Tryz.call59 (
 userOk_cons Tryz.call60 (
 userOk_cons Tryz.call61 (
 userOk_cons Tryz.call62 (
 userOk_cons Tryz.call63 (
 userOk_cons Tryz.call64 (
 userOk_cons Tryz.call65 (
 userOk_cons Tryz.call66 (
 userOk_cons Tryz.call67 (
 userOk_cons Tryz.call68 (
 userOk_cons Tryz.call69 (
 userOk_cons Tryz.call70 (
 userOk_cons Tryz.call71 (
 userOk_cons Tryz.call72 (
 userOk_cons Tryz.call73 (
 userOk_cons Tryz.call74 (
 userOk_cons Tryz.call75 (
 userOk_cons Tryz.call76 (
 userOk_cons Tryz.call77 (
 userOk_cons Tryz.call78 (
 userOk_cons Tryz.call79 (
 userOk_cons Tryz.call80 (
 userOk_cons Tryz.call81 (
 userOk_cons Tryz.call82 (
 userOk_cons Tryz.call83 (
 userOk_cons Tryz.call84 (
 userOk_cons Tryz.call85 (
 userOk_cons Tryz.call86 (
 userOk_cons Tryz.call87 (
 userOk_cons Tryz.call88 (
 userOk_cons Tryz.call89 (
 userOk_cons Tryz.call90 (
 userOk_cons Tryz.call91 (
 userOk_cons Tryz.call92 (
 userOk_cons Tryz.call93 (
 userOk_cons Tryz.call94 (
 userOk_cons Tryz.call95 (
 userOk_cons Tryz.call96 (
 userOk_cons Tryz.call97 (
 userOk_cons Tryz.call98 (
 userOk_cons Tryz.call99 (
 userOk_cons Tryz.call100 (
 userOk_cons Tryz.call101 (
 userOk_cons Tryz.call102 (
 userOk_cons Tryz.call103 (
 userOk_cons Tryz.call104 (
 userOk_cons Tryz.call105 (
 userOk_cons Tryz.call106 (
 userOk_cons Tryz.call107 (
 userOk_cons Tryz.call108 (
 userOk_cons Tryz.call109 (
 userOk_cons Tryz.call110 (
 userOk_cons Tryz.call111 (
 userOk_cons Tryz.call112 (
 userOk_cons Tryz.call113 (
 userOk_cons Tryz.call114 (
 userOk_cons Tryz.call115 (
 userOk_cons Tryz.call116 (
 userOk_cons Tryz.call117 (
 userOk_cons Tryz.call118 (
 userOk_cons Tryz.call119 (
 userOk_cons Tryz.call120 (
 userOk_cons Tryz.call121 (
 userOk_cons Tryz.call122 (
 userOk_cons Tryz.call123 (
 userOk_cons Tryz.call124 (
 userOk_cons Tryz.call125 (
 userOk_cons Tryz.call126 (
 userOk_cons Tryz.call127 (
 userOk_cons Tryz.call128 (
 userOk_cons Tryz.call129 (
 userOk_cons Tryz.call131 (
 userOk_cons Tryz.call132 (
 userOk_cons Tryz.call133 (
 userOk_cons Tryz.call134 (
 userOk_cons Tryz.call135 (
 userOk_cons Tryz.call136 (
 userOk_cons Tryz.call137 (
 userOk_cons Tryz.call138 (
 userOk_cons Tryz.call139 (
 userOk_cons Tryz.call140 (
 userOk_cons Tryz.call141 (
 userOk_cons Tryz.call142 (
 userOk_cons Tryz.call143 (
 userOk_cons Tryz.call144 (
 userOk_cons Tryz.call145 (
 userOk_cons Tryz.call146 (
 userOk_cons Tryz.call147 (
 userOk_cons Tryz.call148 (
 userOk_cons Tryz.call150 (
 userOk_cons Tryz.call151 (
 userOk_cons Tryz.call153 (
 userOk_cons Tryz.call154 (
 userOk_cons Tryz.call155 (
 userOk_cons Tryz.call156 (
 userOk_cons Tryz.call157 (
 userOk_cons Tryz.call158 (
 userOk_cons Tryz.call159 (
 userOk_cons Tryz.call160 (
 userOk_cons Tryz.call161 (
 userOk_cons Tryz.call162 (
 userOk_cons Tryz.call163 (
 userOk_cons Tryz.call164 (
 userOk_cons Tryz.call165 (
 userOk_cons Tryz.call166 (
 userOk_cons Tryz.call167 (
 userOk_cons Tryz.call168 (
 userOk_cons Tryz.call169 (
 userOk_cons Tryz.call170 (
 userOk_cons Tryz.call171 (
 userOk_cons Tryz.call172 (
 userOk_cons Tryz.call173 (
 userOk_cons Tryz.call174 (
 userOk_cons Tryz.call175 (
 userOk_cons Tryz.call177 (
 userOk_cons Tryz.call178 (
 userOk_cons Tryz.call179 (
 userOk_cons Tryz.call180 (
 userOk_cons Tryz.call181 (
 userOk_cons Tryz.call182 (
 userOk_cons Tryz.call183 (
 userOk_cons Tryz.call184 (
 userOk_cons Tryz.call185 (
 userOk_cons Tryz.call186 (
 userOk_cons Tryz.call187 (
 userOk_cons Tryz.call188 (
 userOk_cons Tryz.call189 (
 userOk_cons Tryz.call190 (
 userOk_cons Tryz.call191 (
 userOk_cons Tryz.call192 (
 userOk_cons Tryz.call193 (
 userOk_cons Tryz.call194 (
 userOk_cons Tryz.call195 (
 userOk_cons Tryz.call196 (
 userOk_cons Tryz.call197 (
 userOk_cons Tryz.call198 (
 userOk_cons Tryz.call199 (
 userOk_cons Tryz.call200 (
 userOk_cons Tryz.call201 (
 userOk_cons Tryz.call202 (
 userOk_cons Tryz.call203 (
 userOk_cons Tryz.call204 (
 userOk_cons Tryz.call205 (
 userOk_cons Tryz.call206 (
 userOk_cons Tryz.call207 (
 userOk_cons Tryz.call208 (
 userOk_cons Tryz.call209 (
 userOk_cons Tryz.call210 (
 userOk_cons Tryz.call211 (
 userOk_cons Tryz.call212 (
 userOk_cons Tryz.call213 (
 userOk_cons Tryz.call214 (
 userOk_cons Tryz.call215 (
 userOk_cons Tryz.call216 (
 userOk_cons Tryz.call217 (
 userOk_cons Tryz.call218 (
 userOk_cons Tryz.call219 (
 userOk_cons Tryz.call220 (
 userOk_cons Tryz.call221 (
 userOk_cons Tryz.call222 (
 userOk_cons Tryz.call223 (
 userOk_cons Tryz.call224 (
 userOk_cons Tryz.call225 (
 userOk_cons Tryz.call226 (
 userOk_cons Tryz.call227 (
 userOk_cons Tryz.call228 (
 userOk_cons Tryz.call229 (
 userOk_cons Tryz.call230 (
 userOk_cons Tryz.call231 (
 userOk_cons Tryz.call232 (
 userOk_cons Tryz.call233 (
 userOk_cons Tryz.call234 (
 userOk_cons Tryz.call235 (
 userOk_cons Tryz.call236 (
 userOk_cons Tryz.call237 (
 userOk_cons Tryz.call238 (
 userOk_cons Tryz.call239 (
 userOk_cons Tryz.call240 (
 userOk_cons Tryz.call241 (
 userOk_cons Tryz.call242 (
 userOk_cons Tryz.call243 (
 userOk_cons Tryz.call244 (
 userOk_cons Tryz.call245 (
 userOk_cons Tryz.call246 (
 userOk_cons Tryz.call247 (
 userOk_cons Tryz.call248 (
 userOk_cons Tryz.call249 (
 userOk_cons Tryz.call250 (
 userOk_cons Tryz.call251 (
 userOk_cons Tryz.call252 (
 userOk_cons Tryz.call253 (
 userOk_cons Tryz.call254 (
 userOk_cons Tryz.call255 (
 userOk_cons Tryz.call256 (
 userOk_cons Tryz.call257 (
 userOk_cons Tryz.call258 (
 userOk_cons Tryz.call259 (
 userOk_cons Tryz.call260 (
 userOk_cons Tryz.call261 (
 userOk_cons Tryz.call262 (
 userOk_cons Tryz.call263 (
 userOk_cons Tryz.call264 (
 userOk_cons Tryz.call265 (
 userOk_cons Tryz.call266 (
 userOk_cons Tryz.call267 (
 userOk_cons Tryz.call268 (
 userOk_cons Tryz.call269 (
 userOk_cons Tryz.call270 (
 userOk_cons Tryz.call271 (
 userOk_cons Tryz.call272 (
 userOk_cons Tryz.call273 (
 userOk_cons Tryz.call274 (
 userOk_cons Tryz.call275 (
 userOk_cons Tryz.call276 (
 userOk_cons Tryz.call277 (
 userOk_cons Tryz.call278 (
 userOk_cons Tryz.call279 (
 userOk_cons Tryz.call280 (
 userOk_cons Tryz.call281 (
 userOk_cons Tryz.call282 (
 userOk_cons Tryz.call283 (
 userOk_cons Tryz.call284 (
 userOk_cons Tryz.call285 (
 userOk_cons Tryz.call286 (
 userOk_cons Tryz.call287 (
 userOk_cons Tryz.call288 (
 userOk_cons Tryz.call289 (
 userOk_cons Tryz.call290 (
 userOk_cons Tryz.call291 (
 userOk_cons Tryz.call292 (
 userOk_cons Tryz.call293 (
 userOk_cons Tryz.call294 (
 userOk_cons Tryz.call295 (
 userOk_cons Tryz.call296 (
 userOk_cons Tryz.call297 (
 userOk_cons Tryz.call298 (
 userOk_cons Tryz.call299 (
 userOk_cons Tryz.call300 (
 userOk_cons Tryz.call301 (
 userOk_cons Tryz.call302 (
 userOk_cons Tryz.call303 (
 userOk_cons Tryz.call304 (
 userOk_cons Tryz.call305 (
 userOk_cons Tryz.call306 (
 userOk_cons Tryz.call307 (
 userOk_cons Tryz.call308 (
 userOk_cons Tryz.call309 (
 userOk_cons Tryz.call310 (
 userOk_cons Tryz.call311 (
 userOk_cons Tryz.call329 (
 userOk_cons Tryz.call330 (
 userOk_cons Tryz.call331 (
 userOk_cons Tryz.call332 (
 userOk_cons Tryz.call333 (
 userOk_cons Tryz.call334 (
 userOk_cons Tryz.call335 (
 userOk_cons Tryz.call336 (
 userOk_cons Tryz.call337 (
 userOk_cons Tryz.call338 (
 userOk_cons Tryz.call339 (
 userOk_cons Tryz.call340 (
 userOk_cons Tryz.call341 (
 userOk_cons Tryz.call342 (
 userOk_cons Tryz.call343 (
 userOk_cons Tryz.call344 (
 userOk_cons Tryz.call345 (
 userOk_cons Tryz.call346 (
 userOk_cons Tryz.call347 (
 userOk_cons Tryz.call348 (
 userOk_cons Tryz.call349 (
 userOk_cons Tryz.call350 (
 userOk_cons Tryz.call351 (
 userOk_cons Tryz.call352 (
 userOk_cons Tryz.call353 (
 userOk_cons Tryz.call354 (
 userOk_cons Tryz.call355 (
 userOk_cons Tryz.call356 (
 userOk_cons Tryz.call357 (
 userOk_cons Tryz.call358 (
 userOk_cons Tryz.call359 (
 userOk_cons Tryz.call360 (
 userOk_cons Tryz.call361 (
 userOk_cons Tryz.call362 (
 userOk_cons Tryz.call363 (
 userOk_cons Tryz.call364 (userOk_nil)))))))))))))))))))))))))))))))))))))))))))))))))))))))))))))))))))))))))))))))))))))))))))))))))))))))))))))))))))))))))))))))))))))))))))))))))))))))))))))))))))))))))))))))))))))))))))))))))))))))))))))))))))))))))))))))))))))))))))))))))))))))))))))))))))))))))))))))))))))))))))))))))))))))))))))))))))))))))))))))))))))))))))))))))))))
theorem eq_ok:∀ t ∈ eqList,Tryz.prog.stoodInHeld t=false∧Tryz.prog.eqGuardType Tryz.prog.depth t=false:=by
 intro t ht
 simp only [eqList,List.mem_cons,List.not_mem_nil,or_false] at ht
 rcases ht with rfl | rfl | rfl
 ·exact ⟨by kernel_rfl,Tryz.eqGuardType45⟩
 ·exact ⟨Tryz.stoodInHeld47,Tryz.eqGuardType47⟩
 ·exact ⟨Tryz.stoodInHeld83,Tryz.eqGuardType83⟩
theorem ext130_ok (args:Array Value) (w:World):(callFunc 130 args).run Tryz.prog w=(do pure (.value (← extF .count args)):Sem Next).run Tryz.prog w:=by kernel_rfl
theorem ext149_ok (args:Array Value) (w:World):(callFunc 149 args).run Tryz.prog w=(do pure (.value (← extF .indexByte args)):Sem Next).run Tryz.prog w:=by kernel_rfl
theorem ext176_ok (args:Array Value) (w:World):(callFunc 176 args).run Tryz.prog w=(do pure (.value (← extF .same args)):Sem Next).run Tryz.prog w:=by kernel_rfl
theorem ext_ok:∀ f e,cfg.ext f=some e→∀ (args:Array Value) (w:World),(callFunc f args).run Tryz.prog w=(do pure (.value (← extF e args)):Sem Next).run Tryz.prog w:=by
 intro f e h
 have h2:=lookup_mem (l:=extList) h
 simp only [extList,List.mem_cons,Prod.mk.injEq,List.not_mem_nil,or_false] at h2
 rcases h2 with ⟨rfl,rfl⟩ | ⟨rfl,rfl⟩ | ⟨rfl,rfl⟩
 ·exact ext130_ok
 ·exact ext149_ok
 ·exact ext176_ok
theorem sum_ok:∀ f g,cfg.sum f=some g→cfg.user f=true∧SumOk cfg f g:=by
 intro f g h
 have h2:=lookup_mem (l:=sumList) h
 simp only [sumList,List.mem_cons,Prod.mk.injEq,List.not_mem_nil,or_false] at h2
 rcases h2 with ⟨rfl,rfl⟩
 ·exact ⟨by kernel_rfl,knownA_ok (C:=cfg) rfl (fun _=>rfl)⟩
theorem eff_ok:∀ f g,cfg.eff f=some g→cfg.user f=true∧EffOk cfg f g:=by
 intro f g h
 have h2:=lookup_mem (l:=effList) h
 simp only [effList,List.mem_cons,Prod.mk.injEq,List.not_mem_nil,or_false] at h2
 rcases h2 with ⟨rfl,rfl⟩ | ⟨rfl,rfl⟩ | ⟨rfl,rfl⟩ | ⟨rfl,rfl⟩
 ·exact ⟨by kernel_rfl,byteE_ok (C:=cfg) rfl (fun _=>rfl)⟩
 ·exact ⟨by kernel_rfl,textE_ok (C:=cfg) rfl (fun _=>rfl)⟩
 ·exact ⟨by kernel_rfl,stringE_ok (C:=cfg) rfl (fun _=>rfl)⟩
 ·exact ⟨by kernel_rfl,lenE_ok (C:=cfg) rfl (fun _=>rfl)⟩
theorem cfg_ok:okCfg cfg :=
 ⟨fun t h=>eq_ok t (List.contains_iff_mem.1 h),fun f h=>user_ok f (List.contains_iff_mem.1 h),by kernel_rfl,ext_ok,sum_ok,eff_ok⟩
end Go.Am
