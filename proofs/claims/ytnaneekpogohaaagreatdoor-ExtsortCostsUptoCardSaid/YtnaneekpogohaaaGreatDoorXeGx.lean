/-
  The functions of the translation over the abstract machine: written by program (wip/gen.py).
-/
import Derived.Test.YtnaneekpogohaaaGreatDoorProg
import Derived.Test.YtnaneekpogohaaaGreatDoorXeFex
namespace Go.Am
open Go.Proofs
set_option maxRecDepth 100000
set_option linter.unusedVariables false
set_option linter.unusedSimpArgs false

def keepList:List (Nat × List (Nat × List Nat)):=[(3,[(3,[1,3,5]),(4,[1,3,5,7]),(5,[1,3,5,7]),(6,[1,3,5,7]),(8,[1,3,5]),(12,[1,3,5,8,9]),(13,[1,3,5,8,9,10]),(14,[1,3,5,8,9,10]),(15,[1,3,5,8,9,10]),(19,[1,3,5,8,9,10]),(20,[1,3,5,8,9]),(24,[1,3,5,8,9]),(28,[1,3,8,9])]),
 (4,[(3,[1,2]),(8,[1,2,5,6,7,8,9]),(9,[1,2,5,6,7,8,9]),(10,[1,2,5,6,7,8,9]),(11,[1,2,5,6,8]),(1000011,[2,5])]),
 (5,[(3,[1,2]),(1000003,[2])]),
 (6,[(3,[1,2]),(6,[1,2,5])]),
 (7,[(3,[1,2,3]),(7,[1,3,8,10]),(9,[1,3,8])]),
 (8,[(3,[1,2]),(7,[1,2,6,7,8,9,10]),(8,[1,2,6,7,8,9,10]),(9,[1,2,6,7,8,9,10]),(11,[2,6,7,8,9]),(1000003,[2])]),
 (9,[(3,[0,3])]),
 (10,[(3,[1,3,5]),(6,[1,3,5,7]),(11,[1,3,5,7,8]),(17,[1,3,7,8])]),
 (11,[(2,[0,3]),(3,[0,3]),(4,[0,3]),(6,[0])]),
 (12,[(4,[2,4]),(6,[2]),(8,[2]),(9,[2,8]),(10,[2,8]),(11,[2,8]),(13,[])]),
 (14,[(4,[0,1,2,3,4]),(5,[0,1,2,3,4]),(6,[0,1,2,3,4]),(9,[0,1,2,3,4,5,6]),(11,[0,1,2,3,4,5,6]),(14,[0,1,2,3])]),
 (16,[(11,[0,1]),(13,[0,1])]),
 (17,[(4,[0,2,7]),(6,[0,2,7])]),
 (18,[(4,[6])]),
 (20,[(4,[0,4,6,7,8,11,12]),(7,[4,6,7,8,11,12,14]),(13,[8,11,12,14,15,16,35]),(14,[8,11,12,14,15,16,35]),(17,[11,12,14,15,16,35]),(20,[10,11,12,14,15,16,35]),(24,[10,11,12,16,35]),(900002,[10,11,12,35])]),
 (21,[(1,[0,1]),(3,[0,1,18,19,20]),(4,[0,1,18,19,20,21]),(10,[0,1,18,19,20])]),
 (22,[(3,[0]),(5,[0,4,11,12,13]),(6,[0,4,11,12,13,14]),(10,[0,4,11,12,13]),(11,[0,4,11,12,13]),(12,[4])]),
 (23,[(4,[2,3,10]),(6,[2,3,10])]),
 (24,[(3,[0,1]),(4,[0,1,5]),(5,[0,1,5]),(6,[0,1,5]),(8,[])]),
 (25,[(3,[2,3,4]),(6,[7]),(1000003,[3,4])]),
 (26,[(3,[0]),(5,[0,3,10,11,12]),(6,[0,3,10,11,12,13]),(9,[0,3,10,11,12]),(10,[3])]),
 (27,[(5,[1,5,6,7,8,15,16,17]),(6,[1,5,6,7,8,15,16,17,18]),(11,[1,5,6,7,8,11,15,16,17]),(12,[1,5,6,7,8,15,16,17]),(13,[5,6,7]),(16,[6])]),
 (28,[(3,[2,3,4]),(7,[3,4,7,8,9,10]),(8,[3,4,7,8,9]),(9,[3,4,7,8,9,10]),(11,[3,4,9]),(13,[9]),(1000003,[3,4])]),
 (29,[(3,[2,3,4]),(4,[2,3,4,7]),(5,[2,3,4,7]),(6,[2,3,4,7]),(9,[])]),
 (30,[(2,[0,3]),(3,[0,3]),(4,[0,3]),(6,[0])]),
 (32,[(4,[1])]),
 (33,[(4,[3,4,5,6,9]),(8,[3,4,5,6,9,12,13,14,15]),(9,[3,4,5,6,9,12,13,14,15]),(10,[3,4,5,6,9,12,13,14,15]),(12,[3,4,5,6,9,12,13,14,15,16,17]),(13,[3,4,5,6,9,12,13,14,15,16,17]),(14,[3,4,5,6,9,12,13,14,15,16,17]),(15,[3,4,5,6,9,12,13,14,15,16]),(18,[3,4,5,6,9,12,13,14]),(19,[3,4,5,6,9,12,14]),(20,[3,4,5,6,9,12,14]),(21,[3,4,5,9,12])]),
 (34,[(3,[0,1]),(4,[0,1,5]),(5,[0,1,5]),(6,[0,1,5]),(8,[])]),
 (35,[(3,[0,3,4,5]),(5,[3,4,5,6,14,15,16]),(6,[3,4,5,6,14,15,16,17]),(9,[3,4,5,6,7,8,14,15,16]),(12,[3,4,5,6,9,14,15,16]),(13,[3,4,5,6,14,15,16]),(14,[3,4,5]),(15,[3,4,5,10]),(16,[3,4,5,10]),(17,[3,4,5,10]),(18,[4,5])]),
 (36,[(3,[0,3,4,5]),(4,[0,3,4,5,6]),(5,[0,3,4,5,6]),(6,[0,3,4,5,6]),(8,[0,3,4,5]),(10,[0,3,4,5,7,8]),(11,[0,3,4,5,7,8]),(12,[0,3,4,5,7,8]),(16,[0,3,4,5,7,8,9]),(17,[3,4,5]),(18,[3,4,5,10]),(19,[3,4,5,10]),(20,[3,4,5,10]),(21,[4,5])]),
 (37,[(3,[1]),(5,[1]),(6,[1,3]),(7,[1,3]),(8,[1,3]),(10,[])]),
 (39,[(6,[0])]),
 (40,[(2,[0,7,8]),(3,[0,7,8,9]),(8,[0,7,8]),(9,[0])]),
 (41,[(3,[0,1]),(5,[0,1]),(8,[6])]),
 (42,[(3,[3,5,6]),(6,[3,6]),(8,[3]),(10,[3]),(11,[25,26,27]),(12,[25,26,27,28]),(15,[25,26,27]),(16,[])]),
 (43,[(3,[0,1,2]),(5,[0,1,2]),(6,[0,1,2,18,19,20]),(7,[0,1,2,18,19,20,21]),(11,[0,1,2,18,19,20]),(12,[0,1,2])]),
 (45,[(3,[0]),(5,[0]),(6,[0]),(10,[0,3]),(11,[0])]),
 (46,[(2,[0,13,14,15]),(3,[0,13,14,15,16]),(7,[0,8,9,13,14,15]),(11,[0,13,14,15]),(12,[])]),
 (47,[(3,[0,5,19,20,21]),(4,[0,5,19,20,21,22]),(7,[0,5,8,19,20,21,25,26,27]),(8,[0,5,8,19,20,21,25,26,27,28]),(10,[0,5,8,19,20,21,25,26,27]),(11,[0,5,8,19,20,21]),(14,[0,5,11,19,20,21]),(15,[0,5,19,20,21]),(16,[0,5])]),
 (48,[(3,[0,4,15,16,17]),(4,[0,4,15,16,17,18]),(6,[0,4,15,16,17]),(7,[0,4]),(9,[7,8]),(12,[7,8,9,10]),(14,[7,8,9])]),
 (50,[(4,[0,1,5]),(6,[5,6,21,22,23]),(7,[5,6,21,22,23,24]),(11,[5,6,21,22,23]),(12,[5])]),
 (51,[(4,[6])]),
 (52,[(3,[1]),(5,[1]),(6,[33,34,35]),(7,[33,34,35,36]),(10,[33,34,35]),(11,[])]),
 (53,[(3,[0])]),
 (54,[(3,[0,1]),(6,[1,6,7,8]),(7,[1,6,7,8]),(12,[6,7,8])]),
 (56,[(5,[2,3,4,5]),(8,[9])]),
 (57,[(3,[1,5,8,9,10]),(4,[1,5,8,9,10,11]),(7,[1,5,8,9,10]),(8,[5])]),
 (59,[(4,[2,3,4,5]),(5,[2,3,4,5,26,27,28]),(6,[2,3,4,5,26,27,28,29]),(10,[2,3,4,5,10,11,26,27,28]),(13,[2,3,4,5,26,27,28]),(14,[]),(1000010,[4,5,10])]),
 (60,[(3,[0,3,9,10,11]),(4,[0,3,9,10,11,12]),(8,[0,3,9,10,11]),(9,[0,3]),(11,[6,25,26,27]),(12,[6,25,26,27,28]),(14,[6,25,26,27]),(15,[6])]),
 (62,[(3,[0])]),
 (63,[(3,[0,1,5,8,9,10]),(4,[0,1,5,8,9,10,11]),(7,[0,1,5,8,9,10]),(8,[5])]),
 (65,[(4,[0,1,5,6,7]),(5,[0,1,5,6,7]),(6,[0,1,5,6,7]),(15,[5])]),
 (66,[(4,[2,3,4,7]),(5,[2,3,4,7,8]),(6,[2,3,4,7,8]),(7,[2,3,4,7,8]),(8,[3,4,7])]),
 (67,[(3,[0,3,4]),(4,[0,3,4]),(5,[0,3,4]),(6,[3])]),
 (68,[(4,[3,5,6,9,11,12,13,14]),(5,[3,5,6,9,11,12,13,14]),(6,[3,5,6,9,11,12,13,14]),(8,[3,5,6,9,11,12,13,14,15,16]),(9,[3,5,6,9,11,12,13,14,15,16]),(10,[3,5,6,9,11,12,13,14,15,16]),(11,[3,5,6,9,11,12,13,14,15]),(13,[3,5,6,9,11,12,13,14,15]),(17,[3,5,6,9,11,12,13,14,17,18,19]),(18,[3,5,6,9,11,12,13,14,17,18,19]),(19,[3,5,6,9,11,12,13,14,17,18,19]),(20,[3,5,6,9,11,12,13,14,17,18,19,20]),(21,[3,5,6,9,11,12,13,14,17,18,19,20]),(22,[3,5,6,9,11,12,13,14,17,18,19,20]),(23,[3,5,6,9,11,12,13,14,17,18]),(25,[9,11,13])]),
 (70,[(3,[0,1]),(5,[0,1]),(7,[0,1,5,6]),(8,[0,1,5,6]),(10,[0,1,5,6,7,8]),(11,[0,1,5,6,7,8]),(12,[0,1,5,6,7,8]),(14,[0,1,5,6,7]),(15,[5])]),
 (71,[(3,[1])]),
 (72,[(2,[0,7,8]),(3,[0,7,8,9]),(8,[0,7,8]),(9,[0])]),
 (74,[(3,[0,3,5,6]),(6,[0,3,5,6,10]),(9,[0,10]),(12,[10])]),
 (76,[(3,[3,6,7,8]),(4,[3,6,7,8,9]),(6,[3,6,7,8]),(7,[3])]),
 (77,[(4,[1,5,12,13]),(5,[1,5,12,13,14]),(8,[1,5,6,12,13]),(10,[1,5,12,13]),(11,[5])]),
 (78,[(3,[0,1]),(6,[0,1,6]),(9,[0,6,48,49,50]),(10,[0,6,48,49,50,51]),(14,[0,6,48,49,50]),(15,[0,6,48,49,50]),(16,[6])]),
 (79,[(3,[0,1])]),
 (80,[(1000002,[4])]),
 (81,[(3,[0]),(6,[0,5]),(7,[0,5])]),
 (84,[(2,[0,5,6]),(3,[0,5,6,7]),(6,[0,5,6]),(7,[0])]),
 (86,[(3,[1,2])]),
 (87,[(5,[1,2,8,9,24,25]),(6,[1,2,8,9,24,25,26]),(9,[1,2,8,9,10,24,25]),(11,[1,2,8,9,24,25]),(12,[1,2,8,9]),(14,[1,2,8,9]),(16,[1,2]),(1000002,[3])]),
 (88,[(4,[4,5,6,7,9]),(8,[4,5,6,7,9]),(1000011,[4])]),
 (89,[(4,[0,2,4,7,8]),(12,[0,7,10]),(14,[0,7,10])]),
 (91,[(2,[2,3,4,5,9]),(3,[2,3,4,5,9]),(4,[2,3,9])]),
 (92,[(3,[2,3,4,7,8]),(4,[2,3,4,7,8]),(5,[2,3,4,7,8]),(7,[7])]),
 (93,[(3,[0,3,4]),(4,[0,3,4]),(5,[0,3,4]),(6,[3])]),
 (94,[(4,[2,7,8]),(5,[2,7,8]),(6,[2,7,8]),(7,[7]),(8,[2,3,4,7]),(9,[2,3,4,7,9]),(11,[2,3,4,7,9,10,11]),(12,[2,3,4,7,9,10,11]),(13,[2,3,4,7,9,10,11]),(15,[2,3,4,7,9,10]),(17,[2,3,4,7,9,10])]),
 (97,[(3,[0]),(5,[0]),(9,[0,4])]),
 (98,[(4,[0,1,2]),(6,[0,1,2]),(9,[0,1,8]),(11,[0,1,8])]),
 (99,[(4,[0,1]),(7,[0,1])]),
 (100,[(3,[0])]),
 (101,[(3,[0,3,5,6]),(6,[0,3,5,6,10]),(8,[0,5,6,10,12,31,32,33]),(9,[0,5,6,10,12,31,32,33,34]),(11,[0,5,6,10,12,31,32,33]),(12,[0,5,6,10,12]),(13,[0,10,15]),(16,[0,10,15,16,17]),(17,[0,10,15,16]),(20,[0,10]),(23,[10])]),
 (102,[(4,[0,1]),(7,[0,1])]),
 (104,[(5,[1,5,6,7,20,21,22]),(6,[1,5,6,7,20,21,22,23]),(10,[1,5,6,7,8,10,11,20,21,22]),(12,[1,5,6,7,20,21,22]),(13,[1,5,7]),(15,[1,5]),(18,[13])]),
 (107,[(3,[1,2])]),
 (109,[(3,[1,2,3,6,16,17,18]),(4,[1,2,3,6,16,17,18,19]),(6,[1,2,3,6,16,17,18]),(7,[1,2,3,6]),(8,[1,2,3,6,9]),(9,[1,2,3,6,9]),(14,[1,2,3,6,9,10,11]),(15,[1,2,3,6,9,10])]),
 (112,[(2,[0,4]),(3,[0,4]),(4,[0,4]),(7,[0,4,5]),(14,[5,6,7,8,9]),(16,[5,7,8,9]),(19,[9,11])]),
 (113,[(5,[])]),
 (117,[(3,[0,3,7,8]),(4,[0,3,7,8,9]),(8,[0,3,7,8]),(9,[3])]),
 (120,[(3,[0,1,2,6,9]),(4,[0,1,2,6,9]),(7,[0,1,2,6,9,10]),(9,[0,1,2,6,9,10]),(10,[0,1,6]),(11,[0,1,6,11]),(12,[0,1,6,11]),(13,[0,1,6,11]),(14,[0,1,6,7,11]),(15,[0,1,6,7,11]),(16,[0,1,6,7,11]),(17,[0,1,6,7,11]),(18,[0,1,6,7,11]),(20,[0,1,7,11]),(21,[])]),
 (121,[(5,[2,3,4,5]),(8,[9])]),
 (122,[(4,[2,3,4,5]),(5,[2,3,4,5,9]),(6,[2,3,4,5,9]),(7,[2,3,4,5,9]),(10,[2,3,4,5,9,10]),(13,[]),(1000010,[4,5,10])]),
 (125,[(7,[])]),
 (126,[(3,[4,9,10,11]),(4,[4,9,10,11,12]),(8,[4,7,9,10,11]),(9,[4,9,10,11]),(10,[4])]),
 (127,[(3,[0,3,10,11,12]),(4,[0,3,10,11,12,13]),(7,[0,3,10,11,12]),(8,[3])]),
 (129,[(3,[0]),(11,[0]),(13,[0])]),
 (131,[(4,[5,6,7])]),
 (143,[(3,[1]),(5,[1]),(6,[1,27,28,29]),(7,[1,27,28,29,30]),(10,[1,27,28,29]),(11,[1]),(14,[1])]),
 (144,[(3,[0,1,5,6]),(4,[0,1,5,6,7]),(6,[0,1,5,6]),(7,[0,1])]),
 (146,[(2,[0,3]),(3,[0,3]),(4,[3])]),
 (147,[(3,[0,1,5,8,9]),(4,[0,1,5,8,9,10]),(8,[0,1,5,8,9]),(9,[1,5])]),
 (155,[(3,[0,5,10,11]),(4,[0,5,10,11,12]),(6,[0,5,10,11]),(7,[5])]),
 (157,[(3,[1,2])]),
 (158,[(5,[1,2])]),
 (160,[(5,[3,9]),(7,[9])]),
 (161,[(5,[0,4,7,8,9]),(12,[0,11,12]),(14,[0,11,12]),(1000002,[4]),(1000006,[10]),(1000011,[13])]),
 (164,[(3,[0])]),
 (166,[(4,[0,1,2]),(7,[2,10]),(9,[2,10]),(12,[2,12,13])]),
 (173,[(2,[0,7,8]),(3,[0,7,8,9]),(8,[0,7,8]),(9,[0])]),
 (174,[(3,[0]),(5,[3,10,11,12]),(6,[3,10,11,12,13]),(9,[3,5,10,11,12]),(11,[3,5,10,11,12]),(12,[3,10,11,12]),(13,[])]),
 (175,[(3,[0]),(5,[3,10,11,12]),(6,[3,10,11,12,13]),(9,[3,5,10,11,12]),(11,[3,5,10,11,12]),(12,[3,10,11,12]),(13,[])]),
 (176,[(3,[0,1,2,7,11,12]),(4,[0,1,2,7,11,12,13]),(8,[0,1,2,7,11,12]),(9,[7])]),
 (178,[(3,[0,3,5]),(4,[0,3,5,6]),(8,[0,3,5]),(9,[3])]),
 (184,[(3,[1,2])]),
 (185,[(2,[0,1,5]),(3,[0,1,5]),(4,[0,1,5]),(6,[0,1,5]),(8,[0,1]),(10,[0,1]),(12,[])]),
 (186,[(3,[1,2,5,6]),(4,[1,2,5,6]),(10,[5])]),
 (187,[(3,[0,1,5,6,7]),(4,[0,1,5,6,7]),(5,[0,1,5,6,7]),(6,[1,5,6]),(7,[1,5,6,8]),(8,[1,5,6,8]),(9,[1,5,6,8]),(10,[5,6])]),
 (188,[(5,[5,7]),(7,[])]),
 (189,[(1,[1,2,3]),(2,[1,2,3]),(3,[1,2,3]),(5,[1,2,3]),(7,[1])]),
 (190,[(5,[0,1,5,6,7]),(6,[0,1,5,6,7]),(7,[0,1,5,6,7]),(10,[0,5,6]),(11,[0,5,6]),(12,[0,5,6,8]),(13,[0,5,6,8]),(14,[0,5,6,8]),(17,[0,5,6]),(19,[5])]),
 (191,[(3,[1])]),
 (192,[(3,[1])]),
 (194,[(2,[0,1,7,8]),(3,[0,1,7,8,9]),(6,[0,1,7,8]),(7,[])]),
 (196,[(3,[0,1]),(6,[1,7]),(9,[1,7,8]),(11,[1,7,8]),(13,[1,7,8])]),
 (202,[(3,[1]),(5,[1]),(6,[1,3]),(7,[1,3]),(8,[1,3]),(10,[1]),(12,[1]),(15,[1])]),
 (203,[(2,[1,2,3,7]),(3,[1,2,3,7]),(4,[1,2,3,7]),(6,[])]),
 (204,[(2,[0,4]),(3,[0,4]),(4,[0,4]),(7,[0,4,5]),(14,[0,4,5,6,7,8]),(16,[0,4,5,6,7,8]),(18,[0,4,5,6,7,8]),(21,[5,7,10]),(23,[7,10])]),
 (206,[(3,[0,3,4]),(4,[0,3,4]),(5,[0,3,4]),(8,[3])]),
 (209,[(3,[0,3,6,7]),(4,[0,3,6,7,8]),(8,[0,3,6,7]),(9,[3])]),
 (213,[(3,[0]),(4,[0,3]),(5,[0,3]),(6,[0,3]),(9,[])]),
 (215,[(3,[0]),(4,[0,3]),(5,[0,3]),(6,[0,3]),(8,[0,3]),(9,[0,3,4]),(10,[0,3,4]),(11,[0,3,4]),(13,[])]),
 (216,[(3,[0]),(4,[0,3]),(5,[0,3]),(6,[0,3]),(8,[0,3]),(9,[0,3,4]),(10,[0,3,4]),(11,[0,3,4]),(13,[])]),
 (217,[(1,[0,1]),(2,[0,1]),(3,[1])]),
 (218,[(3,[0,1,6,7]),(4,[0,1,6,7]),(5,[0,1,6,7]),(8,[1,6]),(9,[1,6,8]),(10,[1,6,8]),(11,[1,6,8]),(14,[6])]),
 (219,[(3,[0,1,5,6]),(4,[0,1,5,6]),(5,[0,1,5,6]),(6,[5])])]
def userList:List Nat:=[3,4,5,6,7,8,9,10,11,12,13,14,15,16,17,18,19,20,21,22,23,24,25,26,27,28,29,30,31,32,33,34,35,36,37,38,39,40,41,42,43,44,45,46,47,48,49,50,51,52,53,54,55,56,57,58,59,60,61,62,63,64,65,66,67,68,69,70,71,72,73,74,75,76,77,78,79,80,81,82,83,84,85,86,87,88,89,90,91,92,93,94,95,96,97,98,99,100,101,102,103,104,105,106,107,108,109,110,111,112,113,114,115,116,117,118,119,120,121,122,123,124,125,126,127,128,129,130,131,132,133,134,135,136,137,138,139,140,141,142,143,144,145,146,147,148,149,150,151,152,153,154,155,156,157,158,159,160,161,162,163,164,165,166,167,168,169,170,171,172,173,174,175,176,178,179,180,181,182,183,184,185,186,187,188,189,190,191,192,193,194,195,196,197,198,199,202,203,204,205,206,207,208,209,210,211,213,214,215,216,217,218,219,220,221,222,223,224,225,226,227,228,229]
def pureList:List Nat:=[28,94]
def flatList:List Nat:=[11,12,13,14,24,25,27,28,29,30,31,32,34,35,36,37,38,40,52,53,54,55,56,57,58,59,61,64,65,66,67,69,70,71,72,76,77,83,84,86,87,88,91,92,93,94,103,107,108,111,112,113,115,117,118,119,121,122,124,126,143,144,145,146,147,155,157,158,159,160,163,164,173,174,175,176,178,184,185,186,187,188,189,194,195,196,202,203,204,206,207,209,213,214,215,216,217,218,219]
def extList:List (Nat × ExtK):=[(177,.cmp),(200,.same),(201,.indexByte)]
def roList:List Nat:=[26,50,100,127]
def eqList:List Nat:=[]
noncomputable def sumList:List (Nat × (List AV→Option AV)):=[(116,trimA),(162,itoaA)]
noncomputable def effList:List (Nat × EffFn):=[(49,namesE),(73,forgetE),(90,growE),(153,byteE),(154,stringE),(165,textE)]
def bldList:List (Nat × Nat):=[(201,5)]
def wrbList:List Nat:=[79]
def qkList:List (Nat × List Nat):=[(11,[12]),(14,[15])]
def linList:List Nat:=[29,38]
def farList:List (Nat × Nat × Nat × Nat):=[(35,12,50,11)]
def dfrList:List Nat:=[20]
noncomputable def cfg:Cfg:={ P:=Tryz.prog,glob:=globF,sum:=fun f=>sumList.lookup f,user:=fun f=>userList.contains f,eqok:=fun t=>eqList.contains t,pure:=fun f=>pureList.contains f,flat:=fun f=>flatList.contains f,ext:=fun f=>extList.lookup f,keep:=keepTab keepList,eff:=fun f=>effList.lookup f,bld:=fun t=>bldList.lookup t,lin:=fun t=>linList.contains t,qk:=fun t a=>qkList.contains (t,a),wrb:=fun t=>wrbList.contains t,ro:=fun f=>roList.contains f,far:=some fun t a u b=>farList.contains (t,a,u,b),dfr:=fun f=>dfrList.contains f }
noncomputable def C_L24_ExtsortCosts:List AV→Hp→Res:=callw cfg 9
noncomputable def C_extsort_Cost:List AV→Hp→Res:=callw cfg 35
noncomputable def C_R24_Cost:List AV→Hp→Res:=callw cfg 36
noncomputable def C_R24_Valid:List AV→Hp→Res:=callw cfg 38
noncomputable def C_extsort_valid:List AV→Hp→Res:=callw cfg 69
noncomputable def C_R23_Plan:List AV→Hp→Res:=callw cfg 70
noncomputable def C_L24_awake:List AV→Hp→Res:=callw cfg 32

theorem user_ok:∀ f ∈ userList,UserOk Tryz.prog f :=
 userOk_cons Tryz.call3 (
 userOk_cons Tryz.call4 (
 userOk_cons Tryz.call5 (
 userOk_cons Tryz.call6 (
 userOk_cons Tryz.call7 (
 userOk_cons Tryz.call8 (
 userOk_cons Tryz.call9 (
 userOk_cons Tryz.call10 (
 userOk_cons Tryz.call11 (
 userOk_cons Tryz.call12 (
 userOk_cons Tryz.call13 (
 userOk_cons Tryz.call14 (
 userOk_cons Tryz.call15 (
 userOk_cons Tryz.call16 (
 userOk_cons Tryz.call17 (
 userOk_cons Tryz.call18 (
 userOk_cons Tryz.call19 (
 userOk_cons Tryz.call20 (
 userOk_cons Tryz.call21 (
 userOk_cons Tryz.call22 (
 userOk_cons Tryz.call23 (
 userOk_cons Tryz.call24 (
 userOk_cons Tryz.call25 (
 userOk_cons Tryz.call26 (
 userOk_cons Tryz.call27 (
 userOk_cons Tryz.call28 (
 userOk_cons Tryz.call29 (
 userOk_cons Tryz.call30 (
 userOk_cons Tryz.call31 (
 userOk_cons Tryz.call32 (
 userOk_cons Tryz.call33 (
 userOk_cons Tryz.call34 (
 userOk_cons Tryz.call35 (
 userOk_cons Tryz.call36 (
 userOk_cons Tryz.call37 (
 userOk_cons Tryz.call38 (
 userOk_cons Tryz.call39 (
 userOk_cons Tryz.call40 (
 userOk_cons Tryz.call41 (
 userOk_cons Tryz.call42 (
 userOk_cons Tryz.call43 (
 userOk_cons Tryz.call44 (
 userOk_cons Tryz.call45 (
 userOk_cons Tryz.call46 (
 userOk_cons Tryz.call47 (
 userOk_cons Tryz.call48 (
 userOk_cons Tryz.call49 (
 userOk_cons Tryz.call50 (
 userOk_cons Tryz.call51 (
 userOk_cons Tryz.call52 (
 userOk_cons Tryz.call53 (
 userOk_cons Tryz.call54 (
 userOk_cons Tryz.call55 (
 userOk_cons Tryz.call56 (
 userOk_cons Tryz.call57 (
 userOk_cons Tryz.call58 (
 userOk_cons Tryz.call59 (
 userOk_cons Tryz.call60 (
 userOk_cons Tryz.call61 (
 userOk_cons Tryz.call62 (
 userOk_cons Tryz.call63 (
 userOk_cons Tryz.call64 (
 userOk_cons Tryz.call65 (
 userOk_cons Tryz.call66 (
 userOk_cons Tryz.call67 (
 userOk_cons Tryz.call68 (
 userOk_cons Tryz.call69 (
 userOk_cons Tryz.call70 (
 userOk_cons Tryz.call71 (
 userOk_cons Tryz.call72 (
 userOk_cons Tryz.call73 (
 userOk_cons Tryz.call74 (
 userOk_cons Tryz.call75 (
 userOk_cons Tryz.call76 (
 userOk_cons Tryz.call77 (
 userOk_cons Tryz.call78 (
 userOk_cons Tryz.call79 (
 userOk_cons Tryz.call80 (
 userOk_cons Tryz.call81 (
 userOk_cons Tryz.call82 (
 userOk_cons Tryz.call83 (
 userOk_cons Tryz.call84 (
 userOk_cons Tryz.call85 (
 userOk_cons Tryz.call86 (
 userOk_cons Tryz.call87 (
 userOk_cons Tryz.call88 (
 userOk_cons Tryz.call89 (
 userOk_cons Tryz.call90 (
 userOk_cons Tryz.call91 (
 userOk_cons Tryz.call92 (
 userOk_cons Tryz.call93 (
 userOk_cons Tryz.call94 (
 userOk_cons Tryz.call95 (
 userOk_cons Tryz.call96 (
 userOk_cons Tryz.call97 (
 userOk_cons Tryz.call98 (
 userOk_cons Tryz.call99 (
 userOk_cons Tryz.call100 (
 userOk_cons Tryz.call101 (
 userOk_cons Tryz.call102 (
 userOk_cons Tryz.call103 (
 userOk_cons Tryz.call104 (
 userOk_cons Tryz.call105 (
 userOk_cons Tryz.call106 (
 userOk_cons Tryz.call107 (
 userOk_cons Tryz.call108 (
 userOk_cons Tryz.call109 (
 userOk_cons Tryz.call110 (
 userOk_cons Tryz.call111 (
 userOk_cons Tryz.call112 (
 userOk_cons Tryz.call113 (
 userOk_cons Tryz.call114 (
 userOk_cons Tryz.call115 (
 userOk_cons Tryz.call116 (
 userOk_cons Tryz.call117 (
 userOk_cons Tryz.call118 (
 userOk_cons Tryz.call119 (
 userOk_cons Tryz.call120 (
 userOk_cons Tryz.call121 (
 userOk_cons Tryz.call122 (
 userOk_cons Tryz.call123 (
 userOk_cons Tryz.call124 (
 userOk_cons Tryz.call125 (
 userOk_cons Tryz.call126 (
 userOk_cons Tryz.call127 (
 userOk_cons Tryz.call128 (
 userOk_cons Tryz.call129 (
 userOk_cons Tryz.call130 (
 userOk_cons Tryz.call131 (
 userOk_cons Tryz.call132 (
 userOk_cons Tryz.call133 (
 userOk_cons Tryz.call134 (
 userOk_cons Tryz.call135 (
 userOk_cons Tryz.call136 (
 userOk_cons Tryz.call137 (
 userOk_cons Tryz.call138 (
 userOk_cons Tryz.call139 (
 userOk_cons Tryz.call140 (
 userOk_cons Tryz.call141 (
 userOk_cons Tryz.call142 (
 userOk_cons Tryz.call143 (
 userOk_cons Tryz.call144 (
 userOk_cons Tryz.call145 (
 userOk_cons Tryz.call146 (
 userOk_cons Tryz.call147 (
 userOk_cons Tryz.call148 (
 userOk_cons Tryz.call149 (
 userOk_cons Tryz.call150 (
 userOk_cons Tryz.call151 (
 userOk_cons Tryz.call152 (
 userOk_cons Tryz.call153 (
 userOk_cons Tryz.call154 (
 userOk_cons Tryz.call155 (
 userOk_cons Tryz.call156 (
 userOk_cons Tryz.call157 (
 userOk_cons Tryz.call158 (
 userOk_cons Tryz.call159 (
 userOk_cons Tryz.call160 (
 userOk_cons Tryz.call161 (
 userOk_cons Tryz.call162 (
 userOk_cons Tryz.call163 (
 userOk_cons Tryz.call164 (
 userOk_cons Tryz.call165 (
 userOk_cons Tryz.call166 (
 userOk_cons Tryz.call167 (
 userOk_cons Tryz.call168 (
 userOk_cons Tryz.call169 (
 userOk_cons Tryz.call170 (
 userOk_cons Tryz.call171 (
 userOk_cons Tryz.call172 (
 userOk_cons Tryz.call173 (
 userOk_cons Tryz.call174 (
 userOk_cons Tryz.call175 (
 userOk_cons Tryz.call176 (
 userOk_cons Tryz.call178 (
 userOk_cons Tryz.call179 (
 userOk_cons Tryz.call180 (
 userOk_cons Tryz.call181 (
 userOk_cons Tryz.call182 (
 userOk_cons Tryz.call183 (
 userOk_cons Tryz.call184 (
 userOk_cons Tryz.call185 (
 userOk_cons Tryz.call186 (
 userOk_cons Tryz.call187 (
 userOk_cons Tryz.call188 (
 userOk_cons Tryz.call189 (
 userOk_cons Tryz.call190 (
 userOk_cons Tryz.call191 (
 userOk_cons Tryz.call192 (
 userOk_cons Tryz.call193 (
 userOk_cons Tryz.call194 (
 userOk_cons Tryz.call195 (
 userOk_cons Tryz.call196 (
 userOk_cons Tryz.call197 (
 userOk_cons Tryz.call198 (
 userOk_cons Tryz.call199 (
 userOk_cons Tryz.call202 (
 userOk_cons Tryz.call203 (
 userOk_cons Tryz.call204 (
 userOk_cons Tryz.call205 (
 userOk_cons Tryz.call206 (
 userOk_cons Tryz.call207 (
 userOk_cons Tryz.call208 (
 userOk_cons Tryz.call209 (
 userOk_cons Tryz.call210 (
 userOk_cons Tryz.call211 (
 userOk_cons Tryz.call213 (
 userOk_cons Tryz.call214 (
 userOk_cons Tryz.call215 (
 userOk_cons Tryz.call216 (
 userOk_cons Tryz.call217 (
 userOk_cons Tryz.call218 (
 userOk_cons Tryz.call219 (
 userOk_cons Tryz.call220 (
 userOk_cons Tryz.call221 (
 userOk_cons Tryz.call222 (
 userOk_cons Tryz.call223 (
 userOk_cons Tryz.call224 (
 userOk_cons Tryz.call225 (
 userOk_cons Tryz.call226 (
 userOk_cons Tryz.call227 (
 userOk_cons Tryz.call228 (
 userOk_cons Tryz.call229 (userOk_nil)))))))))))))))))))))))))))))))))))))))))))))))))))))))))))))))))))))))))))))))))))))))))))))))))))))))))))))))))))))))))))))))))))))))))))))))))))))))))))))))))))))))))))))))))))))))))))))))))))))))))))))))))))))))))))))))
theorem eq_ok:∀ t ∈ eqList,Tryz.prog.stoodInHeld t=false∧Tryz.prog.eqGuardType Tryz.prog.depth t=false:=by
 intro t ht
 simp only [eqList,List.mem_cons,List.not_mem_nil,or_false] at ht

theorem ext177_ok (args:Array Value) (w:World):(callFunc 177 args).run Tryz.prog w=(do pure (.value (← extF .cmp args)):Sem Next).run Tryz.prog w:=by kernel_rfl
theorem ext200_ok (args:Array Value) (w:World):(callFunc 200 args).run Tryz.prog w=(do pure (.value (← extF .same args)):Sem Next).run Tryz.prog w:=by kernel_rfl
theorem ext201_ok (args:Array Value) (w:World):(callFunc 201 args).run Tryz.prog w=(do pure (.value (← extF .indexByte args)):Sem Next).run Tryz.prog w:=by kernel_rfl
theorem ext_ok:∀ f e,cfg.ext f=some e→∀ (args:Array Value) (w:World),(callFunc f args).run Tryz.prog w=(do pure (.value (← extF e args)):Sem Next).run Tryz.prog w:=by
 intro f e h
 have h2:=lookup_mem (l:=extList) h
 simp only [extList,List.mem_cons,Prod.mk.injEq,List.not_mem_nil,or_false] at h2
 rcases h2 with ⟨rfl,rfl⟩ | ⟨rfl,rfl⟩ | ⟨rfl,rfl⟩
 ·exact ext177_ok
 ·exact ext200_ok
 ·exact ext201_ok
theorem sum_ok:∀ f g,cfg.sum f=some g→cfg.user f=true∧SumOk cfg f g:=by
 intro f g h
 have h2:=lookup_mem (l:=sumList) h
 simp only [sumList,List.mem_cons,Prod.mk.injEq,List.not_mem_nil,or_false] at h2
 rcases h2 with ⟨rfl,rfl⟩ | ⟨rfl,rfl⟩
 ·exact ⟨by kernel_rfl,trimA_ok (C:=cfg) rfl (fun _=>rfl)⟩
 ·exact ⟨by kernel_rfl,itoaA_ok (C:=cfg) rfl (fun _=>rfl)⟩
theorem eff_ok:∀ f g,cfg.eff f=some g→cfg.user f=true∧EffOk cfg f g:=by
 intro f g h
 have h2:=lookup_mem (l:=effList) h
 simp only [effList,List.mem_cons,Prod.mk.injEq,List.not_mem_nil,or_false] at h2
 rcases h2 with ⟨rfl,rfl⟩ | ⟨rfl,rfl⟩ | ⟨rfl,rfl⟩ | ⟨rfl,rfl⟩ | ⟨rfl,rfl⟩ | ⟨rfl,rfl⟩
 ·exact ⟨by kernel_rfl,namesE_ok (C:=cfg) rfl (fun _=>rfl)⟩
 ·exact ⟨by kernel_rfl,forgetE_ok (C:=cfg) rfl (fun _=>rfl)⟩
 ·exact ⟨by kernel_rfl,growE_ok (C:=cfg) rfl (fun _=>rfl)⟩
 ·exact ⟨by kernel_rfl,byteE_ok (C:=cfg) rfl (fun _=>rfl)⟩
 ·exact ⟨by kernel_rfl,stringE_ok (C:=cfg) rfl (fun _=>rfl)⟩
 ·exact ⟨by kernel_rfl,textE_ok (C:=cfg) rfl (fun _=>rfl)⟩
theorem cfg_ok:okCfg cfg :=
 ⟨fun t h=>eq_ok t (List.contains_iff_mem.1 h),fun f h=>user_ok f (List.contains_iff_mem.1 h),by kernel_rfl,ext_ok,sum_ok,eff_ok⟩
end Go.Am
