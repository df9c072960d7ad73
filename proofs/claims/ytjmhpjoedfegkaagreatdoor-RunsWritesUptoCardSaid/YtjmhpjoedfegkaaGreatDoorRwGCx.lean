/- The functions of the translation over the abstract machine -/
import Derived.Test.YtjmhpjoedfegkaaGreatDoorRwGx
open Option renaming some->b,none->e
open Bool renaming true->c,false->a
open List renaming length->d
open Go.Proofs.Tryz
open Go.Am.AV renaming int->Q
open Go.IntKind renaming i64->J
namespace Go.Am
open Go.Proofs
set_option maxRecDepth 100000
noncomputable abbrev Zx (f n:Nat):=Y7 cfg (Za cfg) (ZT cfg (cfg.keep f) n) (cfg.keep f) n Zc Z7
noncomputable abbrev Xj (f n:Nat):=ZT cfg (cfg.keep f) n
noncomputable section
abbrev YT (f n:Nat)(F:Func)(p:Nat):KL->AL->Hp->Z3:=λk h H=>Zx f n (sub (Z1 F) (dx p)) k (Y3 (cfg.keep f) (sub (Z1 F) (dx p)) h) H
abbrev Y4 (f n:Nat)(F:Func)(p:Nat):KL->AL->Hp->Z3:=λk h H=>Xj f n (sub (Z1 F) (dx p)) k (Y3 (cfg.keep f) (sub (Z1 F) (dx p)) h) H
variable (x p1 p2 p3 p4 X W O V I U v r x8 o t s q x13 x16 x17 x18 x19 x24 x25 x26 x27 x28 x29 x30:AV)(Y H:Hp)
noncomputable abbrev ah (f n:Nat)(F:Func)(p:Nat)(G:Hp):=λk K=>Zx f n (sub (Z1 F) (dx p)) (Zd cfg n f F G) k K
abbrev ai (F:Func)(p:Nat):=sub (Z1 F) (dx p)
abbrev aj:dv:=[5,6,9,11,14]
abbrev ak:dv:=[4,6,10,13,14]
abbrev am:dv:=[6,9,11,12,14,16]
abbrev ap:dv:=[4,6,7,10,13]
abbrev aq:dv:=[4,6,7,9,14,15]
abbrev ar:dv:=[3,4,7,14,16,19]
abbrev au:dv:=[4,8,9]
abbrev aw:dv:=[3,5,7,10,11,14]
abbrev ax:dv:=[3,4,6,8,10,12]
abbrev ay:dv:=[4,5,6,8,9,10]
abbrev az:dv:=[3,6,9,11,12,13]
abbrev ba:dv:=[3,5,7,8,10,12,15]
abbrev bb:dv:=[3,4,7,14,16,18,21,23]
abbrev bc:dv:=[3,5,6,8,10,11,13]
abbrev bd:dv:=[4,5,8,10,11,14]
def cJ:Z3:=ah 14 55 f14 31 Y [(0,X),(1,W),(2,O),(3,V)] H
def Jq:KL:=Zc (YT 14 55 f14 31) (Zd cfg 55 14 f14 Y)
theorem oC:ZV 55 (Jq Y):=Zv (C:=cfg) (kp:=cfg.keep 14) (ai f14 31) (Zy 14 f14 Y)
def cL:Z3:=Zx 14 55 (ai f14 979) (Zc (Y4 14 55 f14 244) (Z7 0 (Jq Y))) [(0,X),(1,W),(2,O),(3,V),(4,I)] H
def cM:KL:=Zc (YT 14 55 f14 979) (Zc (Y4 14 55 f14 244) (Z7 0 (Jq Y)))
def NC:Z3:=Zx 14 55 (ai f14 15655) (Z7 1 (cM Y)) [(0,X),(1,W),(2,O),(3,V),(4,I),(5,U),(6,v)] H
def NB:Z3:=Zx 14 55 (ai f14 7827) (Z7 1 (cM Y)) [(0,X),(1,W),(2,O),(3,V),(4,I),(5,U),(6,v)] H
def cK:Z3:=Zx 14 55 (ai f14 489) (Zc (Y4 14 55 f14 244) (Z7 0 (Jq Y))) [(0,X),(1,W),(2,O),(3,V),(4,I)] H
def Jr:Z3:=Xj 14 55 (ai f14 244) (Z7 0 (Jq Y)) [(0,X),(1,W),(2,O),(3,V),(4,I)] H
def lB:Z3:=
 Z0 (b ((.ptr (d H) 0),H++[.cells [(.str []),.nils,(.str []),(.str []),.nils,.nils]])) λh=>
 Z0 ((Yb [(0,1,(.str [112,111,115,105,120]))] [(.str []),.nils,(.str []),(.str []),.nils,.nils]).map .agg) λw=>
 Z0 (b ((.ptr (d h.2) 0),h.2++[.cells [(.str []),.nils,(.str []),(.str []),.nils,.nils]])) λj=>
 Z0 (Zg 6 j.1 w j.2) λu=>
 Jr h.1 j.1 .nils .nils (Q J 0) H u.2
theorem Zd6:cJ X W O V Y H =
 Z0 (XM O H) λw=>
 Z0 (Z6 2 W) λy=>
 Z0 (Zg 1 y w H) λu=>
 Z0 (XM V u.2) λz=>
 Z0 (Z6 3 W) λA=>
 Z0 (Zg 1 A z u.2) λh=>
 Z0 (Z4 c 6 W h.2) λB=>
 Z0 (Zg 6 X B h.2) λj=>
 Z0 (Z4 c 6 X j.2) λC=>
 b (C,j.2):=Z9 aj
theorem Zd8:cL X W O V I Y H =
 Z0 (Z2 .add I (Q J 1)) λh=>
 Jr X W O V h Y H:=Z9 aj
theorem Zda:NC X W O V I U v Y H =
 Z0 (Z6 1 W) λy=>
 Z0 (Z4 a 1 y H) λz=>
 Z0 ((ZB 1 [(0,I)] [(Q J 0)]).map (.vs 1 .clip)) λt37=>
 Z0 (Ya 1 8 z t37 H) λh=>
 Z0 (Z6 1 W) λA=>
 Z0 (Zg 1 A h.1 h.2) λw=>
 Z0 ((ZB 1 [(0,U)] [(.int .u8 0)]).map (.vs 1 .clip)) λB=>
 Z0 (Ya 1 1 O B w.2) λj=>
 Z0 ((ZB 1 [(0,v)] [(.int .u8 0)]).map (.vs 1 .clip)) λC=>
 Z0 (Ya 1 1 V C j.2) λu=>
 cL X W j.1 u.1 I Y u.2:=Z9 aj
theorem Zd9:NB X W O V I U v Y H =
 Z0 (Z2 .geq I (Q J 97)) λh=>
 Z0 (Z8 h c bf (b I)) λj=>
 Z0 (Z8 h c bf (Z2 .leq j (Q J 122))) λu=>
 Z0 (Zm h u (.bool a)) λw=>
 Zh w
 (Z0 (Z2 .sub I (Q J 32)) λy=>
 Z0 (ZS .u8 y) λz=>
 NC X W O V I U z Y H)
 (NC X W O V I U v Y H):=Z9 aj
theorem Zd7:cK X W O V I Y H =
 Z0 (ZS .u8 I) λu=>
 Z0 (ZS .u8 I) λj=>
 Z0 (Z2 .geq I (Q J 65)) λh=>
 Z0 (Z8 h c bf (b I)) λw=>
 Z0 (Z8 h c bf (Z2 .leq w (Q J 90))) λy=>
 Z0 (Zm h y (.bool a)) λz=>
 Zh z
 (Z0 (Z2 .add I (Q J 32)) λA=>
 Z0 (ZS .u8 A) λB=>
 NB X W O V I B j Y H)
 (NB X W O V I u j Y H):=Z9 aj
theorem Zdb:Jr X W O V I Y H =
 Z0 (Z2 .lss I (Q J 256)) λt9=>
 Zh t9
 (cK X W O V I Y H)
 (cJ X W O V Y H):=(ZC (C:=cfg) [5,6,9,11,14] (Zo 0 (oC Y)) _ _).trans dz
theorem ZeO:Q0 [] H=lB H:=Be 55 [5,6,9,11,14] func14
def lX:Z3:=ah 53 59 f53 15 Y [] H
def FM:KL:=Zc (YT 53 59 f53 15) (Zd cfg 59 53 f53 Y)
theorem ZaI:ZV 59 (FM Y):=Zv (C:=cfg) (kp:=cfg.keep 53) (ai f53 15) (Zy 53 f53 Y)
def LJ:Z3:=Zx 53 59 (ai f53 467) (Zc (Y4 53 59 f53 116) (Z7 0 (FM Y))) [(0,X),(3,V)] H
def LI:Z3:=Zx 53 59 (ai f53 233) (Zc (Y4 53 59 f53 116) (Z7 0 (FM Y))) [(0,X),(3,V)] H
def FN:Z3:=Xj 53 59 (ai f53 116) (Z7 0 (FM Y)) [(0,X),(3,V)] H
def lW:Z3:=ah 53 59 f53 7 Y [(0,X)] H
def Za0:Z3:=
 Z0 (Zf .string x) λL=>
 Z0 (Z2 .eql L (Q J 0)) λu=>
 Z0 (Z8 u a bf (b x)) λt9=>
 Z0 (Z8 u a bf (Zf .string t9)) λw=>
 Z0 (Z8 u a bf (Z2 .gtr w (Q J 32))) λy=>
 Z0 (Zm u (.bool c) y) λh=>
 Z0 (Z8 h a bf (b x)) λz=>
 Z0 (Z8 h a bf (Zp z (Q J 0))) λA=>
 Z0 (Z8 h a bf (Z2 .geq A (.int .u8 48))) λB=>
 Z0 (Z8 h a bf (b B)) λj=>
 Z0 (Z8 j c bf (b x)) λC=>
 Z0 (Z8 j c bf (Zp C (Q J 0))) λD=>
 Z0 (Z8 j c bf (Z2 .leq D (.int .u8 57))) λE=>
 Z0 (Z8 h a bf (Zm j E (.bool a))) λF=>
 Z0 (Zm h (.bool c) F) λG=>
 Zh G
 (b ((.bool a),H))
 (lW x H H)
theorem Zfi:lX Y H =
 b ((.bool c),H):=Z9 [3,5,6,9]
theorem Zfk:LJ X V Y H =
 Z0 (Z2 .add V (Q J 1)) λh=>
 FN X h Y H:=Z9 [3,5,6,9]
theorem Zfj:LI X V Y H =
 Z0 (Zp X V) λh=>
 Z0 (Z2 .geq h (.int .u8 97)) λu=>
 Z0 (Z8 u c bf (b h)) λA=>
 Z0 (Z8 u c bf (Z2 .leq A (.int .u8 122))) λB=>
 Z0 (Zm u B (.bool a)) λt37=>
 Z0 (Z8 t37 a bf (b h)) λC=>
 Z0 (Z8 t37 a bf (Z2 .geq C (.int .u8 65))) λD=>
 Z0 (Z8 t37 a bf (b D)) λw=>
 Z0 (Z8 w c bf (b h)) λE=>
 Z0 (Z8 w c bf (Z2 .leq E (.int .u8 90))) λF=>
 Z0 (Z8 t37 a bf (Zm w F (.bool a))) λG=>
 Z0 (Zm t37 (.bool c) G) λj=>
 Z0 (Z8 j a bf (b h)) λL=>
 Z0 (Z8 j a bf (Z2 .geq L (.int .u8 48))) λM=>
 Z0 (Z8 j a bf (b M)) λy=>
 Z0 (Z8 y c bf (b h)) λN=>
 Z0 (Z8 y c bf (Z2 .leq N (.int .u8 57))) λP=>
 Z0 (Z8 j a bf (Zm y P (.bool a))) λR=>
 Z0 (Zm j (.bool c) R) λz=>
 Z0 (Z8 z a bf (b h)) λS=>
 Z0 (Z8 z a bf (Z2 .eql S (.int .u8 95))) λT=>
 Z0 (Zm z (.bool c) T) λZ=>
 Z0 (YU .not Z) λaa=>
 Zh aa
 (b ((.bool a),H))
 (LJ X V Y H):=Z9 [3,5,6,9]
theorem CY:FN X V Y H =
 Z0 (Zf .string X) λh=>
 Z0 (Z2 .lss V h) λj=>
 Zh j
 (LI X V Y H)
 (lX Y H):=(ZC (C:=cfg) [3,5,6,9] (Zo 0 (ZaI Y)) _ _).trans dz
theorem Zfh:lW X Y H =
 FN X (Q J 0) Y H:=Z9 [3,5,6,9]
theorem Zgo:Jm [x] H=Za0 x H:=Be 59 [3,5,6,9] func53
def Ay:Z3:=ah 66 39 f66 127 Y [(9,o)] H
def Rw:Z3:=ah 66 39 f66 31 Y [(2,O),(3,V),(4,I),(5,U)] H
def Iw:Z3:=
 Z0 (ZY x H) λA=>
 Z0 (ZY p1 A.2) λj=>
 Z0 (Z4 c 5 j.1 j.2) λB=>
 Z0 (Ze VA [B] j.2) λz=>
 Z0 (Zg 5 j.1 z.1 z.2) λu=>
 Z0 (Z4 c 6 A.1 u.2) λC=>
 Z0 (Z4 c 5 j.1 u.2) λD=>
 Z0 (Ze VM [C,D,p2,p3] u.2) λh=>
 Z0 (Z2 .neq h.1 (Q J 0)) λw=>
 Z0 (Z8 w a bf (Z6 4 j.1)) λE=>
 Z0 (Z8 w a bf (Z4 a 1 E h.2)) λF=>
 Z0 (Zm w (.bool c) F) λy=>
 Z0 (Z8 y a bf (Z6 3 j.1)) λG=>
 Z0 (Z8 y a bf (Z4 a 1 G h.2)) λL=>
 Z0 (Zm y (.bool c) L) λM=>
 Zh M
 (b (h.1,h.2))
 (Rw p2 p3 A.1 j.1 H h.2)
theorem pH:Ay o Y H =
 b (o,H):=Z9 [5,8]
theorem pG:Rw O V I U Y H =
 Z0 (Z4 c 6 I H) λj=>
 Z0 (Ze Uo [j,O,V] H) λh=>
 Z0 (Z6 2 U) λu=>
 Z0 (Z4 a 1 u h.2) λw=>
 Z0 (Z2 .and w (Q J 2)) λy=>
 Z0 (Z2 .neq y (Q J 0)) λz=>
 Zh z
 (Z0 (YU .neg h.1) λt37=>
 b (t37,h.2))
 (Ay h.1 Y h.2):=Z9 [5,8]
theorem Zae:Gn [x,p1,p2,p3] H=Iw x p1 p2 p3 H:=Be 39 [5,8] func66
def Ln:Z3:=ah 69 55 f69 31 Y [] H
def Vv:KL:=Zc (YT 69 55 f69 31) (Zd cfg 55 69 f69 Y)
theorem If:ZV 55 (Vv Y):=Zv (C:=cfg) (kp:=cfg.keep 69) (ai f69 31) (Zy 69 f69 Y)
def Lp:Z3:=Zx 69 55 (ai f69 1959) (Zc (Y4 69 55 f69 244) (Z7 0 (Vv Y))) [(2,O),(3,V),(4,I),(5,U),(26,x26),(27,x27),(28,x28)] H
def Zci:KL:=Zc (YT 69 55 f69 1959) (Zc (Y4 69 55 f69 244) (Z7 0 (Vv Y)))
def Qz:Z3:=Zx 69 55 (ai f69 31335) (Z7 1 (Zci Y)) [(2,O),(3,V),(4,I),(5,U),(10,t),(11,s),(26,x26),(27,x27),(28,x28)] H
def Lo:Z3:=Zx 69 55 (ai f69 979) (Zc (Y4 69 55 f69 244) (Z7 0 (Vv Y))) [(2,O),(3,V),(4,I),(5,U),(26,x26),(27,x27),(28,x28),(29,x29)] H
def QA:Z3:=Xj 69 55 (ai f69 244) (Z7 0 (Vv Y)) [(2,O),(3,V),(4,I),(5,U),(26,x26),(27,x27),(28,x28)] H
def Lm:Z3:=ah 69 55 f69 15 Y [(2,O),(3,V),(4,I),(5,U)] H
def Ei:Z3:=
 Z0 (ZY x H) λy=>
 Z0 (ZY p1 y.2) λj=>
 Z0 (Z4 c 5 j.1 j.2) λz=>
 Z0 (Ze VA [z] j.2) λu=>
 Z0 (Zg 5 j.1 u.1 u.2) λh=>
 Z0 (Z6 0 j.1) λA=>
 Z0 (Z4 a 1 A h.2) λB=>
 Z0 (Zf (.slice 142) B) λC=>
 Z0 (Z2 .eql C (Q J 0)) λD=>
 Zh D
 (Z0 (Z4 c 6 y.1 h.2) λE=>
 Z0 (Z6 2 j.1) λF=>
 Z0 (Z4 a 1 F h.2) λG=>
 Z0 (Ze Qb [E,G,p2,p3] h.2) λw=>
 b (w.1,w.2))
 (Lm p2 p3 y.1 j.1 H h.2)
theorem eO:Ln Y H =
 b ((Q J 0),H):=Z9 ak
theorem eQ:Lp O V I U x26 x27 x28 Y H =
 Z0 (Z2 .add x28 (Q J 1)) λh=>
 QA O V I U x26 x27 h Y H:=Z9 ak
theorem eR:Qz O V I U t s x26 x27 x28 Y H =
 XN I H λz4 L=>
 XN U L λz5 M=>
 XN t M λy h=>
 Z0 (Xy c 6 z4) λz=>
 Z0 (Z4 c 5 y h) λA=>
 Z0 (Z6 1 z5) λB=>
 Z0 (Z4 a 1 B h) λC=>
 Z0 (QV [O,A,C] h) λu=>
 Z0 (Xy c 5 y) λD=>
 Z0 (Z6 1 z5) λE=>
 Z0 (Xy a 1 E) λF=>
 Z0 (QV [V,D,F] u.2) λw=>
 Z0 (Ze Qb [z,s,u.1,w.1] w.2) λj=>
 Z0 (Z2 .neq j.1 (Q J 0)) λG=>
 Zh G
 (b (j.1,j.2))
 (Lp O V z4 z5 x26 x27 x28 Y j.2):=Z9 ak
theorem eP:Lo O V I U x26 x27 x28 x29 Y H =
 Z0 (Zr 5 x26 x28) λw=>
 Z0 (Z4 c 5 w H) λy=>
 Z0 (b ((.ptr (d H) 0),H++[.cells [(Q J 0),(Q J 0),(Q J 0),(Q J 0),(Q J 0)]])) λj=>
 Z0 (Zg 5 j.1 y j.2) λh=>
 Z0 (Z6 4 j.1) λz=>
 Z0 (Z4 a 1 z h.2) λu=>
 Z0 (Z2 .eql u (Q J 0)) λA=>
 Zh A
 (Z0 (Z6 2 U) λB=>
 Z0 (Z4 a 1 B h.2) λt37=>
 Qz O V I U j.1 t37 x26 x27 x28 Y h.2)
 (Qz O V I U j.1 u x26 x27 x28 Y h.2):=Z9 ak
theorem RY:QA O V I U x26 x27 x28 Y H =
 Z0 (Z2 .lss x28 x27) λh=>
 Zh h
 (Lo O V I U x26 x27 x28 h Y H)
 (Ln Y H):=(ZC (C:=cfg) [4,6,10,13,14] (Zo 0 (If Y)) _ _).trans dz
theorem eN:Lm O V I U Y H =
 Z0 (Z6 0 U) λj=>
 Z0 (Z4 a 1 j H) λh=>
 Z0 (Zf (.slice 142) h) λu=>
 QA O V I U h u (Q J 0) Y H:=Z9 ak
theorem fO:VM [x,p1,p2,p3] H=Ei x p1 p2 p3 H:=Be 55 [4,6,10,13,14] func69
def AG:Z3:=ah 97 8 f97 7 Y [(1,W),(2,O)] H
def Tk:Z3:=
 Z0 (ZY x H) λu=>
 Z0 (b ((.ptr (d u.2) 0),u.2++[.cells [.nils,(Q J 0),(Q J 0),(.bool a),(.bool a)]])) λj=>
 Z0 (Z4 c 5 u.1 j.2) λt3=>
 Z0 (Ze Qa [t3] j.2) λw=>
 Z0 (Z2 .neq w.1 (Q J 0)) λt5=>
 Zh t5
 (Z0 ((Yb [(1,1,(Q J (-1)))] [.nils,(Q J 0),(Q J 0),(.bool a),(.bool a)]).map .agg) λy=>
 Z0 (Zg 5 j.1 y w.2) λh=>
 Z0 (Z4 c 5 j.1 h.2) λz=>
 b (z,h.2))
 (AG u.1 j.1 H w.2)
theorem pV:AG W O Y H =
 Z0 (Z4 c 5 W H) λj=>
 Z0 (Zg 5 O j H) λh=>
 Z0 (Z4 c 5 O h.2) λu=>
 b (u,h.2):=Z9 [3]
theorem ML:VA [x] H=Tk x H:=Be 8 [3] func97
def S9:Z3:=ah 98 60 f98 255 Y [(1,W),(2,O)] H
def S8:Z3:=ah 98 60 f98 127 Y [(1,W),(2,O),(8,x8),(9,o)] H
def S7:Z3:=ah 98 60 f98 63 Y [(1,W),(2,O),(8,x8),(9,o)] H
def VP:KL:=Zc (YT 98 60 f98 63) (Zd cfg 60 98 f98 Y)
theorem aW:ZV 60 (VP Y):=Zv (C:=cfg) (kp:=cfg.keep 98) (ai f98 63) (Zy 98 f98 Y)
def Sb:Z3:=Zx 98 60 (ai f98 4007) (Zc (Y4 98 60 f98 500) (Z7 0 (VP Y))) [(1,W),(2,O),(8,x8),(9,o),(24,x24),(25,x25)] H
def Zdt:KL:=Zc (YT 98 60 f98 4007) (Zc (Y4 98 60 f98 500) (Z7 0 (VP Y)))
def Sd:Z3:=Zx 98 60 (ai f98 32051) (Z7 1 (Zdt Y)) [(1,W),(2,O),(8,x8),(9,o),(10,t),(24,x24),(25,x25)] H
def Sa:Z3:=Zx 98 60 (ai f98 2003) (Zc (Y4 98 60 f98 500) (Z7 0 (VP Y))) [(1,W),(2,O),(8,x8),(9,o),(24,x24),(25,x25),(26,x26)] H
def Jb:Z3:=Xj 98 60 (ai f98 500) (Z7 0 (VP Y)) [(1,W),(2,O),(8,x8),(9,o),(24,x24),(25,x25)] H
def CE:Z3:=
 Z0 (ZY x H) λw=>
 Z0 (Z4 c 6 w.1 w.2) λA=>
 Z0 (Ze Ui [A] w.2) λu=>
 Z0 (Zg 6 w.1 u.1 u.2) λz=>
 XN w.1 z.2 λz3 E=>
 Z0 (b (.fn (.func 119) [] [z3])) λy=>
 Z0 (XS cfg (Za cfg) y [p1] E) λh=>
 Z0 (YJ cfg (Za cfg) y [p2] h.2) λj=>
 Z0 (Zf (.slice 3) h.1) λB=>
 Z0 (Zf (.slice 3) j.1) λC=>
 Z0 (WU B C) λD=>
 Jb p1 p2 h.1 j.1 D (Q J 0) H j.2
theorem jA:S9 W O Y H =
 Z0 (Ze Ds [W,O] H) λh=>
 b (h.1,h.2):=Z9 am
theorem iZ:S8 W O x8 o Y H =
 Z0 (Zf (.slice 3) x8) λh=>
 Z0 (Zf (.slice 3) o) λj=>
 Z0 (Z2 .gtr h j) λu=>
 Zh u
 (b ((Q J 1),H))
 (S9 W O Y H):=Z9 am
theorem iY:S7 W O x8 o Y H =
 Z0 (Zf (.slice 3) x8) λh=>
 Z0 (Zf (.slice 3) o) λj=>
 Z0 (Z2 .lss h j) λu=>
 Zh u
 (b ((Q J (-1)),H))
 (S8 W O x8 o Y H):=Z9 am
theorem jC:Sb W O x8 o x24 x25 Y H =
 Z0 (Z2 .add x25 (Q J 1)) λh=>
 Jb W O x8 o x24 h Y H:=Z9 am
theorem jD:Sd W O x8 o t x24 x25 Y H =
 Z0 (Zr 1 x8 t) λh=>
 Z0 (Z4 a 1 h H) λj=>
 Z0 (Zr 1 o t) λu=>
 Z0 (Z4 a 1 u H) λw=>
 Z0 (Z2 .gtr j w) λy=>
 Zh y
 (b ((Q J 1),H))
 (Sb W O x8 o x24 x25 Y H):=Z9 am
theorem jB:Sa W O x8 o x24 x25 x26 Y H =
 Z0 (Zr 1 x8 x25) λh=>
 Z0 (Z4 a 1 h H) λj=>
 Z0 (Zr 1 o x25) λu=>
 Z0 (Z4 a 1 u H) λw=>
 Z0 (Z2 .lss j w) λy=>
 Zh y
 (b ((Q J (-1)),H))
 (Sd W O x8 o x25 x24 x25 Y H):=Z9 am
theorem Po:Jb W O x8 o x24 x25 Y H =
 Z0 (Z2 .lss x25 x24) λh=>
 Zh h
 (Sa W O x8 o x24 x25 h Y H)
 (S7 W O x8 o Y H):=(ZC (C:=cfg) [6,9,11,12,14,16] (Zo 0 (aW Y)) _ _).trans dz
theorem nV:Uo [x,p1,p2] H=CE x p1 p2 H:=Be 60 [6,9,11,12,14,16] func98
def RC:Z3:=ah 99 50 f99 31 Y [(4,I),(5,U),(6,v),(7,r),(9,o)] H
def KC:Z3:=ah 99 50 f99 15 Y [(4,I),(5,U),(6,v),(7,r),(9,o)] H
def Iz:Z3:=
 Z0 (ZY x H) λu=>
 Z0 (ZY p1 u.2) λj=>
 Z0 (ZY p2 j.2) λw=>
 Z0 (ZY p3 w.2) λh=>
 Z0 (Z4 a 1 j.1 h.2) λy=>
 Z0 (Z2 .and y (Q J 2)) λz=>
 Z0 (Z2 .neq z (Q J 0)) λA=>
 Zh A
 (KC u.1 j.1 w.1 h.1 (Q J (-1)) H h.2)
 (KC u.1 j.1 w.1 h.1 (Q J 1) H h.2)
theorem pU:RC I U v r o Y H =
 Z0 (b (.fn (.func 125) [] [U,v,r])) λj=>
 Z0 (YJ cfg (Za cfg) j [(Q J 8),(.fn (.func 126) [] [])] H) λw=>
 Z0 (YJ cfg (Za cfg) j [(Q J 16),(.fn (.func 128) [] [])] w.2) λy=>
 XN I y.2 λz4 E=>
 Z0 (b (.fn (.func 129) [] [z4])) λz=>
 Z0 (YJ cfg (Za cfg) j [(Q J 4),z] E) λh=>
 Z0 (Z4 c 6 z4 h.2) λA=>
 Z0 (Z4 a 1 v h.2) λB=>
 Z0 (Z4 a 1 r h.2) λC=>
 Z0 (Ze Uo [A,B,C] h.2) λu=>
 Z0 (Z2 .mul o u.1) λD=>
 b (D,u.2):=Z9 [4,8]
theorem pT:KC I U v r o Y H =
 Z0 (Z4 a 1 U H) λw=>
 Z0 (Z2 .and w (Q J 1)) λy=>
 Z0 (Z2 .neq y (Q J 0)) λz=>
 Zh z
 (Z0 (Z4 a 1 v H) λA=>
 Z0 (Ze JR [A] H) λh=>
 Z0 (ZK h.1 0) λB=>
 Z0 (ZK h.1 1) λF=>
 Z0 (Z4 a 1 r h.2) λC=>
 Z0 (Ze JR [C] h.2) λj=>
 Z0 (ZK j.1 0) λD=>
 Z0 (ZK j.1 1) λG=>
 Z0 (Ze Nz [B,D] j.2) λu=>
 Z0 (Z2 .mul o u.1) λE=>
 b (E,u.2))
 (RC I U v r o Y H):=Z9 [4,8]
theorem Zah:Qb [x,p1,p2,p3] H=Iz x p1 p2 p3 H:=Be 50 [4,8] func99
def Zb3:Z3:=ah 106 38 f106 127 Y [(9,o)] H
def HC:Z3:=ah 106 38 f106 31 Y [(2,O),(3,V),(4,I),(5,U)] H
def ZdJ:Z3:=
 Z0 (ZY x H) λA=>
 Z0 (ZY p1 A.2) λj=>
 Z0 (Z4 c 5 j.1 j.2) λB=>
 Z0 (Ze G2 [B] j.2) λz=>
 Z0 (Zg 5 j.1 z.1 z.2) λu=>
 Z0 (Z4 c 6 A.1 u.2) λC=>
 Z0 (Z4 c 5 j.1 u.2) λD=>
 Z0 (Ze KO [C,D,p2,p3] u.2) λh=>
 Z0 (Z2 .neq h.1 (Q J 0)) λw=>
 Z0 (Z8 w a bf (Z6 4 j.1)) λE=>
 Z0 (Z8 w a bf (Z4 a 1 E h.2)) λF=>
 Z0 (Zm w (.bool c) F) λy=>
 Z0 (Z8 y a bf (Z6 3 j.1)) λG=>
 Z0 (Z8 y a bf (Z4 a 1 G h.2)) λL=>
 Z0 (Zm y (.bool c) L) λM=>
 Zh M
 (b (h.1,h.2))
 (HC p2 p3 A.1 j.1 H h.2)
theorem Zhg:Zb3 o Y H =
 b (o,H):=Z9 [5,8]
theorem Zhf:HC O V I U Y H =
 Z0 (Z4 c 6 I H) λu=>
 Z0 (Ze KM [u,O,V] H) λh=>
 Z0 (Z6 2 U) λw=>
 Z0 (Z4 a 1 w h.2) λy=>
 Z0 (Ze Wi [y,(Q J 2)] h.2) λj=>
 Zh j.1
 (Z0 (YU .neg h.1) λz=>
 b (z,j.2))
 (Zb3 h.1 Y j.2):=Z9 [5,8]
theorem Zj8:M4 [x,p1,p2,p3] H=ZdJ x p1 p2 p3 H:=Be 38 [5,8] func106
def dJ:Z3:=ah 107 59 f107 31 Y [] H
def Jv:KL:=Zc (YT 107 59 f107 31) (Zd cfg 59 107 f107 Y)
theorem oS:ZV 59 (Jv Y):=Zv (C:=cfg) (kp:=cfg.keep 107) (ai f107 31) (Zy 107 f107 Y)
def dL:Z3:=Zx 107 59 (ai f107 979) (Zc (Y4 107 59 f107 244) (Z7 0 (Jv Y))) [(2,O),(3,V),(4,I),(5,U),(9,o)] H
def Zjt:KL:=Zc (YT 107 59 f107 979) (Zc (Y4 107 59 f107 244) (Z7 0 (Jv Y)))
def BC:Z3:=Zx 107 59 (ai f107 7827) (Z7 1 (Zjt Y)) [(2,O),(3,V),(4,I),(5,U),(9,o),(10,t)] H
def dK:Z3:=Zx 107 59 (ai f107 489) (Zc (Y4 107 59 f107 244) (Z7 0 (Jv Y))) [(2,O),(3,V),(4,I),(5,U),(9,o)] H
def BD:Z3:=Xj 107 59 (ai f107 244) (Z7 0 (Jv Y)) [(2,O),(3,V),(4,I),(5,U),(9,o)] H
def dI:Z3:=ah 107 59 f107 15 Y [(2,O),(3,V),(4,I),(5,U)] H
def lG:Z3:=
 Z0 (ZY x H) λy=>
 Z0 (ZY p1 y.2) λj=>
 Z0 (Z4 c 5 j.1 j.2) λz=>
 Z0 (Ze G2 [z] j.2) λu=>
 Z0 (Zg 5 j.1 u.1 u.2) λh=>
 Z0 (Z6 0 j.1) λA=>
 Z0 (Z4 a 1 A h.2) λB=>
 Z0 (Zf (.slice 142) B) λC=>
 Z0 (Z2 .eql C (Q J 0)) λD=>
 Zh D
 (Z0 (Z4 c 6 y.1 h.2) λE=>
 Z0 (Z6 2 j.1) λF=>
 Z0 (Z4 a 1 F h.2) λG=>
 Z0 (Ze M6 [E,p2,p3,G] h.2) λw=>
 b (w.1,w.2))
 (dI p2 p3 y.1 j.1 H h.2)
theorem Zdh:dJ Y H =
 b ((Q J 0),H):=Z9 ap
theorem Zdj:dL O V I U o Y H =
 Z0 (Z2 .add o (Q J 1)) λh=>
 BD O V I U h Y H:=Z9 ap
theorem Zdk:BC O V I U o t Y H =
 XN I H λz4 N=>
 XN U N λz5 P=>
 XN t P λu h=>
 Z0 (Xy c 6 z4) λz=>
 Z0 (Z4 c 5 u h) λA=>
 Z0 (Z6 1 z5) λB=>
 Z0 (Z4 a 1 B h) λC=>
 Z0 (FA [O,A,C] h) λw=>
 Z0 (Xy c 5 u) λD=>
 Z0 (Z6 1 z5) λE=>
 Z0 (Xy a 1 E) λF=>
 Z0 (FA [V,D,F] w.2) λy=>
 Z0 (Z6 4 u) λG=>
 Z0 (Xy a 1 G) λL=>
 Z0 (Ze M6 [z,w.1,y.1,L] y.2) λj=>
 Z0 (Z2 .neq j.1 (Q J 0)) λM=>
 Zh M
 (b (j.1,j.2))
 (dL O V z4 z5 o Y j.2):=Z9 ap
theorem Zdi:dK O V I U o Y H =
 Z0 (Z6 0 U) λw=>
 Z0 (Z4 a 1 w H) λy=>
 Z0 (Zr 5 y o) λz=>
 Z0 (Z4 c 5 z H) λA=>
 Z0 (b ((.ptr (d H) 0),H++[.cells [(Q J 0),(Q J 0),(Q J 0),(Q J 0),(Q J 0)]])) λj=>
 Z0 (Zg 5 j.1 A j.2) λh=>
 Z0 (Z6 4 j.1) λB=>
 Z0 (Z4 a 1 B h.2) λt37=>
 Z0 (Z2 .eql t37 (Q J 0)) λC=>
 Zh C
 (Z0 (Z6 2 U) λD=>
 Z0 (Z4 a 1 D h.2) λE=>
 Z0 (Z6 4 j.1) λF=>
 Z0 (Zg 1 F E h.2) λu=>
 BC O V I U o j.1 Y u.2)
 (BC O V I U o j.1 Y h.2):=Z9 ap
theorem EW:BD O V I U o Y H =
 Z0 (Z6 0 U) λh=>
 Z0 (Z4 a 1 h H) λj=>
 Z0 (Zf (.slice 142) j) λu=>
 Z0 (Z2 .lss o u) λw=>
 Zh w
 (dK O V I U o Y H)
 (dJ Y H):=(ZC (C:=cfg) [4,6,7,10,13] (Zo 0 (oS Y)) _ _).trans dz
theorem Zdg:dI O V I U Y H =
 BD O V I U (Q J 0) Y H:=Z9 ap
theorem ZeS:KO [x,p1,p2,p3] H=lG x p1 p2 p3 H:=Be 59 [4,6,7,10,13] func107
def Of:Z3:=ah 118 16 f118 7 Y [(1,W),(2,O)] H
def NA:Z3:=
 Z0 (ZY x H) λu=>
 Z0 (b ((.ptr (d u.2) 0),u.2++[.cells [(.str []),.nils,(.str []),(.str []),.nils,.nils]])) λj=>
 Z0 (Z4 c 6 u.1 j.2) λt4=>
 Z0 (Ze Bu [t4] j.2) λw=>
 Z0 (Z2 .neq w.1 (Q J 0)) λz=>
 Zh z
 (Z0 (Ze Ra [] w.2) λy=>
 Z0 (Zg 6 j.1 y.1 y.2) λh=>
 Z0 (Z4 c 6 j.1 h.2) λA=>
 b (A,h.2))
 (Of u.1 j.1 H w.2)
theorem Zc6:Of W O Y H =
 Z0 (K8 1 8 a (Q J 0) (Q J 256) (Q J 256) H) λu=>
 Z0 (Z6 1 W) λy=>
 Z0 (Z4 a 1 y u.2) λz=>
 Z0 (IN 1 u.1 z u.2) λw=>
 Z0 (Z6 1 W) λA=>
 Z0 (Zg 1 A u.1 w.2) λj=>
 Z0 (Z4 c 6 W j.2) λB=>
 Z0 (Zg 6 O B j.2) λh=>
 Z0 (Z4 c 6 O h.2) λC=>
 b (C,h.2):=Z9 [3]
theorem Eh:Ui [x] H=NA x H:=Be 16 [3] func118
def MJ:Z3:=
 Z0 (b ((.ptr (d H) 0),H++[.cells [.nils]])) λh=>
 Z0 (Z4 c 6 p1 h.2) λt5=>
 Z0 (b (.fn (.func 121) [] [h.1])) λu=>
 Z0 (Lw [t5,x,u] h.2) λj=>
 Z0 (Z4 a 1 h.1 j.2) λt9=>
 b (t9,j.2)
theorem bX:Q9 [x,p1] H=MJ x p1 H:=Be 10 [] func119
def eD:Z3:=Zx 120 75 (ai f120 3991) (Z7 3 (Zc (Y4 120 75 f120 124) (Z7 2 (Zd cfg 75 120 f120 Y)))) [(1,W),(2,O),(3,V),(6,v),(9,o),(10,t)] H
def JC:Z3:=Zx 120 75 (ai f120 1995) (Z7 3 (Zc (Y4 120 75 f120 124) (Z7 2 (Zd cfg 75 120 f120 Y)))) [(1,W),(2,O),(3,V),(6,v),(9,o),(10,t),(11,s)] H
def eC:Z3:=Zx 120 75 (ai f120 249) (Zc (Y4 120 75 f120 124) (Z7 2 (Zd cfg 75 120 f120 Y))) [(1,W),(2,O),(3,V),(6,v),(9,o)] H
def BM:Z3:=Xj 120 75 (ai f120 124) (Z7 2 (Zd cfg 75 120 f120 Y)) [(1,W),(2,O),(3,V),(6,v),(9,o)] H
def NQ:Z3:=ah 120 75 f120 15 Y [(1,W),(2,O),(3,V),(6,v)] H
def BK:KL:=Zc (YT 120 75 f120 15) (Zd cfg 75 120 f120 Y)
theorem oW:ZV 75 (BK Y):=Zv (C:=cfg) (kp:=cfg.keep 120) (ai f120 15) (Zy 120 f120 Y)
def eF:Z3:=Zx 120 75 (ai f120 935) (Zc (Y4 120 75 f120 116) (Z7 0 (BK Y))) [(1,W),(2,O),(3,V),(6,v),(16,x16),(17,x17),(18,x18)] H
def eE:Z3:=Zx 120 75 (ai f120 467) (Zc (Y4 120 75 f120 116) (Z7 0 (BK Y))) [(1,W),(2,O),(3,V),(6,v),(16,x16),(17,x17),(18,x18),(19,x19)] H
def BN:Z3:=Xj 120 75 (ai f120 116) (Z7 0 (BK Y)) [(1,W),(2,O),(3,V),(6,v),(16,x16),(17,x17),(18,x18)] H
def lJ:Z3:=
 Z0 (ZY x H) λu=>
 Z0 (b ((.map (d u.2)),u.2++[.map [] 0])) λh=>
 Z0 (Z6 5 u.1) λw=>
 Z0 (Z4 a 1 w h.2) λj=>
 Z0 (Zf (.slice 190) j) λy=>
 BN p1 p2 u.1 h.1 j y (Q J 0) H h.2
theorem Sj:eD W O V v o t Y H =
 Z0 (Zf .string t) λh=>
 Z0 (Z2 .add o h) λj=>
 BM W O V v j Y H:=Z9 aq
theorem Si:JC W O V v o t s Y H =
 Z0 (YJ cfg (Za cfg) O [t,s] H) λh=>
 Z0 (YU .not h.1) λt70=>
 Zh t70
 (b (bf,h.2))
 (eD W O V v o t Y h.2):=Z9 aq
theorem Zdv:eC W O V v o Y H =
 Z0 (Z2 .add o (Q J 1)) λw=>
 Z0 (ZR W (b o) (b w) e) λh=>
 Z0 (Z6 1 V) λt37=>
 Z0 (Z4 a 1 t37 H) λy=>
 Z0 (Zp W o) λz=>
 Z0 (Zr 1 y z) λA=>
 Z0 (Z4 a 1 A H) λj=>
 Z0 (Z2 .add o (Q J 2)) λB=>
 Z0 (Zf .string W) λC=>
 Z0 (Z2 .leq B C) λD=>
 Zh D
 (Z0 (Z2 .add o (Q J 2)) λE=>
 Z0 (ZR W (b o) (b E) e) λF=>
 Z0 (Yj .string (Q J 0) c v F H) λu=>
 Z0 (ZK u 0) λG=>
 Z0 (ZK u 1) λL=>
 Zh L
 (Z0 (Z2 .add o (Q J 2)) λM=>
 Z0 (ZR W (b o) (b M) e) λN=>
 JC W O V v o N G Y H)
 (JC W O V v o h j Y H))
 (JC W O V v o h j Y H):=Z9 aq
theorem DG:BM W O V v o Y H =
 Z0 (Zf .string W) λh=>
 Z0 (Z2 .lss o h) λj=>
 Zh j
 (eC W O V v o Y H)
 (b (bf,H)):=(ZC (C:=cfg) [4,6,7,9,14,15] (Zo 2 (Zy 120 f120 Y)) _ _).trans dz
theorem Zdu:NQ W O V v Y H =
 BM W O V v (Q J 0) Y H:=Z9 aq
theorem Zdx:eF W O V v x16 x17 x18 Y H =
 Z0 (Z2 .add x18 (Q J 1)) λh=>
 BN W O V v x16 x17 h Y H:=Z9 aq
theorem Zdw:eE W O V v x16 x17 x18 x19 Y H =
 Z0 (Zr 2 x16 x18) λw=>
 Z0 (Z4 c 2 w H) λy=>
 Z0 (b ((.ptr (d H) 0),H++[.cells [(.str []),(Q J 0)]])) λu=>
 Z0 (Zg 2 u.1 y u.2) λh=>
 Z0 (Z6 0 u.1) λz=>
 Z0 (Z4 a 1 z h.2) λA=>
 Z0 (Z6 1 u.1) λB=>
 Z0 (Z4 a 1 B h.2) λC=>
 Z0 (XL .string v A C h.2) λj=>
 eF W O V v x16 x17 x18 Y j.2:=Z9 aq
theorem Sk:BN W O V v x16 x17 x18 Y H =
 Z0 (Z2 .lss x18 x17) λh=>
 Zh h
 (eE W O V v x16 x17 x18 h Y H)
 (NQ W O V v Y H):=(ZC (C:=cfg) [4,6,7,9,14,15] (Zo 0 (oW Y)) _ _).trans dz
theorem ZeX:Lw [x,p1,p2] H=lJ x p1 p2 H:=Be 75 [4,6,7,9,14,15] func120
def Tj (x p1 p2:AV)(H:Hp):Z3:=
 Z0 (Z4 a 1 p2 H) λu=>
 Z0 ((ZB 1 [(0,p1)] [(Q J 0)]).map (.vs 1 .clip)) λw=>
 Z0 (Ya 1 8 u w H) λj=>
 Z0 (Zg 1 p2 j.1 j.2) λh=>
 b ((.bool c),h.2)
theorem AZ:JT [x,p1,p2] H=Tj x p1 p2 H:=Be 10 [] func121
def En:Z3:=
 Z0 (Ze We [x,p1] H) λh=>
 b (h.1,h.2)
theorem fT:Ds [x,p1] H=En x p1 H:=Be 8 [] func122
def DD:Z3:=ah 123 116 f123 4095 Y [(9,o),(11,s)] H
def DC:Z3:=ah 123 116 f123 1023 Y [(5,U),(7,r),(8,x8),(9,o)] H
def WQ:Z3:=ah 123 116 f123 511 Y [(5,U),(6,v),(7,r),(8,x8),(9,o)] H
def J7:Z3:=ah 123 116 f123 63 Y [(0,X),(4,I),(5,U)] H
def DB:Z3:=ah 123 116 f123 15 Y [(0,X),(4,I)] H
def DE:KL:=Zc (YT 123 116 f123 15) (Zd cfg 116 123 f123 Y)
theorem aO:ZV 116 (DE Y):=Zv (C:=cfg) (kp:=cfg.keep 123) (ai f123 15) (Zy 123 f123 Y)
def EY:Z3:=Zx 123 116 (ai f123 113) (Zc (Y4 123 116 f123 56) (Z7 0 (DE Y))) [(0,X),(4,I)] H
def J8:Z3:=Xj 123 116 (ai f123 56) (Z7 0 (DE Y)) [(0,X),(4,I)] H
def ZeV:Z3:=
 J8 x (Q J 0) H H
theorem Pc:DD o s Y H =
 b ((.tuple [s,o]),H):=Z9 ar
theorem iD:DC U r x8 o Y H =
 Z0 (Ze Td [r,x8] H) λh=>
 Z0 (WU (Q J 10000000000000) h.1) λj=>
 Zh U
 (Z0 (YU .neg j) λu=>
 DD o u Y h.2)
 (DD o j Y h.2):=Z9 ar
theorem iC:WQ U v r x8 o Y H =
 Z0 (Z2 .eql v (Q J 0)) λh=>
 Z0 (Z8 h c bf (b x8)) λj=>
 Z0 (Z8 h c bf (Y1 .eql j (.str []))) λu=>
 Z0 (Zm h u (.bool a)) λw=>
 Zh w
 (b ((.tuple [(Q J 0),(Q J 0)]),H))
 (DC U r x8 o Y H):=Z9 ar
theorem iB:J7 X I U Y H =
 Z0 (ZR X (b I) e e) λB=>
 Z0 (Ze JS [B] H) λh=>
 Z0 (Z2 .add I h.1) λC=>
 Z0 (ZR X (b I) (b C) e) λy=>
 Z0 (Z2 .add I h.1) λj=>
 Z0 (Zf .string X) λt70=>
 Z0 (Z2 .lss j t70) λw=>
 Z0 (Z8 w c bf (b X)) λD=>
 Z0 (Z8 w c bf (b j)) λE=>
 Z0 (Z8 w c bf (Zp D E)) λF=>
 Z0 (Z8 w c bf (Z2 .eql F (.int .u8 46))) λG=>
 Z0 (Zm w G (.bool a)) λL=>
 Zh L
 (Z0 (Z2 .add j (Q J 1)) λM=>
 Z0 (ZR X (b M) e e) λN=>
 Z0 (Ze JS [N] h.2) λu=>
 Z0 (Z2 .gtr h.1 (Q J 0)) λz=>
 Z0 (Z8 z a bf (b u.1)) λP=>
 Z0 (Z8 z a bf (Z2 .gtr P (Q J 0))) λR=>
 Z0 (Zm z (.bool c) R) λS=>
 Zh S
 (Z0 (Z2 .add j (Q J 1)) λT=>
 Z0 (Z2 .add j (Q J 1)) λZ=>
 Z0 (Z2 .add Z u.1) λaa=>
 Z0 (ZR X (b T) (b aa) e) λab=>
 Z0 (Z2 .add (Q J 1) u.1) λac=>
 Z0 (Z2 .add j ac) λA=>
 WQ U h.1 y ab A Y u.2)
 (WQ U h.1 y (.str []) j Y u.2))
 (WQ U h.1 y (.str []) j Y h.2):=Z9 ar
theorem iA:DB X I Y H =
 Z0 (Zf .string X) λw=>
 Z0 (Z2 .lss I w) λj=>
 Z0 (Z8 j c bf (b X)) λy=>
 Z0 (Z8 j c bf (b I)) λz=>
 Z0 (Z8 j c bf (Zp y z)) λt37=>
 Z0 (Z8 j c bf (Z2 .eql t37 (.int .u8 45))) λA=>
 Z0 (Zm j A (.bool a)) λh=>
 Z0 (Z8 h a bf (b I)) λB=>
 Z0 (Z8 h a bf (b X)) λC=>
 Z0 (Z8 h a bf (Zf .string C)) λD=>
 Z0 (Z8 h a bf (Z2 .lss B D)) λE=>
 Z0 (Z8 h a bf (b E)) λu=>
 Z0 (Z8 u c bf (b X)) λF=>
 Z0 (Z8 u c bf (b I)) λG=>
 Z0 (Z8 u c bf (Zp F G)) λL=>
 Z0 (Z8 u c bf (Z2 .eql L (.int .u8 43))) λM=>
 Z0 (Z8 h a bf (Zm u M (.bool a))) λN=>
 Z0 (Zm h (.bool c) N) λP=>
 Zh P
 (Z0 (Z2 .add I (Q J 1)) λR=>
 J7 X R h Y H)
 (J7 X I h Y H):=Z9 ar
theorem Pd:EY X I Y H =
 Z0 (Z2 .add I (Q J 1)) λh=>
 J8 X h Y H:=Z9 ar
theorem Pe:J8 X I Y H =
 Z0 (Zf .string X) λu=>
 Z0 (Z2 .lss I u) λh=>
 Z0 (Z8 h c bf (b X)) λw=>
 Z0 (Z8 h c bf (b I)) λy=>
 Z0 (Z8 h c bf (Zp w y)) λz=>
 Z0 (Z8 h c bf (Z2 .eql z (.int .u8 32))) λA=>
 Z0 (Z8 h c bf (b A)) λj=>
 Z0 (Z8 j a bf (b X)) λB=>
 Z0 (Z8 j a bf (b I)) λD=>
 Z0 (Z8 j a bf (Zp B D)) λE=>
 Z0 (Z8 j a bf (Z2 .eql E (.int .u8 9))) λF=>
 Z0 (Z8 h c bf (Zm j (.bool c) F)) λG=>
 Z0 (Zm h G (.bool a)) λL=>
 Zh L
 (EY X I Y H)
 (DB X I Y H):=(ZC (C:=cfg) [3,4,7,14,16,19] (Zo 0 (aO Y)) _ _).trans dz
theorem nT:JR [x] H=ZeV x H:=Be 116 [3,4,7,14,16,19] func123
def Oq:Z3:=ah 124 13 f124 7 Y [] H
def cB:Z3:=
 Z0 (Z2 .lss x p1) λj=>
 Zh j
 (b ((Q J (-1)),H))
 (Z0 (Z2 .gtr x p1) λh=>
 Zh h
 (b ((Q J 1),H))
 (Oq H H))
theorem Zcl:Oq Y H =
 b ((Q J 0),H):=Z9 [5]
theorem ZcY:Nz [x,p1] H=cB x p1 H:=Be 13 [5] func124
def Ek:Z3:=
 Z0 (Z4 a 1 p2 H) λB=>
 Z0 (Z2 .and B x) λt9=>
 Z0 (Z2 .neq t9 (Q J 0)) λy=>
 Zh y
 (Z0 (Z4 a 1 p3 H) λz=>
 Z0 (XS cfg (Za cfg) p1 [z] H) λh=>
 Z0 (Z4 a 1 p4 h.2) λA=>
 Z0 (XS cfg (Za cfg) p1 [A] h.2) λj=>
 Z0 (Zg 1 p3 h.1 j.2) λu=>
 Z0 (Zg 1 p4 j.1 u.2) λw=>
 b (bf,w.2))
 (b (bf,H))
theorem fQ:Dp [x,p1,p2,p3,p4] H=Ek x p1 p2 p3 p4 H:=Be 17 [] func125
def El:Z3:=
 Z0 (kR ZcQ [x,(.str [32,9])] H) λh=>
 b (h.1,h.2)
theorem fR:Dq [x] H=El x H:=Be 5 [] func126
def Oo:Z3:=ah 128 44 f128 15 Y [(3,V)] H
def GD:KL:=Zc (YT 128 44 f128 15) (Zd cfg 44 128 f128 Y)
theorem kK:ZV 44 (GD Y):=Zv (C:=cfg) (kp:=cfg.keep 128) (ai f128 15) (Zy 128 f128 Y)
def QB:Z3:=Zx 128 44 (ai f128 935) (Zc (Y4 128 44 f128 116) (Z7 0 (GD Y))) [(0,X),(3,V),(7,r),(8,x8)] H
def Pu:Z3:=Zx 128 44 (ai f128 467) (Zc (Y4 128 44 f128 116) (Z7 0 (GD Y))) [(0,X),(3,V),(7,r),(8,x8),(9,o)] H
def GE:Z3:=Xj 128 44 (ai f128 116) (Z7 0 (GD Y)) [(0,X),(3,V),(7,r),(8,x8)] H
def cA:Z3:=
 Z0 (b ((.ptr (d H) 0),H++[.bld 133 5 []])) λh=>
 Z0 (Zf .string x) λj=>
 GE x h.1 j (Q J 0) H h.2
theorem Zcj:Oo V Y H =
 Z0 (stringE.run [V] H) λh=>
 b (h.1,h.2):=Z9 au
theorem Ls:QB X V r x8 Y H =
 Z0 (Z2 .add x8 (Q J 1)) λh=>
 GE X V r h Y H:=Z9 au
theorem Zck:Pu X V r x8 o Y H =
 Z0 (Zp X x8) λh=>
 Z0 (Vz [h] H) λj=>
 Z0 (Z8 j.1 a bf (b h)) λC=>
 Z0 (Z8 j.1 a bf (Z2 .geq C (.int .u8 97))) λD=>
 Z0 (Z8 j.1 a bf (b D)) λy=>
 Z0 (Z8 y c bf (b h)) λE=>
 Z0 (Z8 y c bf (Z2 .leq E (.int .u8 122))) λF=>
 Z0 (Z8 j.1 a bf (Zm y F (.bool a))) λG=>
 Z0 (Zm j.1 (.bool c) G) λu=>
 Z0 (Z8 u a bf (b h)) λL=>
 Z0 (Z8 u a bf (Z2 .geq L (.int .u8 65))) λM=>
 Z0 (Z8 u a bf (b M)) λz=>
 Z0 (Z8 z c bf (b h)) λN=>
 Z0 (Z8 z c bf (Z2 .leq N (.int .u8 90))) λP=>
 Z0 (Z8 u a bf (Zm z P (.bool a))) λR=>
 Z0 (Zm u (.bool c) R) λw=>
 Z0 (Z8 w a bf (b h)) λS=>
 Z0 (Z8 w a bf (Z2 .geq S (.int .u8 48))) λT=>
 Z0 (Z8 w a bf (b T)) λA=>
 Z0 (Z8 A c bf (b h)) λZ=>
 Z0 (Z8 A c bf (Z2 .leq Z (.int .u8 57))) λt37=>
 Z0 (Z8 w a bf (Zm A t37 (.bool a))) λaa=>
 Z0 (Zm w (.bool c) aa) λab=>
 Zh ab
 (Z0 (byteE.run [V,h] j.2) λB=>
 QB X V r x8 Y B.2)
 (QB X V r x8 Y j.2):=Z9 au
theorem Lt:GE X V r x8 Y H =
 Z0 (Z2 .lss x8 r) λt9=>
 Zh t9
 (Pu X V r x8 t9 Y H)
 (Oo V Y H):=(ZC (C:=cfg) [4,8,9] (Zo 0 (kK Y)) _ _).trans dz
theorem ZcX:Ny [x] H=cA x H:=Be 44 [4,8,9] func128
def Em:Z3:=
 Z0 (Z4 c 6 p1 H) λt4=>
 Z0 (Ze Nx [t4,x] H) λh=>
 b (h.1,h.2)
theorem fS:Dr [x,p1] H=Em x p1 H:=Be 7 [] func129
def bY:Z3:=
 Z0 (ZY x H) λh=>
 Z0 (Z4 c 6 h.1 h.2) λt5=>
 Z0 (Ze Ui [t5] h.2) λj=>
 Z0 (Cb a 1 3 j.1) λw=>
 Z0 (Ze Tf [w,p1] j.2) λu=>
 b (u.1,u.2)
theorem ZcV:Nx [x,p1] H=bY x p1 H:=Be 10 [] func130
def Zb7:Z3:=ah 133 8 f133 7 Y [(1,W),(2,O)] H
def OL:Z3:=
 Z0 (ZY x H) λu=>
 Z0 (b ((.ptr (d u.2) 0),u.2++[.cells [.nils,(Q J 0),(Q J 0),(.bool a),(.bool a)]])) λj=>
 Z0 (Z4 c 5 u.1 j.2) λt3=>
 Z0 (Ze DT [t3] j.2) λw=>
 Z0 (Z2 .neq w.1 (Q J 0)) λt5=>
 Zh t5
 (Z0 ((Yb [(1,1,(Q J (-1)))] [.nils,(Q J 0),(Q J 0),(.bool a),(.bool a)]).map .agg) λy=>
 Z0 (Zg 5 j.1 y w.2) λh=>
 Z0 (Z4 c 5 j.1 h.2) λz=>
 b (z,h.2))
 (Zb7 u.1 j.1 H w.2)
theorem Zho:Zb7 W O Y H =
 Z0 (Z4 c 5 W H) λj=>
 Z0 (Zg 5 O j H) λh=>
 Z0 (Z4 c 5 O h.2) λu=>
 b (u,h.2):=Z9 [3]
theorem bS:G2 [x] H=OL x H:=Be 8 [3] func133
def cI:Z3:=ah 134 23 f134 15 Y [(1,W),(2,O)] H
def lA:Z3:=
 Z0 (ZY x H) λu=>
 Z0 (Z4 c 6 u.1 u.2) λD=>
 Z0 (Ze G1 [D] u.2) λC=>
 Z0 (Zg 6 u.1 C.1 C.2) λy=>
 Z0 (Z4 c 6 u.1 y.2) λz=>
 Z0 (Ze Fy [z,p1] y.2) λj=>
 Z0 (Z4 c 6 u.1 j.2) λA=>
 Z0 (Ze Fy [A,p2] j.2) λw=>
 Z0 (Ze DS [j.1,w.1] w.2) λh=>
 Z0 (Z2 .neq h.1 (Q J 0)) λB=>
 Zh B
 (b (h.1,h.2))
 (cI p1 p2 H h.2)
theorem Zd5:cI W O Y H =
 Z0 (Ze OE [W,O] H) λh=>
 b (h.1,h.2):=Z9 [5]
theorem ZeN:KM [x,p1,p2] H=lA x p1 p2 H:=Be 23 [5] func134
def Zb5:Z3:=ah 136 30 f136 31 Y [(9,o)] H
def TY:Z3:=ah 136 30 f136 15 Y [(3,V),(9,o)] H
def ZdM:Z3:=
 Z0 (ZY x H) λz=>
 Z0 (Ze Wi [p3,(Q J 1)] z.2) λh=>
 Zh h.1
 (Z0 (Ze Lv [p1,p2] h.2) λu=>
 TY p3 u.1 H u.2)
 (Z0 (Z4 c 6 z.1 h.2) λA=>
 Z0 (Z4 c 6 z.1 h.2) λB=>
 Z0 (Ze M8 [B,p1,p3] h.2) λj=>
 Z0 (Z4 c 6 z.1 j.2) λC=>
 Z0 (Ze M8 [C,p2,p3] j.2) λw=>
 Z0 (Ze KM [A,j.1,w.1] w.2) λy=>
 TY p3 y.1 H y.2)
theorem Zhj:Zb5 o Y H =
 b (o,H):=Z9 [5,7]
theorem Zhi:TY V o Y H =
 Z0 (Ze Wi [V,(Q J 2)] H) λh=>
 Zh h.1
 (Z0 (YU .neg o) λj=>
 b (j,h.2))
 (Zb5 o Y h.2):=Z9 [5,7]
theorem Zjb:M6 [x,p1,p2,p3] H=ZdM x p1 p2 p3 H:=Be 30 [5,7] func136
def Oc:Z3:=ah 153 49 f153 63 Y [(1,W)] H
def Ob:Z3:=ah 153 49 f153 31 Y [(1,W)] H
def Gy:KL:=Zc (YT 153 49 f153 31) (Zd cfg 49 153 f153 Y)
theorem iX:ZV 49 (Gy Y):=Zv (C:=cfg) (kp:=cfg.keep 153) (ai f153 31) (Zy 153 f153 Y)
def Oe:Z3:=Zx 153 49 (ai f153 1959) (Zc (Y4 153 49 f153 244) (Z7 0 (Gy Y))) [(1,W),(27,x27),(28,x28),(29,x29)] H
def Od:Z3:=Zx 153 49 (ai f153 979) (Zc (Y4 153 49 f153 244) (Z7 0 (Gy Y))) [(1,W),(27,x27),(28,x28),(29,x29),(30,x30)] H
def Gz:Z3:=Xj 153 49 (ai f153 244) (Z7 0 (Gy Y)) [(1,W),(27,x27),(28,x28),(29,x29)] H
def Oa:Z3:=ah 153 49 f153 15 Y [(1,W)] H
def O9:Z3:=ah 153 49 f153 7 Y [(1,W)] H
def bW:Z3:=
 Z0 (ZY x H) λh=>
 Z0 (Z6 0 h.1) λu=>
 Z0 (Z4 a 1 u h.2) λw=>
 Z0 (Ze KP [w] h.2) λj=>
 Z0 (YU .not j.1) λt9=>
 Zh t9
 (b ((Q J 4),j.2))
 (O9 h.1 H j.2)
theorem Zc3:Oc W Y H =
 Z0 (Z6 5 W) λj=>
 Z0 (Z4 a 1 j H) λu=>
 Z0 (Ze Vf [u] H) λh=>
 b (h.1,h.2):=Z9 aw
theorem Zc2:Ob W Y H =
 Z0 (Z6 4 W) λj=>
 Z0 (Z4 a 1 j H) λu=>
 Z0 (Ze Vy [u] H) λh=>
 Z0 (Z2 .neq h.1 (Q J 0)) λw=>
 Zh w
 (b (h.1,h.2))
 (Oc W Y h.2):=Z9 aw
theorem Zc5:Oe W x27 x28 x29 Y H =
 Z0 (Z2 .add x29 (Q J 1)) λh=>
 Gz W x27 x28 h Y H:=Z9 aw
theorem Zc4:Od W x27 x28 x29 x30 Y H =
 Z0 (Zr 1 x27 x29) λu=>
 Z0 (Z4 a 1 u H) λj=>
 Z0 (Z2 .lss j (Q J 0)) λh=>
 Z0 (Z8 h a bf (b j)) λw=>
 Z0 (Z8 h a bf (Z2 .gtr w (Q J 65535))) λt37=>
 Z0 (Zm h (.bool c) t37) λy=>
 Zh y
 (b ((Q J 2),H))
 (Oe W x27 x28 x29 Y H):=Z9 aw
theorem Lh:Gz W x27 x28 x29 Y H =
 Z0 (Z2 .lss x29 x28) λh=>
 Zh h
 (Od W x27 x28 x29 h Y H)
 (Ob W Y H):=(ZC (C:=cfg) [3,5,7,10,11,14] (Zo 0 (iX Y)) _ _).trans dz
theorem Zc1:Oa W Y H =
 Z0 (Z6 1 W) λj=>
 Z0 (Z4 a 1 j H) λh=>
 Z0 (Zf (.slice 3) h) λu=>
 Gz W h u (Q J 0) Y H:=Z9 aw
theorem Zc0:O9 W Y H =
 Z0 (Z6 1 W) λu=>
 Z0 (Z4 a 1 u H) λw=>
 Z0 (Zf (.slice 3) w) λy=>
 Z0 (Z2 .neq y (Q J 256)) λh=>
 Z0 (Z8 h a bf (Z6 2 W)) λz=>
 Z0 (Z8 h a bf (Z4 a 1 z H)) λA=>
 Z0 (Z8 h a bf (Zf .string A)) λB=>
 Z0 (Z8 h a bf (Z2 .neq B (Q J 256))) λC=>
 Z0 (Zm h (.bool c) C) λj=>
 Z0 (Z8 j a bf (Z6 3 W)) λD=>
 Z0 (Z8 j a bf (Z4 a 1 D H)) λE=>
 Z0 (Z8 j a bf (Zf .string E)) λF=>
 Z0 (Z8 j a bf (Z2 .neq F (Q J 256))) λG=>
 Z0 (Zm j (.bool c) G) λL=>
 Zh L
 (b ((Q J 2),H))
 (Oa W Y H):=Z9 aw
theorem ZcU:Bu [x] H=bW x H:=Be 49 [3,5,7,10,11,14] func153
def Se:Z3:=ah 154 18 f154 15 Y [(0,X),(1,W)] H
def Jc:KL:=Zc (YT 154 18 f154 15) (Zd cfg 18 154 f154 Y)
theorem aX:ZV 18 (Jc Y):=Zv (C:=cfg) (kp:=cfg.keep 154) (ai f154 15) (Zy 154 f154 Y)
def Sh:Z3:=Zx 154 18 (ai f154 935) (Zc (Y4 154 18 f154 116) (Z7 0 (Jc Y))) [(0,X),(1,W),(5,U),(6,v)] H
def Sf:Z3:=Zx 154 18 (ai f154 467) (Zc (Y4 154 18 f154 116) (Z7 0 (Jc Y))) [(0,X),(1,W),(5,U),(6,v),(7,r)] H
def Jd:Z3:=Xj 154 18 (ai f154 116) (Z7 0 (Jc Y)) [(0,X),(1,W),(5,U),(6,v)] H
def CF:Z3:=
 Z0 (b ((.ptr (d H) 0),H++[.cells [(.str []),.nils,(.str []),(.str []),.nils,.nils]])) λj=>
 Z0 (K8 1 8 a (Q J 0) (Q J 256) (Q J 256) j.2) λh=>
 Z0 (Zf (.slice 3) h.1) λt5=>
 Jd j.1 h.1 t5 (Q J 0) H h.2
theorem jE:Se X W Y H =
 Z0 (Ze V7 [(.int .u8 65),(.int .u8 90),(Q J 32)] H) λh=>
 Z0 (Ze V7 [(.int .u8 97),(.int .u8 122),(Q J (-32))] h.2) λj=>
 Z0 ((Yb [(0,1,(.str [112,111,115,105,120])),(1,1,W),(2,1,h.1),(3,1,j.1)] [(.str []),.nils,(.str []),(.str []),.nils,.nils]).map .agg) λw=>
 Z0 (Zg 6 X w j.2) λu=>
 Z0 (Z4 c 6 X u.2) λy=>
 b (y,u.2):=Z9 [4,6,7]
theorem jG:Sh X W U v Y H =
 Z0 (Z2 .add v (Q J 1)) λh=>
 Jd X W U h Y H:=Z9 [4,6,7]
theorem jF:Sf X W U v r Y H =
 Z0 (Zr 1 W v) λj=>
 Z0 (Zg 1 j v H) λh=>
 Sh X W U v Y h.2:=Z9 [4,6,7]
theorem jH:Jd X W U v Y H =
 Z0 (Z2 .lss v U) λh=>
 Zh h
 (Sf X W U v h Y H)
 (Se X W Y H):=(ZC (C:=cfg) [4,6,7] (Zo 0 (aX Y)) _ _).trans dz
theorem nW:Ra [] H=CF H:=Be 18 [4,6,7] func154
def Re:Z3:=
 Z0 (iL .cmp [x,p1] H) λh=>
 b (h.1,h.2)
theorem Bx:We [x,p1] H=Re x p1 H:=Be 8 [] func155
def EZ:Z3:=ah 156 23 f156 15 Y [(3,V)] H
def DF:KL:=Zc (YT 156 23 f156 15) (Zd cfg 23 156 f156 Y)
theorem aP:ZV 23 (DF Y):=Zv (C:=cfg) (kp:=cfg.keep 156) (ai f156 15) (Zy 156 f156 Y)
def S5:Z3:=Zx 156 23 (ai f156 113) (Zc (Y4 156 23 f156 56) (Z7 0 (DF Y))) [(0,X),(3,V)] H
def J9:Z3:=Xj 156 23 (ai f156 56) (Z7 0 (DF Y)) [(0,X),(3,V)] H
def ZeW:Z3:=
 J9 x (Q J 0) H H
theorem Ka:EZ V Y H =
 b (V,H):=Z9 [3,4]
theorem iE:S5 X V Y H =
 Z0 (Z2 .add V (Q J 1)) λh=>
 J9 X h Y H:=Z9 [3,4]
theorem Pf:J9 X V Y H =
 Z0 (Zf .string X) λF=>
 Z0 (Z2 .lss V F) λj=>
 Z0 (Z8 j c bf (b X)) λt9=>
 Z0 (Z8 j c bf (b V)) λu=>
 Z0 (Z8 j c bf (Zp t9 u)) λw=>
 Z0 (Z8 j c bf (Z2 .geq w (.int .u8 48))) λy=>
 Z0 (Zm j y (.bool a)) λh=>
 Z0 (Z8 h c bf (b X)) λz=>
 Z0 (Z8 h c bf (b V)) λA=>
 Z0 (Z8 h c bf (Zp z A)) λB=>
 Z0 (Z8 h c bf (Z2 .leq B (.int .u8 57))) λD=>
 Z0 (Zm h D (.bool a)) λE=>
 Zh E
 (S5 X V Y H)
 (EZ V Y H):=(ZC (C:=cfg) [3,4] (Zo 0 (aP Y)) _ _).trans dz
theorem nU:JS [x] H=ZeW x H:=Be 23 [3,4] func156
def HS:Z3:=ah 157 29 f157 15 Y [(1,W),(5,U)] H
def Kb:KL:=Zc (YT 157 29 f157 15) (Zd cfg 29 157 f157 Y)
theorem dY:ZV 29 (Kb Y):=Zv (C:=cfg) (kp:=cfg.keep 157) (ai f157 15) (Zy 157 f157 Y)
def HU:Z3:=Zx 157 29 (ai f157 935) (Zc (Y4 157 29 f157 116) (Z7 0 (Kb Y))) [(0,X),(1,W),(5,U),(8,x8),(9,o)] H
def HT:Z3:=Zx 157 29 (ai f157 467) (Zc (Y4 157 29 f157 116) (Z7 0 (Kb Y))) [(0,X),(1,W),(5,U),(8,x8),(9,o),(10,t)] H
def Kc:Z3:=Xj 157 29 (ai f157 116) (Z7 0 (Kb Y)) [(0,X),(1,W),(5,U),(8,x8),(9,o)] H
def Iq:Z3:=
 Z0 (Zf .string x) λh=>
 Kc x p1 (Q J 0) h (Q J 0) H H
theorem oT:HS W U Y H =
 Z0 (Z2 .mul U (Q J 10000)) λj=>
 Z0 (Ze GN [W] H) λh=>
 Z0 (Z2 .add j h.1) λu=>
 Z0 (WU (Q J 10000000000001) u) λw=>
 b (w,h.2):=Z9 au
theorem oV:HU X W U x8 o Y H =
 Z0 (Z2 .add o (Q J 1)) λh=>
 Kc X W U x8 h Y H:=Z9 au
theorem oU:HT X W U x8 o t Y H =
 Z0 (Z2 .mul (Q J 10) U) λj=>
 Z0 (Zp X o) λu=>
 Z0 (Z2 .sub u (.int .u8 48)) λw=>
 Z0 (ZS .i64 w) λy=>
 Z0 (Z2 .add j y) λh=>
 Z0 (Z2 .gtr h (Q J 1000000000)) λz=>
 Zh z
 (b ((Q J 10000000000001),H))
 (HU X W h x8 o Y H):=Z9 au
theorem N7:Kc X W U x8 o Y H =
 Z0 (Z2 .lss o x8) λh=>
 Zh h
 (HT X W U x8 o h Y H)
 (HS W U Y H):=(ZC (C:=cfg) [4,8,9] (Zo 0 (dY Y)) _ _).trans dz
theorem Za9:Td [x,p1] H=Iq x p1 H:=Be 29 [4,8,9] func157
def Af:Z3:=ah 164 26 f164 15 Y [(5,U)] H
def Kn:KL:=Zc (YT 164 26 f164 15) (Zd cfg 26 164 f164 Y)
theorem eG:ZV 26 (Kn Y):=Zv (C:=cfg) (kp:=cfg.keep 164) (ai f164 15) (Zy 164 f164 Y)
def Ah:Z3:=Zx 164 26 (ai f164 935) (Zc (Y4 164 26 f164 116) (Z7 0 (Kn Y))) [(0,X),(5,U),(10,t),(11,s)] H
def Ag:Z3:=Zx 164 26 (ai f164 467) (Zc (Y4 164 26 f164 116) (Z7 0 (Kn Y))) [(0,X),(5,U),(10,t),(11,s),(12,q)] H
def Ko:Z3:=Xj 164 26 (ai f164 116) (Z7 0 (Kn Y)) [(0,X),(5,U),(10,t),(11,s)] H
def Is:Z3:=
 Z0 (SM p1 H) λh=>
 Z0 (Zf (.slice 5) h.1) λj=>
 Ko x h.1 j (Q J 0) H h.2
theorem oX:Af U Y H =
 Z0 (XM U H) λh=>
 b (h,H):=Z9 [4,6,7]
theorem oZ:Ah X U t s Y H =
 Z0 (Z2 .add s (Q J 1)) λh=>
 Ko X U t h Y H:=Z9 [4,6,7]
theorem oY:Ag X U t s q Y H =
 Z0 (Zr 1 U s) λj=>
 Z0 (Z4 a 1 j H) λu=>
 Z0 (Zp X u) λw=>
 Z0 (Zr 1 U s) λy=>
 Z0 (Zg 1 y w H) λh=>
 Ah X U t s Y h.2:=Z9 [4,6,7]
theorem N8:Ko X U t s Y H =
 Z0 (Z2 .lss s t) λh=>
 Zh h
 (Ag X U t s h Y H)
 (Af U Y H):=(ZC (C:=cfg) [4,6,7] (Zo 0 (eG Y)) _ _).trans dz
theorem Zaa:Tf [x,p1] H=Is x p1 H:=Be 26 [4,6,7] func164
def ZaP:Z3:=ah 167 8 f167 7 Y [(1,W),(2,O)] H
def OJ:Z3:=
 Z0 (ZY x H) λu=>
 Z0 (b ((.ptr (d u.2) 0),u.2++[.cells [(.str []),.nils,(.str []),(.str []),.nils,.nils]])) λj=>
 Z0 (Z4 c 6 u.1 j.2) λt3=>
 Z0 (Ze M3 [t3] j.2) λw=>
 Z0 (Z2 .neq w.1 (Q J 0)) λt5=>
 Zh t5
 (Z0 (Ze Q0 [] w.2) λy=>
 Z0 (Zg 6 j.1 y.1 y.2) λh=>
 Z0 (Z4 c 6 j.1 h.2) λz=>
 b (z,h.2))
 (ZaP u.1 j.1 H w.2)
theorem Zh1:ZaP W O Y H =
 Z0 (Z4 c 6 W H) λj=>
 Z0 (Zg 6 O j H) λh=>
 Z0 (Z4 c 6 O h.2) λu=>
 b (u,h.2):=Z9 [3]
theorem bN:G1 [x] H=OJ x H:=Be 8 [3] func167
def ZaL:Z3:=ah 168 46 f168 31 Y [] H
def ZaK:Z3:=ah 168 46 f168 15 Y [(0,X),(1,W)] H
def Ha:Z3:=ah 168 46 f168 7 Y [(0,X),(1,W)] H
def B7:KL:=Zc (YT 168 46 f168 7) (Zd cfg 46 168 f168 Y)
theorem Zdc:ZV 46 (B7 Y):=Zv (C:=cfg) (kp:=cfg.keep 168) (ai f168 7) (Zy 168 f168 Y)
def ZaN:Z3:=Zx 168 46 (ai f168 211) (Zc (Y4 168 46 f168 52) (Z7 0 (B7 Y))) [(0,X),(1,W),(5,U)] H
def Zmg:KL:=Zc (YT 168 46 f168 211) (Zc (Y4 168 46 f168 52) (Z7 0 (B7 Y)))
def ZaO:Z3:=Zx 168 46 (ai f168 841) (Z7 1 (Zmg Y)) [(0,X),(1,W),(5,U)] H
def ZaM:Z3:=Zx 168 46 (ai f168 105) (Zc (Y4 168 46 f168 52) (Z7 0 (B7 Y))) [(0,X),(1,W),(5,U)] H
def TE:Z3:=Xj 168 46 (ai f168 52) (Z7 0 (B7 Y)) [(0,X),(1,W),(5,U)] H
def ZdH:Z3:=
 TE x p1 (Q J 0) H H
theorem ZgX:ZaL Y H =
 b ((Q J 0),H):=Z9 ax
theorem ZgW:ZaK X W Y H =
 Z0 (Zf (.slice 3) X) λh=>
 Z0 (Zf (.slice 3) W) λj=>
 Z0 (Z2 .gtr h j) λu=>
 Zh u
 (b ((Q J 1),H))
 (ZaL Y H):=Z9 ax
theorem ZgV:Ha X W Y H =
 Z0 (Zf (.slice 3) X) λt37=>
 Z0 (Zf (.slice 3) W) λh=>
 Z0 (Z2 .lss t37 h) λj=>
 Zh j
 (b ((Q J (-1)),H))
 (ZaK X W Y H):=Z9 ax
theorem ZgZ:ZaN X W U Y H =
 Z0 (Z2 .add U (Q J 1)) λh=>
 TE X W h Y H:=Z9 ax
theorem Zh0:ZaO X W U Y H =
 Z0 (Zr 1 X U) λh=>
 Z0 (Z4 a 1 h H) λj=>
 Z0 (Zr 1 W U) λu=>
 Z0 (Z4 a 1 u H) λw=>
 Z0 (Z2 .gtr j w) λy=>
 Zh y
 (b ((Q J 1),H))
 (ZaN X W U Y H):=Z9 ax
theorem ZgY:ZaM X W U Y H =
 Z0 (Zr 1 X U) λh=>
 Z0 (Z4 a 1 h H) λj=>
 Z0 (Zr 1 W U) λu=>
 Z0 (Z4 a 1 u H) λw=>
 Z0 (Z2 .lss j w) λy=>
 Zh y
 (b ((Q J (-1)),H))
 (ZaO X W U Y H):=Z9 ax
theorem IF:TE X W U Y H =
 Z0 (Zf (.slice 3) X) λz=>
 Z0 (Z2 .lss U z) λt9=>
 Z0 (Z8 t9 c bf (b U)) λh=>
 Z0 (Z8 t9 c bf (b W)) λj=>
 Z0 (Z8 t9 c bf (Zf (.slice 3) j)) λu=>
 Z0 (Z8 t9 c bf (Z2 .lss h u)) λw=>
 Z0 (Zm t9 w (.bool a)) λy=>
 Zh y
 (ZaM X W U Y H)
 (Ha X W Y H):=(ZC (C:=cfg) [3,4,6,8,10,12] (Zo 0 (Zdc Y)) _ _).trans dz
theorem Zj6:DS [x,p1] H=ZdH x p1 H:=Be 46 [3,4,6,8,10,12] func168
def cO:Z3:=ah 169 42 f169 15 Y [(5,U)] H
def NE:KL:=Zc (YT 169 42 f169 15) (Zd cfg 42 169 f169 Y)
theorem oD:ZV 42 (NE Y):=Zv (C:=cfg) (kp:=cfg.keep 169) (ai f169 15) (Zy 169 f169 Y)
def cP:Z3:=Zx 169 42 (ai f169 233) (Zc (Y4 169 42 f169 116) (Z7 0 (NE Y))) [(1,W),(2,O),(5,U),(6,v)] H
def Js:Z3:=Xj 169 42 (ai f169 116) (Z7 0 (NE Y)) [(1,W),(2,O),(5,U),(6,v)] H
def lC:Z3:=
 Z0 (ZY x H) λh=>
 Js p1 h.1 .nils (Q J 0) H h.2
theorem Ex:cO U Y H =
 b (U,H):=Z9 [4,10]
theorem Zdd:cP W O U v Y H =
 Z0 (Z4 c 6 O H) λw=>
 Z0 (Ze Su [w,W,v] H) λh=>
 Z0 (Z2 .lss h.1 (Q J 0)) λy=>
 Zh y
 (Z0 (Z6 1 O) λz=>
 Z0 (Z4 a 1 z h.2) λA=>
 Z0 (Zp W v) λB=>
 Z0 (Zr 1 A B) λC=>
 Z0 (Z4 a 1 C h.2) λD=>
 Z0 ((ZB 1 [(0,D)] [(Q J 0)]).map (.vs 1 .clip)) λE=>
 Z0 (Ya 1 8 U E h.2) λj=>
 Z0 (Z2 .add v (Q J 1)) λF=>
 Js W O j.1 F Y j.2)
 (Z0 (Z6 5 O) λG=>
 Z0 (Z4 a 1 G h.2) λL=>
 Z0 (Zr 2 L h.1) λM=>
 Z0 (Z6 1 M) λN=>
 Z0 (Z4 a 1 N h.2) λP=>
 Z0 ((ZB 1 [(0,P)] [(Q J 0)]).map (.vs 1 .clip)) λt37=>
 Z0 (Ya 1 8 U t37 h.2) λu=>
 Z0 (Z2 .add v (Q J 2)) λR=>
 Js W O u.1 R Y u.2):=Z9 [4,10]
theorem Dw:Js W O U v Y H =
 Z0 (Zf .string W) λh=>
 Z0 (Z2 .lss v h) λj=>
 Zh j
 (cP W O U v Y H)
 (cO U Y H):=(ZC (C:=cfg) [4,10] (Zo 0 (oD Y)) _ _).trans dz
theorem ZeP:Fy [x,p1] H=lC x p1 H:=Be 42 [4,10] func169
def Zav:Z3:=ah 170 38 f170 31 Y [(5,U),(6,v)] H
def Ts:KL:=Zc (YT 170 38 f170 31) (Zd cfg 38 170 f170 Y)
theorem Zd2:ZV 38 (Ts Y):=Zv (C:=cfg) (kp:=cfg.keep 170) (ai f170 31) (Zy 170 f170 Y)
def Zax:Z3:=Zx 170 38 (ai f170 979) (Zc (Y4 170 38 f170 244) (Z7 2 (Ts Y))) [(1,W),(5,U),(6,v),(8,x8)] H
def Zaw:Z3:=Zx 170 38 (ai f170 489) (Zc (Y4 170 38 f170 244) (Z7 2 (Ts Y))) [(1,W),(5,U),(6,v),(8,x8)] H
def Tu:Z3:=Xj 170 38 (ai f170 244) (Z7 2 (Ts Y)) [(1,W),(5,U),(6,v),(8,x8)] H
def Zau:Z3:=ah 170 38 f170 15 Y [(1,W),(5,U),(6,v)] H
def Tt:KL:=Zc (YT 170 38 f170 15) (Zd cfg 38 170 f170 Y)
theorem Zd3:ZV 38 (Tt Y):=Zv (C:=cfg) (kp:=cfg.keep 170) (ai f170 15) (Zy 170 f170 Y)
def Zaz:Z3:=Zx 170 38 (ai f170 467) (Zc (Y4 170 38 f170 116) (Z7 0 (Tt Y))) [(0,X),(1,W),(5,U),(6,v),(7,r)] H
def Zay:Z3:=Zx 170 38 (ai f170 233) (Zc (Y4 170 38 f170 116) (Z7 0 (Tt Y))) [(0,X),(1,W),(5,U),(6,v),(7,r)] H
def Tv:Z3:=Xj 170 38 (ai f170 116) (Z7 0 (Tt Y)) [(0,X),(1,W),(5,U),(6,v),(7,r)] H
def Zo8:Z3:=
 Tv x p1 .nils .nils (Q J 0) H H
theorem ZgJ:Zav U v Y H =
 Z0 (Ze DS [U,v] H) λh=>
 b (h.1,h.2):=Z9 ay
theorem ZgL:Zax W U v x8 Y H =
 Z0 (Z2 .add x8 (Q J 1)) λh=>
 Tu W U v h Y H:=Z9 ay
theorem ZgK:Zaw W U v x8 Y H =
 Z0 (Zp W x8) λj=>
 Z0 (ZS .i64 j) λu=>
 Z0 ((ZB 1 [(0,u)] [(Q J 0)]).map (.vs 1 .clip)) λw=>
 Z0 (Ya 1 8 v w H) λh=>
 Zax W U h.1 x8 Y h.2:=Z9 ay
theorem IC:Tu W U v x8 Y H =
 Z0 (Zf .string W) λh=>
 Z0 (Z2 .lss x8 h) λj=>
 Zh j
 (Zaw W U v x8 Y H)
 (Zav U v Y H):=(ZC (C:=cfg) [4,5,6,8,9,10] (Zo 2 (Zd2 Y)) _ _).trans dz
theorem ZgI:Zau W U v Y H =
 Tu W U v (Q J 0) Y H:=Z9 ay
theorem ZgN:Zaz X W U v r Y H =
 Z0 (Z2 .add r (Q J 1)) λh=>
 Tv X W U v h Y H:=Z9 ay
theorem ZgM:Zay X W U v r Y H =
 Z0 (Zp X r) λj=>
 Z0 (ZS .i64 j) λu=>
 Z0 ((ZB 1 [(0,u)] [(Q J 0)]).map (.vs 1 .clip)) λw=>
 Z0 (Ya 1 8 U w H) λh=>
 Zaz X W h.1 v r Y h.2:=Z9 ay
theorem ID:Tv X W U v r Y H =
 Z0 (Zf .string X) λh=>
 Z0 (Z2 .lss r h) λj=>
 Zh j
 (Zay X W U v r Y H)
 (Zau W U v Y H):=(ZC (C:=cfg) [4,5,6,8,9,10] (Zo 0 (Zd3 Y)) _ _).trans dz
theorem Zj2:OE [x,p1] H=Zo8 x p1 H:=Be 38 [4,5,6,8,9,10] func170
def dR:Z3:=ah 171 25 f171 63 Y [] H
def dQ:Z3:=ah 171 25 f171 31 Y [(5,U),(7,r)] H
def lI:Z3:=
 Z0 (Ze T8 [x] H) λj=>
 Z0 (ZK j.1 0) λu=>
 Z0 (ZK j.1 1) λz=>
 Z0 (Ze T8 [p1] j.2) λh=>
 Z0 (ZK h.1 0) λw=>
 Z0 (ZK h.1 1) λA=>
 Z0 (Z2 .lss u w) λy=>
 Zh y
 (b ((Q J (-1)),h.2))
 (dQ u w H h.2)
theorem Zdo:dR Y H =
 b ((Q J 0),H):=Z9 [5,7]
theorem EX:dQ U r Y H =
 Z0 (Z2 .gtr U r) λh=>
 Zh h
 (b ((Q J 1),H))
 (dR Y H):=Z9 [5,7]
theorem ZeU:Lv [x,p1] H=lI x p1 H:=Be 25 [5,7] func171
def HF:Z3:=ah 172 31 f172 31 Y [(1,W)] H
def TZ:Z3:=ah 172 31 f172 15 Y [(1,W),(2,O),(3,V)] H
def HE:Z3:=ah 172 31 f172 7 Y [(1,W),(2,O),(3,V)] H
def HG:KL:=Zc (YT 172 31 f172 7) (Zd cfg 31 172 f172 Y)
theorem Zdp:ZV 31 (HG Y):=Zv (C:=cfg) (kp:=cfg.keep 172) (ai f172 7) (Zy 172 f172 Y)
def Zb6:Z3:=Zx 172 31 (ai f172 49) (Zc (Y4 172 31 f172 24) (Z7 0 (HG Y))) [(1,W),(2,O),(3,V)] H
def P0:Z3:=Xj 172 31 (ai f172 24) (Z7 0 (HG Y)) [(1,W),(2,O),(3,V)] H
def ZdO:Z3:=
 Z0 (ZY x H) λh=>
 P0 p1 p2 h.1 H h.2
theorem IK:HF W Y H =
 b (W,H):=Z9 [2,3,5,7]
theorem Zhm:TZ W O V Y H =
 Z0 (Ze Wi [O,(Q J 4)] H) λh=>
 Zh h.1
 (Z0 (Z4 c 6 V h.2) λu=>
 Z0 (Ze OF [u,W] h.2) λj=>
 HF j.1 Y j.2)
 (HF W Y h.2):=Z9 [2,3,5,7]
theorem Zhl:HE W O V Y H =
 Z0 (Ze Wi [O,(Q J 16)] H) λh=>
 Zh h.1
 (Z0 (Ze fE [W] h.2) λj=>
 TZ j.1 O V Y j.2)
 (TZ W O V Y h.2):=Z9 [2,3,5,7]
theorem Zhn:Zb6 W O V Y H =
 Z0 (ZR W (b (Q J 1)) e e) λh=>
 P0 h O V Y H:=Z9 [2,3,5,7]
theorem IL:P0 W O V Y H =
 Z0 (Ze Wi [O,(Q J 8)] H) λu=>
 Z0 (Z8 u.1 c bf (b W)) λw=>
 Z0 (Z8 u.1 c bf (Zf .string w)) λy=>
 Z0 (Z8 u.1 c bf (Z2 .gtr y (Q J 0))) λz=>
 Z0 (Zm u.1 z (.bool a)) λh=>
 Z0 (Z8 h c bf (b W)) λA=>
 Z0 (Z8 h c bf (Zp A (Q J 0))) λB=>
 Z0 (Z8 h c (bf,u.2) (QF [B] u.2)) λj=>
 Z0 (Zm h j.1 (.bool a)) λD=>
 Zh D
 (Zb6 W O V Y j.2)
 (HE W O V Y j.2):=(ZC (C:=cfg) [2,3,5,7] (Zo 0 (Zdp Y)) _ _).trans dz
theorem Zjd:M8 [x,p1,p2] H=ZdO x p1 p2 H:=Be 31 [2,3,5,7] func172
def NR:Z3:=ah 186 54 f186 7 Y [(0,X)] H
def BO:KL:=Zc (YT 186 54 f186 7) (Zd cfg 54 186 f186 Y)
theorem pA:ZV 54 (BO Y):=Zv (C:=cfg) (kp:=cfg.keep 186) (ai f186 7) (Zy 186 f186 Y)
def NT:Z3:=Zx 186 54 (ai f186 423) (Zc (Y4 186 54 f186 52) (Z7 0 (BO Y))) [(0,X),(7,r),(8,x8)] H
def NS:Z3:=Zx 186 54 (ai f186 211) (Zc (Y4 186 54 f186 52) (Z7 0 (BO Y))) [(0,X),(7,r),(8,x8),(9,o)] H
def BP:Z3:=Xj 186 54 (ai f186 52) (Z7 0 (BO Y)) [(0,X),(7,r),(8,x8)] H
def lK:Z3:=
 Z0 (Zf .string x) λh=>
 BP x h (Q J 0) H H
theorem Zdy:NR X Y H =
 Z0 (Y1 .neq X (.str [])) λh=>
 Z0 (Z8 h c bf (b X)) λj=>
 Z0 (Z8 h c bf (Zf .string j)) λu=>
 Z0 (Z8 h c bf (Z2 .leq u (Q J 32))) λw=>
 Z0 (Zm h w (.bool a)) λy=>
 b (y,H):=Z9 [3,8,9]
theorem Sm:NT X r x8 Y H =
 Z0 (Z2 .add x8 (Q J 1)) λh=>
 BP X r h Y H:=Z9 [3,8,9]
theorem Zdz:NS X r x8 o Y H =
 Z0 (Zp X x8) λh=>
 Z0 (Z2 .eql h (.int .u8 95)) λu=>
 Z0 (Z8 u a bf (b h)) λB=>
 Z0 (Z8 u a bf (Z2 .geq B (.int .u8 97))) λC=>
 Z0 (Z8 u a bf (b C)) λy=>
 Z0 (Z8 y c bf (b h)) λD=>
 Z0 (Z8 y c bf (Z2 .leq D (.int .u8 122))) λE=>
 Z0 (Z8 u a bf (Zm y E (.bool a))) λF=>
 Z0 (Zm u (.bool c) F) λw=>
 Z0 (Z8 w a bf (b h)) λG=>
 Z0 (Z8 w a bf (Z2 .geq G (.int .u8 65))) λL=>
 Z0 (Z8 w a bf (b L)) λz=>
 Z0 (Z8 z c bf (b h)) λM=>
 Z0 (Z8 z c bf (Z2 .leq M (.int .u8 90))) λN=>
 Z0 (Z8 w a bf (Zm z N (.bool a))) λP=>
 Z0 (Zm w (.bool c) P) λR=>
 Z0 (YU .not R) λj=>
 Z0 (Z8 j c bf (b x8)) λS=>
 Z0 (Z8 j c bf (Z2 .eql S (Q J 0))) λT=>
 Z0 (Z8 j c bf (b T)) λt37=>
 Z0 (Z8 t37 a bf (b h)) λZ=>
 Z0 (Z8 t37 a bf (Z2 .lss Z (.int .u8 48))) λaa=>
 Z0 (Z8 j c bf (Zm t37 (.bool c) aa)) λab=>
 Z0 (Z8 j c bf (b ab)) λA=>
 Z0 (Z8 A a bf (b h)) λac=>
 Z0 (Z8 A a bf (Z2 .gtr ac (.int .u8 57))) λad=>
 Z0 (Z8 j c bf (Zm A (.bool c) ad)) λae=>
 Z0 (Zm j ae (.bool a)) λaf=>
 Zh af
 (b ((.bool a),H))
 (NT X r x8 Y H):=Z9 [3,8,9]
theorem Je:BP X r x8 Y H =
 Z0 (Z2 .lss x8 r) λt9=>
 Zh t9
 (NS X r x8 t9 Y H)
 (NR X Y H):=(ZC (C:=cfg) [3,8,9] (Zo 0 (pA Y)) _ _).trans dz
theorem ZeY:KP [x] H=lK x H:=Be 54 [3,8,9] func186
def Fb:Z3:=ah 187 28 f187 31 Y [] H
def W5:KL:=Zc (YT 187 28 f187 31) (Zd cfg 28 187 f187 Y)
theorem Li:ZV 28 (W5 Y):=Zv (C:=cfg) (kp:=cfg.keep 187) (ai f187 31) (Zy 187 f187 Y)
def Fd:Z3:=Zx 187 28 (ai f187 1959) (Zc (Y4 187 28 f187 244) (Z7 0 (W5 Y))) [(3,V),(10,t),(11,s),(12,q)] H
def Fh:KL:=Zc (YT 187 28 f187 1959) (Zc (Y4 187 28 f187 244) (Z7 0 (W5 Y)))
def Ff:Z3:=Zx 187 28 (ai f187 31335) (Z7 1 (Fh Y)) [(3,V),(5,U),(10,t),(11,s),(12,q)] H
def Fe:Z3:=Zx 187 28 (ai f187 15667) (Z7 1 (Fh Y)) [(3,V),(5,U),(10,t),(11,s),(12,q)] H
def Fc:Z3:=Zx 187 28 (ai f187 979) (Zc (Y4 187 28 f187 244) (Z7 0 (W5 Y))) [(3,V),(10,t),(11,s),(12,q),(13,x13)] H
def Vi:Z3:=Xj 187 28 (ai f187 244) (Z7 0 (W5 Y)) [(3,V),(10,t),(11,s),(12,q)] H
def Fa:Z3:=ah 187 28 f187 7 Y [(0,X)] H
def RG:Z3:=
 Z0 (Zf (.slice 241) x) λh=>
 Z0 (Z2 .gtr h (Q J 24)) λj=>
 Zh j
 (b ((Q J 3),H))
 (Fa x H H)
theorem SR:Fb Y H =
 b ((Q J 0),H):=Z9 az
theorem SV:Fd V t s q Y H =
 Z0 (Z2 .add q (Q J 1)) λh=>
 Vi V t s h Y H:=Z9 az
theorem SX:Ff V U t s q Y H =
 Z0 (Z6 0 U) λj=>
 Z0 (Z4 a 1 j H) λu=>
 Z0 (XL .string V u (.bool c) H) λh=>
 Fd V t s q Y h.2:=Z9 az
theorem SW:Fe V U t s q Y H =
 Z0 (Z6 0 U) λh=>
 Z0 (Z4 a 1 h H) λj=>
 Z0 (Yj .string (.bool a) a V j H) λu=>
 Zh u
 (b ((Q J 6),H))
 (Ff V U t s q Y H):=Z9 az
theorem SU:Fc V t s q x13 Y H =
 Z0 (Zr 5 t q) λw=>
 Z0 (Z4 c 5 w H) λy=>
 Z0 (b ((.ptr (d H) 0),H++[.cells [(.str []),(.int .u64 0),(.int .u64 0),(.int .u64 0),(.int .u64 0)]])) λu=>
 Z0 (Zg 5 u.1 y u.2) λj=>
 Z0 (Z6 0 u.1) λz=>
 Z0 (Z4 a 1 z j.2) λA=>
 Z0 (Ze KP [A] j.2) λh=>
 Z0 (YU .not h.1) λB=>
 Zh B
 (b ((Q J 4),h.2))
 (Fe V u.1 t s q Y h.2):=Z9 az
theorem GA:Vi V t s q Y H =
 Z0 (Z2 .lss q s) λh=>
 Zh h
 (Fc V t s q h Y H)
 (Fb Y H):=(ZC (C:=cfg) [3,6,9,11,12,13] (Zo 0 (Li Y)) _ _).trans dz
theorem SP:Fa X Y H =
 Z0 (b ((.map (d H)),H++[.map [] 0])) λj=>
 Z0 (Zf (.slice 241) X) λh=>
 Vi j.1 X h (Q J 0) Y j.2:=Z9 az
theorem CG:Vy [x] H=RG x H:=Be 28 [3,6,9,11,12,13] func187
def Db:Z3:=ah 188 38 f188 31 Y [] H
def XV:KL:=Zc (YT 188 38 f188 31) (Zd cfg 38 188 f188 Y)
theorem NP:ZV 38 (XV Y):=Zv (C:=cfg) (kp:=cfg.keep 188) (ai f188 31) (Zy 188 f188 Y)
def Dd:Z3:=Zx 188 38 (ai f188 1959) (Zc (Y4 188 38 f188 244) (Z7 0 (XV Y))) [(3,V),(10,t),(11,s),(12,q)] H
def Dg:KL:=Zc (YT 188 38 f188 1959) (Zc (Y4 188 38 f188 244) (Z7 0 (XV Y)))
def Df:Z3:=Zx 188 38 (ai f188 31335) (Z7 1 (Dg Y)) [(3,V),(5,U),(10,t),(11,s),(12,q)] H
def De:Z3:=Zx 188 38 (ai f188 15667) (Z7 1 (Dg Y)) [(3,V),(5,U),(10,t),(11,s),(12,q)] H
def Dc:Z3:=Zx 188 38 (ai f188 979) (Zc (Y4 188 38 f188 244) (Z7 0 (XV Y))) [(3,V),(10,t),(11,s),(12,q),(13,x13)] H
def WV:Z3:=Xj 188 38 (ai f188 244) (Z7 0 (XV Y)) [(3,V),(10,t),(11,s),(12,q)] H
def Da:Z3:=ah 188 38 f188 7 Y [(0,X)] H
def DU:Z3:=
 Z0 (Zf (.slice 190) x) λh=>
 Z0 (Z2 .gtr h (Q J 64)) λj=>
 Zh j
 (b ((Q J 3),H))
 (Da x H H)
theorem LZ:Db Y H =
 b ((Q J 0),H):=Z9 az
theorem E1:Dd V t s q Y H =
 Z0 (Z2 .add q (Q J 1)) λt37=>
 WV V t s t37 Y H:=Z9 az
theorem E3:Df V U t s q Y H =
 Z0 (Z6 0 U) λj=>
 Z0 (Z4 a 1 j H) λu=>
 Z0 (XL .string V u (.bool c) H) λh=>
 Dd V t s q Y h.2:=Z9 az
theorem E2:De V U t s q Y H =
 Z0 (Z6 0 U) λh=>
 Z0 (Z4 a 1 h H) λj=>
 Z0 (Yj .string (.bool a) a V j H) λu=>
 Zh u
 (b ((Q J 6),H))
 (Df V U t s q Y H):=Z9 az
theorem E0:Dc V t s q x13 Y H =
 Z0 (Zr 2 t q) λy=>
 Z0 (Z4 c 2 y H) λz=>
 Z0 (b ((.ptr (d H) 0),H++[.cells [(.str []),(Q J 0)]])) λw=>
 Z0 (Zg 2 w.1 z w.2) λh=>
 Z0 (Z6 0 w.1) λA=>
 Z0 (Z4 a 1 A h.2) λB=>
 Z0 (Zf .string B) λC=>
 Z0 (Z2 .neq C (Q J 2)) λj=>
 Z0 (Z8 j a bf (Z6 1 w.1)) λD=>
 Z0 (Z8 j a bf (Z4 a 1 D h.2)) λE=>
 Z0 (Z8 j a bf (Z2 .lss E (Q J 0))) λF=>
 Z0 (Zm j (.bool c) F) λu=>
 Z0 (Z8 u a bf (Z6 1 w.1)) λG=>
 Z0 (Z8 u a bf (Z4 a 1 G h.2)) λL=>
 Z0 (Z8 u a bf (Z2 .gtr L (Q J 65535))) λM=>
 Z0 (Zm u (.bool c) M) λN=>
 Zh N
 (b ((Q J 2),h.2))
 (De V w.1 t s q Y h.2):=Z9 az
theorem KW:WV V t s q Y H =
 Z0 (Z2 .lss q s) λh=>
 Zh h
 (Dc V t s q h Y H)
 (Db Y H):=(ZC (C:=cfg) [3,6,9,11,12,13] (Zo 0 (NP Y)) _ _).trans dz
theorem LY:Da X Y H =
 Z0 (b ((.map (d H)),H++[.map [] 0])) λj=>
 Z0 (Zf (.slice 190) X) λh=>
 WV j.1 X h (Q J 0) Y j.2:=Z9 az
theorem Sz:Vf [x] H=DU x H:=Be 38 [3,6,9,11,12,13] func188
def Sn:Z3:=ah 189 40 f189 15 Y [(7,r)] H
def Jf:KL:=Zc (YT 189 40 f189 15) (Zd cfg 40 189 f189 Y)
theorem aY:ZV 40 (Jf Y):=Zv (C:=cfg) (kp:=cfg.keep 189) (ai f189 15) (Zy 189 f189 Y)
def DH:Z3:=Zx 189 40 (ai f189 935) (Zc (Y4 189 40 f189 116) (Z7 0 (Jf Y))) [(0,X),(1,W),(2,O),(7,r),(11,s),(12,q)] H
def So:Z3:=Zx 189 40 (ai f189 467) (Zc (Y4 189 40 f189 116) (Z7 0 (Jf Y))) [(0,X),(1,W),(2,O),(7,r),(11,s),(12,q),(13,x13)] H
def Jg:Z3:=Xj 189 40 (ai f189 116) (Z7 0 (Jf Y)) [(0,X),(1,W),(2,O),(7,r),(11,s),(12,q)] H
def CH:Z3:=
 Z0 (K8 1 1 a (.int .u8 0) (Q J 256) (Q J 256) H) λh=>
 Z0 (Zf (.slice 5) h.1) λj=>
 Jg x p1 p2 h.1 j (Q J 0) H h.2
theorem jI:Sn r Y H =
 Z0 (XM r H) λh=>
 b (h,H):=Z9 au
theorem jK:DH X W O r s q Y H =
 Z0 (Z2 .add q (Q J 1)) λt37=>
 Jg X W O r s t37 Y H:=Z9 au
theorem jJ:So X W O r s q x13 Y H =
 Z0 (ZS .u8 q) λw=>
 Z0 (Zr 1 r q) λy=>
 Z0 (Zg 1 y w H) λu=>
 Z0 (ZS .u8 q) λz=>
 Z0 (Z2 .geq z X) λh=>
 Z0 (Z8 h c bf (b q)) λA=>
 Z0 (Z8 h c bf (ZS .u8 A)) λB=>
 Z0 (Z8 h c bf (b W)) λC=>
 Z0 (Z8 h c bf (Z2 .leq B C)) λD=>
 Z0 (Zm h D (.bool a)) λE=>
 Zh E
 (Z0 (Z2 .add q O) λF=>
 Z0 (ZS .u8 F) λG=>
 Z0 (Zr 1 r q) λL=>
 Z0 (Zg 1 L G u.2) λj=>
 DH X W O r s q Y j.2)
 (DH X W O r s q Y u.2):=Z9 au
theorem jL:Jg X W O r s q Y H =
 Z0 (Z2 .lss q s) λh=>
 Zh h
 (So X W O r s q h Y H)
 (Sn r Y H):=(ZC (C:=cfg) [4,8,9] (Zo 0 (aY Y)) _ _).trans dz
theorem nX:V7 [x,p1,p2] H=CH x p1 p2 H:=Be 40 [4,8,9] func189
def N5:Z3:=ah 191 23 f191 15 Y [(3,V)] H
def UL:KL:=Zc (YT 191 23 f191 15) (Zd cfg 23 191 f191 Y)
theorem HR:ZV 23 (UL Y):=Zv (C:=cfg) (kp:=cfg.keep 191) (ai f191 15) (Zy 191 f191 Y)
def Gd:Z3:=Zx 191 23 (ai f191 935) (Zc (Y4 191 23 f191 116) (Z7 0 (UL Y))) [(0,X),(3,V),(5,U)] H
def N6:Z3:=Zx 191 23 (ai f191 467) (Zc (Y4 191 23 f191 116) (Z7 0 (UL Y))) [(0,X),(3,V),(5,U),(6,v)] H
def UM:Z3:=Xj 191 23 (ai f191 116) (Z7 0 (UL Y)) [(0,X),(3,V),(5,U)] H
def Za8:Z3:=
 UM x (Q J 0) (Q J 0) H H
theorem aQ:N5 V Y H =
 b (V,H):=Z9 au
theorem F7:Gd X V U Y H =
 Z0 (Z2 .add U (Q J 1)) λh=>
 UM X V h Y H:=Z9 au
theorem aR:N6 X V U v Y H =
 Z0 (Z2 .mul V (Q J 10)) λt9=>
 Z0 (Zf .string X) λh=>
 Z0 (Z2 .lss U h) λj=>
 Zh j
 (Z0 (Zp X U) λu=>
 Z0 (Z2 .sub u (.int .u8 48)) λw=>
 Z0 (ZS .i64 w) λy=>
 Z0 (Z2 .add t9 y) λz=>
 Gd X z U Y H)
 (Gd X t9 U Y H):=Z9 au
theorem F8:UM X V U Y H =
 Z0 (Z2 .lss U (Q J 4)) λh=>
 Zh h
 (N6 X V U h Y H)
 (N5 V Y H):=(ZC (C:=cfg) [4,8,9] (Zo 0 (HR Y)) _ _).trans dz
theorem bT:GN [x] H=Za8 x H:=Be 23 [4,8,9] func191
def ZaE:Z3:=ah 196 43 f196 127 Y [(1,W)] H
def ZaD:Z3:=ah 196 43 f196 63 Y [(1,W)] H
def ZaC:Z3:=ah 196 43 f196 31 Y [(1,W)] H
def Tw:KL:=Zc (YT 196 43 f196 31) (Zd cfg 43 196 f196 Y)
theorem Zd4:ZV 43 (Tw Y):=Zv (C:=cfg) (kp:=cfg.keep 196) (ai f196 31) (Zy 196 f196 Y)
def ZaG:Z3:=Zx 196 43 (ai f196 979) (Zc (Y4 196 43 f196 244) (Z7 0 (Tw Y))) [(1,W),(3,V)] H
def ZaF:Z3:=Zx 196 43 (ai f196 489) (Zc (Y4 196 43 f196 244) (Z7 0 (Tw Y))) [(1,W),(3,V)] H
def Tx:Z3:=Xj 196 43 (ai f196 244) (Z7 0 (Tw Y)) [(1,W),(3,V)] H
def ZaB:Z3:=ah 196 43 f196 15 Y [(1,W)] H
def ZaA:Z3:=ah 196 43 f196 7 Y [(1,W)] H
def ZdE:Z3:=
 Z0 (ZY x H) λh=>
 Z0 (Z6 0 h.1) λt5=>
 Z0 (Z4 a 1 t5 h.2) λu=>
 Z0 (Ze Jm [u] h.2) λj=>
 Z0 (YU .not j.1) λw=>
 Zh w
 (b ((Q J 4),j.2))
 (ZaA h.1 H j.2)
theorem ZgS:ZaE W Y H =
 Z0 (Z6 5 W) λj=>
 Z0 (Z4 a 1 j H) λu=>
 Z0 (Ze UG [u] H) λh=>
 b (h.1,h.2):=Z9 ba
theorem ZgR:ZaD W Y H =
 Z0 (Z6 4 W) λj=>
 Z0 (Z4 a 1 j H) λu=>
 Z0 (Ze Q7 [u] H) λh=>
 Z0 (Z2 .neq h.1 (Q J 0)) λw=>
 Zh w
 (b (h.1,h.2))
 (ZaE W Y h.2):=Z9 ba
theorem ZgQ:ZaC W Y H =
 Z0 (Z6 2 W) λj=>
 Z0 (Z4 a 1 j H) λu=>
 Z0 (Zf .string u) λw=>
 Z0 (Z2 .neq w (Q J 256)) λh=>
 Z0 (Z8 h a bf (Z6 3 W)) λy=>
 Z0 (Z8 h a bf (Z4 a 1 y H)) λz=>
 Z0 (Z8 h a bf (Zf .string z)) λA=>
 Z0 (Z8 h a bf (Z2 .neq A (Q J 256))) λB=>
 Z0 (Zm h (.bool c) B) λC=>
 Zh C
 (b ((Q J 2),H))
 (ZaD W Y H):=Z9 ba
theorem ZgU:ZaG W V Y H =
 Z0 (Z2 .add V (Q J 1)) λh=>
 Tx W h Y H:=Z9 ba
theorem ZgT:ZaF W V Y H =
 Z0 (Z6 1 W) λj=>
 Z0 (Z4 a 1 j H) λu=>
 Z0 (Zr 1 u V) λw=>
 Z0 (Z4 a 1 w H) λy=>
 Z0 (Ze DR [y] H) λh=>
 Z0 (YU .not h.1) λz=>
 Zh z
 (b ((Q J 2),h.2))
 (ZaG W V Y h.2):=Z9 ba
theorem IE:Tx W V Y H =
 Z0 (Z2 .lss V (Q J 256)) λh=>
 Zh h
 (ZaF W V Y H)
 (ZaC W Y H):=(ZC (C:=cfg) [3,5,7,8,10,12,15] (Zo 0 (Zd4 Y)) _ _).trans dz
theorem ZgP:ZaB W Y H =
 Tx W (Q J 0) Y H:=Z9 ba
theorem ZgO:ZaA W Y H =
 Z0 (Z6 1 W) λt9=>
 Z0 (Z4 a 1 t9 H) λh=>
 Z0 (Zf (.slice 3) h) λj=>
 Z0 (Z2 .neq j (Q J 256)) λu=>
 Zh u
 (b ((Q J 2),H))
 (ZaB W Y H):=Z9 ba
theorem Zj3:M3 [x] H=ZdE x H:=Be 43 [3,5,7,8,10,12,15] func196
def ZdU:Z3:=ah 197 35 f197 7 Y [] H
def Mc:KL:=Zc (YT 197 35 f197 7) (Zd cfg 35 197 f197 Y)
theorem Zfl:ZV 35 (Mc Y):=Zv (C:=cfg) (kp:=cfg.keep 197) (ai f197 7) (Zy 197 f197 Y)
def ZdW:Z3:=Zx 197 35 (ai f197 211) (Zc (Y4 197 35 f197 52) (Z7 0 (Mc Y))) [(1,W),(2,O),(3,V),(7,r)] H
def ZdV:Z3:=Zx 197 35 (ai f197 105) (Zc (Y4 197 35 f197 52) (Z7 0 (Mc Y))) [(1,W),(2,O),(3,V),(7,r)] H
def Md:Z3:=Xj 197 35 (ai f197 52) (Z7 0 (Mc Y)) [(1,W),(2,O),(3,V),(7,r)] H
def Zgp:Z3:=
 Z0 (ZY x H) λh=>
 Md p1 p2 h.1 (Q J 0) H h.2
theorem Zjm:ZdU Y H =
 b ((Q J (-1)),H):=Z9 [3,4,6]
theorem ND:ZdW W O V r Y H =
 Z0 (Z2 .add r (Q J 1)) λh=>
 Md W O V h Y H:=Z9 [3,4,6]
theorem Zjn:ZdV W O V r Y H =
 Z0 (Z2 .add O (Q J 2)) λj=>
 Z0 (Zf .string W) λu=>
 Z0 (Z2 .leq j u) λh=>
 Z0 (Z8 h c bf (b W)) λw=>
 Z0 (Z8 h c bf (b O)) λy=>
 Z0 (Z8 h c bf (b O)) λz=>
 Z0 (Z8 h c bf (Z2 .add z (Q J 2))) λA=>
 Z0 (Z8 h c bf (ZR w (b y) (b A) e)) λB=>
 Z0 (Z8 h c bf (Z6 5 V)) λC=>
 Z0 (Z8 h c bf (Z4 a 1 C H)) λD=>
 Z0 (Z8 h c bf (b r)) λE=>
 Z0 (Z8 h c bf (Zr 2 D E)) λF=>
 Z0 (Z8 h c bf (Z6 0 F)) λG=>
 Z0 (Z8 h c bf (Z4 a 1 G H)) λL=>
 Z0 (Z8 h c bf (Y1 .eql B L)) λM=>
 Z0 (Zm h M (.bool a)) λN=>
 Zh N
 (b (r,H))
 (ZdW W O V r Y H):=Z9 [3,4,6]
theorem cN:Md W O V r Y H =
 Z0 (Z6 5 V) λt9=>
 Z0 (Z4 a 1 t9 H) λh=>
 Z0 (Zf (.slice 190) h) λj=>
 Z0 (Z2 .lss r j) λu=>
 Zh u
 (ZdV W O V r Y H)
 (ZdU Y H):=(ZC (C:=cfg) [3,4,6] (Zo 0 (Zfl Y)) _ _).trans dz
theorem Zla:Su [x,p1,p2] H=Zgp x p1 p2 H:=Be 35 [3,4,6] func197
def LE:Z3:=ah 198 112 f198 16383 Y [(7,r),(10,t)] H
def FF:Z3:=ah 198 112 f198 8191 Y [(5,U),(7,r),(10,t)] H
def FE:Z3:=ah 198 112 f198 2047 Y [(0,X),(4,I),(5,U),(6,v),(7,r),(8,x8)] H
def LD:Z3:=ah 198 112 f198 1023 Y [(0,X),(4,I),(5,U),(6,v),(7,r),(8,x8)] H
def KR:Z3:=ah 198 112 f198 511 Y [(0,X),(4,I),(5,U),(6,v),(7,r),(8,x8)] H
def FC:Z3:=ah 198 112 f198 63 Y [(0,X),(4,I),(5,U)] H
def LC:Z3:=ah 198 112 f198 15 Y [(0,X),(4,I)] H
def LF:KL:=Zc (YT 198 112 f198 15) (Zd cfg 112 198 f198 Y)
theorem Zaq:ZV 112 (LF Y):=Zv (C:=cfg) (kp:=cfg.keep 198) (ai f198 15) (Zy 198 f198 Y)
def lO:Z3:=Zx 198 112 (ai f198 113) (Zc (Y4 198 112 f198 56) (Z7 0 (LF Y))) [(0,X),(4,I)] H
def FG:Z3:=Xj 198 112 (ai f198 56) (Z7 0 (LF Y)) [(0,X),(4,I)] H
def Zm5:Z3:=
 FG x (Q J 0) H H
theorem CQ:LE r t Y H =
 b ((.tuple [t,r]),H):=Z9 bb
theorem Zfa:FF U r t Y H =
 Zh U
 (Z0 (YU .neg t) λh=>
 LE r h Y H)
 (LE r t Y H):=Z9 bb
theorem Zf9:FE X I U v r x8 Y H =
 Z0 (ZR X (b I) (b v) e) λj=>
 Z0 (Ze Ci [j,x8] H) λh=>
 Z0 (ZK h.1 0) λu=>
 Z0 (ZK h.1 1) λw=>
 Z0 (YU .not w) λy=>
 Zh y
 (FF U r (Q J 10000000000000) Y h.2)
 (FF U r u Y h.2):=Z9 bb
theorem Zf8:LD X I U v r x8 Y H =
 Z0 (Zf .string x8) λh=>
 Z0 (Z2 .gtr h (Q J 4)) λj=>
 Zh j
 (Z0 (ZR x8 e (b (Q J 4)) e) λu=>
 FE X I U v r u Y H)
 (FE X I U v r x8 Y H):=Z9 bb
theorem Zf7:KR X I U v r x8 Y H =
 Z0 (Z2 .eql r I) λh=>
 Zh h
 (b ((.tuple [(Q J 0),(Q J 0)]),H))
 (LD X I U v r x8 Y H):=Z9 bb
theorem Zf6:FC X I U Y H =
 Z0 (Ze T9 [X,I] H) λh=>
 Z0 (Zf .string X) λy=>
 Z0 (Z2 .lss h.1 y) λu=>
 Z0 (Z8 u c bf (b X)) λz=>
 Z0 (Z8 u c bf (b h.1)) λA=>
 Z0 (Z8 u c bf (Zp z A)) λB=>
 Z0 (Z8 u c bf (Z2 .eql B (.int .u8 46))) λC=>
 Z0 (Zm u C (.bool a)) λD=>
 Zh D
 (Z0 (Z2 .add h.1 (Q J 1)) λE=>
 Z0 (Ze T9 [X,E] h.2) λj=>
 Z0 (Z2 .gtr h.1 I) λw=>
 Z0 (Z8 w a bf (b j.1)) λF=>
 Z0 (Z8 w a bf (b h.1)) λG=>
 Z0 (Z8 w a bf (Z2 .add G (Q J 1))) λL=>
 Z0 (Z8 w a bf (Z2 .gtr F L)) λM=>
 Z0 (Zm w (.bool c) M) λN=>
 Zh N
 (Z0 (Z2 .add h.1 (Q J 1)) λP=>
 Z0 (ZR X (b P) (b j.1) e) λR=>
 KR X I U h.1 j.1 R Y j.2)
 (KR X I U h.1 h.1 (.str []) Y j.2))
 (KR X I U h.1 h.1 (.str []) Y h.2):=Z9 bb
theorem Zf5:LC X I Y H =
 Z0 (Zf .string X) λw=>
 Z0 (Z2 .lss I w) λj=>
 Z0 (Z8 j c bf (b X)) λy=>
 Z0 (Z8 j c bf (b I)) λz=>
 Z0 (Z8 j c bf (Zp y z)) λt37=>
 Z0 (Z8 j c bf (Z2 .eql t37 (.int .u8 45))) λA=>
 Z0 (Zm j A (.bool a)) λh=>
 Z0 (Z8 h a bf (b I)) λB=>
 Z0 (Z8 h a bf (b X)) λC=>
 Z0 (Z8 h a bf (Zf .string C)) λD=>
 Z0 (Z8 h a bf (Z2 .lss B D)) λE=>
 Z0 (Z8 h a bf (b E)) λu=>
 Z0 (Z8 u c bf (b X)) λF=>
 Z0 (Z8 u c bf (b I)) λG=>
 Z0 (Z8 u c bf (Zp F G)) λL=>
 Z0 (Z8 u c bf (Z2 .eql L (.int .u8 43))) λM=>
 Z0 (Z8 h a bf (Zm u M (.bool a))) λN=>
 Z0 (Zm h (.bool c) N) λP=>
 Zh P
 (Z0 (Z2 .add I (Q J 1)) λR=>
 FC X R h Y H)
 (FC X I h Y H):=Z9 bb
theorem CR:lO X I Y H =
 Z0 (Z2 .add I (Q J 1)) λh=>
 FG X h Y H:=Z9 bb
theorem CS:FG X I Y H =
 Z0 (Zf .string X) λu=>
 Z0 (Z2 .lss I u) λh=>
 Z0 (Z8 h c bf (b X)) λw=>
 Z0 (Z8 h c bf (b I)) λy=>
 Z0 (Z8 h c bf (Zp w y)) λz=>
 Z0 (Z8 h c bf (Z2 .eql z (.int .u8 32))) λA=>
 Z0 (Z8 h c bf (b A)) λj=>
 Z0 (Z8 j a bf (b X)) λB=>
 Z0 (Z8 j a bf (b I)) λD=>
 Z0 (Z8 j a bf (Zp B D)) λE=>
 Z0 (Z8 j a bf (Z2 .eql E (.int .u8 9))) λF=>
 Z0 (Z8 h c bf (Zm j (.bool c) F)) λG=>
 Z0 (Zm h G (.bool a)) λL=>
 Zh L
 (lO X I Y H)
 (LC X I Y H):=(ZC (C:=cfg) [3,4,7,14,16,18,21,23] (Zo 0 (Zaq Y)) _ _).trans dz
theorem Zgm:T8 [x] H=Zm5 x H:=Be 112 [3,4,7,14,16,18,21,23] func198
def Zec:Z3:=ah 200 47 f200 15 Y [(3,V)] H
def Mk:KL:=Zc (YT 200 47 f200 15) (Zd cfg 47 200 f200 Y)
theorem ZfC:ZV 47 (Mk Y):=Zv (C:=cfg) (kp:=cfg.keep 200) (ai f200 15) (Zy 200 f200 Y)
def F2:Z3:=Zx 200 47 (ai f200 467) (Zc (Y4 200 47 f200 116) (Z7 0 (Mk Y))) [(0,X),(3,V),(4,I)] H
def aI:Z3:=Zx 200 47 (ai f200 233) (Zc (Y4 200 47 f200 116) (Z7 0 (Mk Y))) [(0,X),(3,V),(4,I)] H
def Ml:Z3:=Xj 200 47 (ai f200 116) (Z7 0 (Mk Y)) [(0,X),(3,V),(4,I)] H
def ZpV:Z3:=
 Ml x .nils (Q J 0) H H
theorem Zju:Zec V Y H =
 Z0 (XM V H) λh=>
 b (h,H):=Z9 [4,5,8]
theorem dO:F2 X V I Y H =
 Z0 (Z2 .add I (Q J 1)) λh=>
 Ml X V h Y H:=Z9 [4,5,8]
theorem Zjv:aI X V I Y H =
 Z0 (Zp X I) λh=>
 Z0 (QF [h] H) λj=>
 Z0 (Z8 j.1 a bf (b h)) λC=>
 Z0 (Z8 j.1 a bf (Z2 .geq C (.int .u8 48))) λD=>
 Z0 (Z8 j.1 a bf (b D)) λy=>
 Z0 (Z8 y c bf (b h)) λE=>
 Z0 (Z8 y c bf (Z2 .leq E (.int .u8 57))) λF=>
 Z0 (Z8 j.1 a bf (Zm y F (.bool a))) λG=>
 Z0 (Zm j.1 (.bool c) G) λu=>
 Z0 (Z8 u a bf (b h)) λL=>
 Z0 (Z8 u a bf (Z2 .geq L (.int .u8 97))) λM=>
 Z0 (Z8 u a bf (b M)) λz=>
 Z0 (Z8 z c bf (b h)) λN=>
 Z0 (Z8 z c bf (Z2 .leq N (.int .u8 122))) λP=>
 Z0 (Z8 u a bf (Zm z P (.bool a))) λR=>
 Z0 (Zm u (.bool c) R) λw=>
 Z0 (Z8 w a bf (b h)) λS=>
 Z0 (Z8 w a bf (Z2 .geq S (.int .u8 65))) λT=>
 Z0 (Z8 w a bf (b T)) λA=>
 Z0 (Z8 A c bf (b h)) λt37=>
 Z0 (Z8 A c bf (Z2 .leq t37 (.int .u8 90))) λZ=>
 Z0 (Z8 w a bf (Zm A Z (.bool a))) λaa=>
 Z0 (Zm w (.bool c) aa) λab=>
 Zh ab
 (Z0 ((ZB 1 [(0,h)] [(.int .u8 0)]).map (.vs 1 .clip)) λac=>
 Z0 (Ya 1 1 V ac j.2) λB=>
 F2 X B.1 I Y B.2)
 (F2 X V I Y j.2):=Z9 [4,5,8]
theorem dP:Ml X V I Y H =
 Z0 (Zf .string X) λh=>
 Z0 (Z2 .lss I h) λt9=>
 Zh t9
 (aI X V I Y H)
 (Zec V Y H):=(ZC (C:=cfg) [4,5,8] (Zo 0 (ZfC Y)) _ _).trans dz
theorem Zlc:fE [x] H=ZpV x H:=Be 47 [4,5,8] func200
def ZdF:Z3:=
 Z0 (ZY x H) λh=>
 Z0 (Z4 c 6 h.1 h.2) λt5=>
 Z0 (Ze G1 [t5] h.2) λj=>
 Z0 (Cb a 1 3 j.1) λw=>
 Z0 (Ze Cj [w,p1] j.2) λu=>
 b (u.1,u.2)
theorem Zj4:OF [x,p1] H=ZdF x p1 H:=Be 10 [] func201
def ZdG:Z3:=
 Z0 (Z2 .geq x (Q J 0)) λt4=>
 Z0 (Z8 t4 c bf (b x)) λh=>
 Z0 (Z8 t4 c bf (Z2 .leq h (Q J 65535))) λj=>
 Z0 (Zm t4 j (.bool a)) λu=>
 b (u,H)
theorem Zj5:DR [x] H=ZdG x H:=Be 9 [] func210
def PJ:Z3:=ah 211 37 f211 15 Y [] H
def WZ:KL:=Zc (YT 211 37 f211 15) (Zd cfg 37 211 f211 Y)
theorem B5:ZV 37 (WZ Y):=Zv (C:=cfg) (kp:=cfg.keep 211) (ai f211 15) (Zy 211 f211 Y)
def G9:Z3:=Zx 211 37 (ai f211 467) (Zc (Y4 211 37 f211 116) (Z7 0 (WZ Y))) [(0,X),(3,V)] H
def V0:KL:=Zc (YT 211 37 f211 467) (Zc (Y4 211 37 f211 116) (Z7 0 (WZ Y)))
theorem CZ:ZV 37 (V0 Y):=Zv (C:=cfg) (kp:=cfg.keep 211) (ai f211 467) (Ov (C:=cfg) (kp:=cfg.keep 211) (ai f211 116) (Zo 0 (B5 Y)))
def PN:Z3:=Zx 211 37 (ai f211 59699) (Zc (Y4 211 37 f211 14924) (Z7 2 (Z7 1 (V0 Y)))) [(0,X),(3,V),(4,I)] H
def PM:Z3:=Zx 211 37 (ai f211 29849) (Zc (Y4 211 37 f211 14924) (Z7 2 (Z7 1 (V0 Y)))) [(0,X),(3,V),(4,I)] H
def UK:Z3:=Xj 211 37 (ai f211 14924) (Z7 2 (Z7 1 (V0 Y))) [(0,X),(3,V),(4,I)] H
def PL:Z3:=Zx 211 37 (ai f211 1865) (Z7 1 (V0 Y)) [(0,X),(3,V)] H
def PK:Z3:=Zx 211 37 (ai f211 233) (Zc (Y4 211 37 f211 116) (Z7 0 (WZ Y))) [(0,X),(3,V)] H
def UJ:Z3:=Xj 211 37 (ai f211 116) (Z7 0 (WZ Y)) [(0,X),(3,V)] H
def PI:Z3:=ah 211 37 f211 7 Y [(0,X)] H
def MD:Z3:=
 Z0 (Zf (.slice 241) x) λh=>
 Z0 (Z2 .gtr h (Q J 24)) λj=>
 Zh j
 (b ((Q J 3),H))
 (PI x H H)
theorem OS:PJ Y H =
 b ((Q J 0),H):=Z9 bc
theorem OU:G9 X V Y H =
 Z0 (Z2 .add V (Q J 1)) λh=>
 UJ X h Y H:=Z9 bc
theorem OX:PN X V I Y H =
 Z0 (Z2 .add I (Q J 1)) λh=>
 UK X V h Y H:=Z9 bc
theorem OW:PM X V I Y H =
 Z0 (Zr 5 X I) λh=>
 Z0 (Z6 0 h) λj=>
 Z0 (Z4 a 1 j H) λu=>
 Z0 (Zr 5 X V) λw=>
 Z0 (Z6 0 w) λy=>
 Z0 (Z4 a 1 y H) λz=>
 Z0 (Y1 .eql u z) λA=>
 Zh A
 (b ((Q J 6),H))
 (PN X V I Y H):=Z9 bc
theorem DY:UK X V I Y H =
 Z0 (Z2 .lss I V) λh=>
 Zh h
 (PM X V I Y H)
 (G9 X V Y H):=(ZC (C:=cfg) [3,5,6,8,10,11,13] (Zo 2 (Zo 1 (CZ Y))) _ _).trans dz
theorem OV:PL X V Y H =
 UK X V (Q J 0) Y H:=Z9 bc
theorem OT:PK X V Y H =
 Z0 (Zr 5 X V) λj=>
 Z0 (Z6 0 j) λu=>
 Z0 (Z4 a 1 u H) λw=>
 Z0 (Ze Jm [w] H) λh=>
 Z0 (YU .not h.1) λy=>
 Zh y
 (b ((Q J 4),h.2))
 (PL X V Y h.2):=Z9 bc
theorem DX:UJ X V Y H =
 Z0 (Zf (.slice 241) X) λh=>
 Z0 (Z2 .lss V h) λj=>
 Zh j
 (PK X V Y H)
 (PJ Y H):=(ZC (C:=cfg) [3,5,6,8,10,11,13] (Zo 0 (B5 Y)) _ _).trans dz
theorem OR:PI X Y H =
 UJ X (Q J 0) Y H:=Z9 bc
theorem bM:Q7 [x] H=MD x H:=Be 37 [3,5,6,8,10,11,13] func211
def Tz:Z3:=ah 212 46 f212 15 Y [] H
def WA:KL:=Zc (YT 212 46 f212 15) (Zd cfg 46 212 f212 Y)
theorem Gs:ZV 46 (WA Y):=Zv (C:=cfg) (kp:=cfg.keep 212) (ai f212 15) (Zy 212 f212 Y)
def JY:Z3:=Zx 212 46 (ai f212 467) (Zc (Y4 212 46 f212 116) (Z7 0 (WA Y))) [(0,X),(3,V)] H
def WB:KL:=Zc (YT 212 46 f212 467) (Zc (Y4 212 46 f212 116) (Z7 0 (WA Y)))
theorem SC:ZV 46 (WB Y):=Zv (C:=cfg) (kp:=cfg.keep 212) (ai f212 467) (Ov (C:=cfg) (kp:=cfg.keep 212) (ai f212 116) (Zo 0 (Gs Y)))
def TD:Z3:=Zx 212 46 (ai f212 59699) (Zc (Y4 212 46 f212 14924) (Z7 2 (Z7 1 (WB Y)))) [(0,X),(3,V),(4,I)] H
def TC:Z3:=Zx 212 46 (ai f212 29849) (Zc (Y4 212 46 f212 14924) (Z7 2 (Z7 1 (WB Y)))) [(0,X),(3,V),(4,I)] H
def VT:Z3:=Xj 212 46 (ai f212 14924) (Z7 2 (Z7 1 (WB Y))) [(0,X),(3,V),(4,I)] H
def TB:Z3:=Zx 212 46 (ai f212 1865) (Z7 1 (WB Y)) [(0,X),(3,V)] H
def TA:Z3:=Zx 212 46 (ai f212 233) (Zc (Y4 212 46 f212 116) (Z7 0 (WA Y))) [(0,X),(3,V)] H
def VS:Z3:=Xj 212 46 (ai f212 116) (Z7 0 (WA Y)) [(0,X),(3,V)] H
def Ty:Z3:=ah 212 46 f212 7 Y [(0,X)] H
def PB:Z3:=
 Z0 (Zf (.slice 190) x) λh=>
 Z0 (Z2 .gtr h (Q J 64)) λj=>
 Zh j
 (b ((Q J 3),H))
 (Ty x H H)
theorem I4:Tz Y H =
 b ((Q J 0),H):=Z9 bc
theorem I6:JY X V Y H =
 Z0 (Z2 .add V (Q J 1)) λh=>
 VS X h Y H:=Z9 bc
theorem I9:TD X V I Y H =
 Z0 (Z2 .add I (Q J 1)) λh=>
 VT X V h Y H:=Z9 bc
theorem I8:TC X V I Y H =
 Z0 (Zr 2 X I) λt37=>
 Z0 (Z6 0 t37) λh=>
 Z0 (Z4 a 1 h H) λj=>
 Z0 (Zr 2 X V) λu=>
 Z0 (Z6 0 u) λw=>
 Z0 (Z4 a 1 w H) λy=>
 Z0 (Y1 .eql j y) λz=>
 Zh z
 (b ((Q J 6),H))
 (TD X V I Y H):=Z9 bc
theorem D8:VT X V I Y H =
 Z0 (Z2 .lss I V) λh=>
 Zh h
 (TC X V I Y H)
 (JY X V Y H):=(ZC (C:=cfg) [3,5,6,8,10,11,13] (Zo 2 (Zo 1 (SC Y))) _ _).trans dz
theorem I7:TB X V Y H =
 VT X V (Q J 0) Y H:=Z9 bc
theorem I5:TA X V Y H =
 Z0 (Zr 2 X V) λu=>
 Z0 (Z6 0 u) λw=>
 Z0 (Z4 a 1 w H) λy=>
 Z0 (Zf .string y) λz=>
 Z0 (Z2 .neq z (Q J 2)) λh=>
 Z0 (Z8 h a bf (b X)) λA=>
 Z0 (Z8 h a bf (b V)) λB=>
 Z0 (Z8 h a bf (Zr 2 A B)) λC=>
 Z0 (Z8 h a bf (Z6 1 C)) λD=>
 Z0 (Z8 h a bf (Z4 a 1 D H)) λE=>
 Z0 (Z8 h a (bf,H) (Ze DR [E] H)) λj=>
 Z0 (Z8 h a bf (YU .not j.1)) λF=>
 Z0 (Zm h (.bool c) F) λG=>
 Zh G
 (b ((Q J 2),j.2))
 (TB X V Y j.2):=Z9 bc
theorem D7:VS X V Y H =
 Z0 (Zf (.slice 190) X) λh=>
 Z0 (Z2 .lss V h) λj=>
 Zh j
 (TA X V Y H)
 (Tz Y H):=(ZC (C:=cfg) [3,5,6,8,10,11,13] (Zo 0 (Gs Y)) _ _).trans dz
theorem I3:Ty X Y H =
 VS X (Q J 0) Y H:=Z9 bc
theorem OI:UG [x] H=PB x H:=Be 46 [3,5,6,8,10,11,13] func212
def lP:Z3:=ah 213 24 f213 7 Y [(1,W)] H
def LG:KL:=Zc (YT 213 24 f213 7) (Zd cfg 24 213 f213 Y)
theorem Zar:ZV 24 (LG Y):=Zv (C:=cfg) (kp:=cfg.keep 213) (ai f213 7) (Zy 213 f213 Y)
def lQ:Z3:=Zx 213 24 (ai f213 49) (Zc (Y4 213 24 f213 24) (Z7 0 (LG Y))) [(0,X),(1,W)] H
def FH:Z3:=Xj 213 24 (ai f213 24) (Z7 0 (LG Y)) [(0,X),(1,W)] H
def Zm6:Z3:=
 FH x p1 H H
theorem Rg:lP W Y H =
 b (W,H):=Z9 [2,3]
theorem Zfb:lQ X W Y H =
 Z0 (Z2 .add W (Q J 1)) λh=>
 FH X h Y H:=Z9 [2,3]
theorem CT:FH X W Y H =
 Z0 (Zf .string X) λG=>
 Z0 (Z2 .lss W G) λj=>
 Z0 (Z8 j c bf (b X)) λu=>
 Z0 (Z8 j c bf (b W)) λw=>
 Z0 (Z8 j c bf (Zp u w)) λy=>
 Z0 (Z8 j c bf (Z2 .geq y (.int .u8 48))) λz=>
 Z0 (Zm j z (.bool a)) λh=>
 Z0 (Z8 h c bf (b X)) λA=>
 Z0 (Z8 h c bf (b W)) λB=>
 Z0 (Z8 h c bf (Zp A B)) λD=>
 Z0 (Z8 h c bf (Z2 .leq D (.int .u8 57))) λE=>
 Z0 (Zm h E (.bool a)) λF=>
 Zh F
 (lQ X W Y H)
 (lP W Y H):=(ZC (C:=cfg) [2,3] (Zo 0 (Zar Y)) _ _).trans dz
theorem Zgn:T9 [x,p1] H=Zm6 x p1 H:=Be 24 [2,3] func213
def lS:Z3:=ah 214 45 f214 31 Y [(6,v)] H
def FI:KL:=Zc (YT 214 45 f214 31) (Zd cfg 45 214 f214 Y)
theorem Zas:ZV 45 (FI Y):=Zv (C:=cfg) (kp:=cfg.keep 214) (ai f214 31) (Zy 214 f214 Y)
def LH:Z3:=Zx 214 45 (ai f214 979) (Zc (Y4 214 45 f214 244) (Z7 2 (FI Y))) [(1,W),(6,v),(8,x8)] H
def lT:Z3:=Zx 214 45 (ai f214 489) (Zc (Y4 214 45 f214 244) (Z7 2 (FI Y))) [(1,W),(6,v),(8,x8)] H
def FK:Z3:=Xj 214 45 (ai f214 244) (Z7 2 (FI Y)) [(1,W),(6,v),(8,x8)] H
def lR:Z3:=ah 214 45 f214 15 Y [(1,W),(6,v)] H
def FJ:KL:=Zc (YT 214 45 f214 15) (Zd cfg 45 214 f214 Y)
theorem Zat:ZV 45 (FJ Y):=Zv (C:=cfg) (kp:=cfg.keep 214) (ai f214 15) (Zy 214 f214 Y)
def lV:Z3:=Zx 214 45 (ai f214 467) (Zc (Y4 214 45 f214 116) (Z7 0 (FJ Y))) [(0,X),(1,W),(6,v),(7,r)] H
def lU:Z3:=Zx 214 45 (ai f214 233) (Zc (Y4 214 45 f214 116) (Z7 0 (FJ Y))) [(0,X),(1,W),(6,v),(7,r)] H
def FL:Z3:=Xj 214 45 (ai f214 116) (Z7 0 (FJ Y)) [(0,X),(1,W),(6,v),(7,r)] H
def Zm7:Z3:=
 FL x p1 (Q J 0) (Q J 0) H H
theorem Zfd:lS v Y H =
 Z0 (Z2 .leq v (Q J 10000000000000)) λh=>
 b ((.tuple [v,h]),H):=Z9 bd
theorem CU:LH W v x8 Y H =
 Z0 (Z2 .add x8 (Q J 1)) λh=>
 FK W v h Y H:=Z9 bd
theorem Zfe:lT W v x8 Y H =
 Z0 (Z2 .mul v (Q J 10)) λh=>
 Z0 (Zf .string W) λj=>
 Z0 (Z2 .lss x8 j) λu=>
 Zh u
 (Z0 (Zp W x8) λw=>
 Z0 (Z2 .sub w (.int .u8 48)) λy=>
 Z0 (ZS .i64 y) λz=>
 Z0 (Z2 .add h z) λA=>
 LH W A x8 Y H)
 (LH W h x8 Y H):=Z9 bd
theorem CV:FK W v x8 Y H =
 Z0 (Z2 .lss x8 (Q J 4)) λh=>
 Zh h
 (lT W v x8 Y H)
 (lS v Y H):=(ZC (C:=cfg) [4,5,8,10,11,14] (Zo 2 (Zas Y)) _ _).trans dz
theorem Zfc:lR W v Y H =
 FK W v (Q J 0) Y H:=Z9 bd
theorem Zfg:lV X W v r Y H =
 Z0 (Z2 .add r (Q J 1)) λh=>
 FL X W v h Y H:=Z9 bd
theorem Zff:lU X W v r Y H =
 Z0 (Z2 .mul v (Q J 10)) λj=>
 Z0 (Zp X r) λu=>
 Z0 (Z2 .sub u (.int .u8 48)) λw=>
 Z0 (ZS .i64 w) λy=>
 Z0 (Z2 .add j y) λh=>
 Z0 (Z2 .gtr h (Q J 1000000000)) λz=>
 Zh z
 (b ((.tuple [(Q J 0),(.bool a)]),H))
 (lV X W h r Y H):=Z9 bd
theorem CW:FL X W v r Y H =
 Z0 (Zf .string X) λh=>
 Z0 (Z2 .lss r h) λj=>
 Zh j
 (lU X W v r Y H)
 (lR W v Y H):=(ZC (C:=cfg) [4,5,8,10,11,14] (Zo 0 (Zat Y)) _ _).trans dz
theorem Ik:Ci [x,p1] H=Zm7 x p1 H:=Be 45 [4,5,8,10,11,14] func214
def lY:Z3:=ah 215 23 f215 15 Y [(5,U)] H
def FO:KL:=Zc (YT 215 23 f215 15) (Zd cfg 23 215 f215 Y)
theorem ZaJ:ZV 23 (FO Y):=Zv (C:=cfg) (kp:=cfg.keep 215) (ai f215 15) (Zy 215 f215 Y)
def mA:Z3:=Zx 215 23 (ai f215 467) (Zc (Y4 215 23 f215 116) (Z7 0 (FO Y))) [(0,X),(1,W),(5,U),(6,v)] H
def lZ:Z3:=Zx 215 23 (ai f215 233) (Zc (Y4 215 23 f215 116) (Z7 0 (FO Y))) [(0,X),(1,W),(5,U),(6,v)] H
def FP:Z3:=Xj 215 23 (ai f215 116) (Z7 0 (FO Y)) [(0,X),(1,W),(5,U),(6,v)] H
def Za1:Z3:=
 FP x p1 .nils (Q J 0) H H
theorem Zfm:lY U Y H =
 Z0 (XM U H) λh=>
 b (h,H):=Z9 [4,5,6]
theorem Zfo:mA X W U v Y H =
 Z0 (Z2 .add v (Q J 1)) λh=>
 FP X W U h Y H:=Z9 [4,5,6]
theorem Zfn:lZ X W U v Y H =
 Z0 (Zp W v) λj=>
 Z0 (Zp X j) λu=>
 Z0 ((ZB 1 [(0,u)] [(.int .u8 0)]).map (.vs 1 .clip)) λw=>
 Z0 (Ya 1 1 U w H) λh=>
 mA X W h.1 v Y h.2:=Z9 [4,5,6]
theorem H9:FP X W U v Y H =
 Z0 (Zf .string W) λt9=>
 Z0 (Z2 .lss v t9) λh=>
 Zh h
 (lZ X W U v Y H)
 (lY U Y H):=(ZC (C:=cfg) [4,5,6] (Zo 0 (ZaJ Y)) _ _).trans dz
theorem Zgq:Cj [x,p1] H=Za1 x p1 H:=Be 23 [4,5,6] func215
end
end Go.Am
