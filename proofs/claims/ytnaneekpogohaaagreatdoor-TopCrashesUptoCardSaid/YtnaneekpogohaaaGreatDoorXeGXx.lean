/- The functions of the translation over the abstract machine -/
import Derived.Test.YtnaneekpogohaaaGreatDoorXeGx
open Go.Am.AV renaming int->J
open Go.IntKind renaming i64->zA
namespace Go.Am
open Go.Proofs
set_option maxRecDepth 100000
noncomputable abbrev ZR (f n:Nat):=Yn cfg (Zb cfg) (Y5 cfg (cfg.keep f) n) (cfg.keep f) n Zc Z7
noncomputable abbrev Dx (f n:Nat):=Y5 cfg (cfg.keep f) n
noncomputable section
abbrev Dq (f n:Nat)(F:Func)(p:List Nat):KL->AL->Hp->Z4:=fun k g H=>ZR f n (sub (Z1 F) p) k (Y3 (cfg.keep f) (sub (Z1 F) p) g) H
abbrev Wd (f n:Nat)(F:Func)(p:List Nat):KL->AL->Hp->Z4:=fun k g H=>Dx f n (sub (Z1 F) p) k (Y3 (cfg.keep f) (sub (Z1 F) p) g) H
variable (p0 p1 p2 p3 p4 x0 x1 x3 x4 x5 x6 x7 x8 x9 x10 x11 x12 x13 x14 x15 x16 x17 x18 x19 x20 x21 x22 x23 x25 x26 x27 x28 x31 x32 x33 x34 x35 x48 x49 x50 x51:AV)(H0 H:Hp)
abbrev bh (F:Func):=sub (Z1 F)
abbrev bi:List Nat:=[4,7,13,14,17,20,24,900002]
abbrev bj:List Nat:=[3,6,10,11,12]
abbrev bk:List Nat:=[3,6,8,10,12,15,16]
abbrev bn:List Nat:=[4,8,10,11,14,15,16]
abbrev bo:List Nat:=[4,6,7,12,14]
abbrev bp:List Nat:=[3,6,10,14,15,16]
abbrev br:List Nat:=[3,6,9,11,12,16,17,20,23]
abbrev bt:List Nat:=[6,10,12,13,15,18]
def XN:Z4:=ZR 20 86 (sub (UX cfg 20 Tryz.f20) [1,1,1,1,1,1,1]) (Zf cfg 86 20 Tryz.f20 H0) [(10,x10),(11,x11),(12,x12),(35,x35)] H
def VO:KL:=Zc (fun k g H=>ZR 20 86 (sub (UX cfg 20 Tryz.f20) [1,1,1,1,1,1,1]) k (Y3 (cfg.keep 20) (sub (UX cfg 20 Tryz.f20) [1,1,1,1,1,1,1]) g) H) (Zf cfg 86 20 Tryz.f20 H0)
theorem Zaz:ZS 86 (VO H0):=Zw (C:=cfg) (kp:=cfg.keep 20) (sub (UX cfg 20 Tryz.f20) [1,1,1,1,1,1,1]) (Zy 20 Tryz.f20 H0)
def Ac:Z4:=ZR 20 86 (sub (UX cfg 20 Tryz.f20) [1,1,1,1,1,1,0,0,1,1,1,1,1,1,1]) (Z7 900001 (VO H0)) [(10,x10),(11,x11),(12,x12),(16,x16),(35,x35)] H
def Ab:Z4:=ZR 20 86 (sub (UX cfg 20 Tryz.f20) [1,1,1,1,1,1,0,0,1,1,1,1,1]) (Z7 900001 (VO H0)) [(10,x10),(11,x11),(12,x12),(14,x14),(15,x15),(16,x16),(35,x35)] H
def Qz:Z4:=ZR 20 86 (sub (UX cfg 20 Tryz.f20) [1,1,1,1,1,1,0,0,1,1,1]) (Z7 900001 (VO H0)) [(11,x11),(12,x12),(14,x14),(15,x15),(16,x16),(35,x35)] H
def TA:KL:=Zc (fun k g H=>ZR 20 86 (sub (UX cfg 20 Tryz.f20) [1,1,1,1,1,1,0,0,1,1,1]) k (Y3 (cfg.keep 20) (sub (UX cfg 20 Tryz.f20) [1,1,1,1,1,1,0,0,1,1,1]) g) H) (Z7 900001 (VO H0))
theorem ZaA:ZS 86 (TA H0):=Zw (C:=cfg) (kp:=cfg.keep 20) (sub (UX cfg 20 Tryz.f20) [1,1,1,1,1,1,0,0,1,1,1]) (Zn 900001 (Zaz H0))
def Ad:Z4:=ZR 20 86 (sub (UX cfg 20 Tryz.f20) [1,1,1,1,1,1,0,0,1,1,0,0,0,1]) (Zc (fun k g H=>Dx 20 86 (sub (UX cfg 20 Tryz.f20) [1,1,1,1,1,1,0,0,1,1,0,0,0]) k (Y3 (cfg.keep 20) (sub (UX cfg 20 Tryz.f20) [1,1,1,1,1,1,0,0,1,1,0,0,0]) g) H) (Z7 0 (TA H0))) [(8,x8),(11,x11),(12,x12),(14,x14),(15,x15),(16,x16),(35,x35)] H
def XO:Z4:=Dx 20 86 (sub (UX cfg 20 Tryz.f20) [1,1,1,1,1,1,0,0,1,1,0,0,0]) (Z7 0 (TA H0)) [(8,x8),(11,x11),(12,x12),(14,x14),(15,x15),(16,x16),(35,x35)] H
def A9:Z4:=ZR 20 86 (sub (UX cfg 20 Tryz.f20) [1,1,1,1,1,1,0,0,1,1]) (Z7 900001 (VO H0)) [(8,x8),(11,x11),(12,x12),(14,x14),(15,x15),(16,x16),(35,x35)] H
def A8:Z4:=ZR 20 86 (sub (UX cfg 20 Tryz.f20) [1,1,1,1]) (Zf cfg 86 20 Tryz.f20 H0) [(4,x4),(6,x6),(7,x7),(8,x8),(11,x11),(12,x12),(14,x14)] H
def Tz:Z4:=ZR 20 86 (sub (UX cfg 20 Tryz.f20) [1,1]) (Zf cfg 86 20 Tryz.f20 H0) [(0,x0),(4,x4),(6,x6),(7,x7),(8,x8),(11,x11),(12,x12)] H
def IK:Z4:=
 Z0 (ZQ p1 H) fun I=>
 Z0 (ZQ p2 I.2) fun z=>
 Z0 (ZQ p3 z.2) fun y=>
 Z0 (some ((.ptr y.2.length 0),y.2++[.cells [(J zA 0),(J zA 0),(J zA 0),(J zA 0)]])) fun h=>
 Z0 (some ((.ptr h.2.length 0),h.2++[.cells [(J zA 0)]])) fun g=>
 Z0 (Z3 true 5 z.1 g.2) fun A=>
 Z0 (Z3 true 2 y.1 g.2) fun B=>
 Z0 (RR [p0,A,B,p4] g.2) fun u=>
 Z0 (Z5 .neq u.1 (J zA 0)) fun C=>
 Zj C
 (Z0 (some (.agg [(J zA 0),(J zA 0),(J zA 0),(J zA 0)])) fun D=>
 Z0 (Za 4 h.1 D u.2) fun w=>
 Z0 (Za 1 g.1 u.1 w.2) fun j=>
 Z0 (Z3 true 4 h.1 j.2) fun E=>
 Z0 (Z3 false 1 g.1 j.2) fun F=>
 some ((.tuple [.nils,E,F]),j.2))
 (Tz p0 p4 I.1 z.1 y.1 h.1 g.1 H u.2)
theorem B4:XN x10 x11 x12 x35 H0 H =
 Z0 (Yf cfg (Zb cfg) x35 [] H) fun g=>
 Z0 (Z3 true 4 x11 g.2) fun h=>
 Z0 (Z3 false 1 x12 g.2) fun j=>
 some ((.tuple [x10,h,j]),g.2):=Z9 bi
theorem ZdT:Ac x10 x11 x12 x16 x35 H0 H =
 Z0 (Zu x16) fun j=>
 Z0 (Z6 13 j) fun u=>
 Z0 (Z3 true 4 u H) fun w=>
 Z0 (Za 4 x11 w H) fun g=>
 Z0 (Za 1 x12 (J zA 0) g.2) fun h=>
 XN x10 x11 x12 x35 H0 h.2:=Z9 bi
theorem M9:Ab x10 x11 x12 x14 x15 x16 x35 H0 H =
 Z0 (Za 1 x15 (.bool true) H) fun h=>
 Z0 (Z3 false 1 x14 h.2) fun y=>
 Z0 (Vk [y] h.2) fun j=>
 Z0 (Za 1 x12 j.1 j.2) fun g=>
 Z0 (Z3 false 1 x12 g.2) fun z=>
 Z0 (Z5 .neq z (J zA 0)) fun A=>
 Zj A
 (Z0 (Zbp x12 x11) fun _=>
 Z0 (some (.agg [(J zA 0),(J zA 0),(J zA 0),(J zA 0)])) fun B=>
 Z0 (Z3 false 1 x12 g.2) fun C=>
 Z0 (Za 4 x11 B g.2) fun u=>
 Z0 (Za 1 x12 C u.2) fun w=>
 XN .nils x11 x12 x35 H0 w.2)
 (Ac x10 x11 x12 x16 x35 H0 g.2):=Z9 bi
theorem B5:Qz x11 x12 x14 x15 x16 x35 H0 H =
 Z0 (XU [x16] H) fun h=>
 Z0 (ZL h.1 0) fun w=>
 Z0 (ZL h.1 1) fun t70=>
 Z0 (Za 1 x12 t70 h.2) fun g=>
 Z0 (Z3 false 1 x12 g.2) fun y=>
 Z0 (Z5 .neq y (J zA 0)) fun t72=>
 Zj t72
 (Z0 (Zbp x12 x11) fun _=>
 Z0 (some (.agg [(J zA 0),(J zA 0),(J zA 0),(J zA 0)])) fun z=>
 Z0 (Z3 false 1 x12 g.2) fun A=>
 Z0 (Za 4 x11 z g.2) fun j=>
 Z0 (Za 1 x12 A j.2) fun u=>
 XN .nils x11 x12 x35 H0 u.2)
 (Ab w x11 x12 x14 x15 x16 x35 H0 g.2):=Z9 bi
theorem Ma:Ad x8 x11 x12 x14 x15 x16 x35 H0 H =
 Z0 (Z6 1 x8) fun w=>
 Z0 (Z3 false 1 w H) fun y=>
 Z0 (Wg [x16,y] H) fun h=>
 Z0 (Za 1 x12 h.1 h.2) fun g=>
 Z0 (Z3 false 1 x12 g.2) fun z=>
 Z0 (Z5 .neq z (J zA 0)) fun A=>
 Zj A
 (Z0 (Zbp x12 x11) fun _=>
 Z0 (some (.agg [(J zA 0),(J zA 0),(J zA 0),(J zA 0)])) fun B=>
 Z0 (Z3 false 1 x12 g.2) fun C=>
 Z0 (Za 4 x11 B g.2) fun j=>
 Z0 (Za 1 x12 C j.2) fun u=>
 XN .nils x11 x12 x35 H0 u.2)
 (XO x8 x11 x12 x14 x15 x16 x35 H0 g.2):=Z9 bi
theorem QA:XO x8 x11 x12 x14 x15 x16 x35 H0 H =
 Z0 (Zu x16) fun g=>
 Z0 (Z6 12 g) fun h=>
 Z0 (Z3 false 1 h H) fun j=>
 Z0 (Zk (.slice 9) j) fun u=>
 Z0 (Z6 1 x8) fun w=>
 Z0 (Z3 false 1 w H) fun y=>
 Z0 (Z5 .gtr u y) fun z=>
 Zj z
 (Ad x8 x11 x12 x14 x15 x16 x35 H0 H)
 (Qz x11 x12 x14 x15 x16 x35 H0 H):=(ZC (C:=cfg) [4,7,13,14,17,20,24,900002] (Zn 0 (ZaA H0)) _ _).trans (by kernel_rfl)
theorem ZdS:A9 x8 x11 x12 x14 x15 x16 x35 H0 H =
 XO x8 x11 x12 x14 x15 x16 x35 H0 H:=Z9 bi
theorem M8:A8 x4 x6 x7 x8 x11 x12 x14 H0 H =
 Z0 (some ((.ptr H.length 0),H++[.cells [(.bool false)]])) fun j=>
 Z0 (Za 1 j.1 (.bool false) j.2) fun g=>
 Z0 (some (.fn (.func 44) [] [x12,j.1,x14])) fun A=>
 Z0 (Z3 false 1 x14 g.2) fun B=>
 Z0 (Z3 true 6 x6 g.2) fun t37=>
 Z0 (Z3 true 5 x7 g.2) fun C=>
 Z0 ((YS [(0,1,B),(1,6,t37),(7,5,C)] [.nilp,(.str []),.nils,(.str []),(.str []),.nils,.nils,.nils,(J zA 0),(J zA 0),(.bool false),(.bool false),.nils,(J zA 0),(J zA 0),(J zA 0),(J zA 0)]).map .agg) fun D=>
 Z0 (ZQ D g.2) fun u=>
 Z0 (Z6 0 x8) fun E=>
 Z0 (Z3 false 1 E u.2) fun F=>
 Z0 (Vi [u.1,x4,F] u.2) fun w=>
 Z0 (Za 1 x12 w.1 w.2) fun h=>
 Z0 (Z3 false 1 x12 h.2) fun I=>
 Z0 (Z5 .neq I (J zA 0)) fun K=>
 Zj K
 (Z0 (Zbp x12 x11) fun _=>
 Z0 (some (.agg [(J zA 0),(J zA 0),(J zA 0),(J zA 0)])) fun L=>
 Z0 (Z3 false 1 x12 h.2) fun M=>
 Z0 (Za 4 x11 L h.2) fun y=>
 Z0 (Za 1 x12 M y.2) fun z=>
 XN .nils x11 x12 A H0 z.2)
 (A9 x8 x11 x12 x14 j.1 u.1 A H0 h.2):=Z9 bi
theorem B3:Tz x0 x4 x6 x7 x8 x11 x12 H0 H =
 Z0 (Wy [x0,(.str [115,111,114,116]),(J zA 262144)] H) fun j=>
 Z0 (ZL j.1 0) fun z=>
 Z0 (ZL j.1 1) fun A=>
 Z0 (some ((.ptr j.2.length 0),j.2++[.cells [.nilp]])) fun u=>
 Z0 (Za 1 u.1 z u.2) fun w=>
 Z0 (Za 1 x12 A w.2) fun g=>
 Z0 (Z3 false 1 x12 g.2) fun B=>
 Z0 (Z5 .neq B (J zA 0)) fun C=>
 Zj C
 (Z0 (Zbp x12 x11) fun _=>
 Z0 (some (.agg [(J zA 0),(J zA 0),(J zA 0),(J zA 0)])) fun D=>
 Z0 (Z3 false 1 x12 g.2) fun E=>
 Z0 (Za 4 x11 D g.2) fun y=>
 Z0 (Za 1 x12 E y.2) fun h=>
 Z0 (Z3 true 4 x11 h.2) fun F=>
 Z0 (Z3 false 1 x12 h.2) fun I=>
 some ((.tuple [.nils,F,I]),h.2))
 (A8 x4 x6 x7 x8 x11 x12 u.1 H0 g.2):=Z9 bi
theorem Zf1:Xc [p0,p1,p2,p3,p4] H=IK p0 p1 p2 p3 p4 H:=(Zd (C:=cfg) (fn:=Tryz.f20) (c:=UX cfg 20 Tryz.f20) (n:=86) [4,7,13,14,17,20,24,900002] Tryz.func20 (by kernel_rfl) (by kernel_rfl) [p0,p1,p2,p3,p4] (by kernel_rfl) H).trans (by kernel_rfl)
noncomputable abbrev bg (f n:Nat)(F:Func)(p:List Nat)(G:Hp):=fun k K=>ZR f n (sub (Z1 F) p) (Zf cfg n f F G) k K
def M4:Z4:=bg 22 27 Tryz.f22 [1,1,1,1] H0 [(4,x4)] H
def VA:KL:=Zc (Dq 22 27 Tryz.f22 [1,1,1,1]) (Zf cfg 27 22 Tryz.f22 H0)
theorem Ho:ZS 27 (VA H0):=Zw (C:=cfg) (kp:=cfg.keep 22) (bh Tryz.f22 [1,1,1,1]) (Zy 22 Tryz.f22 H0)
def M6:Z4:=ZR 22 27 (bh Tryz.f22 [1,1,1,0,1,0,0,1,1,1]) (Zc (Wd 22 27 Tryz.f22 [1,1,1,0,1,0,0]) (Z7 0 (VA H0))) [(0,x0),(4,x4),(11,x11),(12,x12),(13,x13)] H
def ZdR:KL:=Zc (Dq 22 27 Tryz.f22 [1,1,1,0,1,0,0,1,1,1]) (Zc (Wd 22 27 Tryz.f22 [1,1,1,0,1,0,0]) (Z7 0 (VA H0)))
def M7:Z4:=ZR 22 27 (bh Tryz.f22 [1,1,1,0,1,0,0,1,1,0,0,1,1]) (Z7 1 (ZdR H0)) [(0,x0),(4,x4),(11,x11),(12,x12),(13,x13)] H
def M5:Z4:=ZR 22 27 (bh Tryz.f22 [1,1,1,0,1,0,0,1,1]) (Zc (Wd 22 27 Tryz.f22 [1,1,1,0,1,0,0]) (Z7 0 (VA H0))) [(0,x0),(4,x4),(11,x11),(12,x12),(13,x13),(14,x14)] H
def VB:Z4:=Dx 22 27 (bh Tryz.f22 [1,1,1,0,1,0,0]) (Z7 0 (VA H0)) [(0,x0),(4,x4),(11,x11),(12,x12),(13,x13)] H
def M3:Z4:=bg 22 27 Tryz.f22 [1,1] H0 [(0,x0)] H
def Lh:Z4:=
 Z0 (Yr (.pointer 82) .eql p0 .nilp) fun t9=>
 Zj t9
 (some ((.tuple [(J zA 0),(J zA 5)]),H))
 (M3 p0 H H)
theorem Oh:M4 x4 H0 H =
 some ((.tuple [x4,(J zA 0)]),H):=Z9 bj
theorem Oi:M6 x0 x4 x11 x12 x13 H0 H =
 Z0 (Z5 .add x13 (J zA 1)) fun g=>
 VB x0 x4 x11 x12 g H0 H:=Z9 bj
theorem Oj:M7 x0 x4 x11 x12 x13 H0 H =
 Z0 (Z5 .add x4 (J zA 1)) fun g=>
 M6 x0 g x11 x12 x13 H0 H:=Z9 bj
theorem Rw:M5 x0 x4 x11 x12 x13 x14 H0 H =
 Z0 (Zo 1 x11 x13) fun h=>
 Z0 (Z3 false 1 h H) fun j=>
 Z0 (Xv [x0,j] H) fun g=>
 Z0 (Z5 .neq g.1 (J zA 0)) fun u=>
 Zj u
 (some ((.tuple [(J zA 0),g.1]),g.2))
 (M7 x0 x4 x11 x12 x13 H0 g.2):=Z9 bj
theorem Rx:VB x0 x4 x11 x12 x13 H0 H =
 Z0 (Z5 .lss x13 x12) fun g=>
 Zj g
 (M5 x0 x4 x11 x12 x13 g H0 H)
 (M4 x4 H0 H):=(ZC (C:=cfg) [3,6,10,11,12] (Zn 0 (Ho H0)) _ _).trans (by kernel_rfl)
theorem Og:M3 x0 H0 H =
 Z0 (JQ VK [x0,(.str [115,111,114,116])] H) fun g=>
 Z0 (Zk (.slice 9) g.1) fun h=>
 VB x0 (J zA 0) g.1 h (J zA 0) H0 g.2:=Z9 bj
theorem OW:WM [p0] H=Lh p0 H:=Be 27 [3,6,10,11,12] Tryz.func22
def SP:Z4:=bg 42 35 Tryz.f42 [1,1,1,1,1,1] H0 [] H
def K8:KL:=Zc (Dq 42 35 Tryz.f42 [1,1,1,1,1,1]) (Zf cfg 35 42 Tryz.f42 H0)
theorem Ok:ZS 35 (K8 H0):=Zw (C:=cfg) (kp:=cfg.keep 42) (bh Tryz.f42 [1,1,1,1,1,1]) (Zy 42 Tryz.f42 H0)
def SU:Z4:=ZR 42 35 (bh Tryz.f42 [1,1,1,1,1,0,1,0,0,1,1,1]) (Zc (Wd 42 35 Tryz.f42 [1,1,1,1,1,0,1,0,0]) (Z7 0 (K8 H0))) [(25,x25),(26,x26),(27,x27)] H
def SR:Z4:=ZR 42 35 (bh Tryz.f42 [1,1,1,1,1,0,1,0,0,1,1]) (Zc (Wd 42 35 Tryz.f42 [1,1,1,1,1,0,1,0,0]) (Z7 0 (K8 H0))) [(25,x25),(26,x26),(27,x27),(28,x28)] H
def K9:Z4:=Dx 42 35 (bh Tryz.f42 [1,1,1,1,1,0,1,0,0]) (Z7 0 (K8 H0)) [(25,x25),(26,x26),(27,x27)] H
def SO:Z4:=bg 42 35 Tryz.f42 [1,1,1,1,1] H0 [(3,x3)] H
def SN:Z4:=bg 42 35 Tryz.f42 [1,1,1,1] H0 [(3,x3)] H
def SM:Z4:=bg 42 35 Tryz.f42 [1,1,1] H0 [(3,x3),(6,x6)] H
def SL:Z4:=bg 42 35 Tryz.f42 [1,1] H0 [(3,x3),(5,x5),(6,x6)] H
def HE:Z4:=
 Z0 (ZQ p1 H) fun j=>
 Z0 (ZQ p2 j.2) fun g=>
 Z0 (Yr (.pointer 82) .eql p0 .nilp) fun h=>
 Zj h
 (some ((J zA 5),g.2))
 (SL p3 j.1 g.1 H g.2)
theorem Zcd:SP H0 H =
 some ((J zA 0),H):=Z9 bk
theorem Zce:SU x25 x26 x27 H0 H =
 Z0 (Z5 .add x27 (J zA 1)) fun g=>
 K9 x25 x26 g H0 H:=Z9 bk
theorem Pp:SR x25 x26 x27 x28 H0 H =
 Z0 (Zo 1 x25 x27) fun g=>
 Z0 (Z3 false 1 g H) fun h=>
 Z0 (Zk .string h) fun j=>
 Z0 (Z5 .gtr j (J zA 4096)) fun u=>
 Zj u
 (some ((J zA 3),H))
 (SU x25 x26 x27 H0 H):=Z9 bk
theorem Pq:K9 x25 x26 x27 H0 H =
 Z0 (Z5 .lss x27 x26) fun g=>
 Zj g
 (SR x25 x26 x27 g H0 H)
 (SP H0 H):=(ZC (C:=cfg) [3,6,8,10,12,15,16] (Zn 0 (Ok H0)) _ _).trans (by kernel_rfl)
theorem Zcc:SO x3 H0 H =
 Z0 (Zk (.slice 9) x3) fun g=>
 K9 x3 g (J zA 0) H0 H:=Z9 bk
theorem Po:SN x3 H0 H =
 Z0 (Zk (.slice 9) x3) fun g=>
 Z0 (Z5 .gtr g (J zA 8192)) fun h=>
 Zj h
 (some ((J zA 3),H))
 (SO x3 H0 H):=Z9 bk
theorem Gk:SM x3 x6 H0 H =
 Z0 (Z3 true 2 x6 H) fun h=>
 Z0 (Zh RT [h] H) fun g=>
 Z0 (XL .not g.1) fun j=>
 Zj j
 (some ((J zA 2),g.2))
 (SN x3 H0 g.2):=Z9 bk
theorem Q0:SL x3 x5 x6 H0 H =
 Z0 (Z3 true 5 x5 H) fun h=>
 Z0 (Zh Wv [h] H) fun g=>
 Z0 (Z5 .neq g.1 (J zA 0)) fun j=>
 Zj j
 (some (g.1,g.2))
 (SM x3 x6 H0 g.2):=Z9 bk
theorem ZcQ:RR [p0,p1,p2,p3] H=HE p0 p1 p2 p3 H:=Be 35 [3,6,8,10,12,15,16] Tryz.func42
def JY:Z4:=
 Z0 (Z3 false 1 p0 H) fun t3=>
 Z0 (Z5 .neq t3 (J zA 0)) fun t4=>
 Z0 (Z8 t4 true ap (Z3 false 1 p1 H)) fun h=>
 Z0 (Z8 t4 true ap (XL .not h)) fun j=>
 Z0 (Zi t4 j (.bool false)) fun u=>
 Zj u
 (Z0 (Z3 false 1 p2 H) fun t9=>
 Z0 (Vk [t9] H) fun g=>
 some (ap,g.2))
 (some (ap,H))
theorem Gh:EQ [p0,p1,p2] H=JY p0 p1 p2 H:=Be 11 [] Tryz.func44
def BY:Z4:=bg 46 73 Tryz.f46 [1,1] H0 [] H
def XE:KL:=Zc (Dq 46 73 Tryz.f46 [1,1]) (Zf cfg 73 46 Tryz.f46 H0)
theorem N9:ZS 73 (XE H0):=Zw (C:=cfg) (kp:=cfg.keep 46) (bh Tryz.f46 [1,1]) (Zy 46 Tryz.f46 H0)
def D2:Z4:=ZR 46 73 (bh Tryz.f46 [1,0,1,0,0,1,1,1]) (Zc (Wd 46 73 Tryz.f46 [1,0,1,0,0]) (Z7 0 (XE H0))) [(0,x0),(13,x13),(14,x14),(15,x15)] H
def Hr:KL:=Zc (Dq 46 73 Tryz.f46 [1,0,1,0,0,1,1,1]) (Zc (Wd 46 73 Tryz.f46 [1,0,1,0,0]) (Z7 0 (XE H0)))
def D3:Z4:=ZR 46 73 (bh Tryz.f46 [1,0,1,0,0,1,1,0,0,1,1,1]) (Z7 1 (Hr H0)) [(0,x0),(8,x8),(9,x9),(13,x13),(14,x14),(15,x15)] H
def BZ:Z4:=ZR 46 73 (bh Tryz.f46 [1,0,1,0,0,1,1]) (Zc (Wd 46 73 Tryz.f46 [1,0,1,0,0]) (Z7 0 (XE H0))) [(0,x0),(13,x13),(14,x14),(15,x15),(16,x16)] H
def YC:Z4:=Dx 46 73 (bh Tryz.f46 [1,0,1,0,0]) (Z7 0 (XE H0)) [(0,x0),(13,x13),(14,x14),(15,x15)] H
def QS:Z4:=
 Z0 (Zh EW [p1,p2] H) fun g=>
 Z0 (Zk (.slice 29) g.1) fun h=>
 YC p0 g.1 h (J zA 0) H g.2
theorem MQ:BY H0 H =
 some ((J zA 0),H):=Z9 [3,7,11,12]
theorem MR:D2 x0 x13 x14 x15 H0 H =
 Z0 (Z5 .add x15 (J zA 1)) fun t72=>
 YC x0 x13 x14 t72 H0 H:=Z9 [3,7,11,12]
theorem MS:D3 x0 x8 x9 x13 x14 x15 H0 H =
 Z0 (Wh [x0] H) fun j=>
 Z0 (Zu x0) fun z=>
 Z0 (Z6 12 z) fun A=>
 Z0 (Z3 false 1 A j.2) fun B=>
 Z0 ((ZB 1 [(0,x9)] [(.str [])]).map (.vs 1 .clip)) fun C=>
 Z0 (Y9 1 16 B C j.2) fun u=>
 Z0 (Zu x0) fun D=>
 Z0 (Z6 12 D) fun E=>
 Z0 (Za 1 E u.1 u.2) fun g=>
 Z0 (Zu x0) fun F=>
 Z0 (Z6 13 F) fun I=>
 Z0 (Z6 0 I) fun K=>
 Z0 (Z3 false 1 K g.2) fun L=>
 Z0 (Z5 .add L (J zA 1)) fun M=>
 Z0 (Zu x0) fun N=>
 Z0 (Z6 13 N) fun O=>
 Z0 (Z6 0 O) fun Q=>
 Z0 (Za 1 Q M g.2) fun h=>
 Z0 (Zu x0) fun R=>
 Z0 (Z6 13 R) fun S=>
 Z0 (Z6 2 S) fun T=>
 Z0 (Z3 false 1 T h.2) fun U=>
 Z0 (Zh PQ [x8] h.2) fun w=>
 Z0 (Qr U w.1) fun V=>
 Z0 (Zu x0) fun W=>
 Z0 (Z6 13 W) fun t70=>
 Z0 (Z6 2 t70) fun X=>
 Z0 (Za 1 X V w.2) fun y=>
 D2 x0 x13 x14 x15 H0 y.2:=Z9 [3,7,11,12]
theorem KQ:BZ x0 x13 x14 x15 x16 H0 H =
 Z0 (Zo 1 x13 x15) fun u=>
 Z0 (Z3 false 1 u H) fun h=>
 Z0 (Zu x0) fun w=>
 Z0 (Z6 0 w) fun y=>
 Z0 (Z3 false 1 y H) fun z=>
 Z0 (Zu x0) fun A=>
 Z0 (Z6 1 A) fun B=>
 Z0 (Z3 true 6 B H) fun C=>
 Z0 (Zu x0) fun D=>
 Z0 (Z6 7 D) fun E=>
 Z0 (Z3 true 5 E H) fun F=>
 Z0 (GP [z,C,F,h] H) fun g=>
 Z0 (ZL g.1 0) fun I=>
 Z0 (ZL g.1 1) fun j=>
 Z0 (Z5 .neq j (J zA 0)) fun t37=>
 Zj t37
 (some (j,g.2))
 (D3 x0 h I x13 x14 x15 H0 g.2):=Z9 [3,7,11,12]
theorem U1:YC x0 x13 x14 x15 H0 H =
 Z0 (Z5 .lss x15 x14) fun g=>
 Zj g
 (BZ x0 x13 x14 x15 g H0 H)
 (BY H0 H):=(ZC (C:=cfg) [3,7,11,12] (Zn 0 (N9 H0)) _ _).trans (by kernel_rfl)
theorem Gr:Vi [p0,p1,p2] H=QS p0 p1 p2 H:=Be 73 [3,7,11,12] Tryz.func46
def F6:Z4:=bg 47 60 Tryz.f47 [1,1,1] H0 [(0,x0),(5,x5)] H
def XW:KL:=Zc (Dq 47 60 Tryz.f47 [1,1,1]) (Zf cfg 60 47 Tryz.f47 H0)
theorem JL:ZS 60 (XW H0):=Zw (C:=cfg) (kp:=cfg.keep 47) (bh Tryz.f47 [1,1,1]) (Zy 47 Tryz.f47 H0)
def F8:Z4:=ZR 47 60 (bh Tryz.f47 [1,1,0,1,0,0,1,1,1]) (Zc (Wd 47 60 Tryz.f47 [1,1,0,1,0,0]) (Z7 0 (XW H0))) [(0,x0),(5,x5),(19,x19),(20,x20),(21,x21)] H
def Vo:KL:=Zc (Dq 47 60 Tryz.f47 [1,1,0,1,0,0,1,1,1]) (Zc (Wd 47 60 Tryz.f47 [1,1,0,1,0,0]) (Z7 0 (XW H0)))
theorem Mc:ZS 60 (Vo H0):=Zw (C:=cfg) (kp:=cfg.keep 47) (bh Tryz.f47 [1,1,0,1,0,0,1,1,1]) (AH (C:=cfg) (kp:=cfg.keep 47) (bh Tryz.f47 [1,1,0,1,0,0]) (Zn 0 (JL H0)))
def F9:Z4:=ZR 47 60 (bh Tryz.f47 [1,1,0,1,0,0,1,1,0,0,1,1,1,1,1]) (Z7 1 (Vo H0)) [(0,x0),(5,x5),(11,x11),(19,x19),(20,x20),(21,x21)] H
def Vn:Z4:=ZR 47 60 (bh Tryz.f47 [1,1,0,1,0,0,1,1,0,0,1,1,1]) (Z7 1 (Vo H0)) [(0,x0),(5,x5),(8,x8),(19,x19),(20,x20),(21,x21)] H
def Vp:KL:=Zc (Dq 47 60 Tryz.f47 [1,1,0,1,0,0,1,1,0,0,1,1,1]) (Z7 1 (Vo H0))
theorem Md:ZS 60 (Vp H0):=Zw (C:=cfg) (kp:=cfg.keep 47) (bh Tryz.f47 [1,1,0,1,0,0,1,1,0,0,1,1,1]) (Zn 1 (Mc H0))
def Fb:Z4:=ZR 47 60 (bh Tryz.f47 [1,1,0,1,0,0,1,1,0,0,1,1,0,1,0,0,1,1,1]) (Zc (Wd 47 60 Tryz.f47 [1,1,0,1,0,0,1,1,0,0,1,1,0,1,0,0]) (Z7 2 (Vp H0))) [(0,x0),(5,x5),(8,x8),(19,x19),(20,x20),(21,x21),(25,x25),(26,x26),(27,x27)] H
def Fa:Z4:=ZR 47 60 (bh Tryz.f47 [1,1,0,1,0,0,1,1,0,0,1,1,0,1,0,0,1,1]) (Zc (Wd 47 60 Tryz.f47 [1,1,0,1,0,0,1,1,0,0,1,1,0,1,0,0]) (Z7 2 (Vp H0))) [(0,x0),(5,x5),(8,x8),(19,x19),(20,x20),(21,x21),(25,x25),(26,x26),(27,x27),(28,x28)] H
def Vq:Z4:=Dx 47 60 (bh Tryz.f47 [1,1,0,1,0,0,1,1,0,0,1,1,0,1,0,0]) (Z7 2 (Vp H0)) [(0,x0),(5,x5),(8,x8),(19,x19),(20,x20),(21,x21),(25,x25),(26,x26),(27,x27)] H
def F7:Z4:=ZR 47 60 (bh Tryz.f47 [1,1,0,1,0,0,1,1]) (Zc (Wd 47 60 Tryz.f47 [1,1,0,1,0,0]) (Z7 0 (XW H0))) [(0,x0),(5,x5),(19,x19),(20,x20),(21,x21),(22,x22)] H
def Yj:Z4:=Dx 47 60 (bh Tryz.f47 [1,1,0,1,0,0]) (Z7 0 (XW H0)) [(0,x0),(5,x5),(19,x19),(20,x20),(21,x21)] H
def Rj:Z4:=
 Z0 (Zu p0) fun h=>
 Z0 (Z6 12 h) fun j=>
 Z0 (Z3 false 1 j H) fun u=>
 Z0 (Zk (.slice 9) u) fun w=>
 Z0 (Zh EU [w,p1] H) fun g=>
 Z0 (Zk (.slice 38) g.1) fun y=>
 Yj p0 .nils g.1 y (J zA 0) H g.2
theorem Eh:F6 x0 x5 H0 H =
 Z0 (Zu x0) fun h=>
 Z0 (Z6 12 h) fun j=>
 Z0 (Za 1 j x5 H) fun g=>
 some ((J zA 0),g.2):=Z9 bn
theorem Ej:F8 x0 x5 x19 x20 x21 H0 H =
 Z0 (Z5 .add x21 (J zA 1)) fun g=>
 Yj x0 x5 x19 x20 g H0 H:=Z9 bn
theorem Ek:F9 x0 x5 x11 x19 x20 x21 H0 H =
 Z0 ((ZB 1 [(0,x11)] [(.str [])]).map (.vs 1 .clip)) fun h=>
 Z0 (Y9 1 16 x5 h H) fun g=>
 F8 x0 g.1 x19 x20 x21 H0 g.2:=Z9 bn
theorem Gx:Vn x0 x5 x8 x19 x20 x21 H0 H =
 Z0 (Vh [x0,x8] H) fun g=>
 Z0 (ZL g.1 0) fun j=>
 Z0 (ZL g.1 1) fun h=>
 Z0 (Z5 .neq h (J zA 0)) fun u=>
 Zj u
 (some (h,g.2))
 (F9 x0 x5 j x19 x20 x21 H0 g.2):=Z9 bn
theorem Em:Fb x0 x5 x8 x19 x20 x21 x25 x26 x27 H0 H =
 Z0 (Z5 .add x27 (J zA 1)) fun g=>
 Vq x0 x5 x8 x19 x20 x21 x25 x26 g H0 H:=Z9 bn
theorem El:Fa x0 x5 x8 x19 x20 x21 x25 x26 x27 x28 H0 H =
 Z0 (Zo 1 x25 x27) fun h=>
 Z0 (Z3 false 1 h H) fun j=>
 Z0 (Zu x0) fun u=>
 Z0 (Z6 12 u) fun w=>
 Z0 (Z3 false 1 w H) fun y=>
 Z0 (Zo 1 y j) fun t37=>
 Z0 (Z3 false 1 t37 H) fun z=>
 Z0 ((ZB 1 [(0,z)] [(.str [])]).map (.vs 1 .clip)) fun A=>
 Z0 (Y9 1 16 x8 A H) fun g=>
 Fb x0 x5 g.1 x19 x20 x21 x25 x26 x27 H0 g.2:=Z9 bn
theorem Gz:Vq x0 x5 x8 x19 x20 x21 x25 x26 x27 H0 H =
 Z0 (Z5 .lss x27 x26) fun g=>
 Zj g
 (Fa x0 x5 x8 x19 x20 x21 x25 x26 x27 g H0 H)
 (Vn x0 x5 x8 x19 x20 x21 H0 H):=(ZC (C:=cfg) [4,8,10,11,14,15,16] (Zn 2 (Md H0)) _ _).trans (by kernel_rfl)
theorem Ei:F7 x0 x5 x19 x20 x21 x22 H0 H =
 Z0 (Zo 1 x19 x21) fun h=>
 Z0 (Z3 false 1 h H) fun g=>
 Z0 (Zk (.slice 3) g) fun j=>
 Vq x0 x5 .nils x19 x20 x21 g j (J zA 0) H0 H:=Z9 bn
theorem Gy:Yj x0 x5 x19 x20 x21 H0 H =
 Z0 (Z5 .lss x21 x20) fun g=>
 Zj g
 (F7 x0 x5 x19 x20 x21 g H0 H)
 (F6 x0 x5 H0 H):=(ZC (C:=cfg) [4,8,10,11,14,15,16] (Zn 0 (JL H0)) _ _).trans (by kernel_rfl)
theorem EX:Wg [p0,p1] H=Rj p0 p1 H:=Be 60 [4,8,10,11,14,15,16] Tryz.func47
def BV:Z4:=ZR 48 57 (bh Tryz.f48 [1,1,1,1,1,0,0,0,1,1,1]) (Z7 3 (Zc (Wd 48 57 Tryz.f48 [1,1,1,1,1,0,0]) (Z7 2 (Zf cfg 57 48 Tryz.f48 H0)))) [(7,x7),(8,x8),(9,x9)] H
def BU:Z4:=ZR 48 57 (bh Tryz.f48 [1,1,1,1,1,0,0,0,1,1]) (Z7 3 (Zc (Wd 48 57 Tryz.f48 [1,1,1,1,1,0,0]) (Z7 2 (Zf cfg 57 48 Tryz.f48 H0)))) [(7,x7),(8,x8),(9,x9),(10,x10)] H
def Yp:Z4:=Dx 48 57 (bh Tryz.f48 [1,1,1,1,1,0,0]) (Z7 2 (Zf cfg 57 48 Tryz.f48 H0)) [(7,x7),(8,x8)] H
def Qc:Z4:=bg 48 57 Tryz.f48 [1,1,1] H0 [(0,x0),(4,x4)] H
def WX:KL:=Zc (Dq 48 57 Tryz.f48 [1,1,1]) (Zf cfg 57 48 Tryz.f48 H0)
theorem N8:ZS 57 (WX H0):=Zw (C:=cfg) (kp:=cfg.keep 48) (bh Tryz.f48 [1,1,1]) (Zy 48 Tryz.f48 H0)
def BX:Z4:=ZR 48 57 (bh Tryz.f48 [1,1,0,1,0,0,1,1,1]) (Zc (Wd 48 57 Tryz.f48 [1,1,0,1,0,0]) (Z7 0 (WX H0))) [(0,x0),(4,x4),(15,x15),(16,x16),(17,x17)] H
def BW:Z4:=ZR 48 57 (bh Tryz.f48 [1,1,0,1,0,0,1,1]) (Zc (Wd 48 57 Tryz.f48 [1,1,0,1,0,0]) (Z7 0 (WX H0))) [(0,x0),(4,x4),(15,x15),(16,x16),(17,x17),(18,x18)] H
def WY:Z4:=Dx 48 57 (bh Tryz.f48 [1,1,0,1,0,0]) (Z7 0 (WX H0)) [(0,x0),(4,x4),(15,x15),(16,x16),(17,x17)] H
def DU:Z4:=
 Z0 (Zu p0) fun h=>
 Z0 (Z6 12 h) fun j=>
 Z0 (Z3 false 1 j H) fun g=>
 Z0 (Zk (.slice 9) g) fun u=>
 WY p0 .nils g u (J zA 0) H H
theorem MN:BV x7 x8 x9 H0 H =
 Z0 ((ZB 1 [(0,x9)] [(.str [])]).map (.vs 1 .clip)) fun h=>
 Z0 (Y9 1 16 x8 h H) fun g=>
 Yp x7 g.1 H0 g.2:=Z9 bo
theorem U0:BU x7 x8 x9 x10 H0 H =
 Z0 (XL .not x10) fun g=>
 Zj g
 (some ((.tuple [x8,(J zA 0)]),H))
 (BV x7 x8 x9 H0 H):=Z9 bo
theorem X9:Yp x7 x8 H0 H =
 Z0 (XR [x7] H) fun g=>
 Z0 (ZL g.1 0) fun j=>
 Z0 (ZL g.1 1) fun u=>
 Z0 (ZL g.1 2) fun h=>
 Z0 (Z5 .neq h (J zA 0)) fun w=>
 Zj w
 (some ((.tuple [.nils,h]),g.2))
 (BU x7 x8 j u H0 g.2):=(ZC (C:=cfg) [4,6,7,12,14] (Zn 2 (Zy 48 Tryz.f48 H0)) _ _).trans (by kernel_rfl)
theorem MM:Qc x0 x4 H0 H =
 Z0 (Zu x0) fun h=>
 Z0 (Z6 1 h) fun j=>
 Z0 (Z3 true 6 j H) fun u=>
 Z0 (Zu x0) fun w=>
 Z0 (Z6 7 w) fun t37=>
 Z0 (Z3 true 5 t37 H) fun y=>
 Z0 (NB [u,y,x4] H) fun g=>
 Yp g.1 .nils H0 g.2:=Z9 bo
theorem MP:BX x0 x4 x15 x16 x17 H0 H =
 Z0 (Z5 .add x17 (J zA 1)) fun g=>
 WY x0 x4 x15 x16 g H0 H:=Z9 bo
theorem MO:BW x0 x4 x15 x16 x17 x18 H0 H =
 Z0 (Zo 1 x15 x17) fun j=>
 Z0 (Z3 false 1 j H) fun u=>
 Z0 (Zu x0) fun w=>
 Z0 (Z6 0 w) fun y=>
 Z0 (Z3 false 1 y H) fun z=>
 Z0 (NC [z,u] H) fun g=>
 Z0 ((ZB 1 [(0,g.1)] [.nilp]).map (.vs 1 .clip)) fun A=>
 Z0 (Y9 1 8 x4 A g.2) fun h=>
 BX x0 h.1 x15 x16 x17 H0 h.2:=Z9 bo
theorem KP:WY x0 x4 x15 x16 x17 H0 H =
 Z0 (Z5 .lss x17 x16) fun g=>
 Zj g
 (BW x0 x4 x15 x16 x17 g H0 H)
 (Qc x0 x4 H0 H):=(ZC (C:=cfg) [4,6,7,12,14] (Zn 0 (N8 H0)) _ _).trans (by kernel_rfl)
theorem LT:XU [p0] H=DU p0 H:=Be 57 [4,6,7,12,14] Tryz.func48
def HF:Z4:=
 Z0 (ZQ p0 H) fun g=>
 Z0 (Z6 0 g.1) fun t3=>
 Z0 (Z3 false 1 t3 g.2) fun t4=>
 Z0 (Z5 .geq t4 (J zA 64)) fun t5=>
 Z0 (Z8 t5 true ap (Z6 0 g.1)) fun D=>
 Z0 (Z8 t5 true ap (Z3 false 1 D g.2)) fun E=>
 Z0 (Z8 t5 true ap (Z5 .leq E (J zA 65536))) fun t9=>
 Z0 (Zi t5 t9 (.bool false)) fun h=>
 Z0 (Z8 h true ap (Z6 1 g.1)) fun u=>
 Z0 (Z8 h true ap (Z3 false 1 u g.2)) fun w=>
 Z0 (Z8 h true ap (Z5 .geq w (J zA 2))) fun y=>
 Z0 (Zi h y (.bool false)) fun j=>
 Z0 (Z8 j true ap (Z6 1 g.1)) fun z=>
 Z0 (Z8 j true ap (Z3 false 1 z g.2)) fun A=>
 Z0 (Z8 j true ap (Z5 .leq A (J zA 32))) fun B=>
 Z0 (Zi j B (.bool false)) fun C=>
 some (C,g.2)
theorem ZcR:RT [p0] H=HF p0 H:=Be 21 [] Tryz.func69
def ZbY:Z4:=bg 74 39 Tryz.f74 [1,1,1,1,1,1] H0 [(10,x10)] H
def ZbX:Z4:=bg 74 39 Tryz.f74 [1,1,1,1,1] H0 [(0,x0),(10,x10)] H
def ZbW:Z4:=bg 74 39 Tryz.f74 [1,1,1,1] H0 [(0,x0),(3,x3),(5,x5),(6,x6),(10,x10)] H
def L5:Z4:=bg 74 39 Tryz.f74 [1,1] H0 [(0,x0),(3,x3),(5,x5),(6,x6)] H
def ZcX:Z4:=
 Z0 (ZQ p1 H) fun j=>
 Z0 (ZQ p2 j.2) fun g=>
 Z0 (Yr (.pointer 124) .eql p0 .nilp) fun h=>
 Zj h
 (some ((.tuple [(.str []),(J zA 5)]),g.2))
 (L5 p0 p3 j.1 g.1 H g.2)
theorem Cf:ZbY x10 H0 H =
 some ((.tuple [x10,(J zA 0)]),H):=Z9 [3,6,9,12]
theorem Ce:ZbX x0 x10 H0 H =
 Z0 (VM [x0,x10] H) fun g=>
 Z0 (Z5 .neq g.1 (J zA 0)) fun h=>
 Zj h
 (some ((.tuple [(.str []),g.1]),g.2))
 (ZbY x10 H0 g.2):=Z9 [3,6,9,12]
theorem R5:ZbW x0 x3 x5 x6 x10 H0 H =
 Z0 (Z3 true 6 x5 H) fun j=>
 Z0 (Z3 true 5 x6 H) fun u=>
 Z0 (Zh UA [j,u,x3] H) fun h=>
 Z0 (Vl [x0,x10,h.1] h.2) fun g=>
 Z0 (Z5 .neq g.1 (J zA 0)) fun w=>
 Zj w
 (some ((.tuple [(.str []),g.1]),g.2))
 (ZbX x0 x10 H0 g.2):=Z9 [3,6,9,12]
theorem Kr:L5 x0 x3 x5 x6 H0 H =
 Z0 (Ue [x0] H) fun g=>
 Z0 (ZL g.1 0) fun j=>
 Z0 (ZL g.1 1) fun h=>
 Z0 (Z5 .neq h (J zA 0)) fun u=>
 Zj u
 (some ((.tuple [(.str []),h]),g.2))
 (ZbW x0 x3 x5 x6 j H0 g.2):=Z9 [3,6,9,12]
theorem Zho:GP [p0,p1,p2,p3] H=ZcX p0 p1 p2 p3 H:=Be 39 [3,6,9,12] Tryz.func74
def Rk:Z4:=
 Z0 (Zu p0) fun t4=>
 Z0 (Z6 13 t4) fun t5=>
 Z0 (Z6 3 t5) fun B=>
 Z0 (Z3 false 1 B H) fun C=>
 Z0 (Zu p0) fun t9=>
 Z0 (Z6 0 t9) fun j=>
 Z0 (Z3 false 1 j H) fun u=>
 Z0 (JQ Jt [u] H) fun g=>
 Z0 (Qr C g.1) fun w=>
 Z0 (Zu p0) fun y=>
 Z0 (Z6 13 y) fun z=>
 Z0 (Z6 3 z) fun A=>
 Z0 (Za 1 A w g.2) fun h=>
 some (ap,h.2)
theorem EY:Wh [p0] H=Rk p0 H:=Be 17 [] Tryz.func75
def Ae:Z4:=bg 76 19 Tryz.f76 [1,1,1] H0 [(3,x3)] H
def Gv:KL:=Zc (Dq 76 19 Tryz.f76 [1,1,1]) (Zf cfg 19 76 Tryz.f76 H0)
theorem ZaB:ZS 19 (Gv H0):=Zw (C:=cfg) (kp:=cfg.keep 76) (bh Tryz.f76 [1,1,1]) (Zy 76 Tryz.f76 H0)
def Ag:Z4:=ZR 76 19 (bh Tryz.f76 [1,1,0,1,0,0,1,1,1]) (Zc (Wd 76 19 Tryz.f76 [1,1,0,1,0,0]) (Z7 0 (Gv H0))) [(3,x3),(6,x6),(7,x7),(8,x8)] H
def Af:Z4:=ZR 76 19 (bh Tryz.f76 [1,1,0,1,0,0,1,1]) (Zc (Wd 76 19 Tryz.f76 [1,1,0,1,0,0]) (Z7 0 (Gv H0))) [(3,x3),(6,x6),(7,x7),(8,x8),(9,x9)] H
def Gw:Z4:=Dx 76 19 (bh Tryz.f76 [1,1,0,1,0,0]) (Z7 0 (Gv H0)) [(3,x3),(6,x6),(7,x7),(8,x8)] H
def IL:Z4:=
 Z0 (Zk (.slice 9) p0) fun g=>
 Gw (J zA 0) p0 g (J zA 0) H H
theorem ZdU:Ae x3 H0 H =
 some (x3,H):=Z9 [4,6,7]
theorem ZdW:Ag x3 x6 x7 x8 H0 H =
 Z0 (Z5 .add x8 (J zA 1)) fun g=>
 Gw x3 x6 x7 g H0 H:=Z9 [4,6,7]
theorem ZdV:Af x3 x6 x7 x8 x9 H0 H =
 Z0 (Zo 1 x6 x8) fun g=>
 Z0 (Z3 false 1 g H) fun h=>
 Z0 (Zk .string h) fun j=>
 Z0 (Z5 .add j (J zA 16)) fun u=>
 Z0 (Z5 .add x3 u) fun w=>
 Ag w x6 x7 x8 H0 H:=Z9 [4,6,7]
theorem Mb:Gw x3 x6 x7 x8 H0 H =
 Z0 (Z5 .lss x8 x7) fun t9=>
 Zj t9
 (Af x3 x6 x7 x8 t9 H0 H)
 (Ae x3 H0 H):=(ZC (C:=cfg) [4,6,7] (Zn 0 (ZaB H0)) _ _).trans (by kernel_rfl)
theorem Zf2:PQ [p0] H=IL p0 H:=Be 19 [4,6,7] Tryz.func76
def BQ:Z4:=bg 78 67 Tryz.f78 [1,1,1,1,1,1,1] H0 [(6,x6)] H
def XD:KL:=Zc (Dq 78 67 Tryz.f78 [1,1,1,1,1,1,1]) (Zf cfg 67 78 Tryz.f78 H0)
theorem N7:ZS 67 (XD H0):=Zw (C:=cfg) (kp:=cfg.keep 78) (bh Tryz.f78 [1,1,1,1,1,1,1]) (Zy 78 Tryz.f78 H0)
def BS:Z4:=ZR 78 67 (bh Tryz.f78 [1,1,1,1,1,1,0,1,0,0,1,1,1]) (Zc (Wd 78 67 Tryz.f78 [1,1,1,1,1,1,0,1,0,0]) (Z7 0 (XD H0))) [(0,x0),(6,x6),(48,x48),(49,x49),(50,x50)] H
def Hq:KL:=Zc (Dq 78 67 Tryz.f78 [1,1,1,1,1,1,0,1,0,0,1,1,1]) (Zc (Wd 78 67 Tryz.f78 [1,1,1,1,1,1,0,1,0,0]) (Z7 0 (XD H0)))
def BT:Z4:=ZR 78 67 (bh Tryz.f78 [1,1,1,1,1,1,0,1,0,0,1,1,0,0,1,1]) (Z7 1 (Hq H0)) [(0,x0),(6,x6),(48,x48),(49,x49),(50,x50)] H
def BR:Z4:=ZR 78 67 (bh Tryz.f78 [1,1,1,1,1,1,0,1,0,0,1,1]) (Zc (Wd 78 67 Tryz.f78 [1,1,1,1,1,1,0,1,0,0]) (Z7 0 (XD H0))) [(0,x0),(6,x6),(48,x48),(49,x49),(50,x50),(51,x51)] H
def YB:Z4:=Dx 78 67 (bh Tryz.f78 [1,1,1,1,1,1,0,1,0,0]) (Z7 0 (XD H0)) [(0,x0),(6,x6),(48,x48),(49,x49),(50,x50)] H
def BP:Z4:=bg 78 67 Tryz.f78 [1,1,1,1] H0 [(0,x0),(1,x1),(6,x6)] H
def BO:Z4:=bg 78 67 Tryz.f78 [1,1] H0 [(0,x0),(1,x1)] H
def DT:Z4:=
 Z0 (Zk (.slice 9) p1) fun g=>
 Z0 (Z5 .eql g (J zA 1)) fun h=>
 Zj h
 (Z0 (Zo 1 p1 (J zA 0)) fun j=>
 Z0 (Z3 false 1 j H) fun u=>
 some ((.tuple [u,(J zA 0)]),H))
 (BO p0 p1 H H)
theorem MJ:BQ x6 H0 H =
 some ((.tuple [x6,(J zA 0)]),H):=Z9 bp
theorem MK:BS x0 x6 x48 x49 x50 H0 H =
 Z0 (Z5 .add x50 (J zA 1)) fun g=>
 YB x0 x6 x48 x49 g H0 H:=Z9 bp
theorem ML:BT x0 x6 x48 x49 x50 H0 H =
 Z0 (Wh [x0] H) fun g=>
 BS x0 x6 x48 x49 x50 H0 g.2:=Z9 bp
theorem KO:BR x0 x6 x48 x49 x50 x51 H0 H =
 Z0 (Zo 1 x48 x50) fun h=>
 Z0 (Z3 false 1 h H) fun j=>
 Z0 (Zu x0) fun u=>
 Z0 (Z6 0 u) fun w=>
 Z0 (Z3 false 1 w H) fun y=>
 Z0 (WW [y,j] H) fun g=>
 Z0 (Z5 .neq g.1 (J zA 0)) fun z=>
 Zj z
 (some ((.tuple [(.str []),g.1]),g.2))
 (BT x0 x6 x48 x49 x50 H0 g.2):=Z9 bp
theorem VZ:YB x0 x6 x48 x49 x50 H0 H =
 Z0 (Z5 .lss x50 x49) fun g=>
 Zj g
 (BR x0 x6 x48 x49 x50 g H0 H)
 (BQ x6 H0 H):=(ZC (C:=cfg) [3,6,10,14,15,16] (Zn 0 (N7 H0)) _ _).trans (by kernel_rfl)
theorem MI:BP x0 x1 x6 H0 H =
 Z0 (Zu x0) fun j=>
 Z0 (Z6 13 j) fun u=>
 Z0 (Z6 1 u) fun w=>
 Z0 (Z3 false 1 w H) fun y=>
 Z0 (Z5 .add y (J zA 1)) fun z=>
 Z0 (Zu x0) fun A=>
 Z0 (Z6 13 A) fun B=>
 Z0 (Z6 1 B) fun C=>
 Z0 (Za 1 C z H) fun g=>
 Z0 (Wh [x0] g.2) fun h=>
 Z0 (Zk (.slice 9) x1) fun D=>
 YB x0 x6 x1 D (J zA 0) H0 h.2:=Z9 bp
theorem KN:BO x0 x1 H0 H =
 Z0 (Zu x0) fun j=>
 Z0 (Z6 0 j) fun u=>
 Z0 (Z3 false 1 u H) fun w=>
 Z0 (Zu x0) fun y=>
 Z0 (Z6 1 y) fun z=>
 Z0 (Z3 true 6 z H) fun A=>
 Z0 (Zu x0) fun B=>
 Z0 (Z6 7 B) fun C=>
 Z0 (Z3 true 5 C H) fun D=>
 Z0 (Qh [w,A,D,x1] H) fun g=>
 Z0 (ZL g.1 0) fun E=>
 Z0 (ZL g.1 1) fun h=>
 Z0 (Z5 .neq h (J zA 0)) fun F=>
 Zj F
 (some ((.tuple [(.str []),h]),g.2))
 (BP x0 x1 E H0 g.2):=Z9 bp
theorem LS:Vh [p0,p1] H=DT p0 p1 H:=Be 67 [3,6,10,14,15,16] Tryz.func78
def Zev:Z4:=bg 79 11 Tryz.f79 [1,1] H0 [(0,x0),(1,x1)] H
def ZfL:Z4:=
 Z0 (Yr (.pointer 124) .eql p0 .nilp) fun g=>
 Zj g
 (some (.nilp,H))
 (Zev p0 p1 H H)
theorem ZiP:Zev x0 x1 H0 H =
 Z0 ((YS [(0,1,x0),(1,1,x1)] [.nilp,(.str []),(J zA 0),(.bool false),(.bool false),(.str [])]).map .agg) fun t9=>
 Z0 (ZQ t9 H) fun g=>
 some (g.1,g.2):=Z9 [3]
theorem Zjg:NC [p0,p1] H=ZfL p0 p1 H:=Be 11 [3] Tryz.func79
def ZfK:Z4:=
 Z0 (ZQ p0 H) fun I=>
 Z0 (ZQ p1 I.2) fun w=>
 Z0 (Z6 0 w.1) fun L=>
 Z0 (Z3 false 1 L w.2) fun M=>
 Z0 (Y9 5 40 .nils M w.2) fun K=>
 Z0 (Z6 0 w.1) fun A=>
 Z0 (Za 1 A K.1 K.2) fun z=>
 Qd w.1 z.2 fun z4 y=>
 Z0 (Z3 true 6 I.1 y) fun B=>
 Z0 (Zh Bj [B] y) fun g=>
 Z0 (Jy true 5 z4) fun C=>
 Z0 (Z3 true 5 z4 g.2) fun D=>
 Z0 (Zh Wv [D] g.2) fun h=>
 Z0 (Z5 .eql h.1 (J zA 0)) fun E=>
 Z0 (Y9 1 8 .nils p2 h.2) fun j=>
 Z0 ((YS [(0,6,g.1),(6,5,C),(11,1,E),(12,1,j.1)] [(.str []),.nils,(.str []),(.str []),.nils,.nils,.nils,(J zA 0),(J zA 0),(.bool false),(.bool false),(.bool false),.nils,(.str []),(.bool false)]).map .agg) fun F=>
 Z0 (ZQ F j.2) fun u=>
 some (u.1,u.2)
theorem Zjf:NB [p0,p1,p2] H=ZfK p0 p1 p2 H:=Be 21 [] Tryz.func80
def Km:Z4:=ZR 81 61 (bh Tryz.f81 [1,1,0,0,0,1,1,1]) (Z7 1 (Zc (Wd 81 61 Tryz.f81 [1,1,0,0]) (Z7 0 (Zf cfg 61 81 Tryz.f81 H0)))) [(0,x0),(5,x5)] H
def Kk:Z4:=ZR 81 61 (bh Tryz.f81 [1,1,0,0,0,1,1]) (Z7 1 (Zc (Wd 81 61 Tryz.f81 [1,1,0,0]) (Z7 0 (Zf cfg 61 81 Tryz.f81 H0)))) [(0,x0),(5,x5)] H
def Yw:Z4:=Dx 81 61 (bh Tryz.f81 [1,1,0,0]) (Z7 0 (Zf cfg 61 81 Tryz.f81 H0)) [(0,x0)] H
def TN:Z4:=bg 81 61 Tryz.f81 [1,1] H0 [(0,x0)] H
def Pa:Z4:=
 Z0 (Yr (.pointer 153) .eql p0 .nilp) fun t9=>
 Zj t9
 (some ((.tuple [(.str []),(.bool false),(J zA 5)]),H))
 (TN p0 H H)
theorem Hu:Km x0 x5 H0 H =
 Z0 (Zu x0) fun j=>
 Z0 (Z6 14 j) fun u=>
 Z0 (Za 1 u (.bool true) H) fun h=>
 Z0 (Zu x0) fun w=>
 Z0 (Z6 13 w) fun y=>
 Z0 (Za 1 y x5 h.2) fun g=>
 some ((.tuple [x5,(.bool true),(J zA 0)]),g.2):=Z9 [3,6,7]
theorem Ht:Kk x0 x5 H0 H =
 Z0 (Zu x0) fun w=>
 Z0 (Z6 14 w) fun y=>
 Z0 (Z3 false 1 y H) fun j=>
 Z0 (Z8 j true ap (some x0)) fun z=>
 Z0 (Z8 j true ap (Zu z)) fun A=>
 Z0 (Z8 j true ap (Z6 11 A)) fun B=>
 Z0 (Z8 j true ap (Z3 false 1 B H)) fun C=>
 Z0 (Zi j C (.bool false)) fun h=>
 Z0 (Z8 h true ap (some x0)) fun D=>
 Z0 (Z8 h true ap (Zu D)) fun E=>
 Z0 (Z8 h true ap (Z6 6 E)) fun F=>
 Z0 (Z8 h true ap (Z6 3 F)) fun I=>
 Z0 (Z8 h true ap (Z3 false 1 I H)) fun K=>
 Z0 (Zi h K (.bool false)) fun g=>
 Z0 (Z8 g true ap (some x0)) fun t37=>
 Z0 (Z8 g true ap (Zu t37)) fun L=>
 Z0 (Z8 g true ap (Z6 0 L)) fun M=>
 Z0 (Z8 g true ap (Z3 true 6 M H)) fun N=>
 Z0 (Z8 g true ap (some x0)) fun O=>
 Z0 (Z8 g true ap (Zu O)) fun Q=>
 Z0 (Z8 g true ap (Z6 6 Q)) fun R=>
 Z0 (Z8 g true ap (Z3 true 5 R H)) fun S=>
 Z0 (Z8 g true ap (some x0)) fun T=>
 Z0 (Z8 g true ap (Zu T)) fun U=>
 Z0 (Z8 g true ap (Z6 13 U)) fun V=>
 Z0 (Z8 g true ap (Z3 false 1 V H)) fun W=>
 Z0 (Z8 g true ap (some x5)) fun X=>
 Z0 (Z8 g true (ap,H) (Zh WN [N,S,W,X] H)) fun u=>
 Z0 (Z8 g true ap (Z5 .eql u.1 (J zA 0))) fun Y=>
 Z0 (Zi g Y (.bool false)) fun Z=>
 Zj Z
 (Yw x0 H0 u.2)
 (Km x0 x5 H0 u.2):=Z9 [3,6,7]
theorem YZ:Yw x0 H0 H =
 Z0 (UT [x0] H) fun g=>
 Z0 (ZL g.1 0) fun h=>
 Z0 (ZL g.1 1) fun j=>
 Z0 (ZL g.1 2) fun u=>
 Z0 (XL .not j) fun w=>
 Zj w
 (some ((.tuple [(.str []),(.bool false),u]),g.2))
 (Kk x0 h H0 g.2):=(ZC (C:=cfg) [3,6,7] (Zn 0 (Zy 81 Tryz.f81 H0)) _ _).trans (by kernel_rfl)
theorem Hs:TN x0 H0 H =
 Yw x0 H0 H:=Z9 [3,6,7]
theorem AW:XR [p0] H=Pa p0 H:=Be 61 [3,6,7] Tryz.func81
def Oz:Z4:=bg 101 74 Tryz.f101 [1,1,1,1,1,1,1,1,1] H0 [(10,x10)] H
def Nr:Z4:=bg 101 74 Tryz.f101 [1,1,1,1,1,1,1,1] H0 [(0,x0),(10,x10)] H
def Bv:KL:=Zc (Dq 101 74 Tryz.f101 [1,1,1,1,1,1,1,1]) (Zf cfg 74 101 Tryz.f101 H0)
theorem Zck:ZS 74 (Bv H0):=Zw (C:=cfg) (kp:=cfg.keep 101) (bh Tryz.f101 [1,1,1,1,1,1,1,1]) (Zy 101 Tryz.f101 H0)
def OB:Z4:=ZR 101 74 (bh Tryz.f101 [1,1,1,1,1,1,1,0,0,0,0,1,1,1]) (Z7 3 (Zc (Wd 101 74 Tryz.f101 [1,1,1,1,1,1,1,0,0,0]) (Z7 2 (Bv H0)))) [(0,x0),(10,x10),(15,x15),(16,x16)] H
def OA:Z4:=ZR 101 74 (bh Tryz.f101 [1,1,1,1,1,1,1,0,0,0,0,1,1]) (Z7 3 (Zc (Wd 101 74 Tryz.f101 [1,1,1,1,1,1,1,0,0,0]) (Z7 2 (Bv H0)))) [(0,x0),(10,x10),(15,x15),(16,x16),(17,x17)] H
def Wl:Z4:=Dx 101 74 (bh Tryz.f101 [1,1,1,1,1,1,1,0,0,0]) (Z7 2 (Bv H0)) [(0,x0),(10,x10),(15,x15)] H
def Nq:Z4:=bg 101 74 Tryz.f101 [1,1,1,1,1,1] H0 [(0,x0),(5,x5),(6,x6),(10,x10),(12,x12)] H
def Bw:KL:=Zc (Dq 101 74 Tryz.f101 [1,1,1,1,1,1]) (Zf cfg 74 101 Tryz.f101 H0)
theorem Zcl:ZS 74 (Bw H0):=Zw (C:=cfg) (kp:=cfg.keep 101) (bh Tryz.f101 [1,1,1,1,1,1]) (Zy 101 Tryz.f101 H0)
def OD:Z4:=ZR 101 74 (bh Tryz.f101 [1,1,1,1,1,0,1,0,0,1,1,1]) (Zc (Wd 101 74 Tryz.f101 [1,1,1,1,1,0,1,0,0]) (Z7 0 (Bw H0))) [(0,x0),(5,x5),(6,x6),(10,x10),(12,x12),(31,x31),(32,x32),(33,x33)] H
def OC:Z4:=ZR 101 74 (bh Tryz.f101 [1,1,1,1,1,0,1,0,0,1,1]) (Zc (Wd 101 74 Tryz.f101 [1,1,1,1,1,0,1,0,0]) (Z7 0 (Bw H0))) [(0,x0),(5,x5),(6,x6),(10,x10),(12,x12),(31,x31),(32,x32),(33,x33),(34,x34)] H
def Bx:Z4:=Dx 101 74 (bh Tryz.f101 [1,1,1,1,1,0,1,0,0]) (Z7 0 (Bw H0)) [(0,x0),(5,x5),(6,x6),(10,x10),(12,x12),(31,x31),(32,x32),(33,x33)] H
def Oy:Z4:=bg 101 74 Tryz.f101 [1,1,1,1] H0 [(0,x0),(3,x3),(5,x5),(6,x6),(10,x10)] H
def Np:Z4:=bg 101 74 Tryz.f101 [1,1] H0 [(0,x0),(3,x3),(5,x5),(6,x6)] H
def Zbv:Z4:=
 Z0 (ZQ p1 H) fun j=>
 Z0 (ZQ p2 j.2) fun g=>
 Z0 (Yr (.pointer 124) .eql p0 .nilp) fun h=>
 Zj h
 (some ((.tuple [(.str []),(J zA 5)]),g.2))
 (Np p0 p3 j.1 g.1 H g.2)
theorem Zfx:Oz x10 H0 H =
 some ((.tuple [x10,(J zA 0)]),H):=Z9 br
theorem LJ:Nr x0 x10 H0 H =
 Z0 (VM [x0,x10] H) fun g=>
 Z0 (Z5 .neq g.1 (J zA 0)) fun h=>
 Zj h
 (some ((.tuple [(.str []),g.1]),g.2))
 (Oz x10 H0 g.2):=Z9 br
theorem LK:OB x0 x10 x15 x16 H0 H =
 Z0 ((ZB 1 [(0,x16)] [(.str [])]).map (.vs 1 .clip)) fun h=>
 Z0 (Vl [x0,x10,h] H) fun g=>
 Z0 (Z5 .neq g.1 (J zA 0)) fun j=>
 Zj j
 (some ((.tuple [(.str []),g.1]),g.2))
 (Wl x0 x10 x15 H0 g.2):=Z9 br
theorem Jm:OA x0 x10 x15 x16 x17 H0 H =
 Z0 (XL .not x17) fun g=>
 Zj g
 (Nr x0 x10 H0 H)
 (OB x0 x10 x15 x16 H0 H):=Z9 br
theorem WR:Wl x0 x10 x15 H0 H =
 Z0 (XR [x15] H) fun g=>
 Z0 (ZL g.1 0) fun j=>
 Z0 (ZL g.1 1) fun u=>
 Z0 (ZL g.1 2) fun h=>
 Z0 (Z5 .neq h (J zA 0)) fun w=>
 Zj w
 (some ((.tuple [(.str []),h]),g.2))
 (OA x0 x10 x15 j u H0 g.2):=(ZC (C:=cfg) [3,6,9,11,12,16,17,20,23] (Zn 2 (Zck H0)) _ _).trans (by kernel_rfl)
theorem Zfw:Nq x0 x5 x6 x10 x12 H0 H =
 Z0 (Z3 true 6 x5 H) fun h=>
 Z0 (Z3 true 5 x6 H) fun j=>
 Z0 (NB [h,j,x12] H) fun g=>
 Wl x0 x10 g.1 H0 g.2:=Z9 br
theorem Zfz:OD x0 x5 x6 x10 x12 x31 x32 x33 H0 H =
 Z0 (Z5 .add x33 (J zA 1)) fun g=>
 Bx x0 x5 x6 x10 x12 x31 x32 g H0 H:=Z9 br
theorem Zfy:OC x0 x5 x6 x10 x12 x31 x32 x33 x34 H0 H =
 Z0 (Zo 1 x31 x33) fun j=>
 Z0 (Z3 false 1 j H) fun u=>
 Z0 (NC [x0,u] H) fun g=>
 Z0 ((ZB 1 [(0,g.1)] [.nilp]).map (.vs 1 .clip)) fun w=>
 Z0 (Y9 1 8 x12 w g.2) fun h=>
 OD x0 x5 x6 x10 h.1 x31 x32 x33 H0 h.2:=Z9 br
theorem LM:Bx x0 x5 x6 x10 x12 x31 x32 x33 H0 H =
 Z0 (Z5 .lss x33 x32) fun g=>
 Zj g
 (OC x0 x5 x6 x10 x12 x31 x32 x33 g H0 H)
 (Nq x0 x5 x6 x10 x12 H0 H):=(ZC (C:=cfg) [3,6,9,11,12,16,17,20,23] (Zn 0 (Zcl H0)) _ _).trans (by kernel_rfl)
theorem Zfv:Oy x0 x3 x5 x6 x10 H0 H =
 Z0 (Zk (.slice 9) x3) fun g=>
 Bx x0 x5 x6 x10 .nils x3 g (J zA 0) H0 H:=Z9 br
theorem LI:Np x0 x3 x5 x6 H0 H =
 Z0 (Ue [x0] H) fun g=>
 Z0 (ZL g.1 0) fun j=>
 Z0 (ZL g.1 1) fun h=>
 Z0 (Z5 .neq h (J zA 0)) fun u=>
 Zj u
 (some ((.tuple [(.str []),h]),g.2))
 (Oy x0 x3 x5 x6 j H0 g.2):=Z9 br
theorem Zgn:Qh [p0,p1,p2,p3] H=Zbv p0 p1 p2 p3 H:=Be 74 [3,6,9,11,12,16,17,20,23] Tryz.func101
def TP:Z4:=bg 104 67 Tryz.f104 [1,1,1,1,1,1,1,1] H0 [(13,x13)] H
def TO:Z4:=bg 104 67 Tryz.f104 [1,1,1,1,1,1] H0 [(1,x1),(5,x5)] H
def WG:Z4:=bg 104 67 Tryz.f104 [1,1,1,1,1] H0 [(1,x1),(5,x5),(7,x7)] H
def WH:KL:=Zc (Dq 104 67 Tryz.f104 [1,1,1,1,1]) (Zf cfg 67 104 Tryz.f104 H0)
theorem Ew:ZS 67 (WH H0):=Zw (C:=cfg) (kp:=cfg.keep 104) (bh Tryz.f104 [1,1,1,1,1]) (Zy 104 Tryz.f104 H0)
def Ko:Z4:=ZR 104 67 (bh Tryz.f104 [1,1,1,1,0,1,0,0,1,1,1]) (Zc (Wd 104 67 Tryz.f104 [1,1,1,1,0,1,0,0]) (Z7 0 (WH H0))) [(1,x1),(5,x5),(6,x6),(7,x7),(20,x20),(21,x21),(22,x22)] H
def Zb2:KL:=Zc (Dq 104 67 Tryz.f104 [1,1,1,1,0,1,0,0,1,1,1]) (Zc (Wd 104 67 Tryz.f104 [1,1,1,1,0,1,0,0]) (Z7 0 (WH H0)))
def TR:Z4:=ZR 104 67 (bh Tryz.f104 [1,1,1,1,0,1,0,0,1,1,0,0,1,1,1]) (Z7 1 (Zb2 H0)) [(1,x1),(5,x5),(6,x6),(7,x7),(8,x8),(10,x10),(11,x11),(20,x20),(21,x21),(22,x22)] H
def TQ:Z4:=ZR 104 67 (bh Tryz.f104 [1,1,1,1,0,1,0,0,1,1]) (Zc (Wd 104 67 Tryz.f104 [1,1,1,1,0,1,0,0]) (Z7 0 (WH H0))) [(1,x1),(5,x5),(6,x6),(7,x7),(20,x20),(21,x21),(22,x22),(23,x23)] H
def Yl:Z4:=Dx 104 67 (bh Tryz.f104 [1,1,1,1,0,1,0,0]) (Z7 0 (WH H0)) [(1,x1),(5,x5),(6,x6),(7,x7),(20,x20),(21,x21),(22,x22)] H
def Pb:Z4:=
 Z0 (ZQ p0 H) fun g=>
 Z0 (some ((.ptr g.2.length 0),g.2++[.cells [(.str []),(J zA 0),(.bool false)]])) fun j=>
 Z0 (some (.fn (.func 128) [] [g.1])) fun u=>
 Z0 (Z3 false 1 g.1 j.2) fun w=>
 Z0 (Zu w) fun y=>
 Z0 (Z6 12 y) fun z=>
 Z0 (Z3 false 1 z j.2) fun h=>
 Z0 (Zk (.slice 130) h) fun A=>
 Yl g.1 j.1 u (J zA 0) h A (J zA 0) H j.2
theorem Hv:TP x13 H0 H =
 some ((.tuple [x13,(.bool true),(J zA 0)]),H):=Z9 bt
theorem Db:TO x1 x5 H0 H =
 Z0 (Z3 false 1 x1 H) fun j=>
 Z0 (Zu j) fun u=>
 Z0 (Z6 12 u) fun w=>
 Z0 (Z3 false 1 w H) fun y=>
 Z0 (Z6 1 x5) fun z=>
 Z0 (Z3 false 1 z H) fun A=>
 Z0 (Zo 1 y A) fun B=>
 Z0 (Z3 false 1 B H) fun C=>
 Z0 (Qo [C] H) fun g=>
 Z0 (ZL g.1 0) fun D=>
 Z0 (ZL g.1 1) fun F=>
 Z0 (ZL g.1 2) fun h=>
 Z0 (Z5 .neq h (J zA 0)) fun E=>
 Zj E
 (some ((.tuple [(.str []),(.bool false),h]),g.2))
 (TP D H0 g.2):=Z9 bt
theorem V0:WG x1 x5 x7 H0 H =
 Z0 (Z5 .neq x7 (J zA 0)) fun g=>
 Z0 (Z8 g false ap (Z6 2 x5)) fun h=>
 Z0 (Z8 g false ap (Z3 false 1 h H)) fun j=>
 Z0 (Z8 g false ap (XL .not j)) fun u=>
 Z0 (Zi g (.bool true) u) fun w=>
 Zj w
 (some ((.tuple [(.str []),(.bool false),x7]),H))
 (TO x1 x5 H0 H):=Z9 bt
theorem Dc:Ko x1 x5 x6 x7 x20 x21 x22 H0 H =
 Z0 (Z5 .add x22 (J zA 1)) fun g=>
 Yl x1 x5 x6 x7 x20 x21 g H0 H:=Z9 bt
theorem Dd:TR x1 x5 x6 x7 x8 x10 x11 x20 x21 x22 H0 H =
 Zj x11
 (Z0 (Vb [x5,x8,x10,x6] H) fun g=>
 Ko x1 x5 x6 x7 x20 x21 x22 H0 g.2)
 (Ko x1 x5 x6 x7 x20 x21 x22 H0 H):=Z9 bt
theorem Qe:TQ x1 x5 x6 x7 x20 x21 x22 x23 H0 H =
 Z0 (Zo 1 x20 x22) fun j=>
 Z0 (Z3 false 1 j H) fun u=>
 Z0 (Vw [u] H) fun g=>
 Z0 (ZL g.1 0) fun w=>
 Z0 (ZL g.1 1) fun y=>
 Z0 (ZL g.1 2) fun h=>
 Z0 (Z5 .neq h (J zA 0)) fun z=>
 Zj z
 (WG x1 x5 h H0 g.2)
 (TR x1 x5 x6 x7 x22 w y x20 x21 x22 H0 g.2):=Z9 bt
theorem V1:Yl x1 x5 x6 x7 x20 x21 x22 H0 H =
 Z0 (Z5 .lss x22 x21) fun g=>
 Zj g
 (TQ x1 x5 x6 x7 x20 x21 x22 g H0 H)
 (WG x1 x5 x7 H0 H):=(ZC (C:=cfg) [6,10,12,13,15,18] (Zn 0 (Ew H0)) _ _).trans (by kernel_rfl)
theorem AX:UT [p0] H=Pb p0 H:=Be 67 [6,10,12,13,15,18] Tryz.func104
def Rm:Z4:=
 Z0 (Z3 false 1 p2 H) fun I=>
 Z0 (Zu I) fun K=>
 Z0 (Z6 11 K) fun L=>
 Z0 (Z3 false 1 L H) fun t9=>
 Z0 (Z8 t9 true ap (Z3 false 1 p2 H)) fun h=>
 Z0 (Z8 t9 true ap (Zu h)) fun j=>
 Z0 (Z8 t9 true ap (Z6 0 j)) fun u=>
 Z0 (Z8 t9 true ap (Z3 true 6 u H)) fun w=>
 Z0 (Z8 t9 true ap (Z3 false 1 p2 H)) fun y=>
 Z0 (Z8 t9 true ap (Zu y)) fun z=>
 Z0 (Z8 t9 true ap (Z6 6 z)) fun A=>
 Z0 (Z8 t9 true ap (Z3 true 5 A H)) fun B=>
 Z0 (Z8 t9 true ap (some p0)) fun C=>
 Z0 (Z8 t9 true ap (some p1)) fun D=>
 Z0 (Z8 t9 true (ap,H) (Zh Qp [w,B,C,D] H)) fun g=>
 Z0 (Z8 t9 true ap (Z5 .lss g.1 (J zA 0))) fun E=>
 Z0 (Zi t9 E (.bool false)) fun F=>
 some (F,g.2)
theorem Sh:Js [p0,p1,p2] H=Rm p0 p1 p2 H:=Be 24 [] Tryz.func128
def Pw:Z4:=bg 129 68 Tryz.f129 [1,1,1,1] H0 [(0,x0)] H
def Q2:Z4:=bg 129 68 Tryz.f129 [1,1,1] H0 [(0,x0)] H
def Pv:Z4:=bg 129 68 Tryz.f129 [1,1] H0 [(0,x0)] H
def NQ:Z4:=
 Z0 (Yr (.pointer 150) .eql p0 .nilp) fun t9=>
 Zj t9
 (some ((.tuple [(.str []),(.bool false),(J zA 5)]),H))
 (Pv p0 H H)
theorem Fp:Pw x0 H0 H =
 Z0 (Zu x0) fun g=>
 Z0 (Z6 5 g) fun h=>
 Z0 (Z3 false 1 h H) fun j=>
 some ((.tuple [j,(.bool true),(J zA 0)]),H):=Z9 [3,11,13]
theorem Vs:Q2 x0 H0 H =
 Z0 (Zu x0) fun g=>
 Z0 (Z6 3 g) fun h=>
 Z0 (Z3 false 1 h H) fun j=>
 Z0 (XL .not j) fun u=>
 Zj u
 (some ((.tuple [(.str []),(.bool false),(J zA 0)]),H))
 (Pw x0 H0 H):=Z9 [3,11,13]
theorem W2:Pv x0 H0 H =
 Z0 (Zu x0) fun A=>
 Z0 (Z6 3 A) fun B=>
 Z0 (Z3 false 1 B H) fun C=>
 Z0 (XL .not C) fun h=>
 Z0 (Z8 h true ap (some x0)) fun D=>
 Z0 (Z8 h true ap (Zu D)) fun E=>
 Z0 (Z8 h true ap (Z6 4 E)) fun F=>
 Z0 (Z8 h true ap (Z3 false 1 F H)) fun I=>
 Z0 (Z8 h true ap (XL .not I)) fun K=>
 Z0 (Zi h K (.bool false)) fun L=>
 Zj L
 (Z0 (Zu x0) fun M=>
 Z0 (Z6 0 M) fun N=>
 Z0 (Z3 false 1 N H) fun O=>
 Z0 (Zu x0) fun Q=>
 Z0 (Z6 1 Q) fun R=>
 Z0 (Z3 false 1 R H) fun S=>
 Z0 (Zu x0) fun T=>
 Z0 (Z6 2 T) fun U=>
 Z0 (Z3 false 1 U H) fun V=>
 Z0 (VL [O,S,V] H) fun g=>
 Z0 (ZL g.1 0) fun W=>
 Z0 (ZL g.1 1) fun t37=>
 Z0 (ZL g.1 2) fun j=>
 Z0 (Z5 .eql j (J zA 0)) fun X=>
 Zj X
 (Z0 (Zu x0) fun Y=>
 Z0 (Z6 5 Y) fun Z=>
 Z0 (Za 1 Z W g.2) fun u=>
 Z0 (Zu x0) fun aa=>
 Z0 (Z6 2 aa) fun ab=>
 Z0 (Za 1 ab t37 u.2) fun w=>
 Z0 (Zu x0) fun ac=>
 Z0 (Z6 3 ac) fun ad=>
 Z0 (Za 1 ad (.bool true) w.2) fun y=>
 Q2 x0 H0 y.2)
 (Z0 (Z5 .eql j (J zA 5)) fun ae=>
 Zj ae
 (Z0 (Zu x0) fun af=>
 Z0 (Z6 4 af) fun ag=>
 Z0 (Za 1 ag (.bool true) g.2) fun z=>
 Q2 x0 H0 z.2)
 (some ((.tuple [(.str []),(.bool false),j]),g.2))))
 (Q2 x0 H0 H):=Z9 [3,11,13]
theorem IX:Vw [p0] H=NQ p0 H:=Be 68 [3,11,13] Tryz.func129
def Ju:Z4:=
 Z0 (Zu p0) fun t9=>
 Z0 (Z6 2 t9) fun u=>
 Z0 (Z3 false 1 u H) fun w=>
 Z0 (XL .not w) fun g=>
 Z0 (Z8 g false ap (some p3)) fun y=>
 Z0 (Z8 g false ap (some p2)) fun z=>
 Z0 (Z8 g false ap (some p0)) fun A=>
 Z0 (Z8 g false ap (Zu A)) fun B=>
 Z0 (Z8 g false ap (Z6 0 B)) fun C=>
 Z0 (Z8 g false ap (Z3 false 1 C H)) fun D=>
 Z0 (Z8 g false (ap,H) (Yf cfg (Zb cfg) y [z,D] H)) fun h=>
 Z0 (Zi g (.bool true) h.1) fun E=>
 Zj E
 (Z0 ((YS [(0,1,p2),(1,1,p1),(2,1,(.bool true))] [(.str []),(J zA 0),(.bool false)]).map .agg) fun F=>
 Z0 (Zu p0) fun I=>
 Z0 (Za 3 I F h.2) fun j=>
 some (ap,j.2))
 (some (ap,h.2))
theorem RN:Vb [p0,p1,p2,p3] H=Ju p0 p1 p2 p3 H:=Be 27 [] Tryz.func130
def Gl:Z4:=bg 131 24 Tryz.f131 [1,1,1] H0 [(5,x5),(6,x6),(7,x7)] H
def NP:Z4:=
 Z0 (Vw [p0] H) fun g=>
 Z0 (ZL g.1 0) fun u=>
 Z0 (ZL g.1 1) fun h=>
 Z0 (ZL g.1 2) fun w=>
 Zj h
 (Z0 (Zu p0) fun z=>
 Z0 (Z6 3 z) fun A=>
 Z0 (Za 1 A (.bool false) g.2) fun y=>
 Z0 (Zu p0) fun B=>
 Z0 (Z6 5 B) fun C=>
 Z0 (Za 1 C (.str []) y.2) fun j=>
 Gl u h w H j.2)
 (Gl u h w H g.2)
theorem QW:Gl x5 x6 x7 H0 H =
 some ((.tuple [x5,x6,x7]),H):=Z9 [4]
theorem IW:Qo [p0] H=NP p0 H:=Be 24 [4] Tryz.func131
end
end Go.Am
