/- The functions of the translation over the abstract machine -/
import Derived.Test.YtnaneekpogohaaaGreatDoorXeGx
open Go.Am.AV renaming int->J
open Go.IntKind renaming i64->zA
namespace Go.Am
open Go.Proofs
set_option maxRecDepth 100000
noncomputable abbrev ZL (f n:Nat):=Yn cfg (Zb cfg) (Y5 cfg (cfg.keep f) n) (cfg.keep f) n Zc Z8
noncomputable abbrev KU (f n:Nat):=Y5 cfg (cfg.keep f) n
noncomputable section
abbrev JD (f n:Nat)(F:Func)(p:List Nat):KL->AL->Hp->Z5:=fun k g H=>ZL f n (sub (Z1 F) p) k (Y4 (cfg.keep f) (sub (Z1 F) p) g) H
abbrev Xh (f n:Nat)(F:Func)(p:List Nat):KL->AL->Hp->Z5:=fun k g H=>KU f n (sub (Z1 F) p) k (Y4 (cfg.keep f) (sub (Z1 F) p) g) H
variable (p0 p1 p2 p3 p4 x0 x1 x3 x4 x5 x6 x7 x8 x9 x10 x11 x12 x13 x14 x15 x16 x17 x18 x19 x20 x21 x22 x23 x25 x26 x27 x28 x31 x32 x33 x34 x35 x48 x49 x50 x51:AV)(H0 H:Hp)
abbrev bf (F:Func):=sub (Z1 F)
abbrev bg:List Nat:=[4,7,13,14,17,20,24,900002]
abbrev bh:List Nat:=[3,6,10,11,12]
abbrev bi:List Nat:=[3,6,9,12,13,14,16,17,18]
abbrev bj:List Nat:=[3,6,8,10,12,15,16]
abbrev bk:List Nat:=[4,8,10,11,14,15,16]
abbrev bn:List Nat:=[4,6,7,12,14]
abbrev bo:List Nat:=[3,6,10,14,15,16]
abbrev bp:List Nat:=[3,6,9,11,12,16,17,20,23]
abbrev br:List Nat:=[6,10,12,13,15,18]
def XM:Z5:=ZL 20 86 (sub (UJ cfg 20 Tryz.f20) [1,1,1,1,1,1,1]) (Zf cfg 86 20 Tryz.f20 H0) [(10,x10),(11,x11),(12,x12),(35,x35)] H
def VF:KL:=Zc (fun k g H=>ZL 20 86 (sub (UJ cfg 20 Tryz.f20) [1,1,1,1,1,1,1]) k (Y4 (cfg.keep 20) (sub (UJ cfg 20 Tryz.f20) [1,1,1,1,1,1,1]) g) H) (Zf cfg 86 20 Tryz.f20 H0)
theorem Zac:ZS 86 (VF H0):=Zw (C:=cfg) (kp:=cfg.keep 20) (sub (UJ cfg 20 Tryz.f20) [1,1,1,1,1,1,1]) (Zz 20 Tryz.f20 H0)
def HG:Z5:=ZL 20 86 (sub (UJ cfg 20 Tryz.f20) [1,1,1,1,1,1,0,0,1,1,1,1,1,1,1]) (Z8 900001 (VF H0)) [(10,x10),(11,x11),(12,x12),(16,x16),(35,x35)] H
def HF:Z5:=ZL 20 86 (sub (UJ cfg 20 Tryz.f20) [1,1,1,1,1,1,0,0,1,1,1,1,1]) (Z8 900001 (VF H0)) [(10,x10),(11,x11),(12,x12),(14,x14),(15,x15),(16,x16),(35,x35)] H
def Ql:Z5:=ZL 20 86 (sub (UJ cfg 20 Tryz.f20) [1,1,1,1,1,1,0,0,1,1,1]) (Z8 900001 (VF H0)) [(11,x11),(12,x12),(14,x14),(15,x15),(16,x16),(35,x35)] H
def T9:KL:=Zc (fun k g H=>ZL 20 86 (sub (UJ cfg 20 Tryz.f20) [1,1,1,1,1,1,0,0,1,1,1]) k (Y4 (cfg.keep 20) (sub (UJ cfg 20 Tryz.f20) [1,1,1,1,1,1,0,0,1,1,1]) g) H) (Z8 900001 (VF H0))
theorem Zad:ZS 86 (T9 H0):=Zw (C:=cfg) (kp:=cfg.keep 20) (sub (UJ cfg 20 Tryz.f20) [1,1,1,1,1,1,0,0,1,1,1]) (Zn 900001 (Zac H0))
def HH:Z5:=ZL 20 86 (sub (UJ cfg 20 Tryz.f20) [1,1,1,1,1,1,0,0,1,1,0,0,0,1]) (Zc (fun k g H=>KU 20 86 (sub (UJ cfg 20 Tryz.f20) [1,1,1,1,1,1,0,0,1,1,0,0,0]) k (Y4 (cfg.keep 20) (sub (UJ cfg 20 Tryz.f20) [1,1,1,1,1,1,0,0,1,1,0,0,0]) g) H) (Z8 0 (T9 H0))) [(8,x8),(11,x11),(12,x12),(14,x14),(15,x15),(16,x16),(35,x35)] H
def XN:Z5:=KU 20 86 (sub (UJ cfg 20 Tryz.f20) [1,1,1,1,1,1,0,0,1,1,0,0,0]) (Z8 0 (T9 H0)) [(8,x8),(11,x11),(12,x12),(14,x14),(15,x15),(16,x16),(35,x35)] H
def HE:Z5:=ZL 20 86 (sub (UJ cfg 20 Tryz.f20) [1,1,1,1,1,1,0,0,1,1]) (Z8 900001 (VF H0)) [(8,x8),(11,x11),(12,x12),(14,x14),(15,x15),(16,x16),(35,x35)] H
def HD:Z5:=ZL 20 86 (sub (UJ cfg 20 Tryz.f20) [1,1,1,1]) (Zf cfg 86 20 Tryz.f20 H0) [(4,x4),(6,x6),(7,x7),(8,x8),(11,x11),(12,x12),(14,x14)] H
def T8:Z5:=ZL 20 86 (sub (UJ cfg 20 Tryz.f20) [1,1]) (Zf cfg 86 20 Tryz.f20 H0) [(0,x0),(4,x4),(6,x6),(7,x7),(8,x8),(11,x11),(12,x12)] H
def Il:Z5:=
 Z0 (ZO p1 H) fun I=>
 Z0 (ZO p2 I.2) fun z=>
 Z0 (ZO p3 z.2) fun y=>
 Z0 (some ((.ptr y.2.length 0),y.2++[.cells [(J zA 0),(J zA 0),(J zA 0),(J zA 0)]])) fun h=>
 Z0 (some ((.ptr h.2.length 0),h.2++[.cells [(J zA 0)]])) fun g=>
 Z0 (Z3 true 5 z.1 g.2) fun A=>
 Z0 (Z3 true 2 y.1 g.2) fun B=>
 Z0 (Rp [p0,A,B,p4] g.2) fun u=>
 Z0 (Z4 .neq u.1 (J zA 0)) fun C=>
 Zj C
 (Z0 (some (.agg [(J zA 0),(J zA 0),(J zA 0),(J zA 0)])) fun D=>
 Z0 (Za 4 h.1 D u.2) fun w=>
 Z0 (Za 1 g.1 u.1 w.2) fun j=>
 Z0 (Z3 true 4 h.1 j.2) fun E=>
 Z0 (Z3 false 1 g.1 j.2) fun F=>
 some ((.tuple [.nils,E,F]),j.2))
 (T8 p0 p4 I.1 z.1 y.1 h.1 g.1 H u.2)
theorem GG:XM x10 x11 x12 x35 H0 H =
 Z0 (Yf cfg (Zb cfg) x35 [] H) fun g=>
 Z0 (Z3 true 4 x11 g.2) fun h=>
 Z0 (Z3 false 1 x12 g.2) fun j=>
 some ((.tuple [x10,h,j]),g.2):=Z9 bg
theorem ZdK:HG x10 x11 x12 x16 x35 H0 H =
 Z0 (Zu x16) fun j=>
 Z0 (Z6 13 j) fun u=>
 Z0 (Z3 true 4 u H) fun w=>
 Z0 (Za 4 x11 w H) fun g=>
 Z0 (Za 1 x12 (J zA 0) g.2) fun h=>
 XM x10 x11 x12 x35 H0 h.2:=Z9 bg
theorem NC:HF x10 x11 x12 x14 x15 x16 x35 H0 H =
 Z0 (Za 1 x15 (.bool true) H) fun h=>
 Z0 (Z3 false 1 x14 h.2) fun y=>
 Z0 (Ve [y] h.2) fun j=>
 Z0 (Za 1 x12 j.1 j.2) fun g=>
 Z0 (Z3 false 1 x12 g.2) fun z=>
 Z0 (Z4 .neq z (J zA 0)) fun A=>
 Zj A
 (Z0 (Zb2 x12 x11) fun _=>
 Z0 (some (.agg [(J zA 0),(J zA 0),(J zA 0),(J zA 0)])) fun B=>
 Z0 (Z3 false 1 x12 g.2) fun C=>
 Z0 (Za 4 x11 B g.2) fun u=>
 Z0 (Za 1 x12 C u.2) fun w=>
 XM .nils x11 x12 x35 H0 w.2)
 (HG x10 x11 x12 x16 x35 H0 g.2):=Z9 bg
theorem GH:Ql x11 x12 x14 x15 x16 x35 H0 H =
 Z0 (XU [x16] H) fun h=>
 Z0 (ZJ h.1 0) fun w=>
 Z0 (ZJ h.1 1) fun t70=>
 Z0 (Za 1 x12 t70 h.2) fun g=>
 Z0 (Z3 false 1 x12 g.2) fun y=>
 Z0 (Z4 .neq y (J zA 0)) fun t72=>
 Zj t72
 (Z0 (Zb2 x12 x11) fun _=>
 Z0 (some (.agg [(J zA 0),(J zA 0),(J zA 0),(J zA 0)])) fun z=>
 Z0 (Z3 false 1 x12 g.2) fun A=>
 Z0 (Za 4 x11 z g.2) fun j=>
 Z0 (Za 1 x12 A j.2) fun u=>
 XM .nils x11 x12 x35 H0 u.2)
 (HF w x11 x12 x14 x15 x16 x35 H0 g.2):=Z9 bg
theorem ND:HH x8 x11 x12 x14 x15 x16 x35 H0 H =
 Z0 (Z6 1 x8) fun w=>
 Z0 (Z3 false 1 w H) fun y=>
 Z0 (Wd [x16,y] H) fun h=>
 Z0 (Za 1 x12 h.1 h.2) fun g=>
 Z0 (Z3 false 1 x12 g.2) fun z=>
 Z0 (Z4 .neq z (J zA 0)) fun A=>
 Zj A
 (Z0 (Zb2 x12 x11) fun _=>
 Z0 (some (.agg [(J zA 0),(J zA 0),(J zA 0),(J zA 0)])) fun B=>
 Z0 (Z3 false 1 x12 g.2) fun C=>
 Z0 (Za 4 x11 B g.2) fun j=>
 Z0 (Za 1 x12 C j.2) fun u=>
 XM .nils x11 x12 x35 H0 u.2)
 (XN x8 x11 x12 x14 x15 x16 x35 H0 g.2):=Z9 bg
theorem Qm:XN x8 x11 x12 x14 x15 x16 x35 H0 H =
 Z0 (Zu x16) fun g=>
 Z0 (Z6 12 g) fun h=>
 Z0 (Z3 false 1 h H) fun j=>
 Z0 (Zk (.slice 9) j) fun u=>
 Z0 (Z6 1 x8) fun w=>
 Z0 (Z3 false 1 w H) fun y=>
 Z0 (Z4 .gtr u y) fun z=>
 Zj z
 (HH x8 x11 x12 x14 x15 x16 x35 H0 H)
 (Ql x11 x12 x14 x15 x16 x35 H0 H):=(ZC (C:=cfg) [4,7,13,14,17,20,24,900002] (Zn 0 (Zad H0)) _ _).trans (by kernel_rfl)
theorem ZdJ:HE x8 x11 x12 x14 x15 x16 x35 H0 H =
 XN x8 x11 x12 x14 x15 x16 x35 H0 H:=Z9 bg
theorem NB:HD x4 x6 x7 x8 x11 x12 x14 H0 H =
 Z0 (some ((.ptr H.length 0),H++[.cells [(.bool false)]])) fun j=>
 Z0 (Za 1 j.1 (.bool false) j.2) fun g=>
 Z0 (some (.fn (.func 44) [] [x12,j.1,x14])) fun A=>
 Z0 (Z3 false 1 x14 g.2) fun B=>
 Z0 (Z3 true 6 x6 g.2) fun t37=>
 Z0 (Z3 true 5 x7 g.2) fun C=>
 Z0 ((YF [(0,1,B),(1,6,t37),(7,5,C)] [.nilp,(.str []),.nils,(.str []),(.str []),.nils,.nils,.nils,(J zA 0),(J zA 0),(.bool false),(.bool false),.nils,(J zA 0),(J zA 0),(J zA 0),(J zA 0)]).map .agg) fun D=>
 Z0 (ZO D g.2) fun u=>
 Z0 (Z6 0 x8) fun E=>
 Z0 (Z3 false 1 E u.2) fun F=>
 Z0 (Vc [u.1,x4,F] u.2) fun w=>
 Z0 (Za 1 x12 w.1 w.2) fun h=>
 Z0 (Z3 false 1 x12 h.2) fun I=>
 Z0 (Z4 .neq I (J zA 0)) fun K=>
 Zj K
 (Z0 (Zb2 x12 x11) fun _=>
 Z0 (some (.agg [(J zA 0),(J zA 0),(J zA 0),(J zA 0)])) fun L=>
 Z0 (Z3 false 1 x12 h.2) fun M=>
 Z0 (Za 4 x11 L h.2) fun y=>
 Z0 (Za 1 x12 M y.2) fun z=>
 XM .nils x11 x12 A H0 z.2)
 (HE x8 x11 x12 x14 j.1 u.1 A H0 h.2):=Z9 bg
theorem GF:T8 x0 x4 x6 x7 x8 x11 x12 H0 H =
 Z0 (Ws [x0,(.str [115,111,114,116]),(J zA 262144)] H) fun j=>
 Z0 (ZJ j.1 0) fun z=>
 Z0 (ZJ j.1 1) fun A=>
 Z0 (some ((.ptr j.2.length 0),j.2++[.cells [.nilp]])) fun u=>
 Z0 (Za 1 u.1 z u.2) fun w=>
 Z0 (Za 1 x12 A w.2) fun g=>
 Z0 (Z3 false 1 x12 g.2) fun B=>
 Z0 (Z4 .neq B (J zA 0)) fun C=>
 Zj C
 (Z0 (Zb2 x12 x11) fun _=>
 Z0 (some (.agg [(J zA 0),(J zA 0),(J zA 0),(J zA 0)])) fun D=>
 Z0 (Z3 false 1 x12 g.2) fun E=>
 Z0 (Za 4 x11 D g.2) fun y=>
 Z0 (Za 1 x12 E y.2) fun h=>
 Z0 (Z3 true 4 x11 h.2) fun F=>
 Z0 (Z3 false 1 x12 h.2) fun I=>
 some ((.tuple [.nils,F,I]),h.2))
 (HD x4 x6 x7 x8 x11 x12 u.1 H0 g.2):=Z9 bg
theorem ZeR:YR [p0,p1,p2,p3,p4] H=Il p0 p1 p2 p3 p4 H:=(Zd (C:=cfg) (fn:=Tryz.f20) (c:=UJ cfg 20 Tryz.f20) (n:=86) [4,7,13,14,17,20,24,900002] Tryz.func20 (by kernel_rfl) (by kernel_rfl) [p0,p1,p2,p3,p4] (by kernel_rfl) H).trans (by kernel_rfl)
noncomputable abbrev bd (f n:Nat)(F:Func)(p:List Nat)(G:Hp):=fun k K=>ZL f n (sub (Z1 F) p) (Zf cfg n f F G) k K
def Nx:Z5:=bd 22 27 Tryz.f22 [1,1,1,1] H0 [(4,x4)] H
def Vs:KL:=Zc (JD 22 27 Tryz.f22 [1,1,1,1]) (Zf cfg 27 22 Tryz.f22 H0)
theorem Cx:ZS 27 (Vs H0):=Zw (C:=cfg) (kp:=cfg.keep 22) (bf Tryz.f22 [1,1,1,1]) (Zz 22 Tryz.f22 H0)
def Nz:Z5:=ZL 22 27 (bf Tryz.f22 [1,1,1,0,1,0,0,1,1,1]) (Zc (Xh 22 27 Tryz.f22 [1,1,1,0,1,0,0]) (Z8 0 (Vs H0))) [(0,x0),(4,x4),(11,x11),(12,x12),(13,x13)] H
def ZdI:KL:=Zc (JD 22 27 Tryz.f22 [1,1,1,0,1,0,0,1,1,1]) (Zc (Xh 22 27 Tryz.f22 [1,1,1,0,1,0,0]) (Z8 0 (Vs H0)))
def NA:Z5:=ZL 22 27 (bf Tryz.f22 [1,1,1,0,1,0,0,1,1,0,0,1,1]) (Z8 1 (ZdI H0)) [(0,x0),(4,x4),(11,x11),(12,x12),(13,x13)] H
def Ny:Z5:=ZL 22 27 (bf Tryz.f22 [1,1,1,0,1,0,0,1,1]) (Zc (Xh 22 27 Tryz.f22 [1,1,1,0,1,0,0]) (Z8 0 (Vs H0))) [(0,x0),(4,x4),(11,x11),(12,x12),(13,x13),(14,x14)] H
def Vt:Z5:=KU 22 27 (bf Tryz.f22 [1,1,1,0,1,0,0]) (Z8 0 (Vs H0)) [(0,x0),(4,x4),(11,x11),(12,x12),(13,x13)] H
def Nw:Z5:=bd 22 27 Tryz.f22 [1,1] H0 [(0,x0)] H
def MB:Z5:=
 Z0 (Yo (.pointer 82) .eql p0 .nilp) fun t9=>
 Zj t9
 (some ((.tuple [(J zA 0),(J zA 5)]),H))
 (Nw p0 H H)
theorem IT:Nx x4 H0 H =
 some ((.tuple [x4,(J zA 0)]),H):=Z9 bh
theorem IU:Nz x0 x4 x11 x12 x13 H0 H =
 Z0 (Z4 .add x13 (J zA 1)) fun g=>
 Vt x0 x4 x11 x12 g H0 H:=Z9 bh
theorem IW:NA x0 x4 x11 x12 x13 H0 H =
 Z0 (Z4 .add x4 (J zA 1)) fun g=>
 Nz x0 g x11 x12 x13 H0 H:=Z9 bh
theorem R7:Ny x0 x4 x11 x12 x13 x14 H0 H =
 Z0 (Zo 1 x11 x13) fun h=>
 Z0 (Z3 false 1 h H) fun j=>
 Z0 (Xu [x0,j] H) fun g=>
 Z0 (Z4 .neq g.1 (J zA 0)) fun u=>
 Zj u
 (some ((.tuple [(J zA 0),g.1]),g.2))
 (NA x0 x4 x11 x12 x13 H0 g.2):=Z9 bh
theorem R8:Vt x0 x4 x11 x12 x13 H0 H =
 Z0 (Z4 .lss x13 x12) fun g=>
 Zj g
 (Ny x0 x4 x11 x12 x13 g H0 H)
 (Nx x4 H0 H):=(ZC (C:=cfg) [3,6,10,11,12] (Zn 0 (Cx H0)) _ _).trans (by kernel_rfl)
theorem IR:Nw x0 H0 H =
 Z0 (Jr VB [x0,(.str [115,111,114,116])] H) fun g=>
 Z0 (Zk (.slice 9) g.1) fun h=>
 Vt x0 (J zA 0) g.1 h (J zA 0) H0 g.2:=Z9 bh
theorem Oz:WH [p0] H=MB p0 H:=Be 27 [3,6,10,11,12] Tryz.func22
def Hu:Z5:=bd 35 62 Tryz.f35 [1,1,1,1,1] H0 [(4,x4),(5,x5)] H
def G7:KL:=Zc (JD 35 62 Tryz.f35 [1,1,1,1,1]) (Zf cfg 62 35 Tryz.f35 H0)
theorem Zaa:ZS 62 (G7 H0):=Zw (C:=cfg) (kp:=cfg.keep 35) (bf Tryz.f35 [1,1,1,1,1]) (Zz 35 Tryz.f35 H0)
def Hw:Z5:=ZL 35 62 (bf Tryz.f35 [1,1,1,1,0,1,0,0,1,1]) (Zc (Xh 35 62 Tryz.f35 [1,1,1,1,0,1,0,0]) (Z8 2 (G7 H0))) [(3,x3),(4,x4),(5,x5),(10,x10)] H
def Hv:Z5:=ZL 35 62 (bf Tryz.f35 [1,1,1,1,0,1,0,0,1]) (Zc (Xh 35 62 Tryz.f35 [1,1,1,1,0,1,0,0]) (Z8 2 (G7 H0))) [(3,x3),(4,x4),(5,x5),(10,x10)] H
def T6:Z5:=KU 35 62 (bf Tryz.f35 [1,1,1,1,0,1,0,0]) (Z8 2 (G7 H0)) [(3,x3),(4,x4),(5,x5),(10,x10)] H
def Ht:Z5:=bd 35 62 Tryz.f35 [1,1,1,1] H0 [(3,x3),(4,x4),(5,x5)] H
def Qk:KL:=Zc (JD 35 62 Tryz.f35 [1,1,1,1]) (Zf cfg 62 35 Tryz.f35 H0)
theorem Zab:ZS 62 (Qk H0):=Zw (C:=cfg) (kp:=cfg.keep 35) (bf Tryz.f35 [1,1,1,1]) (Zz 35 Tryz.f35 H0)
def Hy:Z5:=ZL 35 62 (bf Tryz.f35 [1,1,1,0,1,0,0,1,1,1]) (Zc (Xh 35 62 Tryz.f35 [1,1,1,0,1,0,0]) (Z8 0 (Qk H0))) [(3,x3),(4,x4),(5,x5),(6,x6),(14,x14),(15,x15),(16,x16)] H
def HC:KL:=Zc (JD 35 62 Tryz.f35 [1,1,1,0,1,0,0,1,1,1]) (Zc (Xh 35 62 Tryz.f35 [1,1,1,0,1,0,0]) (Z8 0 (Qk H0)))
def T5:Z5:=ZL 35 62 (bf Tryz.f35 [1,1,1,0,1,0,0,1,1,0,0,1,1,1,1]) (Z8 1 (HC H0)) [(3,x3),(4,x4),(5,x5),(6,x6),(9,x9),(14,x14),(15,x15),(16,x16)] H
def HA:Z5:=ZL 35 62 (bf Tryz.f35 [1,1,1,0,1,0,0,1,1,0,0,1,1]) (Z8 1 (HC H0)) [(3,x3),(4,x4),(5,x5),(6,x6),(7,x7),(8,x8),(14,x14),(15,x15),(16,x16)] H
def Hx:Z5:=ZL 35 62 (bf Tryz.f35 [1,1,1,0,1,0,0,1,1]) (Zc (Xh 35 62 Tryz.f35 [1,1,1,0,1,0,0]) (Z8 0 (Qk H0))) [(3,x3),(4,x4),(5,x5),(6,x6),(14,x14),(15,x15),(16,x16),(17,x17)] H
def T7:Z5:=KU 35 62 (bf Tryz.f35 [1,1,1,0,1,0,0]) (Z8 0 (Qk H0)) [(3,x3),(4,x4),(5,x5),(6,x6),(14,x14),(15,x15),(16,x16)] H
def Hs:Z5:=bd 35 62 Tryz.f35 [1,1] H0 [(0,x0),(3,x3),(4,x4),(5,x5)] H
def Ik:Z5:=
 Z0 (ZO p1 H) fun h=>
 Z0 (Z3 true 2 h.1 h.2) fun j=>
 Z0 (Zh G1 [j] h.2) fun g=>
 Z0 (Xm .not g.1) fun u=>
 Zj u
 (some ((.tuple [(J zA 0),(J zA 0)]),g.2))
 (Hs p0 h.1 (J zA 0) (J zA 0) H g.2)
theorem Zdz:Hu x4 x5 H0 H =
 some ((.tuple [x4,x5]),H):=Z9 bi
theorem ZdB:Hw x3 x4 x5 x10 H0 H =
 Z0 (Z6 1 x3) fun g=>
 Z0 (Z3 false 1 g H) fun h=>
 Z0 (Z4 .add x10 h) fun j=>
 Z0 (Z4 .sub j (J zA 1)) fun u=>
 Z0 (Z6 1 x3) fun w=>
 Z0 (Z3 false 1 w H) fun y=>
 Z0 (Z4 .quo u y) fun z=>
 T6 x3 x4 x5 z H0 H:=Z9 bi
theorem ZdA:Hv x3 x4 x5 x10 H0 H =
 Z0 (Z4 .add x5 (J zA 1)) fun g=>
 Hw x3 x4 g x10 H0 H:=Z9 bi
theorem ZdG:T6 x3 x4 x5 x10 H0 H =
 Z0 (Z6 1 x3) fun g=>
 Z0 (Z3 false 1 g H) fun h=>
 Z0 (Z4 .gtr x10 h) fun j=>
 Zj j
 (Hv x3 x4 x5 x10 H0 H)
 (Hu x4 x5 H0 H):=(ZC (C:=cfg) [3,6,9,12,13,14,16,17,18] (Zn 2 (Zaa H0)) _ _).trans (by kernel_rfl)
theorem Zdy:Ht x3 x4 x5 H0 H =
 T6 x3 x4 x5 x4 H0 H:=Z9 bi
theorem ZdD:Hy x3 x4 x5 x6 x14 x15 x16 H0 H =
 Z0 (Z4 .add x16 (J zA 1)) fun g=>
 T7 x3 x4 x5 x6 x14 x15 g H0 H:=Z9 bi
theorem ZdF:T5 x3 x4 x5 x6 x9 x14 x15 x16 H0 H =
 Z0 (Z4 .add x6 x9) fun g=>
 Hy x3 x4 x5 g x14 x15 x16 H0 H:=Z9 bi
theorem ZdE:HA x3 x4 x5 x6 x7 x8 x14 x15 x16 H0 H =
 Z0 (Z4 .add x8 (J zA 16)) fun h=>
 Z0 (Z4 .eql x7 (J zA 0)) fun g=>
 Z0 (Z7 g false am (some x6)) fun j=>
 Z0 (Z7 g false am (some h)) fun u=>
 Z0 (Z7 g false am (Z4 .add j u)) fun w=>
 Z0 (Z7 g false am (Z6 0 x3)) fun y=>
 Z0 (Z7 g false am (Z3 false 1 y H)) fun z=>
 Z0 (Z7 g false am (Z4 .gtr w z)) fun t37=>
 Z0 (Zi g (.bool true) t37) fun A=>
 Zj A
 (Z0 (Z4 .add x4 (J zA 1)) fun B=>
 T5 x3 B x5 (J zA 0) h x14 x15 x16 H0 H)
 (T5 x3 x4 x5 x6 h x14 x15 x16 H0 H):=Z9 bi
theorem ZdC:Hx x3 x4 x5 x6 x14 x15 x16 x17 H0 H =
 Z0 (Zo 1 x14 x16) fun j=>
 Z0 (Z3 false 1 j H) fun g=>
 Z0 (Z4 .lss g (J zA 0)) fun h=>
 Z0 (Z7 h false am (some g)) fun u=>
 Z0 (Z7 h false am (Z4 .gtr u (J zA 4096))) fun w=>
 Z0 (Zi h (.bool true) w) fun y=>
 Zj y
 (some ((.tuple [(J zA 0),(J zA 0)]),H))
 (HA x3 x4 x5 x6 x16 g x14 x15 x16 H0 H):=Z9 bi
theorem ZdH:T7 x3 x4 x5 x6 x14 x15 x16 H0 H =
 Z0 (Z4 .lss x16 x15) fun g=>
 Zj g
 (Hx x3 x4 x5 x6 x14 x15 x16 g H0 H)
 (Ht x3 x4 x5 H0 H):=(ZC (C:=cfg) [3,6,9,12,13,14,16,17,18] (Zn 0 (Zab H0)) _ _).trans (by kernel_rfl)
theorem Zdx:Hs x0 x3 x4 x5 H0 H =
 Z0 (Zk (.slice 3) x0) fun g=>
 T7 x3 x4 x5 (J zA 0) x0 g (J zA 0) H0 H:=Z9 bi
theorem ZeQ:Pg [p0,p1] H=Ik p0 p1 H:=Be 62 [3,6,9,12,13,14,16,17,18] Tryz.func35
def Sk:Z5:=bd 42 35 Tryz.f42 [1,1,1,1,1,1] H0 [] H
def JS:KL:=Zc (JD 42 35 Tryz.f42 [1,1,1,1,1,1]) (Zf cfg 35 42 Tryz.f42 H0)
theorem IX:ZS 35 (JS H0):=Zw (C:=cfg) (kp:=cfg.keep 42) (bf Tryz.f42 [1,1,1,1,1,1]) (Zz 42 Tryz.f42 H0)
def Sn:Z5:=ZL 42 35 (bf Tryz.f42 [1,1,1,1,1,0,1,0,0,1,1,1]) (Zc (Xh 42 35 Tryz.f42 [1,1,1,1,1,0,1,0,0]) (Z8 0 (JS H0))) [(25,x25),(26,x26),(27,x27)] H
def Sm:Z5:=ZL 42 35 (bf Tryz.f42 [1,1,1,1,1,0,1,0,0,1,1]) (Zc (Xh 42 35 Tryz.f42 [1,1,1,1,1,0,1,0,0]) (Z8 0 (JS H0))) [(25,x25),(26,x26),(27,x27),(28,x28)] H
def JT:Z5:=KU 42 35 (bf Tryz.f42 [1,1,1,1,1,0,1,0,0]) (Z8 0 (JS H0)) [(25,x25),(26,x26),(27,x27)] H
def Sj:Z5:=bd 42 35 Tryz.f42 [1,1,1,1,1] H0 [(3,x3)] H
def Si:Z5:=bd 42 35 Tryz.f42 [1,1,1,1] H0 [(3,x3)] H
def Sh:Z5:=bd 42 35 Tryz.f42 [1,1,1] H0 [(3,x3),(6,x6)] H
def Sf:Z5:=bd 42 35 Tryz.f42 [1,1] H0 [(3,x3),(5,x5),(6,x6)] H
def CK:Z5:=
 Z0 (ZO p1 H) fun j=>
 Z0 (ZO p2 j.2) fun g=>
 Z0 (Yo (.pointer 82) .eql p0 .nilp) fun h=>
 Zj h
 (some ((J zA 5),g.2))
 (Sf p3 j.1 g.1 H g.2)
theorem ZbR:Sk H0 H =
 some ((J zA 0),H):=Z9 bj
theorem ZbS:Sn x25 x26 x27 H0 H =
 Z0 (Z4 .add x27 (J zA 1)) fun g=>
 JT x25 x26 g H0 H:=Z9 bj
theorem TS:Sm x25 x26 x27 x28 H0 H =
 Z0 (Zo 1 x25 x27) fun g=>
 Z0 (Z3 false 1 g H) fun h=>
 Z0 (Zk .string h) fun j=>
 Z0 (Z4 .gtr j (J zA 4096)) fun u=>
 Zj u
 (some ((J zA 3),H))
 (Sn x25 x26 x27 H0 H):=Z9 bj
theorem TT:JT x25 x26 x27 H0 H =
 Z0 (Z4 .lss x27 x26) fun g=>
 Zj g
 (Sm x25 x26 x27 g H0 H)
 (Sk H0 H):=(ZC (C:=cfg) [3,6,8,10,12,15,16] (Zn 0 (IX H0)) _ _).trans (by kernel_rfl)
theorem ZbQ:Sj x3 H0 H =
 Z0 (Zk (.slice 9) x3) fun g=>
 JT x3 g (J zA 0) H0 H:=Z9 bj
theorem TR:Si x3 H0 H =
 Z0 (Zk (.slice 9) x3) fun g=>
 Z0 (Z4 .gtr g (J zA 8192)) fun h=>
 Zj h
 (some ((J zA 3),H))
 (Sj x3 H0 H):=Z9 bj
theorem KX:Sh x3 x6 H0 H =
 Z0 (Z3 true 2 x6 H) fun h=>
 Z0 (Zh G1 [h] H) fun g=>
 Z0 (Xm .not g.1) fun j=>
 Zj j
 (some ((J zA 2),g.2))
 (Si x3 H0 g.2):=Z9 bj
theorem UM:Sf x3 x5 x6 H0 H =
 Z0 (Z3 true 5 x5 H) fun h=>
 Z0 (Zh Wp [h] H) fun g=>
 Z0 (Z4 .neq g.1 (J zA 0)) fun j=>
 Zj j
 (some (g.1,g.2))
 (Sh x3 x6 H0 g.2):=Z9 bj
theorem Zcv:Rp [p0,p1,p2,p3] H=CK p0 p1 p2 p3 H:=Be 35 [3,6,8,10,12,15,16] Tryz.func42
def JH:Z5:=
 Z0 (Z3 false 1 p0 H) fun t3=>
 Z0 (Z4 .neq t3 (J zA 0)) fun t4=>
 Z0 (Z7 t4 true am (Z3 false 1 p1 H)) fun h=>
 Z0 (Z7 t4 true am (Xm .not h)) fun j=>
 Z0 (Zi t4 j (.bool false)) fun u=>
 Zj u
 (Z0 (Z3 false 1 p2 H) fun t9=>
 Z0 (Ve [t9] H) fun g=>
 some (am,g.2))
 (some (am,H))
theorem KT:Eh [p0,p1,p2] H=JH p0 p1 p2 H:=Be 11 [] Tryz.func44
def Bz:Z5:=bd 46 73 Tryz.f46 [1,1] H0 [] H
def XD:KL:=Zc (JD 46 73 Tryz.f46 [1,1]) (Zf cfg 73 46 Tryz.f46 H0)
theorem PB:ZS 73 (XD H0):=Zw (C:=cfg) (kp:=cfg.keep 46) (bf Tryz.f46 [1,1]) (Zz 46 Tryz.f46 H0)
def BB:Z5:=ZL 46 73 (bf Tryz.f46 [1,0,1,0,0,1,1,1]) (Zc (Xh 46 73 Tryz.f46 [1,0,1,0,0]) (Z8 0 (XD H0))) [(0,x0),(13,x13),(14,x14),(15,x15)] H
def Cz:KL:=Zc (JD 46 73 Tryz.f46 [1,0,1,0,0,1,1,1]) (Zc (Xh 46 73 Tryz.f46 [1,0,1,0,0]) (Z8 0 (XD H0)))
def BC:Z5:=ZL 46 73 (bf Tryz.f46 [1,0,1,0,0,1,1,0,0,1,1,1]) (Z8 1 (Cz H0)) [(0,x0),(8,x8),(9,x9),(13,x13),(14,x14),(15,x15)] H
def BA:Z5:=ZL 46 73 (bf Tryz.f46 [1,0,1,0,0,1,1]) (Zc (Xh 46 73 Tryz.f46 [1,0,1,0,0]) (Z8 0 (XD H0))) [(0,x0),(13,x13),(14,x14),(15,x15),(16,x16)] H
def YD:Z5:=KU 46 73 (bf Tryz.f46 [1,0,1,0,0]) (Z8 0 (XD H0)) [(0,x0),(13,x13),(14,x14),(15,x15)] H
def QF:Z5:=
 Z0 (Zh En [p1,p2] H) fun g=>
 Z0 (Zk (.slice 29) g.1) fun h=>
 YD p0 g.1 h (J zA 0) H g.2
theorem Me:Bz H0 H =
 some ((J zA 0),H):=Z9 [3,7,11,12]
theorem Mf:BB x0 x13 x14 x15 H0 H =
 Z0 (Z4 .add x15 (J zA 1)) fun t72=>
 YD x0 x13 x14 t72 H0 H:=Z9 [3,7,11,12]
theorem Mg:BC x0 x8 x9 x13 x14 x15 H0 H =
 Z0 (We [x0] H) fun j=>
 Z0 (Zu x0) fun z=>
 Z0 (Z6 12 z) fun A=>
 Z0 (Z3 false 1 A j.2) fun B=>
 Z0 ((ZB 1 [(0,x9)] [(.str [])]).map (.vs 1 .clip)) fun C=>
 Z0 (Y9 1 16 B C j.2) fun u=>
 Z0 (Zu x0) fun D=>
 Z0 (Z6 12 D) fun E=>
 Z0 (Za 1 E u.1 u.2) fun g=>
 Z0 (Zu x0) fun F=>
 Z0 (Z6 13 F) fun I=>
 Z0 (Z6 0 I) fun K=>
 Z0 (Z3 false 1 K g.2) fun L=>
 Z0 (Z4 .add L (J zA 1)) fun M=>
 Z0 (Zu x0) fun N=>
 Z0 (Z6 13 N) fun O=>
 Z0 (Z6 0 O) fun Q=>
 Z0 (Za 1 Q M g.2) fun h=>
 Z0 (Zu x0) fun R=>
 Z0 (Z6 13 R) fun S=>
 Z0 (Z6 2 S) fun T=>
 Z0 (Z3 false 1 T h.2) fun U=>
 Z0 (Zh Ph [x8] h.2) fun w=>
 Z0 (Qe U w.1) fun V=>
 Z0 (Zu x0) fun W=>
 Z0 (Z6 13 W) fun t70=>
 Z0 (Z6 2 t70) fun X=>
 Z0 (Za 1 X V w.2) fun y=>
 BB x0 x13 x14 x15 H0 y.2:=Z9 [3,7,11,12]
theorem Kx:BA x0 x13 x14 x15 x16 H0 H =
 Z0 (Zo 1 x13 x15) fun u=>
 Z0 (Z3 false 1 u H) fun h=>
 Z0 (Zu x0) fun w=>
 Z0 (Z6 0 w) fun y=>
 Z0 (Z3 false 1 y H) fun z=>
 Z0 (Zu x0) fun A=>
 Z0 (Z6 1 A) fun B=>
 Z0 (Z3 true 6 B H) fun C=>
 Z0 (Zu x0) fun D=>
 Z0 (Z6 7 D) fun E=>
 Z0 (Z3 true 5 E H) fun F=>
 Z0 (Gt [z,C,F,h] H) fun g=>
 Z0 (ZJ g.1 0) fun I=>
 Z0 (ZJ g.1 1) fun j=>
 Z0 (Z4 .neq j (J zA 0)) fun t37=>
 Zj t37
 (some (j,g.2))
 (BC x0 h I x13 x14 x15 H0 g.2):=Z9 [3,7,11,12]
theorem VR:YD x0 x13 x14 x15 H0 H =
 Z0 (Z4 .lss x15 x14) fun g=>
 Zj g
 (BA x0 x13 x14 x15 g H0 H)
 (Bz H0 H):=(ZC (C:=cfg) [3,7,11,12] (Zn 0 (PB H0)) _ _).trans (by kernel_rfl)
theorem G3:Vc [p0,p1,p2] H=QF p0 p1 p2 H:=Be 73 [3,7,11,12] Tryz.func46
def DH:Z5:=bd 47 60 Tryz.f47 [1,1,1] H0 [(0,x0),(5,x5)] H
def XW:KL:=Zc (JD 47 60 Tryz.f47 [1,1,1]) (Zf cfg 60 47 Tryz.f47 H0)
theorem Jx:ZS 60 (XW H0):=Zw (C:=cfg) (kp:=cfg.keep 47) (bf Tryz.f47 [1,1,1]) (Zz 47 Tryz.f47 H0)
def DJ:Z5:=ZL 47 60 (bf Tryz.f47 [1,1,0,1,0,0,1,1,1]) (Zc (Xh 47 60 Tryz.f47 [1,1,0,1,0,0]) (Z8 0 (XW H0))) [(0,x0),(5,x5),(19,x19),(20,x20),(21,x21)] H
def Vh:KL:=Zc (JD 47 60 Tryz.f47 [1,1,0,1,0,0,1,1,1]) (Zc (Xh 47 60 Tryz.f47 [1,1,0,1,0,0]) (Z8 0 (XW H0)))
theorem NF:ZS 60 (Vh H0):=Zw (C:=cfg) (kp:=cfg.keep 47) (bf Tryz.f47 [1,1,0,1,0,0,1,1,1]) (Ai (C:=cfg) (kp:=cfg.keep 47) (bf Tryz.f47 [1,1,0,1,0,0]) (Zn 0 (Jx H0)))
def DK:Z5:=ZL 47 60 (bf Tryz.f47 [1,1,0,1,0,0,1,1,0,0,1,1,1,1,1]) (Z8 1 (Vh H0)) [(0,x0),(5,x5),(11,x11),(19,x19),(20,x20),(21,x21)] H
def Vg:Z5:=ZL 47 60 (bf Tryz.f47 [1,1,0,1,0,0,1,1,0,0,1,1,1]) (Z8 1 (Vh H0)) [(0,x0),(5,x5),(8,x8),(19,x19),(20,x20),(21,x21)] H
def Vi:KL:=Zc (JD 47 60 Tryz.f47 [1,1,0,1,0,0,1,1,0,0,1,1,1]) (Z8 1 (Vh H0))
theorem NG:ZS 60 (Vi H0):=Zw (C:=cfg) (kp:=cfg.keep 47) (bf Tryz.f47 [1,1,0,1,0,0,1,1,0,0,1,1,1]) (Zn 1 (NF H0))
def DM:Z5:=ZL 47 60 (bf Tryz.f47 [1,1,0,1,0,0,1,1,0,0,1,1,0,1,0,0,1,1,1]) (Zc (Xh 47 60 Tryz.f47 [1,1,0,1,0,0,1,1,0,0,1,1,0,1,0,0]) (Z8 2 (Vi H0))) [(0,x0),(5,x5),(8,x8),(19,x19),(20,x20),(21,x21),(25,x25),(26,x26),(27,x27)] H
def DL:Z5:=ZL 47 60 (bf Tryz.f47 [1,1,0,1,0,0,1,1,0,0,1,1,0,1,0,0,1,1]) (Zc (Xh 47 60 Tryz.f47 [1,1,0,1,0,0,1,1,0,0,1,1,0,1,0,0]) (Z8 2 (Vi H0))) [(0,x0),(5,x5),(8,x8),(19,x19),(20,x20),(21,x21),(25,x25),(26,x26),(27,x27),(28,x28)] H
def Vj:Z5:=KU 47 60 (bf Tryz.f47 [1,1,0,1,0,0,1,1,0,0,1,1,0,1,0,0]) (Z8 2 (Vi H0)) [(0,x0),(5,x5),(8,x8),(19,x19),(20,x20),(21,x21),(25,x25),(26,x26),(27,x27)] H
def DI:Z5:=ZL 47 60 (bf Tryz.f47 [1,1,0,1,0,0,1,1]) (Zc (Xh 47 60 Tryz.f47 [1,1,0,1,0,0]) (Z8 0 (XW H0))) [(0,x0),(5,x5),(19,x19),(20,x20),(21,x21),(22,x22)] H
def Yj:Z5:=KU 47 60 (bf Tryz.f47 [1,1,0,1,0,0]) (Z8 0 (XW H0)) [(0,x0),(5,x5),(19,x19),(20,x20),(21,x21)] H
def FR:Z5:=
 Z0 (Zu p0) fun h=>
 Z0 (Z6 12 h) fun j=>
 Z0 (Z3 false 1 j H) fun u=>
 Z0 (Zk (.slice 9) u) fun w=>
 Z0 (Zh El [w,p1] H) fun g=>
 Z0 (Zk (.slice 38) g.1) fun y=>
 Yj p0 .nils g.1 y (J zA 0) H g.2
theorem Lx:DH x0 x5 H0 H =
 Z0 (Zu x0) fun h=>
 Z0 (Z6 12 h) fun j=>
 Z0 (Za 1 j x5 H) fun g=>
 some ((J zA 0),g.2):=Z9 bk
theorem Lz:DJ x0 x5 x19 x20 x21 H0 H =
 Z0 (Z4 .add x21 (J zA 1)) fun g=>
 Yj x0 x5 x19 x20 g H0 H:=Z9 bk
theorem LA:DK x0 x5 x11 x19 x20 x21 H0 H =
 Z0 ((ZB 1 [(0,x11)] [(.str [])]).map (.vs 1 .clip)) fun h=>
 Z0 (Y9 1 16 x5 h H) fun g=>
 DJ x0 g.1 x19 x20 x21 H0 g.2:=Z9 bk
theorem Ga:Vg x0 x5 x8 x19 x20 x21 H0 H =
 Z0 (Vb [x0,x8] H) fun g=>
 Z0 (ZJ g.1 0) fun j=>
 Z0 (ZJ g.1 1) fun h=>
 Z0 (Z4 .neq h (J zA 0)) fun u=>
 Zj u
 (some (h,g.2))
 (DK x0 x5 j x19 x20 x21 H0 g.2):=Z9 bk
theorem LC:DM x0 x5 x8 x19 x20 x21 x25 x26 x27 H0 H =
 Z0 (Z4 .add x27 (J zA 1)) fun g=>
 Vj x0 x5 x8 x19 x20 x21 x25 x26 g H0 H:=Z9 bk
theorem LB:DL x0 x5 x8 x19 x20 x21 x25 x26 x27 x28 H0 H =
 Z0 (Zo 1 x25 x27) fun h=>
 Z0 (Z3 false 1 h H) fun j=>
 Z0 (Zu x0) fun u=>
 Z0 (Z6 12 u) fun w=>
 Z0 (Z3 false 1 w H) fun y=>
 Z0 (Zo 1 y j) fun t37=>
 Z0 (Z3 false 1 t37 H) fun z=>
 Z0 ((ZB 1 [(0,z)] [(.str [])]).map (.vs 1 .clip)) fun A=>
 Z0 (Y9 1 16 x8 A H) fun g=>
 DM x0 x5 g.1 x19 x20 x21 x25 x26 x27 H0 g.2:=Z9 bk
theorem Gc:Vj x0 x5 x8 x19 x20 x21 x25 x26 x27 H0 H =
 Z0 (Z4 .lss x27 x26) fun g=>
 Zj g
 (DL x0 x5 x8 x19 x20 x21 x25 x26 x27 g H0 H)
 (Vg x0 x5 x8 x19 x20 x21 H0 H):=(ZC (C:=cfg) [4,8,10,11,14,15,16] (Zn 2 (NG H0)) _ _).trans (by kernel_rfl)
theorem Ly:DI x0 x5 x19 x20 x21 x22 H0 H =
 Z0 (Zo 1 x19 x21) fun h=>
 Z0 (Z3 false 1 h H) fun g=>
 Z0 (Zk (.slice 3) g) fun j=>
 Vj x0 x5 .nils x19 x20 x21 g j (J zA 0) H0 H:=Z9 bk
theorem Gb:Yj x0 x5 x19 x20 x21 H0 H =
 Z0 (Z4 .lss x21 x20) fun g=>
 Zj g
 (DI x0 x5 x19 x20 x21 g H0 H)
 (DH x0 x5 H0 H):=(ZC (C:=cfg) [4,8,10,11,14,15,16] (Zn 0 (Jx H0)) _ _).trans (by kernel_rfl)
theorem Eo:Wd [p0,p1] H=FR p0 p1 H:=Be 60 [4,8,10,11,14,15,16] Tryz.func47
def Bw:Z5:=ZL 48 57 (bf Tryz.f48 [1,1,1,1,1,0,0,0,1,1,1]) (Z8 3 (Zc (Xh 48 57 Tryz.f48 [1,1,1,1,1,0,0]) (Z8 2 (Zf cfg 57 48 Tryz.f48 H0)))) [(7,x7),(8,x8),(9,x9)] H
def Bv:Z5:=ZL 48 57 (bf Tryz.f48 [1,1,1,1,1,0,0,0,1,1]) (Z8 3 (Zc (Xh 48 57 Tryz.f48 [1,1,1,1,1,0,0]) (Z8 2 (Zf cfg 57 48 Tryz.f48 H0)))) [(7,x7),(8,x8),(9,x9),(10,x10)] H
def Yq:Z5:=KU 48 57 (bf Tryz.f48 [1,1,1,1,1,0,0]) (Z8 2 (Zf cfg 57 48 Tryz.f48 H0)) [(7,x7),(8,x8)] H
def UY:Z5:=bd 48 57 Tryz.f48 [1,1,1] H0 [(0,x0),(4,x4)] H
def WQ:KL:=Zc (JD 48 57 Tryz.f48 [1,1,1]) (Zf cfg 57 48 Tryz.f48 H0)
theorem PA:ZS 57 (WQ H0):=Zw (C:=cfg) (kp:=cfg.keep 48) (bf Tryz.f48 [1,1,1]) (Zz 48 Tryz.f48 H0)
def By:Z5:=ZL 48 57 (bf Tryz.f48 [1,1,0,1,0,0,1,1,1]) (Zc (Xh 48 57 Tryz.f48 [1,1,0,1,0,0]) (Z8 0 (WQ H0))) [(0,x0),(4,x4),(15,x15),(16,x16),(17,x17)] H
def Bx:Z5:=ZL 48 57 (bf Tryz.f48 [1,1,0,1,0,0,1,1]) (Zc (Xh 48 57 Tryz.f48 [1,1,0,1,0,0]) (Z8 0 (WQ H0))) [(0,x0),(4,x4),(15,x15),(16,x16),(17,x17),(18,x18)] H
def WR:Z5:=KU 48 57 (bf Tryz.f48 [1,1,0,1,0,0]) (Z8 0 (WQ H0)) [(0,x0),(4,x4),(15,x15),(16,x16),(17,x17)] H
def Dw:Z5:=
 Z0 (Zu p0) fun h=>
 Z0 (Z6 12 h) fun j=>
 Z0 (Z3 false 1 j H) fun g=>
 Z0 (Zk (.slice 9) g) fun u=>
 WR p0 .nils g u (J zA 0) H H
theorem Mb:Bw x7 x8 x9 H0 H =
 Z0 ((ZB 1 [(0,x9)] [(.str [])]).map (.vs 1 .clip)) fun h=>
 Z0 (Y9 1 16 x8 h H) fun g=>
 Yq x7 g.1 H0 g.2:=Z9 bn
theorem VQ:Bv x7 x8 x9 x10 H0 H =
 Z0 (Xm .not x10) fun g=>
 Zj g
 (some ((.tuple [x8,(J zA 0)]),H))
 (Bw x7 x8 x9 H0 H):=Z9 bn
theorem X9:Yq x7 x8 H0 H =
 Z0 (XR [x7] H) fun g=>
 Z0 (ZJ g.1 0) fun j=>
 Z0 (ZJ g.1 1) fun u=>
 Z0 (ZJ g.1 2) fun h=>
 Z0 (Z4 .neq h (J zA 0)) fun w=>
 Zj w
 (some ((.tuple [.nils,h]),g.2))
 (Bv x7 x8 j u H0 g.2):=(ZC (C:=cfg) [4,6,7,12,14] (Zn 2 (Zz 48 Tryz.f48 H0)) _ _).trans (by kernel_rfl)
theorem Ma:UY x0 x4 H0 H =
 Z0 (Zu x0) fun h=>
 Z0 (Z6 1 h) fun j=>
 Z0 (Z3 true 6 j H) fun u=>
 Z0 (Zu x0) fun w=>
 Z0 (Z6 7 w) fun t37=>
 Z0 (Z3 true 5 t37 H) fun y=>
 Z0 (N1 [u,y,x4] H) fun g=>
 Yq g.1 .nils H0 g.2:=Z9 bn
theorem Md:By x0 x4 x15 x16 x17 H0 H =
 Z0 (Z4 .add x17 (J zA 1)) fun g=>
 WR x0 x4 x15 x16 g H0 H:=Z9 bn
theorem Mc:Bx x0 x4 x15 x16 x17 x18 H0 H =
 Z0 (Zo 1 x15 x17) fun j=>
 Z0 (Z3 false 1 j H) fun u=>
 Z0 (Zu x0) fun w=>
 Z0 (Z6 0 w) fun y=>
 Z0 (Z3 false 1 y H) fun z=>
 Z0 (N3 [z,u] H) fun g=>
 Z0 ((ZB 1 [(0,g.1)] [.nilp]).map (.vs 1 .clip)) fun A=>
 Z0 (Y9 1 8 x4 A g.2) fun h=>
 By x0 h.1 x15 x16 x17 H0 h.2:=Z9 bn
theorem Kw:WR x0 x4 x15 x16 x17 H0 H =
 Z0 (Z4 .lss x17 x16) fun g=>
 Zj g
 (Bx x0 x4 x15 x16 x17 g H0 H)
 (UY x0 x4 H0 H):=(ZC (C:=cfg) [4,6,7,12,14] (Zn 0 (PA H0)) _ _).trans (by kernel_rfl)
theorem Lf:XU [p0] H=Dw p0 H:=Be 57 [4,6,7,12,14] Tryz.func48
def CM:Z5:=
 Z0 (ZO p0 H) fun g=>
 Z0 (Z6 0 g.1) fun t3=>
 Z0 (Z3 false 1 t3 g.2) fun t4=>
 Z0 (Z4 .geq t4 (J zA 64)) fun t5=>
 Z0 (Z7 t5 true am (Z6 0 g.1)) fun D=>
 Z0 (Z7 t5 true am (Z3 false 1 D g.2)) fun E=>
 Z0 (Z7 t5 true am (Z4 .leq E (J zA 65536))) fun t9=>
 Z0 (Zi t5 t9 (.bool false)) fun h=>
 Z0 (Z7 h true am (Z6 1 g.1)) fun u=>
 Z0 (Z7 h true am (Z3 false 1 u g.2)) fun w=>
 Z0 (Z7 h true am (Z4 .geq w (J zA 2))) fun y=>
 Z0 (Zi h y (.bool false)) fun j=>
 Z0 (Z7 j true am (Z6 1 g.1)) fun z=>
 Z0 (Z7 j true am (Z3 false 1 z g.2)) fun A=>
 Z0 (Z7 j true am (Z4 .leq A (J zA 32))) fun B=>
 Z0 (Zi j B (.bool false)) fun C=>
 some (C,g.2)
theorem Zcw:G1 [p0] H=CM p0 H:=Be 21 [] Tryz.func69
def ZbC:Z5:=bd 74 39 Tryz.f74 [1,1,1,1,1,1] H0 [(10,x10)] H
def ZbB:Z5:=bd 74 39 Tryz.f74 [1,1,1,1,1] H0 [(0,x0),(10,x10)] H
def ZbA:Z5:=bd 74 39 Tryz.f74 [1,1,1,1] H0 [(0,x0),(3,x3),(5,x5),(6,x6),(10,x10)] H
def Ms:Z5:=bd 74 39 Tryz.f74 [1,1] H0 [(0,x0),(3,x3),(5,x5),(6,x6)] H
def ZcC:Z5:=
 Z0 (ZO p1 H) fun j=>
 Z0 (ZO p2 j.2) fun g=>
 Z0 (Yo (.pointer 124) .eql p0 .nilp) fun h=>
 Zj h
 (some ((.tuple [(.str []),(J zA 5)]),g.2))
 (Ms p0 p3 j.1 g.1 H g.2)
theorem SL:ZbC x10 H0 H =
 some ((.tuple [x10,(J zA 0)]),H):=Z9 [3,6,9,12]
theorem SK:ZbB x0 x10 H0 H =
 Z0 (VD [x0,x10] H) fun g=>
 Z0 (Z4 .neq g.1 (J zA 0)) fun h=>
 Zj h
 (some ((.tuple [(.str []),g.1]),g.2))
 (ZbC x10 H0 g.2):=Z9 [3,6,9,12]
theorem FE:ZbA x0 x3 x5 x6 x10 H0 H =
 Z0 (Z3 true 6 x5 H) fun j=>
 Z0 (Z3 true 5 x6 H) fun u=>
 Z0 (Zh J9 [j,u,x3] H) fun h=>
 Z0 (Vf [x0,x10,h.1] h.2) fun g=>
 Z0 (Z4 .neq g.1 (J zA 0)) fun w=>
 Zj w
 (some ((.tuple [(.str []),g.1]),g.2))
 (ZbB x0 x10 H0 g.2):=Z9 [3,6,9,12]
theorem K7:Ms x0 x3 x5 x6 H0 H =
 Z0 (U2 [x0] H) fun g=>
 Z0 (ZJ g.1 0) fun j=>
 Z0 (ZJ g.1 1) fun h=>
 Z0 (Z4 .neq h (J zA 0)) fun u=>
 Zj u
 (some ((.tuple [(.str []),h]),g.2))
 (ZbA x0 x3 x5 x6 j H0 g.2):=Z9 [3,6,9,12]
theorem Zhm:Gt [p0,p1,p2,p3] H=ZcC p0 p1 p2 p3 H:=Be 39 [3,6,9,12] Tryz.func74
def FS:Z5:=
 Z0 (Zu p0) fun t4=>
 Z0 (Z6 13 t4) fun t5=>
 Z0 (Z6 3 t5) fun B=>
 Z0 (Z3 false 1 B H) fun C=>
 Z0 (Zu p0) fun t9=>
 Z0 (Z6 0 t9) fun j=>
 Z0 (Z3 false 1 j H) fun u=>
 Z0 (Jr Jc [u] H) fun g=>
 Z0 (Qe C g.1) fun w=>
 Z0 (Zu p0) fun y=>
 Z0 (Z6 13 y) fun z=>
 Z0 (Z6 3 z) fun A=>
 Z0 (Za 1 A w g.2) fun h=>
 some (am,h.2)
theorem Ep:We [p0] H=FS p0 H:=Be 17 [] Tryz.func75
def HI:Z5:=bd 76 19 Tryz.f76 [1,1,1] H0 [(3,x3)] H
def G8:KL:=Zc (JD 76 19 Tryz.f76 [1,1,1]) (Zf cfg 19 76 Tryz.f76 H0)
theorem Zae:ZS 19 (G8 H0):=Zw (C:=cfg) (kp:=cfg.keep 76) (bf Tryz.f76 [1,1,1]) (Zz 76 Tryz.f76 H0)
def HK:Z5:=ZL 76 19 (bf Tryz.f76 [1,1,0,1,0,0,1,1,1]) (Zc (Xh 76 19 Tryz.f76 [1,1,0,1,0,0]) (Z8 0 (G8 H0))) [(3,x3),(6,x6),(7,x7),(8,x8)] H
def HJ:Z5:=ZL 76 19 (bf Tryz.f76 [1,1,0,1,0,0,1,1]) (Zc (Xh 76 19 Tryz.f76 [1,1,0,1,0,0]) (Z8 0 (G8 H0))) [(3,x3),(6,x6),(7,x7),(8,x8),(9,x9)] H
def G9:Z5:=KU 76 19 (bf Tryz.f76 [1,1,0,1,0,0]) (Z8 0 (G8 H0)) [(3,x3),(6,x6),(7,x7),(8,x8)] H
def Im:Z5:=
 Z0 (Zk (.slice 9) p0) fun g=>
 G9 (J zA 0) p0 g (J zA 0) H H
theorem ZdL:HI x3 H0 H =
 some (x3,H):=Z9 [4,6,7]
theorem ZdN:HK x3 x6 x7 x8 H0 H =
 Z0 (Z4 .add x8 (J zA 1)) fun g=>
 G9 x3 x6 x7 g H0 H:=Z9 [4,6,7]
theorem ZdM:HJ x3 x6 x7 x8 x9 H0 H =
 Z0 (Zo 1 x6 x8) fun g=>
 Z0 (Z3 false 1 g H) fun h=>
 Z0 (Zk .string h) fun j=>
 Z0 (Z4 .add j (J zA 16)) fun u=>
 Z0 (Z4 .add x3 u) fun w=>
 HK w x6 x7 x8 H0 H:=Z9 [4,6,7]
theorem NE:G9 x3 x6 x7 x8 H0 H =
 Z0 (Z4 .lss x8 x7) fun t9=>
 Zj t9
 (HJ x3 x6 x7 x8 t9 H0 H)
 (HI x3 H0 H):=(ZC (C:=cfg) [4,6,7] (Zn 0 (Zae H0)) _ _).trans (by kernel_rfl)
theorem ZeS:Ph [p0] H=Im p0 H:=Be 19 [4,6,7] Tryz.func76
def Bq:Z5:=bd 78 67 Tryz.f78 [1,1,1,1,1,1,1] H0 [(6,x6)] H
def XC:KL:=Zc (JD 78 67 Tryz.f78 [1,1,1,1,1,1,1]) (Zf cfg 67 78 Tryz.f78 H0)
theorem Pz:ZS 67 (XC H0):=Zw (C:=cfg) (kp:=cfg.keep 78) (bf Tryz.f78 [1,1,1,1,1,1,1]) (Zz 78 Tryz.f78 H0)
def Bt:Z5:=ZL 78 67 (bf Tryz.f78 [1,1,1,1,1,1,0,1,0,0,1,1,1]) (Zc (Xh 78 67 Tryz.f78 [1,1,1,1,1,1,0,1,0,0]) (Z8 0 (XC H0))) [(0,x0),(6,x6),(48,x48),(49,x49),(50,x50)] H
def Cy:KL:=Zc (JD 78 67 Tryz.f78 [1,1,1,1,1,1,0,1,0,0,1,1,1]) (Zc (Xh 78 67 Tryz.f78 [1,1,1,1,1,1,0,1,0,0]) (Z8 0 (XC H0)))
def Bu:Z5:=ZL 78 67 (bf Tryz.f78 [1,1,1,1,1,1,0,1,0,0,1,1,0,0,1,1]) (Z8 1 (Cy H0)) [(0,x0),(6,x6),(48,x48),(49,x49),(50,x50)] H
def Br:Z5:=ZL 78 67 (bf Tryz.f78 [1,1,1,1,1,1,0,1,0,0,1,1]) (Zc (Xh 78 67 Tryz.f78 [1,1,1,1,1,1,0,1,0,0]) (Z8 0 (XC H0))) [(0,x0),(6,x6),(48,x48),(49,x49),(50,x50),(51,x51)] H
def YC:Z5:=KU 78 67 (bf Tryz.f78 [1,1,1,1,1,1,0,1,0,0]) (Z8 0 (XC H0)) [(0,x0),(6,x6),(48,x48),(49,x49),(50,x50)] H
def Bp:Z5:=bd 78 67 Tryz.f78 [1,1,1,1] H0 [(0,x0),(1,x1),(6,x6)] H
def Bo:Z5:=bd 78 67 Tryz.f78 [1,1] H0 [(0,x0),(1,x1)] H
def Dv:Z5:=
 Z0 (Zk (.slice 9) p1) fun g=>
 Z0 (Z4 .eql g (J zA 1)) fun h=>
 Zj h
 (Z0 (Zo 1 p1 (J zA 0)) fun j=>
 Z0 (Z3 false 1 j H) fun u=>
 some ((.tuple [u,(J zA 0)]),H))
 (Bo p0 p1 H H)
theorem M7:Bq x6 H0 H =
 some ((.tuple [x6,(J zA 0)]),H):=Z9 bo
theorem M8:Bt x0 x6 x48 x49 x50 H0 H =
 Z0 (Z4 .add x50 (J zA 1)) fun g=>
 YC x0 x6 x48 x49 g H0 H:=Z9 bo
theorem M9:Bu x0 x6 x48 x49 x50 H0 H =
 Z0 (We [x0] H) fun g=>
 Bt x0 x6 x48 x49 x50 H0 g.2:=Z9 bo
theorem Kv:Br x0 x6 x48 x49 x50 x51 H0 H =
 Z0 (Zo 1 x48 x50) fun h=>
 Z0 (Z3 false 1 h H) fun j=>
 Z0 (Zu x0) fun u=>
 Z0 (Z6 0 u) fun w=>
 Z0 (Z3 false 1 w H) fun y=>
 Z0 (WP [y,j] H) fun g=>
 Z0 (Z4 .neq g.1 (J zA 0)) fun z=>
 Zj z
 (some ((.tuple [(.str []),g.1]),g.2))
 (Bu x0 x6 x48 x49 x50 H0 g.2):=Z9 bo
theorem VP:YC x0 x6 x48 x49 x50 H0 H =
 Z0 (Z4 .lss x50 x49) fun g=>
 Zj g
 (Br x0 x6 x48 x49 x50 g H0 H)
 (Bq x6 H0 H):=(ZC (C:=cfg) [3,6,10,14,15,16] (Zn 0 (Pz H0)) _ _).trans (by kernel_rfl)
theorem M6:Bp x0 x1 x6 H0 H =
 Z0 (Zu x0) fun j=>
 Z0 (Z6 13 j) fun u=>
 Z0 (Z6 1 u) fun w=>
 Z0 (Z3 false 1 w H) fun y=>
 Z0 (Z4 .add y (J zA 1)) fun z=>
 Z0 (Zu x0) fun A=>
 Z0 (Z6 13 A) fun B=>
 Z0 (Z6 1 B) fun C=>
 Z0 (Za 1 C z H) fun g=>
 Z0 (We [x0] g.2) fun h=>
 Z0 (Zk (.slice 9) x1) fun D=>
 YC x0 x6 x1 D (J zA 0) H0 h.2:=Z9 bo
theorem Ku:Bo x0 x1 H0 H =
 Z0 (Zu x0) fun j=>
 Z0 (Z6 0 j) fun u=>
 Z0 (Z3 false 1 u H) fun w=>
 Z0 (Zu x0) fun y=>
 Z0 (Z6 1 y) fun z=>
 Z0 (Z3 true 6 z H) fun A=>
 Z0 (Zu x0) fun B=>
 Z0 (Z6 7 B) fun C=>
 Z0 (Z3 true 5 C H) fun D=>
 Z0 (Q4 [w,A,D,x1] H) fun g=>
 Z0 (ZJ g.1 0) fun E=>
 Z0 (ZJ g.1 1) fun h=>
 Z0 (Z4 .neq h (J zA 0)) fun F=>
 Zj F
 (some ((.tuple [(.str []),h]),g.2))
 (Bp x0 x1 E H0 g.2):=Z9 bo
theorem Ld:Vb [p0,p1] H=Dv p0 p1 H:=Be 67 [3,6,10,14,15,16] Tryz.func78
def Zel:Z5:=bd 79 11 Tryz.f79 [1,1] H0 [(0,x0),(1,x1)] H
def ZfD:Z5:=
 Z0 (Yo (.pointer 124) .eql p0 .nilp) fun g=>
 Zj g
 (some (.nilp,H))
 (Zel p0 p1 H H)
theorem ZiT:Zel x0 x1 H0 H =
 Z0 ((YF [(0,1,x0),(1,1,x1)] [.nilp,(.str []),(J zA 0),(.bool false),(.bool false),(.str [])]).map .agg) fun t9=>
 Z0 (ZO t9 H) fun g=>
 some (g.1,g.2):=Z9 [3]
theorem Zjm:N3 [p0,p1] H=ZfD p0 p1 H:=Be 11 [3] Tryz.func79
def ZfC:Z5:=
 Z0 (ZO p0 H) fun I=>
 Z0 (ZO p1 I.2) fun w=>
 Z0 (Z6 0 w.1) fun L=>
 Z0 (Z3 false 1 L w.2) fun M=>
 Z0 (Y9 5 40 .nils M w.2) fun K=>
 Z0 (Z6 0 w.1) fun A=>
 Z0 (Za 1 A K.1 K.2) fun z=>
 UZ w.1 z.2 fun z4 y=>
 Z0 (Z3 true 6 I.1 y) fun B=>
 Z0 (Zh GT [B] y) fun g=>
 Z0 (Ji true 5 z4) fun C=>
 Z0 (Z3 true 5 z4 g.2) fun D=>
 Z0 (Zh Wp [D] g.2) fun h=>
 Z0 (Z4 .eql h.1 (J zA 0)) fun E=>
 Z0 (Y9 1 8 .nils p2 h.2) fun j=>
 Z0 ((YF [(0,6,g.1),(6,5,C),(11,1,E),(12,1,j.1)] [(.str []),.nils,(.str []),(.str []),.nils,.nils,.nils,(J zA 0),(J zA 0),(.bool false),(.bool false),(.bool false),.nils,(.str []),(.bool false)]).map .agg) fun F=>
 Z0 (ZO F j.2) fun u=>
 some (u.1,u.2)
theorem Zjl:N1 [p0,p1,p2] H=ZfC p0 p1 p2 H:=Be 21 [] Tryz.func80
def K4:Z5:=ZL 81 61 (bf Tryz.f81 [1,1,0,0,0,1,1,1]) (Z8 1 (Zc (Xh 81 61 Tryz.f81 [1,1,0,0]) (Z8 0 (Zf cfg 61 81 Tryz.f81 H0)))) [(0,x0),(5,x5)] H
def K3:Z5:=ZL 81 61 (bf Tryz.f81 [1,1,0,0,0,1,1]) (Z8 1 (Zc (Xh 81 61 Tryz.f81 [1,1,0,0]) (Z8 0 (Zf cfg 61 81 Tryz.f81 H0)))) [(0,x0),(5,x5)] H
def Yv:Z5:=KU 81 61 (bf Tryz.f81 [1,1,0,0]) (Z8 0 (Zf cfg 61 81 Tryz.f81 H0)) [(0,x0)] H
def Tn:Z5:=bd 81 61 Tryz.f81 [1,1] H0 [(0,x0)] H
def TD:Z5:=
 Z0 (Yo (.pointer 153) .eql p0 .nilp) fun t9=>
 Zj t9
 (some ((.tuple [(.str []),(.bool false),(J zA 5)]),H))
 (Tn p0 H H)
theorem CC:K4 x0 x5 H0 H =
 Z0 (Zu x0) fun j=>
 Z0 (Z6 14 j) fun u=>
 Z0 (Za 1 u (.bool true) H) fun h=>
 Z0 (Zu x0) fun w=>
 Z0 (Z6 13 w) fun y=>
 Z0 (Za 1 y x5 h.2) fun g=>
 some ((.tuple [x5,(.bool true),(J zA 0)]),g.2):=Z9 [3,6,7]
theorem CB:K3 x0 x5 H0 H =
 Z0 (Zu x0) fun w=>
 Z0 (Z6 14 w) fun y=>
 Z0 (Z3 false 1 y H) fun j=>
 Z0 (Z7 j true am (some x0)) fun z=>
 Z0 (Z7 j true am (Zu z)) fun A=>
 Z0 (Z7 j true am (Z6 11 A)) fun B=>
 Z0 (Z7 j true am (Z3 false 1 B H)) fun C=>
 Z0 (Zi j C (.bool false)) fun h=>
 Z0 (Z7 h true am (some x0)) fun D=>
 Z0 (Z7 h true am (Zu D)) fun E=>
 Z0 (Z7 h true am (Z6 6 E)) fun F=>
 Z0 (Z7 h true am (Z6 3 F)) fun I=>
 Z0 (Z7 h true am (Z3 false 1 I H)) fun K=>
 Z0 (Zi h K (.bool false)) fun g=>
 Z0 (Z7 g true am (some x0)) fun t37=>
 Z0 (Z7 g true am (Zu t37)) fun L=>
 Z0 (Z7 g true am (Z6 0 L)) fun M=>
 Z0 (Z7 g true am (Z3 true 6 M H)) fun N=>
 Z0 (Z7 g true am (some x0)) fun O=>
 Z0 (Z7 g true am (Zu O)) fun Q=>
 Z0 (Z7 g true am (Z6 6 Q)) fun R=>
 Z0 (Z7 g true am (Z3 true 5 R H)) fun S=>
 Z0 (Z7 g true am (some x0)) fun T=>
 Z0 (Z7 g true am (Zu T)) fun U=>
 Z0 (Z7 g true am (Z6 13 U)) fun V=>
 Z0 (Z7 g true am (Z3 false 1 V H)) fun W=>
 Z0 (Z7 g true am (some x5)) fun X=>
 Z0 (Z7 g true (am,H) (Zh WI [N,S,W,X] H)) fun u=>
 Z0 (Z7 g true am (Z4 .eql u.1 (J zA 0))) fun Y=>
 Z0 (Zi g Y (.bool false)) fun Z=>
 Zj Z
 (Yv x0 H0 u.2)
 (K4 x0 x5 H0 u.2):=Z9 [3,6,7]
theorem YZ:Yv x0 H0 H =
 Z0 (UF [x0] H) fun g=>
 Z0 (ZJ g.1 0) fun h=>
 Z0 (ZJ g.1 1) fun j=>
 Z0 (ZJ g.1 2) fun u=>
 Z0 (Xm .not j) fun w=>
 Zj w
 (some ((.tuple [(.str []),(.bool false),u]),g.2))
 (K3 x0 h H0 g.2):=(ZC (C:=cfg) [3,6,7] (Zn 0 (Zz 81 Tryz.f81 H0)) _ _).trans (by kernel_rfl)
theorem CA:Tn x0 H0 H =
 Yv x0 H0 H:=Z9 [3,6,7]
theorem Aw:XR [p0] H=TD p0 H:=Be 61 [3,6,7] Tryz.func81
def O9:Z5:=bd 101 74 Tryz.f101 [1,1,1,1,1,1,1,1,1] H0 [(10,x10)] H
def PR:Z5:=bd 101 74 Tryz.f101 [1,1,1,1,1,1,1,1] H0 [(0,x0),(10,x10)] H
def B5:KL:=Zc (JD 101 74 Tryz.f101 [1,1,1,1,1,1,1,1]) (Zf cfg 74 101 Tryz.f101 H0)
theorem ZbY:ZS 74 (B5 H0):=Zw (C:=cfg) (kp:=cfg.keep 101) (bf Tryz.f101 [1,1,1,1,1,1,1,1]) (Zz 101 Tryz.f101 H0)
def Ob:Z5:=ZL 101 74 (bf Tryz.f101 [1,1,1,1,1,1,1,0,0,0,0,1,1,1]) (Z8 3 (Zc (Xh 101 74 Tryz.f101 [1,1,1,1,1,1,1,0,0,0]) (Z8 2 (B5 H0)))) [(0,x0),(10,x10),(15,x15),(16,x16)] H
def Oa:Z5:=ZL 101 74 (bf Tryz.f101 [1,1,1,1,1,1,1,0,0,0,0,1,1]) (Z8 3 (Zc (Xh 101 74 Tryz.f101 [1,1,1,1,1,1,1,0,0,0]) (Z8 2 (B5 H0)))) [(0,x0),(10,x10),(15,x15),(16,x16),(17,x17)] H
def Wh:Z5:=KU 101 74 (bf Tryz.f101 [1,1,1,1,1,1,1,0,0,0]) (Z8 2 (B5 H0)) [(0,x0),(10,x10),(15,x15)] H
def PQ:Z5:=bd 101 74 Tryz.f101 [1,1,1,1,1,1] H0 [(0,x0),(5,x5),(6,x6),(10,x10),(12,x12)] H
def B6:KL:=Zc (JD 101 74 Tryz.f101 [1,1,1,1,1,1]) (Zf cfg 74 101 Tryz.f101 H0)
theorem ZbZ:ZS 74 (B6 H0):=Zw (C:=cfg) (kp:=cfg.keep 101) (bf Tryz.f101 [1,1,1,1,1,1]) (Zz 101 Tryz.f101 H0)
def Od:Z5:=ZL 101 74 (bf Tryz.f101 [1,1,1,1,1,0,1,0,0,1,1,1]) (Zc (Xh 101 74 Tryz.f101 [1,1,1,1,1,0,1,0,0]) (Z8 0 (B6 H0))) [(0,x0),(5,x5),(6,x6),(10,x10),(12,x12),(31,x31),(32,x32),(33,x33)] H
def Oc:Z5:=ZL 101 74 (bf Tryz.f101 [1,1,1,1,1,0,1,0,0,1,1]) (Zc (Xh 101 74 Tryz.f101 [1,1,1,1,1,0,1,0,0]) (Z8 0 (B6 H0))) [(0,x0),(5,x5),(6,x6),(10,x10),(12,x12),(31,x31),(32,x32),(33,x33),(34,x34)] H
def B7:Z5:=KU 101 74 (bf Tryz.f101 [1,1,1,1,1,0,1,0,0]) (Z8 0 (B6 H0)) [(0,x0),(5,x5),(6,x6),(10,x10),(12,x12),(31,x31),(32,x32),(33,x33)] H
def O8:Z5:=bd 101 74 Tryz.f101 [1,1,1,1] H0 [(0,x0),(3,x3),(5,x5),(6,x6),(10,x10)] H
def PP:Z5:=bd 101 74 Tryz.f101 [1,1] H0 [(0,x0),(3,x3),(5,x5),(6,x6)] H
def Zb8:Z5:=
 Z0 (ZO p1 H) fun j=>
 Z0 (ZO p2 j.2) fun g=>
 Z0 (Yo (.pointer 124) .eql p0 .nilp) fun h=>
 Zj h
 (some ((.tuple [(.str []),(J zA 5)]),g.2))
 (PP p0 p3 j.1 g.1 H g.2)
theorem Zfn:O9 x10 H0 H =
 some ((.tuple [x10,(J zA 0)]),H):=Z9 bp
theorem L5:PR x0 x10 H0 H =
 Z0 (VD [x0,x10] H) fun g=>
 Z0 (Z4 .neq g.1 (J zA 0)) fun h=>
 Zj h
 (some ((.tuple [(.str []),g.1]),g.2))
 (O9 x10 H0 g.2):=Z9 bp
theorem L6:Ob x0 x10 x15 x16 H0 H =
 Z0 ((ZB 1 [(0,x16)] [(.str [])]).map (.vs 1 .clip)) fun h=>
 Z0 (Vf [x0,x10,h] H) fun g=>
 Z0 (Z4 .neq g.1 (J zA 0)) fun j=>
 Zj j
 (some ((.tuple [(.str []),g.1]),g.2))
 (Wh x0 x10 x15 H0 g.2):=Z9 bp
theorem J3:Oa x0 x10 x15 x16 x17 H0 H =
 Z0 (Xm .not x17) fun g=>
 Zj g
 (PR x0 x10 H0 H)
 (Ob x0 x10 x15 x16 H0 H):=Z9 bp
theorem WL:Wh x0 x10 x15 H0 H =
 Z0 (XR [x15] H) fun g=>
 Z0 (ZJ g.1 0) fun j=>
 Z0 (ZJ g.1 1) fun u=>
 Z0 (ZJ g.1 2) fun h=>
 Z0 (Z4 .neq h (J zA 0)) fun w=>
 Zj w
 (some ((.tuple [(.str []),h]),g.2))
 (Oa x0 x10 x15 j u H0 g.2):=(ZC (C:=cfg) [3,6,9,11,12,16,17,20,23] (Zn 2 (ZbY H0)) _ _).trans (by kernel_rfl)
theorem Zfm:PQ x0 x5 x6 x10 x12 H0 H =
 Z0 (Z3 true 6 x5 H) fun h=>
 Z0 (Z3 true 5 x6 H) fun j=>
 Z0 (N1 [h,j,x12] H) fun g=>
 Wh x0 x10 g.1 H0 g.2:=Z9 bp
theorem Zfp:Od x0 x5 x6 x10 x12 x31 x32 x33 H0 H =
 Z0 (Z4 .add x33 (J zA 1)) fun g=>
 B7 x0 x5 x6 x10 x12 x31 x32 g H0 H:=Z9 bp
theorem Zfo:Oc x0 x5 x6 x10 x12 x31 x32 x33 x34 H0 H =
 Z0 (Zo 1 x31 x33) fun j=>
 Z0 (Z3 false 1 j H) fun u=>
 Z0 (N3 [x0,u] H) fun g=>
 Z0 ((ZB 1 [(0,g.1)] [.nilp]).map (.vs 1 .clip)) fun w=>
 Z0 (Y9 1 8 x12 w g.2) fun h=>
 Od x0 x5 x6 x10 h.1 x31 x32 x33 H0 h.2:=Z9 bp
theorem L7:B7 x0 x5 x6 x10 x12 x31 x32 x33 H0 H =
 Z0 (Z4 .lss x33 x32) fun g=>
 Zj g
 (Oc x0 x5 x6 x10 x12 x31 x32 x33 g H0 H)
 (PQ x0 x5 x6 x10 x12 H0 H):=(ZC (C:=cfg) [3,6,9,11,12,16,17,20,23] (Zn 0 (ZbZ H0)) _ _).trans (by kernel_rfl)
theorem Zfl:O8 x0 x3 x5 x6 x10 H0 H =
 Z0 (Zk (.slice 9) x3) fun g=>
 B7 x0 x5 x6 x10 .nils x3 g (J zA 0) H0 H:=Z9 bp
theorem L4:PP x0 x3 x5 x6 H0 H =
 Z0 (U2 [x0] H) fun g=>
 Z0 (ZJ g.1 0) fun j=>
 Z0 (ZJ g.1 1) fun h=>
 Z0 (Z4 .neq h (J zA 0)) fun u=>
 Zj u
 (some ((.tuple [(.str []),h]),g.2))
 (O8 x0 x3 x5 x6 j H0 g.2):=Z9 bp
theorem Zgi:Q4 [p0,p1,p2,p3] H=Zb8 p0 p1 p2 p3 H:=Be 74 [3,6,9,11,12,16,17,20,23] Tryz.func101
def Tp:Z5:=bd 104 67 Tryz.f104 [1,1,1,1,1,1,1,1] H0 [(13,x13)] H
def To:Z5:=bd 104 67 Tryz.f104 [1,1,1,1,1,1] H0 [(1,x1),(5,x5)] H
def WC:Z5:=bd 104 67 Tryz.f104 [1,1,1,1,1] H0 [(1,x1),(5,x5),(7,x7)] H
def WD:KL:=Zc (JD 104 67 Tryz.f104 [1,1,1,1,1]) (Zf cfg 67 104 Tryz.f104 H0)
theorem LM:ZS 67 (WD H0):=Zw (C:=cfg) (kp:=cfg.keep 104) (bf Tryz.f104 [1,1,1,1,1]) (Zz 104 Tryz.f104 H0)
def K5:Z5:=ZL 104 67 (bf Tryz.f104 [1,1,1,1,0,1,0,0,1,1,1]) (Zc (Xh 104 67 Tryz.f104 [1,1,1,1,0,1,0,0]) (Z8 0 (WD H0))) [(1,x1),(5,x5),(6,x6),(7,x7),(20,x20),(21,x21),(22,x22)] H
def ZaF:KL:=Zc (JD 104 67 Tryz.f104 [1,1,1,1,0,1,0,0,1,1,1]) (Zc (Xh 104 67 Tryz.f104 [1,1,1,1,0,1,0,0]) (Z8 0 (WD H0)))
def Tr:Z5:=ZL 104 67 (bf Tryz.f104 [1,1,1,1,0,1,0,0,1,1,0,0,1,1,1]) (Z8 1 (ZaF H0)) [(1,x1),(5,x5),(6,x6),(7,x7),(8,x8),(10,x10),(11,x11),(20,x20),(21,x21),(22,x22)] H
def Tq:Z5:=ZL 104 67 (bf Tryz.f104 [1,1,1,1,0,1,0,0,1,1]) (Zc (Xh 104 67 Tryz.f104 [1,1,1,1,0,1,0,0]) (Z8 0 (WD H0))) [(1,x1),(5,x5),(6,x6),(7,x7),(20,x20),(21,x21),(22,x22),(23,x23)] H
def Yl:Z5:=KU 104 67 (bf Tryz.f104 [1,1,1,1,0,1,0,0]) (Z8 0 (WD H0)) [(1,x1),(5,x5),(6,x6),(7,x7),(20,x20),(21,x21),(22,x22)] H
def TE:Z5:=
 Z0 (ZO p0 H) fun g=>
 Z0 (some ((.ptr g.2.length 0),g.2++[.cells [(.str []),(J zA 0),(.bool false)]])) fun j=>
 Z0 (some (.fn (.func 128) [] [g.1])) fun u=>
 Z0 (Z3 false 1 g.1 j.2) fun w=>
 Z0 (Zu w) fun y=>
 Z0 (Z6 12 y) fun z=>
 Z0 (Z3 false 1 z j.2) fun h=>
 Z0 (Zk (.slice 130) h) fun A=>
 Yl g.1 j.1 u (J zA 0) h A (J zA 0) H j.2
theorem CD:Tp x13 H0 H =
 some ((.tuple [x13,(.bool true),(J zA 0)]),H):=Z9 br
theorem BK:To x1 x5 H0 H =
 Z0 (Z3 false 1 x1 H) fun j=>
 Z0 (Zu j) fun u=>
 Z0 (Z6 12 u) fun w=>
 Z0 (Z3 false 1 w H) fun y=>
 Z0 (Z6 1 x5) fun z=>
 Z0 (Z3 false 1 z H) fun A=>
 Z0 (Zo 1 y A) fun B=>
 Z0 (Z3 false 1 B H) fun C=>
 Z0 (Qb [C] H) fun g=>
 Z0 (ZJ g.1 0) fun D=>
 Z0 (ZJ g.1 1) fun F=>
 Z0 (ZJ g.1 2) fun h=>
 Z0 (Z4 .neq h (J zA 0)) fun E=>
 Zj E
 (some ((.tuple [(.str []),(.bool false),h]),g.2))
 (Tp D H0 g.2):=Z9 br
theorem WT:WC x1 x5 x7 H0 H =
 Z0 (Z4 .neq x7 (J zA 0)) fun g=>
 Z0 (Z7 g false am (Z6 2 x5)) fun h=>
 Z0 (Z7 g false am (Z3 false 1 h H)) fun j=>
 Z0 (Z7 g false am (Xm .not j)) fun u=>
 Z0 (Zi g (.bool true) u) fun w=>
 Zj w
 (some ((.tuple [(.str []),(.bool false),x7]),H))
 (To x1 x5 H0 H):=Z9 br
theorem BM:K5 x1 x5 x6 x7 x20 x21 x22 H0 H =
 Z0 (Z4 .add x22 (J zA 1)) fun g=>
 Yl x1 x5 x6 x7 x20 x21 g H0 H:=Z9 br
theorem BN:Tr x1 x5 x6 x7 x8 x10 x11 x20 x21 x22 H0 H =
 Zj x11
 (Z0 (V4 [x5,x8,x10,x6] H) fun g=>
 K5 x1 x5 x6 x7 x20 x21 x22 H0 g.2)
 (K5 x1 x5 x6 x7 x20 x21 x22 H0 H):=Z9 br
theorem Q0:Tq x1 x5 x6 x7 x20 x21 x22 x23 H0 H =
 Z0 (Zo 1 x20 x22) fun j=>
 Z0 (Z3 false 1 j H) fun u=>
 Z0 (Vo [u] H) fun g=>
 Z0 (ZJ g.1 0) fun w=>
 Z0 (ZJ g.1 1) fun y=>
 Z0 (ZJ g.1 2) fun h=>
 Z0 (Z4 .neq h (J zA 0)) fun z=>
 Zj z
 (WC x1 x5 h H0 g.2)
 (Tr x1 x5 x6 x7 x22 w y x20 x21 x22 H0 g.2):=Z9 br
theorem WU:Yl x1 x5 x6 x7 x20 x21 x22 H0 H =
 Z0 (Z4 .lss x22 x21) fun g=>
 Zj g
 (Tq x1 x5 x6 x7 x20 x21 x22 g H0 H)
 (WC x1 x5 x7 H0 H):=(ZC (C:=cfg) [6,10,12,13,15,18] (Zn 0 (LM H0)) _ _).trans (by kernel_rfl)
theorem Ax:UF [p0] H=TE p0 H:=Be 67 [6,10,12,13,15,18] Tryz.func104
def FU:Z5:=
 Z0 (Z3 false 1 p2 H) fun I=>
 Z0 (Zu I) fun K=>
 Z0 (Z6 11 K) fun L=>
 Z0 (Z3 false 1 L H) fun t9=>
 Z0 (Z7 t9 true am (Z3 false 1 p2 H)) fun h=>
 Z0 (Z7 t9 true am (Zu h)) fun j=>
 Z0 (Z7 t9 true am (Z6 0 j)) fun u=>
 Z0 (Z7 t9 true am (Z3 true 6 u H)) fun w=>
 Z0 (Z7 t9 true am (Z3 false 1 p2 H)) fun y=>
 Z0 (Z7 t9 true am (Zu y)) fun z=>
 Z0 (Z7 t9 true am (Z6 6 z)) fun A=>
 Z0 (Z7 t9 true am (Z3 true 5 A H)) fun B=>
 Z0 (Z7 t9 true am (some p0)) fun C=>
 Z0 (Z7 t9 true am (some p1)) fun D=>
 Z0 (Z7 t9 true (am,H) (Zh Qc [w,B,C,D] H)) fun g=>
 Z0 (Z7 t9 true am (Z4 .lss g.1 (J zA 0))) fun E=>
 Z0 (Zi t9 E (.bool false)) fun F=>
 some (F,g.2)
theorem Ex:Ja [p0,p1,p2] H=FU p0 p1 p2 H:=Be 24 [] Tryz.func128
def TY:Z5:=bd 129 68 Tryz.f129 [1,1,1,1] H0 [(0,x0)] H
def UP:Z5:=bd 129 68 Tryz.f129 [1,1,1] H0 [(0,x0)] H
def TX:Z5:=bd 129 68 Tryz.f129 [1,1] H0 [(0,x0)] H
def Nj:Z5:=
 Z0 (Yo (.pointer 150) .eql p0 .nilp) fun t9=>
 Zj t9
 (some ((.tuple [(.str []),(.bool false),(J zA 5)]),H))
 (TX p0 H H)
theorem DY:TY x0 H0 H =
 Z0 (Zu x0) fun g=>
 Z0 (Z6 5 g) fun h=>
 Z0 (Z3 false 1 h H) fun j=>
 some ((.tuple [j,(.bool true),(J zA 0)]),H):=Z9 [3,11,13]
theorem Vl:UP x0 H0 H =
 Z0 (Zu x0) fun g=>
 Z0 (Z6 3 g) fun h=>
 Z0 (Z3 false 1 h H) fun j=>
 Z0 (Xm .not j) fun u=>
 Zj u
 (some ((.tuple [(.str []),(.bool false),(J zA 0)]),H))
 (TY x0 H0 H):=Z9 [3,11,13]
theorem W2:TX x0 H0 H =
 Z0 (Zu x0) fun A=>
 Z0 (Z6 3 A) fun B=>
 Z0 (Z3 false 1 B H) fun C=>
 Z0 (Xm .not C) fun h=>
 Z0 (Z7 h true am (some x0)) fun D=>
 Z0 (Z7 h true am (Zu D)) fun E=>
 Z0 (Z7 h true am (Z6 4 E)) fun F=>
 Z0 (Z7 h true am (Z3 false 1 F H)) fun I=>
 Z0 (Z7 h true am (Xm .not I)) fun K=>
 Z0 (Zi h K (.bool false)) fun L=>
 Zj L
 (Z0 (Zu x0) fun M=>
 Z0 (Z6 0 M) fun N=>
 Z0 (Z3 false 1 N H) fun O=>
 Z0 (Zu x0) fun Q=>
 Z0 (Z6 1 Q) fun R=>
 Z0 (Z3 false 1 R H) fun S=>
 Z0 (Zu x0) fun T=>
 Z0 (Z6 2 T) fun U=>
 Z0 (Z3 false 1 U H) fun V=>
 Z0 (VC [O,S,V] H) fun g=>
 Z0 (ZJ g.1 0) fun W=>
 Z0 (ZJ g.1 1) fun t37=>
 Z0 (ZJ g.1 2) fun j=>
 Z0 (Z4 .eql j (J zA 0)) fun X=>
 Zj X
 (Z0 (Zu x0) fun Y=>
 Z0 (Z6 5 Y) fun Z=>
 Z0 (Za 1 Z W g.2) fun u=>
 Z0 (Zu x0) fun aa=>
 Z0 (Z6 2 aa) fun ab=>
 Z0 (Za 1 ab t37 u.2) fun w=>
 Z0 (Zu x0) fun ac=>
 Z0 (Z6 3 ac) fun ad=>
 Z0 (Za 1 ad (.bool true) w.2) fun y=>
 UP x0 H0 y.2)
 (Z0 (Z4 .eql j (J zA 5)) fun ae=>
 Zj ae
 (Z0 (Zu x0) fun af=>
 Z0 (Z6 4 af) fun ag=>
 Z0 (Za 1 ag (.bool true) g.2) fun z=>
 UP x0 H0 z.2)
 (some ((.tuple [(.str []),(.bool false),j]),g.2))))
 (UP x0 H0 H):=Z9 [3,11,13]
theorem Ix:Vo [p0] H=Nj p0 H:=Be 68 [3,11,13] Tryz.func129
def Jd:Z5:=
 Z0 (Zu p0) fun t9=>
 Z0 (Z6 2 t9) fun u=>
 Z0 (Z3 false 1 u H) fun w=>
 Z0 (Xm .not w) fun g=>
 Z0 (Z7 g false am (some p3)) fun y=>
 Z0 (Z7 g false am (some p2)) fun z=>
 Z0 (Z7 g false am (some p0)) fun A=>
 Z0 (Z7 g false am (Zu A)) fun B=>
 Z0 (Z7 g false am (Z6 0 B)) fun C=>
 Z0 (Z7 g false am (Z3 false 1 C H)) fun D=>
 Z0 (Z7 g false (am,H) (Yf cfg (Zb cfg) y [z,D] H)) fun h=>
 Z0 (Zi g (.bool true) h.1) fun E=>
 Zj E
 (Z0 ((YF [(0,1,p2),(1,1,p1),(2,1,(.bool true))] [(.str []),(J zA 0),(.bool false)]).map .agg) fun F=>
 Z0 (Zu p0) fun I=>
 Z0 (Za 3 I F h.2) fun j=>
 some (am,j.2))
 (some (am,h.2))
theorem Rm:V4 [p0,p1,p2,p3] H=Jd p0 p1 p2 p3 H:=Be 27 [] Tryz.func130
def KY:Z5:=bd 131 24 Tryz.f131 [1,1,1] H0 [(5,x5),(6,x6),(7,x7)] H
def Ni:Z5:=
 Z0 (Vo [p0] H) fun g=>
 Z0 (ZJ g.1 0) fun u=>
 Z0 (ZJ g.1 1) fun h=>
 Z0 (ZJ g.1 2) fun w=>
 Zj h
 (Z0 (Zu p0) fun z=>
 Z0 (Z6 3 z) fun A=>
 Z0 (Za 1 A (.bool false) g.2) fun y=>
 Z0 (Zu p0) fun B=>
 Z0 (Z6 5 B) fun C=>
 Z0 (Za 1 C (.str []) y.2) fun j=>
 KY u h w H j.2)
 (KY u h w H g.2)
theorem QJ:KY x5 x6 x7 H0 H =
 some ((.tuple [x5,x6,x7]),H):=Z9 [4]
theorem Iw:Qb [p0] H=Ni p0 H:=Be 24 [4] Tryz.func131
end
end Go.Am
