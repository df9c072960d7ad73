/- The functions of the translation over the abstract machine -/
import Derived.Test.YtnaneekpogohaaaGreatDoorXeGx
open Go.Am.AV renaming int->zA
open Go.IntKind renaming i64->J
namespace Go.Am
open Go.Proofs
set_option maxRecDepth 100000
noncomputable abbrev ZL (f n:Nat):=Yl cfg (Za cfg) (Y4 cfg (cfg.keep f) n) (cfg.keep f) n Zc Z6
noncomputable abbrev Gh (f n:Nat):=Y4 cfg (cfg.keep f) n
noncomputable section
abbrev G8 (f n:Nat)(F:Func)(p:List Nat):KL->AL->Hp->Z4:=fun k g H=>ZL f n (sub (Z1 F) p) k (Y3 (cfg.keep f) (sub (Z1 F) p) g) H
abbrev XC (f n:Nat)(F:Func)(p:List Nat):KL->AL->Hp->Z4:=fun k g H=>Gh f n (sub (Z1 F) p) k (Y3 (cfg.keep f) (sub (Z1 F) p) g) H
variable (p0 p1 p2 p3 p4 x0 x1 x3 x4 x5 x6 x7 x8 x9 x10 x11 x12 x13 x14 x15 x16 x17 x18 x19 x20 x21 x22 x23 x25 x26 x27 x28 x31 x32 x33 x34 x35 x48 x49 x50 x51:AV)(H0 H:Hp)
abbrev ba:List Nat:=[4,7,13,14,17,20,24,900002]
abbrev bb:List Nat:=[3,6,9,12,13,14,16,17,18]
abbrev bc:List Nat:=[3,6,8,10,12,15,16]
abbrev bd:List Nat:=[4,8,10,11,14,15,16]
abbrev bf:List Nat:=[4,6,7,12,14]
abbrev bg:List Nat:=[3,6,10,14,15,16]
abbrev bh:List Nat:=[3,6,9,11,12,16,17,20,23]
abbrev bi:List Nat:=[6,10,12,13,15,18]
def XF:Z4:=ZL 20 86 (sub (Uu cfg 20 Tryz.f20) [1,1,1,1,1,1,1]) (Zg cfg 86 20 Tryz.f20 H0) [(10,x10),(11,x11),(12,x12),(35,x35)] H
def Vr:KL:=Zc (fun k g H=>ZL 20 86 (sub (Uu cfg 20 Tryz.f20) [1,1,1,1,1,1,1]) k (Y3 (cfg.keep 20) (sub (Uu cfg 20 Tryz.f20) [1,1,1,1,1,1,1]) g) H) (Zg cfg 86 20 Tryz.f20 H0)
theorem O4:ZR 86 (Vr H0):=Zw (C:=cfg) (kp:=cfg.keep 20) (sub (Uu cfg 20 Tryz.f20) [1,1,1,1,1,1,1]) (ZB 20 Tryz.f20 H0)
def Cj:Z4:=ZL 20 86 (sub (Uu cfg 20 Tryz.f20) [1,1,1,1,1,1,0,0,1,1,1,1,1,1,1]) (Z6 900001 (Vr H0)) [(10,x10),(11,x11),(12,x12),(16,x16),(35,x35)] H
def Ci:Z4:=ZL 20 86 (sub (Uu cfg 20 Tryz.f20) [1,1,1,1,1,1,0,0,1,1,1,1,1]) (Z6 900001 (Vr H0)) [(10,x10),(11,x11),(12,x12),(14,x14),(15,x15),(16,x16),(35,x35)] H
def Q5:Z4:=ZL 20 86 (sub (Uu cfg 20 Tryz.f20) [1,1,1,1,1,1,0,0,1,1,1]) (Z6 900001 (Vr H0)) [(11,x11),(12,x12),(14,x14),(15,x15),(16,x16),(35,x35)] H
def RF:KL:=Zc (fun k g H=>ZL 20 86 (sub (Uu cfg 20 Tryz.f20) [1,1,1,1,1,1,0,0,1,1,1]) k (Y3 (cfg.keep 20) (sub (Uu cfg 20 Tryz.f20) [1,1,1,1,1,1,0,0,1,1,1]) g) H) (Z6 900001 (Vr H0))
theorem O5:ZR 86 (RF H0):=Zw (C:=cfg) (kp:=cfg.keep 20) (sub (Uu cfg 20 Tryz.f20) [1,1,1,1,1,1,0,0,1,1,1]) (Zn 900001 (O4 H0))
def Cl:Z4:=ZL 20 86 (sub (Uu cfg 20 Tryz.f20) [1,1,1,1,1,1,0,0,1,1,0,0,0,1]) (Zc (fun k g H=>Gh 20 86 (sub (Uu cfg 20 Tryz.f20) [1,1,1,1,1,1,0,0,1,1,0,0,0]) k (Y3 (cfg.keep 20) (sub (Uu cfg 20 Tryz.f20) [1,1,1,1,1,1,0,0,1,1,0,0,0]) g) H) (Z6 0 (RF H0))) [(8,x8),(11,x11),(12,x12),(14,x14),(15,x15),(16,x16),(35,x35)] H
def XH:Z4:=Gh 20 86 (sub (Uu cfg 20 Tryz.f20) [1,1,1,1,1,1,0,0,1,1,0,0,0]) (Z6 0 (RF H0)) [(8,x8),(11,x11),(12,x12),(14,x14),(15,x15),(16,x16),(35,x35)] H
def Ch:Z4:=ZL 20 86 (sub (Uu cfg 20 Tryz.f20) [1,1,1,1,1,1,0,0,1,1]) (Z6 900001 (Vr H0)) [(8,x8),(11,x11),(12,x12),(14,x14),(15,x15),(16,x16),(35,x35)] H
def Cg:Z4:=ZL 20 86 (sub (Uu cfg 20 Tryz.f20) [1,1,1,1]) (Zg cfg 86 20 Tryz.f20 H0) [(4,x4),(6,x6),(7,x7),(8,x8),(11,x11),(12,x12),(14,x14)] H
def RE:Z4:=ZL 20 86 (sub (Uu cfg 20 Tryz.f20) [1,1]) (Zg cfg 86 20 Tryz.f20 H0) [(0,x0),(4,x4),(6,x6),(7,x7),(8,x8),(11,x11),(12,x12)] H
def Ad:Z4:=
 Z0 (ZN p1 H) fun K=>
 Z0 (ZN p2 K.2) fun z=>
 Z0 (ZN p3 z.2) fun y=>
 Z0 (some ((.ptr y.2.length 0),y.2++[.cells [(zA J 0),(zA J 0),(zA J 0),(zA J 0)]])) fun h=>
 Z0 (some ((.ptr h.2.length 0),h.2++[.cells [(zA J 0)]])) fun g=>
 Z0 (Z3 true 5 z.1 g.2) fun A=>
 Z0 (Z3 true 2 y.1 g.2) fun B=>
 Z0 (FX [p0,A,B,p4] g.2) fun u=>
 Z0 (Z5 .neq u.1 (zA J 0)) fun C=>
 Zj C
 (Z0 (some (.agg [(zA J 0),(zA J 0),(zA J 0),(zA J 0)])) fun D=>
 Z0 (Zb 4 h.1 D u.2) fun w=>
 Z0 (Zb 1 g.1 u.1 w.2) fun j=>
 Z0 (Z3 true 4 h.1 j.2) fun E=>
 Z0 (Z3 false 1 g.1 j.2) fun F=>
 some ((.tuple [.nils,E,F]),j.2))
 (RE p0 p4 K.1 z.1 y.1 h.1 g.1 H u.2)
theorem Gt:XF x10 x11 x12 x35 H0 H =
 Z0 (Yd cfg (Za cfg) x35 [] H) fun g=>
 Z0 (Z3 true 4 x11 g.2) fun h=>
 Z0 (Z3 false 1 x12 g.2) fun j=>
 some ((.tuple [x10,h,j]),g.2):=Z9 ba
theorem ZcD:Cj x10 x11 x12 x16 x35 H0 H =
 Z0 (Zu x16) fun j=>
 Z0 (Z7 13 j) fun u=>
 Z0 (Z3 true 4 u H) fun w=>
 Z0 (Zb 4 x11 w H) fun g=>
 Z0 (Zb 1 x12 (zA J 0) g.2) fun h=>
 XF x10 x11 x12 x35 H0 h.2:=Z9 ba
theorem N9:Ci x10 x11 x12 x14 x15 x16 x35 H0 H =
 Z0 (Zb 1 x15 (.bool true) H) fun h=>
 Z0 (Z3 false 1 x14 h.2) fun y=>
 Z0 (V7 [y] h.2) fun j=>
 Z0 (Zb 1 x12 j.1 j.2) fun g=>
 Z0 (Z3 false 1 x12 g.2) fun z=>
 Z0 (Z5 .neq z (zA J 0)) fun A=>
 Zj A
 (Z0 (OX x12 x11) fun _=>
 Z0 (some (.agg [(zA J 0),(zA J 0),(zA J 0),(zA J 0)])) fun B=>
 Z0 (Z3 false 1 x12 g.2) fun C=>
 Z0 (Zb 4 x11 B g.2) fun u=>
 Z0 (Zb 1 x12 C u.2) fun w=>
 XF .nils x11 x12 x35 H0 w.2)
 (Cj x10 x11 x12 x16 x35 H0 g.2):=Z9 ba
theorem Gu:Q5 x11 x12 x14 x15 x16 x35 H0 H =
 Z0 (XM [x16] H) fun h=>
 Z0 (ZO h.1 0) fun w=>
 Z0 (ZO h.1 1) fun t70=>
 Z0 (Zb 1 x12 t70 h.2) fun g=>
 Z0 (Z3 false 1 x12 g.2) fun y=>
 Z0 (Z5 .neq y (zA J 0)) fun t72=>
 Zj t72
 (Z0 (OX x12 x11) fun _=>
 Z0 (some (.agg [(zA J 0),(zA J 0),(zA J 0),(zA J 0)])) fun z=>
 Z0 (Z3 false 1 x12 g.2) fun A=>
 Z0 (Zb 4 x11 z g.2) fun j=>
 Z0 (Zb 1 x12 A j.2) fun u=>
 XF .nils x11 x12 x35 H0 u.2)
 (Ci w x11 x12 x14 x15 x16 x35 H0 g.2):=Z9 ba
theorem Na:Cl x8 x11 x12 x14 x15 x16 x35 H0 H =
 Z0 (Z7 1 x8) fun w=>
 Z0 (Z3 false 1 w H) fun y=>
 Z0 (W7 [x16,y] H) fun h=>
 Z0 (Zb 1 x12 h.1 h.2) fun g=>
 Z0 (Z3 false 1 x12 g.2) fun z=>
 Z0 (Z5 .neq z (zA J 0)) fun A=>
 Zj A
 (Z0 (OX x12 x11) fun _=>
 Z0 (some (.agg [(zA J 0),(zA J 0),(zA J 0),(zA J 0)])) fun B=>
 Z0 (Z3 false 1 x12 g.2) fun C=>
 Z0 (Zb 4 x11 B g.2) fun j=>
 Z0 (Zb 1 x12 C j.2) fun u=>
 XF .nils x11 x12 x35 H0 u.2)
 (XH x8 x11 x12 x14 x15 x16 x35 H0 g.2):=Z9 ba
theorem Q6:XH x8 x11 x12 x14 x15 x16 x35 H0 H =
 Z0 (Zu x16) fun g=>
 Z0 (Z7 12 g) fun h=>
 Z0 (Z3 false 1 h H) fun j=>
 Z0 (Zk (.slice 9) j) fun u=>
 Z0 (Z7 1 x8) fun w=>
 Z0 (Z3 false 1 w H) fun y=>
 Z0 (Z5 .gtr u y) fun z=>
 Zj z
 (Cl x8 x11 x12 x14 x15 x16 x35 H0 H)
 (Q5 x11 x12 x14 x15 x16 x35 H0 H):=(ZC (C:=cfg) [4,7,13,14,17,20,24,900002] (Zn 0 (O5 H0)) _ _).trans (by kernel_rfl)
theorem ZcC:Ch x8 x11 x12 x14 x15 x16 x35 H0 H =
 XH x8 x11 x12 x14 x15 x16 x35 H0 H:=Z9 ba
theorem N8:Cg x4 x6 x7 x8 x11 x12 x14 H0 H =
 Z0 (some ((.ptr H.length 0),H++[.cells [(.bool false)]])) fun j=>
 Z0 (Zb 1 j.1 (.bool false) j.2) fun g=>
 Z0 (some (.fn (.func 44) [] [x12,j.1,x14])) fun A=>
 Z0 (Z3 false 1 x14 g.2) fun B=>
 Z0 (Z3 true 6 x6 g.2) fun t37=>
 Z0 (Z3 true 5 x7 g.2) fun C=>
 Z0 ((YD [(0,1,B),(1,6,t37),(7,5,C)] [.nilp,(.str []),.nils,(.str []),(.str []),.nils,.nils,.nils,(zA J 0),(zA J 0),(.bool false),(.bool false),.nils,(zA J 0),(zA J 0),(zA J 0),(zA J 0)]).map .agg) fun D=>
 Z0 (ZN D g.2) fun u=>
 Z0 (Z7 0 x8) fun E=>
 Z0 (Z3 false 1 E u.2) fun F=>
 Z0 (V5 [u.1,x4,F] u.2) fun w=>
 Z0 (Zb 1 x12 w.1 w.2) fun h=>
 Z0 (Z3 false 1 x12 h.2) fun K=>
 Z0 (Z5 .neq K (zA J 0)) fun L=>
 Zj L
 (Z0 (OX x12 x11) fun _=>
 Z0 (some (.agg [(zA J 0),(zA J 0),(zA J 0),(zA J 0)])) fun M=>
 Z0 (Z3 false 1 x12 h.2) fun N=>
 Z0 (Zb 4 x11 M h.2) fun y=>
 Z0 (Zb 1 x12 N y.2) fun z=>
 XF .nils x11 x12 A H0 z.2)
 (Ch x8 x11 x12 x14 j.1 u.1 A H0 h.2):=Z9 ba
theorem Gs:RE x0 x4 x6 x7 x8 x11 x12 H0 H =
 Z0 (Wn [x0,(.str [115,111,114,116]),(zA J 262144)] H) fun j=>
 Z0 (ZO j.1 0) fun z=>
 Z0 (ZO j.1 1) fun A=>
 Z0 (some ((.ptr j.2.length 0),j.2++[.cells [.nilp]])) fun u=>
 Z0 (Zb 1 u.1 z u.2) fun w=>
 Z0 (Zb 1 x12 A w.2) fun g=>
 Z0 (Z3 false 1 x12 g.2) fun B=>
 Z0 (Z5 .neq B (zA J 0)) fun C=>
 Zj C
 (Z0 (OX x12 x11) fun _=>
 Z0 (some (.agg [(zA J 0),(zA J 0),(zA J 0),(zA J 0)])) fun D=>
 Z0 (Z3 false 1 x12 g.2) fun E=>
 Z0 (Zb 4 x11 D g.2) fun y=>
 Z0 (Zb 1 x12 E y.2) fun h=>
 Z0 (Z3 true 4 x11 h.2) fun F=>
 Z0 (Z3 false 1 x12 h.2) fun K=>
 some ((.tuple [.nils,F,K]),h.2))
 (Cg x4 x6 x7 x8 x11 x12 u.1 H0 g.2):=Z9 ba
theorem ZdM:Xp [p0,p1,p2,p3,p4] H=Ad p0 p1 p2 p3 p4 H:=(Ze (C:=cfg) (fn:=Tryz.f20) (c:=Uu cfg 20 Tryz.f20) (n:=86) [4,7,13,14,17,20,24,900002] Tryz.func20 (by kernel_rfl) (by kernel_rfl) [p0,p1,p2,p3,p4] (by kernel_rfl) H).trans (by kernel_rfl)
noncomputable abbrev b9 (f n:Nat)(F:Func)(p:List Nat)(G:Hp):=fun k K=>ZL f n (sub (Z1 F) p) (Zg cfg n f F G) k K
def C9:Z4:=b9 35 62 Tryz.f35 [1,1,1,1,1] H0 [(4,x4),(5,x5)] H
def KP:KL:=Zc (G8 35 62 Tryz.f35 [1,1,1,1,1]) (Zg cfg 62 35 Tryz.f35 H0)
theorem O2:ZR 62 (KP H0):=Zw (C:=cfg) (kp:=cfg.keep 35) (sub (Z1 Tryz.f35) [1,1,1,1,1]) (ZB 35 Tryz.f35 H0)
def Cb:Z4:=ZL 35 62 (sub (Z1 Tryz.f35) [1,1,1,1,0,1,0,0,1,1]) (Zc (XC 35 62 Tryz.f35 [1,1,1,1,0,1,0,0]) (Z6 2 (KP H0))) [(3,x3),(4,x4),(5,x5),(10,x10)] H
def Ca:Z4:=ZL 35 62 (sub (Z1 Tryz.f35) [1,1,1,1,0,1,0,0,1]) (Zc (XC 35 62 Tryz.f35 [1,1,1,1,0,1,0,0]) (Z6 2 (KP H0))) [(3,x3),(4,x4),(5,x5),(10,x10)] H
def RC:Z4:=Gh 35 62 (sub (Z1 Tryz.f35) [1,1,1,1,0,1,0,0]) (Z6 2 (KP H0)) [(3,x3),(4,x4),(5,x5),(10,x10)] H
def C8:Z4:=b9 35 62 Tryz.f35 [1,1,1,1] H0 [(3,x3),(4,x4),(5,x5)] H
def Q4:KL:=Zc (G8 35 62 Tryz.f35 [1,1,1,1]) (Zg cfg 62 35 Tryz.f35 H0)
theorem O3:ZR 62 (Q4 H0):=Zw (C:=cfg) (kp:=cfg.keep 35) (sub (Z1 Tryz.f35) [1,1,1,1]) (ZB 35 Tryz.f35 H0)
def Cd:Z4:=ZL 35 62 (sub (Z1 Tryz.f35) [1,1,1,0,1,0,0,1,1,1]) (Zc (XC 35 62 Tryz.f35 [1,1,1,0,1,0,0]) (Z6 0 (Q4 H0))) [(3,x3),(4,x4),(5,x5),(6,x6),(14,x14),(15,x15),(16,x16)] H
def Cf:KL:=Zc (G8 35 62 Tryz.f35 [1,1,1,0,1,0,0,1,1,1]) (Zc (XC 35 62 Tryz.f35 [1,1,1,0,1,0,0]) (Z6 0 (Q4 H0)))
def RB:Z4:=ZL 35 62 (sub (Z1 Tryz.f35) [1,1,1,0,1,0,0,1,1,0,0,1,1,1,1]) (Z6 1 (Cf H0)) [(3,x3),(4,x4),(5,x5),(6,x6),(9,x9),(14,x14),(15,x15),(16,x16)] H
def Ce:Z4:=ZL 35 62 (sub (Z1 Tryz.f35) [1,1,1,0,1,0,0,1,1,0,0,1,1]) (Z6 1 (Cf H0)) [(3,x3),(4,x4),(5,x5),(6,x6),(7,x7),(8,x8),(14,x14),(15,x15),(16,x16)] H
def Cc:Z4:=ZL 35 62 (sub (Z1 Tryz.f35) [1,1,1,0,1,0,0,1,1]) (Zc (XC 35 62 Tryz.f35 [1,1,1,0,1,0,0]) (Z6 0 (Q4 H0))) [(3,x3),(4,x4),(5,x5),(6,x6),(14,x14),(15,x15),(16,x16),(17,x17)] H
def RD:Z4:=Gh 35 62 (sub (Z1 Tryz.f35) [1,1,1,0,1,0,0]) (Z6 0 (Q4 H0)) [(3,x3),(4,x4),(5,x5),(6,x6),(14,x14),(15,x15),(16,x16)] H
def C7:Z4:=b9 35 62 Tryz.f35 [1,1] H0 [(0,x0),(3,x3),(4,x4),(5,x5)] H
def Ac:Z4:=
 Z0 (ZN p1 H) fun h=>
 Z0 (Z3 true 2 h.1 h.2) fun j=>
 Z0 (Zf KH [j] h.2) fun g=>
 Z0 (Xv .not g.1) fun u=>
 Zj u
 (some ((.tuple [(zA J 0),(zA J 0)]),g.2))
 (C7 p0 h.1 (zA J 0) (zA J 0) H g.2)
theorem Zct:C9 x4 x5 H0 H =
 some ((.tuple [x4,x5]),H):=Z9 bb
theorem Zcv:Cb x3 x4 x5 x10 H0 H =
 Z0 (Z7 1 x3) fun g=>
 Z0 (Z3 false 1 g H) fun h=>
 Z0 (Z5 .add x10 h) fun j=>
 Z0 (Z5 .sub j (zA J 1)) fun u=>
 Z0 (Z7 1 x3) fun w=>
 Z0 (Z3 false 1 w H) fun y=>
 Z0 (Z5 .quo u y) fun z=>
 RC x3 x4 x5 z H0 H:=Z9 bb
theorem Zcu:Ca x3 x4 x5 x10 H0 H =
 Z0 (Z5 .add x5 (zA J 1)) fun g=>
 Cb x3 x4 g x10 H0 H:=Z9 bb
theorem ZcA:RC x3 x4 x5 x10 H0 H =
 Z0 (Z7 1 x3) fun g=>
 Z0 (Z3 false 1 g H) fun h=>
 Z0 (Z5 .gtr x10 h) fun j=>
 Zj j
 (Ca x3 x4 x5 x10 H0 H)
 (C9 x4 x5 H0 H):=(ZC (C:=cfg) [3,6,9,12,13,14,16,17,18] (Zn 2 (O2 H0)) _ _).trans (by kernel_rfl)
theorem Zcs:C8 x3 x4 x5 H0 H =
 RC x3 x4 x5 x4 H0 H:=Z9 bb
theorem Zcx:Cd x3 x4 x5 x6 x14 x15 x16 H0 H =
 Z0 (Z5 .add x16 (zA J 1)) fun g=>
 RD x3 x4 x5 x6 x14 x15 g H0 H:=Z9 bb
theorem Zcz:RB x3 x4 x5 x6 x9 x14 x15 x16 H0 H =
 Z0 (Z5 .add x6 x9) fun g=>
 Cd x3 x4 x5 g x14 x15 x16 H0 H:=Z9 bb
theorem Zcy:Ce x3 x4 x5 x6 x7 x8 x14 x15 x16 H0 H =
 Z0 (Z5 .add x8 (zA J 16)) fun h=>
 Z0 (Z5 .eql x7 (zA J 0)) fun g=>
 Z0 (Z8 g false ak (some x6)) fun j=>
 Z0 (Z8 g false ak (some h)) fun u=>
 Z0 (Z8 g false ak (Z5 .add j u)) fun w=>
 Z0 (Z8 g false ak (Z7 0 x3)) fun y=>
 Z0 (Z8 g false ak (Z3 false 1 y H)) fun z=>
 Z0 (Z8 g false ak (Z5 .gtr w z)) fun t37=>
 Z0 (Zi g (.bool true) t37) fun A=>
 Zj A
 (Z0 (Z5 .add x4 (zA J 1)) fun B=>
 RB x3 B x5 (zA J 0) h x14 x15 x16 H0 H)
 (RB x3 x4 x5 x6 h x14 x15 x16 H0 H):=Z9 bb
theorem Zcw:Cc x3 x4 x5 x6 x14 x15 x16 x17 H0 H =
 Z0 (Zo 1 x14 x16) fun j=>
 Z0 (Z3 false 1 j H) fun g=>
 Z0 (Z5 .lss g (zA J 0)) fun h=>
 Z0 (Z8 h false ak (some g)) fun u=>
 Z0 (Z8 h false ak (Z5 .gtr u (zA J 4096))) fun w=>
 Z0 (Zi h (.bool true) w) fun y=>
 Zj y
 (some ((.tuple [(zA J 0),(zA J 0)]),H))
 (Ce x3 x4 x5 x6 x16 g x14 x15 x16 H0 H):=Z9 bb
theorem ZcB:RD x3 x4 x5 x6 x14 x15 x16 H0 H =
 Z0 (Z5 .lss x16 x15) fun g=>
 Zj g
 (Cc x3 x4 x5 x6 x14 x15 x16 g H0 H)
 (C8 x3 x4 x5 H0 H):=(ZC (C:=cfg) [3,6,9,12,13,14,16,17,18] (Zn 0 (O3 H0)) _ _).trans (by kernel_rfl)
theorem Zcr:C7 x0 x3 x4 x5 H0 H =
 Z0 (Zk (.slice 3) x0) fun g=>
 RD x3 x4 x5 (zA J 0) x0 g (zA J 0) H0 H:=Z9 bb
theorem ZdL:TP [p0,p1] H=Ac p0 p1 H:=Be 62 [3,6,9,12,13,14,16,17,18] Tryz.func35
def Eg:Z4:=b9 42 35 Tryz.f42 [1,1,1,1,1,1] H0 [] H
def Jy:KL:=Zc (G8 42 35 Tryz.f42 [1,1,1,1,1,1]) (Zg cfg 35 42 Tryz.f42 H0)
theorem AI:ZR 35 (Jy H0):=Zw (C:=cfg) (kp:=cfg.keep 42) (sub (Z1 Tryz.f42) [1,1,1,1,1,1]) (ZB 42 Tryz.f42 H0)
def Ei:Z4:=ZL 42 35 (sub (Z1 Tryz.f42) [1,1,1,1,1,0,1,0,0,1,1,1]) (Zc (XC 42 35 Tryz.f42 [1,1,1,1,1,0,1,0,0]) (Z6 0 (Jy H0))) [(25,x25),(26,x26),(27,x27)] H
def Eh:Z4:=ZL 42 35 (sub (Z1 Tryz.f42) [1,1,1,1,1,0,1,0,0,1,1]) (Zc (XC 42 35 Tryz.f42 [1,1,1,1,1,0,1,0,0]) (Z6 0 (Jy H0))) [(25,x25),(26,x26),(27,x27),(28,x28)] H
def Jz:Z4:=Gh 42 35 (sub (Z1 Tryz.f42) [1,1,1,1,1,0,1,0,0]) (Z6 0 (Jy H0)) [(25,x25),(26,x26),(27,x27)] H
def Ef:Z4:=b9 42 35 Tryz.f42 [1,1,1,1,1] H0 [(3,x3)] H
def Ee:Z4:=b9 42 35 Tryz.f42 [1,1,1,1] H0 [(3,x3)] H
def Ed:Z4:=b9 42 35 Tryz.f42 [1,1,1] H0 [(3,x3),(6,x6)] H
def Ec:Z4:=b9 42 35 Tryz.f42 [1,1] H0 [(3,x3),(5,x5),(6,x6)] H
def SH:Z4:=
 Z0 (ZN p1 H) fun j=>
 Z0 (ZN p2 j.2) fun g=>
 Z0 (Yy (.pointer 82) .eql p0 .nilp) fun h=>
 Zj h
 (some ((zA J 5),g.2))
 (Ec p3 j.1 g.1 H g.2)
theorem ZaM:Eg H0 H =
 some ((zA J 0),H):=Z9 bc
theorem ZaN:Ei x25 x26 x27 H0 H =
 Z0 (Z5 .add x27 (zA J 1)) fun g=>
 Jz x25 x26 g H0 H:=Z9 bc
theorem Ts:Eh x25 x26 x27 x28 H0 H =
 Z0 (Zo 1 x25 x27) fun g=>
 Z0 (Z3 false 1 g H) fun h=>
 Z0 (Zk .string h) fun j=>
 Z0 (Z5 .gtr j (zA J 4096)) fun u=>
 Zj u
 (some ((zA J 3),H))
 (Ei x25 x26 x27 H0 H):=Z9 bc
theorem Tt:Jz x25 x26 x27 H0 H =
 Z0 (Z5 .lss x27 x26) fun g=>
 Zj g
 (Eh x25 x26 x27 g H0 H)
 (Eg H0 H):=(ZC (C:=cfg) [3,6,8,10,12,15,16] (Zn 0 (AI H0)) _ _).trans (by kernel_rfl)
theorem ZaL:Ef x3 H0 H =
 Z0 (Zk (.slice 9) x3) fun g=>
 Jz x3 g (zA J 0) H0 H:=Z9 bc
theorem Tr:Ee x3 H0 H =
 Z0 (Zk (.slice 9) x3) fun g=>
 Z0 (Z5 .gtr g (zA J 8192)) fun h=>
 Zj h
 (some ((zA J 3),H))
 (Ef x3 H0 H):=Z9 bc
theorem KC:Ed x3 x6 H0 H =
 Z0 (Z3 true 2 x6 H) fun h=>
 Z0 (Zf KH [h] H) fun g=>
 Z0 (Xv .not g.1) fun j=>
 Zj j
 (some ((zA J 2),g.2))
 (Ee x3 H0 g.2):=Z9 bc
theorem Ux:Ec x3 x5 x6 H0 H =
 Z0 (Z3 true 5 x5 H) fun h=>
 Z0 (Zf Wl [h] H) fun g=>
 Z0 (Z5 .neq g.1 (zA J 0)) fun j=>
 Zj j
 (some (g.1,g.2))
 (Ed x3 x6 H0 g.2):=Z9 bc
theorem Zbq:FX [p0,p1,p2,p3] H=SH p0 p1 p2 p3 H:=Be 35 [3,6,8,10,12,15,16] Tryz.func42
def Jo:Z4:=
 Z0 (Z3 false 1 p0 H) fun t3=>
 Z0 (Z5 .neq t3 (zA J 0)) fun t4=>
 Z0 (Z8 t4 true ak (Z3 false 1 p1 H)) fun h=>
 Z0 (Z8 t4 true ak (Xv .not h)) fun j=>
 Z0 (Zi t4 j (.bool false)) fun u=>
 Zj u
 (Z0 (Z3 false 1 p2 H) fun t9=>
 Z0 (V7 [t9] H) fun g=>
 some (ak,g.2))
 (some (ak,H))
theorem Kz:Lw [p0,p1,p2] H=Jo p0 p1 p2 H:=Be 11 [] Tryz.func44
def Bl:Z4:=b9 46 73 Tryz.f46 [1,1] H0 [] H
def Xy:KL:=Zc (G8 46 73 Tryz.f46 [1,1]) (Zg cfg 73 46 Tryz.f46 H0)
theorem Pa:ZR 73 (Xy H0):=Zw (C:=cfg) (kp:=cfg.keep 46) (sub (Z1 Tryz.f46) [1,1]) (ZB 46 Tryz.f46 H0)
def Bn:Z4:=ZL 46 73 (sub (Z1 Tryz.f46) [1,0,1,0,0,1,1,1]) (Zc (XC 46 73 Tryz.f46 [1,0,1,0,0]) (Z6 0 (Xy H0))) [(0,x0),(13,x13),(14,x14),(15,x15)] H
def Sw:KL:=Zc (G8 46 73 Tryz.f46 [1,0,1,0,0,1,1,1]) (Zc (XC 46 73 Tryz.f46 [1,0,1,0,0]) (Z6 0 (Xy H0)))
def Bo:Z4:=ZL 46 73 (sub (Z1 Tryz.f46) [1,0,1,0,0,1,1,0,0,1,1,1]) (Z6 1 (Sw H0)) [(0,x0),(8,x8),(9,x9),(13,x13),(14,x14),(15,x15)] H
def Bm:Z4:=ZL 46 73 (sub (Z1 Tryz.f46) [1,0,1,0,0,1,1]) (Zc (XC 46 73 Tryz.f46 [1,0,1,0,0]) (Z6 0 (Xy H0))) [(0,x0),(13,x13),(14,x14),(15,x15),(16,x16)] H
def YC:Z4:=Gh 46 73 (sub (Z1 Tryz.f46) [1,0,1,0,0]) (Z6 0 (Xy H0)) [(0,x0),(13,x13),(14,x14),(15,x15)] H
def Qn:Z4:=
 Z0 (Zf LC [p1,p2] H) fun g=>
 Z0 (Zk (.slice 29) g.1) fun h=>
 YC p0 g.1 h (zA J 0) H g.2
theorem NM:Bl H0 H =
 some ((zA J 0),H):=Z9 [3,7,11,12]
theorem NN:Bn x0 x13 x14 x15 H0 H =
 Z0 (Z5 .add x15 (zA J 1)) fun t72=>
 YC x0 x13 x14 t72 H0 H:=Z9 [3,7,11,12]
theorem NO:Bo x0 x8 x9 x13 x14 x15 H0 H =
 Z0 (W8 [x0] H) fun j=>
 Z0 (Zu x0) fun z=>
 Z0 (Z7 12 z) fun A=>
 Z0 (Z3 false 1 A j.2) fun B=>
 Z0 ((ZA 1 [(0,x9)] [(.str [])]).map (.vs 1 .clip)) fun C=>
 Z0 (Y7 1 16 B C j.2) fun u=>
 Z0 (Zu x0) fun D=>
 Z0 (Z7 12 D) fun E=>
 Z0 (Zb 1 E u.1 u.2) fun g=>
 Z0 (Zu x0) fun F=>
 Z0 (Z7 13 F) fun K=>
 Z0 (Z7 0 K) fun L=>
 Z0 (Z3 false 1 L g.2) fun M=>
 Z0 (Z5 .add M (zA J 1)) fun N=>
 Z0 (Zu x0) fun O=>
 Z0 (Z7 13 O) fun Q=>
 Z0 (Z7 0 Q) fun R=>
 Z0 (Zb 1 R N g.2) fun h=>
 Z0 (Zu x0) fun S=>
 Z0 (Z7 13 S) fun T=>
 Z0 (Z7 2 T) fun U=>
 Z0 (Z3 false 1 U h.2) fun V=>
 Z0 (Zf TQ [x8] h.2) fun w=>
 Z0 (KN V w.1) fun W=>
 Z0 (Zu x0) fun X=>
 Z0 (Z7 13 X) fun t70=>
 Z0 (Z7 2 t70) fun Y=>
 Z0 (Zb 1 Y W w.2) fun y=>
 Bn x0 x13 x14 x15 H0 y.2:=Z9 [3,7,11,12]
theorem K9:Bm x0 x13 x14 x15 x16 H0 H =
 Z0 (Zo 1 x13 x15) fun u=>
 Z0 (Z3 false 1 u H) fun h=>
 Z0 (Zu x0) fun w=>
 Z0 (Z7 0 w) fun y=>
 Z0 (Z3 false 1 y H) fun z=>
 Z0 (Zu x0) fun A=>
 Z0 (Z7 1 A) fun B=>
 Z0 (Z3 true 6 B H) fun C=>
 Z0 (Zu x0) fun D=>
 Z0 (Z7 7 D) fun E=>
 Z0 (Z3 true 5 E H) fun F=>
 Z0 (Gb [z,C,F,h] H) fun g=>
 Z0 (ZO g.1 0) fun K=>
 Z0 (ZO g.1 1) fun j=>
 Z0 (Z5 .neq j (zA J 0)) fun t37=>
 Zj t37
 (some (j,g.2))
 (Bo x0 h K x13 x14 x15 H0 g.2):=Z9 [3,7,11,12]
theorem VA:YC x0 x13 x14 x15 H0 H =
 Z0 (Z5 .lss x15 x14) fun g=>
 Zj g
 (Bm x0 x13 x14 x15 g H0 H)
 (Bl H0 H):=(ZC (C:=cfg) [3,7,11,12] (Zn 0 (Pa H0)) _ _).trans (by kernel_rfl)
theorem KK:V5 [p0,p1,p2] H=Qn p0 p1 p2 H:=Be 73 [3,7,11,12] Tryz.func46
def Dr:Z4:=b9 47 60 Tryz.f47 [1,1,1] H0 [(0,x0),(5,x5)] H
def XO:KL:=Zc (G8 47 60 Tryz.f47 [1,1,1]) (Zg cfg 60 47 Tryz.f47 H0)
theorem Jd:ZR 60 (XO H0):=Zw (C:=cfg) (kp:=cfg.keep 47) (sub (Z1 Tryz.f47) [1,1,1]) (ZB 47 Tryz.f47 H0)
def Dt:Z4:=ZL 47 60 (sub (Z1 Tryz.f47) [1,1,0,1,0,0,1,1,1]) (Zc (XC 47 60 Tryz.f47 [1,1,0,1,0,0]) (Z6 0 (XO H0))) [(0,x0),(5,x5),(19,x19),(20,x20),(21,x21)] H
def Va:KL:=Zc (G8 47 60 Tryz.f47 [1,1,0,1,0,0,1,1,1]) (Zc (XC 47 60 Tryz.f47 [1,1,0,1,0,0]) (Z6 0 (XO H0)))
theorem Nc:ZR 60 (Va H0):=Zw (C:=cfg) (kp:=cfg.keep 47) (sub (Z1 Tryz.f47) [1,1,0,1,0,0,1,1,1]) (CS (C:=cfg) (kp:=cfg.keep 47) (sub (Z1 Tryz.f47) [1,1,0,1,0,0]) (Zn 0 (Jd H0)))
def Du:Z4:=ZL 47 60 (sub (Z1 Tryz.f47) [1,1,0,1,0,0,1,1,0,0,1,1,1,1,1]) (Z6 1 (Va H0)) [(0,x0),(5,x5),(11,x11),(19,x19),(20,x20),(21,x21)] H
def V9:Z4:=ZL 47 60 (sub (Z1 Tryz.f47) [1,1,0,1,0,0,1,1,0,0,1,1,1]) (Z6 1 (Va H0)) [(0,x0),(5,x5),(8,x8),(19,x19),(20,x20),(21,x21)] H
def Vb:KL:=Zc (G8 47 60 Tryz.f47 [1,1,0,1,0,0,1,1,0,0,1,1,1]) (Z6 1 (Va H0))
theorem Nd:ZR 60 (Vb H0):=Zw (C:=cfg) (kp:=cfg.keep 47) (sub (Z1 Tryz.f47) [1,1,0,1,0,0,1,1,0,0,1,1,1]) (Zn 1 (Nc H0))
def Dw:Z4:=ZL 47 60 (sub (Z1 Tryz.f47) [1,1,0,1,0,0,1,1,0,0,1,1,0,1,0,0,1,1,1]) (Zc (XC 47 60 Tryz.f47 [1,1,0,1,0,0,1,1,0,0,1,1,0,1,0,0]) (Z6 2 (Vb H0))) [(0,x0),(5,x5),(8,x8),(19,x19),(20,x20),(21,x21),(25,x25),(26,x26),(27,x27)] H
def Dv:Z4:=ZL 47 60 (sub (Z1 Tryz.f47) [1,1,0,1,0,0,1,1,0,0,1,1,0,1,0,0,1,1]) (Zc (XC 47 60 Tryz.f47 [1,1,0,1,0,0,1,1,0,0,1,1,0,1,0,0]) (Z6 2 (Vb H0))) [(0,x0),(5,x5),(8,x8),(19,x19),(20,x20),(21,x21),(25,x25),(26,x26),(27,x27),(28,x28)] H
def Vc:Z4:=Gh 47 60 (sub (Z1 Tryz.f47) [1,1,0,1,0,0,1,1,0,0,1,1,0,1,0,0]) (Z6 2 (Vb H0)) [(0,x0),(5,x5),(8,x8),(19,x19),(20,x20),(21,x21),(25,x25),(26,x26),(27,x27)] H
def Ds:Z4:=ZL 47 60 (sub (Z1 Tryz.f47) [1,1,0,1,0,0,1,1]) (Zc (XC 47 60 Tryz.f47 [1,1,0,1,0,0]) (Z6 0 (XO H0))) [(0,x0),(5,x5),(19,x19),(20,x20),(21,x21),(22,x22)] H
def Yg:Z4:=Gh 47 60 (sub (Z1 Tryz.f47) [1,1,0,1,0,0]) (Z6 0 (XO H0)) [(0,x0),(5,x5),(19,x19),(20,x20),(21,x21)] H
def Fy:Z4:=
 Z0 (Zu p0) fun h=>
 Z0 (Z7 12 h) fun j=>
 Z0 (Z3 false 1 j H) fun u=>
 Z0 (Zk (.slice 9) u) fun w=>
 Z0 (Zf LA [w,p1] H) fun g=>
 Z0 (Zk (.slice 38) g.1) fun y=>
 Yg p0 .nils g.1 y (zA J 0) H g.2
theorem L1:Dr x0 x5 H0 H =
 Z0 (Zu x0) fun h=>
 Z0 (Z7 12 h) fun j=>
 Z0 (Zb 1 j x5 H) fun g=>
 some ((zA J 0),g.2):=Z9 bd
theorem L3:Dt x0 x5 x19 x20 x21 H0 H =
 Z0 (Z5 .add x21 (zA J 1)) fun g=>
 Yg x0 x5 x19 x20 g H0 H:=Z9 bd
theorem L4:Du x0 x5 x11 x19 x20 x21 H0 H =
 Z0 ((ZA 1 [(0,x11)] [(.str [])]).map (.vs 1 .clip)) fun h=>
 Z0 (Y7 1 16 x5 h H) fun g=>
 Dt x0 g.1 x19 x20 x21 H0 g.2:=Z9 bd
theorem KS:V9 x0 x5 x8 x19 x20 x21 H0 H =
 Z0 (V4 [x0,x8] H) fun g=>
 Z0 (ZO g.1 0) fun j=>
 Z0 (ZO g.1 1) fun h=>
 Z0 (Z5 .neq h (zA J 0)) fun u=>
 Zj u
 (some (h,g.2))
 (Du x0 x5 j x19 x20 x21 H0 g.2):=Z9 bd
theorem L6:Dw x0 x5 x8 x19 x20 x21 x25 x26 x27 H0 H =
 Z0 (Z5 .add x27 (zA J 1)) fun g=>
 Vc x0 x5 x8 x19 x20 x21 x25 x26 g H0 H:=Z9 bd
theorem L5:Dv x0 x5 x8 x19 x20 x21 x25 x26 x27 x28 H0 H =
 Z0 (Zo 1 x25 x27) fun h=>
 Z0 (Z3 false 1 h H) fun j=>
 Z0 (Zu x0) fun u=>
 Z0 (Z7 12 u) fun w=>
 Z0 (Z3 false 1 w H) fun y=>
 Z0 (Zo 1 y j) fun t37=>
 Z0 (Z3 false 1 t37 H) fun z=>
 Z0 ((ZA 1 [(0,z)] [(.str [])]).map (.vs 1 .clip)) fun A=>
 Z0 (Y7 1 16 x8 A H) fun g=>
 Dw x0 x5 g.1 x19 x20 x21 x25 x26 x27 H0 g.2:=Z9 bd
theorem KU:Vc x0 x5 x8 x19 x20 x21 x25 x26 x27 H0 H =
 Z0 (Z5 .lss x27 x26) fun g=>
 Zj g
 (Dv x0 x5 x8 x19 x20 x21 x25 x26 x27 g H0 H)
 (V9 x0 x5 x8 x19 x20 x21 H0 H):=(ZC (C:=cfg) [4,8,10,11,14,15,16] (Zn 2 (Nd H0)) _ _).trans (by kernel_rfl)
theorem L2:Ds x0 x5 x19 x20 x21 x22 H0 H =
 Z0 (Zo 1 x19 x21) fun h=>
 Z0 (Z3 false 1 h H) fun g=>
 Z0 (Zk (.slice 3) g) fun j=>
 Vc x0 x5 .nils x19 x20 x21 g j (zA J 0) H0 H:=Z9 bd
theorem KT:Yg x0 x5 x19 x20 x21 H0 H =
 Z0 (Z5 .lss x21 x20) fun g=>
 Zj g
 (Ds x0 x5 x19 x20 x21 g H0 H)
 (Dr x0 x5 H0 H):=(ZC (C:=cfg) [4,8,10,11,14,15,16] (Zn 0 (Jd H0)) _ _).trans (by kernel_rfl)
theorem LD:W7 [p0,p1] H=Fy p0 p1 H:=Be 60 [4,8,10,11,14,15,16] Tryz.func47
def Bi:Z4:=ZL 48 57 (sub (Z1 Tryz.f48) [1,1,1,1,1,0,0,0,1,1,1]) (Z6 3 (Zc (XC 48 57 Tryz.f48 [1,1,1,1,1,0,0]) (Z6 2 (Zg cfg 57 48 Tryz.f48 H0)))) [(7,x7),(8,x8),(9,x9)] H
def Bh:Z4:=ZL 48 57 (sub (Z1 Tryz.f48) [1,1,1,1,1,0,0,0,1,1]) (Z6 3 (Zc (XC 48 57 Tryz.f48 [1,1,1,1,1,0,0]) (Z6 2 (Zg cfg 57 48 Tryz.f48 H0)))) [(7,x7),(8,x8),(9,x9),(10,x10)] H
def Yn:Z4:=Gh 48 57 (sub (Z1 Tryz.f48) [1,1,1,1,1,0,0]) (Z6 2 (Zg cfg 57 48 Tryz.f48 H0)) [(7,x7),(8,x8)] H
def UH:Z4:=b9 48 57 Tryz.f48 [1,1,1] H0 [(0,x0),(4,x4)] H
def WL:KL:=Zc (G8 48 57 Tryz.f48 [1,1,1]) (Zg cfg 57 48 Tryz.f48 H0)
theorem P9:ZR 57 (WL H0):=Zw (C:=cfg) (kp:=cfg.keep 48) (sub (Z1 Tryz.f48) [1,1,1]) (ZB 48 Tryz.f48 H0)
def Bk:Z4:=ZL 48 57 (sub (Z1 Tryz.f48) [1,1,0,1,0,0,1,1,1]) (Zc (XC 48 57 Tryz.f48 [1,1,0,1,0,0]) (Z6 0 (WL H0))) [(0,x0),(4,x4),(15,x15),(16,x16),(17,x17)] H
def Bj:Z4:=ZL 48 57 (sub (Z1 Tryz.f48) [1,1,0,1,0,0,1,1]) (Zc (XC 48 57 Tryz.f48 [1,1,0,1,0,0]) (Z6 0 (WL H0))) [(0,x0),(4,x4),(15,x15),(16,x16),(17,x17),(18,x18)] H
def WM:Z4:=Gh 48 57 (sub (Z1 Tryz.f48) [1,1,0,1,0,0]) (Z6 0 (WL H0)) [(0,x0),(4,x4),(15,x15),(16,x16),(17,x17)] H
def Dg:Z4:=
 Z0 (Zu p0) fun h=>
 Z0 (Z7 12 h) fun j=>
 Z0 (Z3 false 1 j H) fun g=>
 Z0 (Zk (.slice 9) g) fun u=>
 WM p0 .nils g u (zA J 0) H H
theorem NJ:Bi x7 x8 x9 H0 H =
 Z0 ((ZA 1 [(0,x9)] [(.str [])]).map (.vs 1 .clip)) fun h=>
 Z0 (Y7 1 16 x8 h H) fun g=>
 Yn x7 g.1 H0 g.2:=Z9 bf
theorem Vz:Bh x7 x8 x9 x10 H0 H =
 Z0 (Xv .not x10) fun g=>
 Zj g
 (some ((.tuple [x8,(zA J 0)]),H))
 (Bi x7 x8 x9 H0 H):=Z9 bf
theorem X4:Yn x7 x8 H0 H =
 Z0 (XK [x7] H) fun g=>
 Z0 (ZO g.1 0) fun j=>
 Z0 (ZO g.1 1) fun u=>
 Z0 (ZO g.1 2) fun h=>
 Z0 (Z5 .neq h (zA J 0)) fun w=>
 Zj w
 (some ((.tuple [.nils,h]),g.2))
 (Bh x7 x8 j u H0 g.2):=(ZC (C:=cfg) [4,6,7,12,14] (Zn 2 (ZB 48 Tryz.f48 H0)) _ _).trans (by kernel_rfl)
theorem NI:UH x0 x4 H0 H =
 Z0 (Zu x0) fun h=>
 Z0 (Z7 1 h) fun j=>
 Z0 (Z3 true 6 j H) fun u=>
 Z0 (Zu x0) fun w=>
 Z0 (Z7 7 w) fun t37=>
 Z0 (Z3 true 5 t37 H) fun y=>
 Z0 (PE [u,y,x4] H) fun g=>
 Yn g.1 .nils H0 g.2:=Z9 bf
theorem NL:Bk x0 x4 x15 x16 x17 H0 H =
 Z0 (Z5 .add x17 (zA J 1)) fun g=>
 WM x0 x4 x15 x16 g H0 H:=Z9 bf
theorem NK:Bj x0 x4 x15 x16 x17 x18 H0 H =
 Z0 (Zo 1 x15 x17) fun j=>
 Z0 (Z3 false 1 j H) fun u=>
 Z0 (Zu x0) fun w=>
 Z0 (Z7 0 w) fun y=>
 Z0 (Z3 false 1 y H) fun z=>
 Z0 (PF [z,u] H) fun g=>
 Z0 ((ZA 1 [(0,g.1)] [.nilp]).map (.vs 1 .clip)) fun A=>
 Z0 (Y7 1 8 x4 A g.2) fun h=>
 Bk x0 h.1 x15 x16 x17 H0 h.2:=Z9 bf
theorem K8:WM x0 x4 x15 x16 x17 H0 H =
 Z0 (Z5 .lss x17 x16) fun g=>
 Zj g
 (Bj x0 x4 x15 x16 x17 g H0 H)
 (UH x0 x4 H0 H):=(ZC (C:=cfg) [4,6,7,12,14] (Zn 0 (P9 H0)) _ _).trans (by kernel_rfl)
theorem MK:XM [p0] H=Dg p0 H:=Be 57 [4,6,7,12,14] Tryz.func48
def SI:Z4:=
 Z0 (ZN p0 H) fun g=>
 Z0 (Z7 0 g.1) fun t3=>
 Z0 (Z3 false 1 t3 g.2) fun t4=>
 Z0 (Z5 .geq t4 (zA J 64)) fun t5=>
 Z0 (Z8 t5 true ak (Z7 0 g.1)) fun D=>
 Z0 (Z8 t5 true ak (Z3 false 1 D g.2)) fun E=>
 Z0 (Z8 t5 true ak (Z5 .leq E (zA J 65536))) fun t9=>
 Z0 (Zi t5 t9 (.bool false)) fun h=>
 Z0 (Z8 h true ak (Z7 1 g.1)) fun u=>
 Z0 (Z8 h true ak (Z3 false 1 u g.2)) fun w=>
 Z0 (Z8 h true ak (Z5 .geq w (zA J 2))) fun y=>
 Z0 (Zi h y (.bool false)) fun j=>
 Z0 (Z8 j true ak (Z7 1 g.1)) fun z=>
 Z0 (Z8 j true ak (Z3 false 1 z g.2)) fun A=>
 Z0 (Z8 j true ak (Z5 .leq A (zA J 32))) fun B=>
 Z0 (Zi j B (.bool false)) fun C=>
 some (C,g.2)
theorem Zbr:KH [p0] H=SI p0 H:=Be 21 [] Tryz.func69
def Zax:Z4:=b9 74 39 Tryz.f74 [1,1,1,1,1,1] H0 [(10,x10)] H
def Zaw:Z4:=b9 74 39 Tryz.f74 [1,1,1,1,1] H0 [(0,x0),(10,x10)] H
def Zav:Z4:=b9 74 39 Tryz.f74 [1,1,1,1] H0 [(0,x0),(3,x3),(5,x5),(6,x6),(10,x10)] H
def M0:Z4:=b9 74 39 Tryz.f74 [1,1] H0 [(0,x0),(3,x3),(5,x5),(6,x6)] H
def Zbx:Z4:=
 Z0 (ZN p1 H) fun j=>
 Z0 (ZN p2 j.2) fun g=>
 Z0 (Yy (.pointer 124) .eql p0 .nilp) fun h=>
 Zj h
 (some ((.tuple [(.str []),(zA J 5)]),g.2))
 (M0 p0 p3 j.1 g.1 H g.2)
theorem EC:Zax x10 H0 H =
 some ((.tuple [x10,(zA J 0)]),H):=Z9 [3,6,9,12]
theorem EB:Zaw x0 x10 H0 H =
 Z0 (Vq [x0,x10] H) fun g=>
 Z0 (Z5 .neq g.1 (zA J 0)) fun h=>
 Zj h
 (some ((.tuple [(.str []),g.1]),g.2))
 (Zax x10 H0 g.2):=Z9 [3,6,9,12]
theorem Fh:Zav x0 x3 x5 x6 x10 H0 H =
 Z0 (Z3 true 6 x5 H) fun j=>
 Z0 (Z3 true 5 x6 H) fun u=>
 Z0 (Zf QS [j,u,x3] H) fun h=>
 Z0 (V8 [x0,x10,h.1] h.2) fun g=>
 Z0 (Z5 .neq g.1 (zA J 0)) fun w=>
 Zj w
 (some ((.tuple [(.str []),g.1]),g.2))
 (Zaw x0 x10 H0 g.2):=Z9 [3,6,9,12]
theorem JM:M0 x0 x3 x5 x6 H0 H =
 Z0 (VL [x0] H) fun g=>
 Z0 (ZO g.1 0) fun j=>
 Z0 (ZO g.1 1) fun h=>
 Z0 (Z5 .neq h (zA J 0)) fun u=>
 Zj u
 (some ((.tuple [(.str []),h]),g.2))
 (Zav x0 x3 x5 x6 j H0 g.2):=Z9 [3,6,9,12]
theorem Zgb:Gb [p0,p1,p2,p3] H=Zbx p0 p1 p2 p3 H:=Be 39 [3,6,9,12] Tryz.func74
def Fz:Z4:=
 Z0 (Zu p0) fun t4=>
 Z0 (Z7 13 t4) fun t5=>
 Z0 (Z7 3 t5) fun B=>
 Z0 (Z3 false 1 B H) fun C=>
 Z0 (Zu p0) fun t9=>
 Z0 (Z7 0 t9) fun j=>
 Z0 (Z3 false 1 j H) fun u=>
 Z0 (G1 QU [u] H) fun g=>
 Z0 (KN C g.1) fun w=>
 Z0 (Zu p0) fun y=>
 Z0 (Z7 13 y) fun z=>
 Z0 (Z7 3 z) fun A=>
 Z0 (Zb 1 A w g.2) fun h=>
 some (ak,h.2)
theorem LE:W8 [p0] H=Fz p0 H:=Be 17 [] Tryz.func75
def Co:Z4:=b9 76 19 Tryz.f76 [1,1,1] H0 [(3,x3)] H
def KQ:KL:=Zc (G8 76 19 Tryz.f76 [1,1,1]) (Zg cfg 19 76 Tryz.f76 H0)
theorem O6:ZR 19 (KQ H0):=Zw (C:=cfg) (kp:=cfg.keep 76) (sub (Z1 Tryz.f76) [1,1,1]) (ZB 76 Tryz.f76 H0)
def Cq:Z4:=ZL 76 19 (sub (Z1 Tryz.f76) [1,1,0,1,0,0,1,1,1]) (Zc (XC 76 19 Tryz.f76 [1,1,0,1,0,0]) (Z6 0 (KQ H0))) [(3,x3),(6,x6),(7,x7),(8,x8)] H
def Cp:Z4:=ZL 76 19 (sub (Z1 Tryz.f76) [1,1,0,1,0,0,1,1]) (Zc (XC 76 19 Tryz.f76 [1,1,0,1,0,0]) (Z6 0 (KQ H0))) [(3,x3),(6,x6),(7,x7),(8,x8),(9,x9)] H
def KR:Z4:=Gh 76 19 (sub (Z1 Tryz.f76) [1,1,0,1,0,0]) (Z6 0 (KQ H0)) [(3,x3),(6,x6),(7,x7),(8,x8)] H
def Ae:Z4:=
 Z0 (Zk (.slice 9) p0) fun g=>
 KR (zA J 0) p0 g (zA J 0) H H
theorem ZcE:Co x3 H0 H =
 some (x3,H):=Z9 [4,6,7]
theorem ZcG:Cq x3 x6 x7 x8 H0 H =
 Z0 (Z5 .add x8 (zA J 1)) fun g=>
 KR x3 x6 x7 g H0 H:=Z9 [4,6,7]
theorem ZcF:Cp x3 x6 x7 x8 x9 H0 H =
 Z0 (Zo 1 x6 x8) fun g=>
 Z0 (Z3 false 1 g H) fun h=>
 Z0 (Zk .string h) fun j=>
 Z0 (Z5 .add j (zA J 16)) fun u=>
 Z0 (Z5 .add x3 u) fun w=>
 Cq w x6 x7 x8 H0 H:=Z9 [4,6,7]
theorem Nb:KR x3 x6 x7 x8 H0 H =
 Z0 (Z5 .lss x8 x7) fun t9=>
 Zj t9
 (Cp x3 x6 x7 x8 t9 H0 H)
 (Co x3 H0 H):=(ZC (C:=cfg) [4,6,7] (Zn 0 (O6 H0)) _ _).trans (by kernel_rfl)
theorem ZdN:TQ [p0] H=Ae p0 H:=Be 19 [4,6,7] Tryz.func76
def Bb:Z4:=b9 78 67 Tryz.f78 [1,1,1,1,1,1,1] H0 [(6,x6)] H
def Xx:KL:=Zc (G8 78 67 Tryz.f78 [1,1,1,1,1,1,1]) (Zg cfg 67 78 Tryz.f78 H0)
theorem P8:ZR 67 (Xx H0):=Zw (C:=cfg) (kp:=cfg.keep 78) (sub (Z1 Tryz.f78) [1,1,1,1,1,1,1]) (ZB 78 Tryz.f78 H0)
def Bf:Z4:=ZL 78 67 (sub (Z1 Tryz.f78) [1,1,1,1,1,1,0,1,0,0,1,1,1]) (Zc (XC 78 67 Tryz.f78 [1,1,1,1,1,1,0,1,0,0]) (Z6 0 (Xx H0))) [(0,x0),(6,x6),(48,x48),(49,x49),(50,x50)] H
def Sv:KL:=Zc (G8 78 67 Tryz.f78 [1,1,1,1,1,1,0,1,0,0,1,1,1]) (Zc (XC 78 67 Tryz.f78 [1,1,1,1,1,1,0,1,0,0]) (Z6 0 (Xx H0)))
def Bg:Z4:=ZL 78 67 (sub (Z1 Tryz.f78) [1,1,1,1,1,1,0,1,0,0,1,1,0,0,1,1]) (Z6 1 (Sv H0)) [(0,x0),(6,x6),(48,x48),(49,x49),(50,x50)] H
def Bc:Z4:=ZL 78 67 (sub (Z1 Tryz.f78) [1,1,1,1,1,1,0,1,0,0,1,1]) (Zc (XC 78 67 Tryz.f78 [1,1,1,1,1,1,0,1,0,0]) (Z6 0 (Xx H0))) [(0,x0),(6,x6),(48,x48),(49,x49),(50,x50),(51,x51)] H
def YB:Z4:=Gh 78 67 (sub (Z1 Tryz.f78) [1,1,1,1,1,1,0,1,0,0]) (Z6 0 (Xx H0)) [(0,x0),(6,x6),(48,x48),(49,x49),(50,x50)] H
def Ba:Z4:=b9 78 67 Tryz.f78 [1,1,1,1] H0 [(0,x0),(1,x1),(6,x6)] H
def B9:Z4:=b9 78 67 Tryz.f78 [1,1] H0 [(0,x0),(1,x1)] H
def Df:Z4:=
 Z0 (Zk (.slice 9) p1) fun g=>
 Z0 (Z5 .eql g (zA J 1)) fun h=>
 Zj h
 (Z0 (Zo 1 p1 (zA J 0)) fun j=>
 Z0 (Z3 false 1 j H) fun u=>
 some ((.tuple [u,(zA J 0)]),H))
 (B9 p0 p1 H H)
theorem NF:Bb x6 H0 H =
 some ((.tuple [x6,(zA J 0)]),H):=Z9 bg
theorem NG:Bf x0 x6 x48 x49 x50 H0 H =
 Z0 (Z5 .add x50 (zA J 1)) fun g=>
 YB x0 x6 x48 x49 g H0 H:=Z9 bg
theorem NH:Bg x0 x6 x48 x49 x50 H0 H =
 Z0 (W8 [x0] H) fun g=>
 Bf x0 x6 x48 x49 x50 H0 g.2:=Z9 bg
theorem K7:Bc x0 x6 x48 x49 x50 x51 H0 H =
 Z0 (Zo 1 x48 x50) fun h=>
 Z0 (Z3 false 1 h H) fun j=>
 Z0 (Zu x0) fun u=>
 Z0 (Z7 0 u) fun w=>
 Z0 (Z3 false 1 w H) fun y=>
 Z0 (WJ [y,j] H) fun g=>
 Z0 (Z5 .neq g.1 (zA J 0)) fun z=>
 Zj z
 (some ((.tuple [(.str []),g.1]),g.2))
 (Bg x0 x6 x48 x49 x50 H0 g.2):=Z9 bg
theorem Vy:YB x0 x6 x48 x49 x50 H0 H =
 Z0 (Z5 .lss x50 x49) fun g=>
 Zj g
 (Bc x0 x6 x48 x49 x50 g H0 H)
 (Bb x6 H0 H):=(ZC (C:=cfg) [3,6,10,14,15,16] (Zn 0 (P8 H0)) _ _).trans (by kernel_rfl)
theorem NE:Ba x0 x1 x6 H0 H =
 Z0 (Zu x0) fun j=>
 Z0 (Z7 13 j) fun u=>
 Z0 (Z7 1 u) fun w=>
 Z0 (Z3 false 1 w H) fun y=>
 Z0 (Z5 .add y (zA J 1)) fun z=>
 Z0 (Zu x0) fun A=>
 Z0 (Z7 13 A) fun B=>
 Z0 (Z7 1 B) fun C=>
 Z0 (Zb 1 C z H) fun g=>
 Z0 (W8 [x0] g.2) fun h=>
 Z0 (Zk (.slice 9) x1) fun D=>
 YB x0 x6 x1 D (zA J 0) H0 h.2:=Z9 bg
theorem K6:B9 x0 x1 H0 H =
 Z0 (Zu x0) fun j=>
 Z0 (Z7 0 j) fun u=>
 Z0 (Z3 false 1 u H) fun w=>
 Z0 (Zu x0) fun y=>
 Z0 (Z7 1 y) fun z=>
 Z0 (Z3 true 6 z H) fun A=>
 Z0 (Zu x0) fun B=>
 Z0 (Z7 7 B) fun C=>
 Z0 (Z3 true 5 C H) fun D=>
 Z0 (UO [w,A,D,x1] H) fun g=>
 Z0 (ZO g.1 0) fun E=>
 Z0 (ZO g.1 1) fun h=>
 Z0 (Z5 .neq h (zA J 0)) fun F=>
 Zj F
 (some ((.tuple [(.str []),h]),g.2))
 (Ba x0 x1 E H0 g.2):=Z9 bg
theorem MJ:V4 [p0,p1] H=Df p0 p1 H:=Be 67 [3,6,10,14,15,16] Tryz.func78
def Zdg:Z4:=b9 79 11 Tryz.f79 [1,1] H0 [(0,x0),(1,x1)] H
def Zey:Z4:=
 Z0 (Yy (.pointer 124) .eql p0 .nilp) fun g=>
 Zj g
 (some (.nilp,H))
 (Zdg p0 p1 H H)
theorem ZhH:Zdg x0 x1 H0 H =
 Z0 ((YD [(0,1,x0),(1,1,x1)] [.nilp,(.str []),(zA J 0),(.bool false),(.bool false),(.str [])]).map .agg) fun t9=>
 Z0 (ZN t9 H) fun g=>
 some (g.1,g.2):=Z9 [3]
theorem Zic:PF [p0,p1] H=Zey p0 p1 H:=Be 11 [3] Tryz.func79
def Zex:Z4:=
 Z0 (ZN p0 H) fun K=>
 Z0 (ZN p1 K.2) fun w=>
 Z0 (Z7 0 w.1) fun M=>
 Z0 (Z3 false 1 M w.2) fun N=>
 Z0 (Y7 5 40 .nils N w.2) fun L=>
 Z0 (Z7 0 w.1) fun A=>
 Z0 (Zb 1 A L.1 L.2) fun z=>
 UI w.1 z.2 fun z4 y=>
 Z0 (Z3 true 6 K.1 y) fun B=>
 Z0 (Zf GF [B] y) fun g=>
 Z0 (QZ true 5 z4) fun C=>
 Z0 (Z3 true 5 z4 g.2) fun D=>
 Z0 (Zf Wl [D] g.2) fun h=>
 Z0 (Z5 .eql h.1 (zA J 0)) fun E=>
 Z0 (Y7 1 8 .nils p2 h.2) fun j=>
 Z0 ((YD [(0,6,g.1),(6,5,C),(11,1,E),(12,1,j.1)] [(.str []),.nils,(.str []),(.str []),.nils,.nils,.nils,(zA J 0),(zA J 0),(.bool false),(.bool false),(.bool false),.nils,(.str []),(.bool false)]).map .agg) fun F=>
 Z0 (ZN F j.2) fun u=>
 some (u.1,u.2)
theorem Zib:PE [p0,p1,p2] H=Zex p0 p1 p2 H:=Be 21 [] Tryz.func80
def JJ:Z4:=ZL 81 61 (sub (Z1 Tryz.f81) [1,1,0,0,0,1,1,1]) (Z6 1 (Zc (XC 81 61 Tryz.f81 [1,1,0,0]) (Z6 0 (Zg cfg 61 81 Tryz.f81 H0)))) [(0,x0),(5,x5)] H
def JI:Z4:=ZL 81 61 (sub (Z1 Tryz.f81) [1,1,0,0,0,1,1]) (Z6 1 (Zc (XC 81 61 Tryz.f81 [1,1,0,0]) (Z6 0 (Zg cfg 61 81 Tryz.f81 H0)))) [(0,x0),(5,x5)] H
def Yp:Z4:=Gh 81 61 (sub (Z1 Tryz.f81) [1,1,0,0]) (Z6 0 (Zg cfg 61 81 Tryz.f81 H0)) [(0,x0)] H
def RQ:Z4:=b9 81 61 Tryz.f81 [1,1] H0 [(0,x0)] H
def Tc:Z4:=
 Z0 (Yy (.pointer 153) .eql p0 .nilp) fun t9=>
 Zj t9
 (some ((.tuple [(.str []),(.bool false),(zA J 5)]),H))
 (RQ p0 H H)
theorem Sz:JJ x0 x5 H0 H =
 Z0 (Zu x0) fun j=>
 Z0 (Z7 14 j) fun u=>
 Z0 (Zb 1 u (.bool true) H) fun h=>
 Z0 (Zu x0) fun w=>
 Z0 (Z7 13 w) fun y=>
 Z0 (Zb 1 y x5 h.2) fun g=>
 some ((.tuple [x5,(.bool true),(zA J 0)]),g.2):=Z9 [3,6,7]
theorem Sy:JI x0 x5 H0 H =
 Z0 (Zu x0) fun w=>
 Z0 (Z7 14 w) fun y=>
 Z0 (Z3 false 1 y H) fun j=>
 Z0 (Z8 j true ak (some x0)) fun z=>
 Z0 (Z8 j true ak (Zu z)) fun A=>
 Z0 (Z8 j true ak (Z7 11 A)) fun B=>
 Z0 (Z8 j true ak (Z3 false 1 B H)) fun C=>
 Z0 (Zi j C (.bool false)) fun h=>
 Z0 (Z8 h true ak (some x0)) fun D=>
 Z0 (Z8 h true ak (Zu D)) fun E=>
 Z0 (Z8 h true ak (Z7 6 E)) fun F=>
 Z0 (Z8 h true ak (Z7 3 F)) fun K=>
 Z0 (Z8 h true ak (Z3 false 1 K H)) fun L=>
 Z0 (Zi h L (.bool false)) fun g=>
 Z0 (Z8 g true ak (some x0)) fun t37=>
 Z0 (Z8 g true ak (Zu t37)) fun M=>
 Z0 (Z8 g true ak (Z7 0 M)) fun N=>
 Z0 (Z8 g true ak (Z3 true 6 N H)) fun O=>
 Z0 (Z8 g true ak (some x0)) fun Q=>
 Z0 (Z8 g true ak (Zu Q)) fun R=>
 Z0 (Z8 g true ak (Z7 6 R)) fun S=>
 Z0 (Z8 g true ak (Z3 true 5 S H)) fun T=>
 Z0 (Z8 g true ak (some x0)) fun U=>
 Z0 (Z8 g true ak (Zu U)) fun V=>
 Z0 (Z8 g true ak (Z7 13 V)) fun W=>
 Z0 (Z8 g true ak (Z3 false 1 W H)) fun X=>
 Z0 (Z8 g true ak (some x5)) fun Y=>
 Z0 (Z8 g true (ak,H) (Zf WB [O,T,X,Y] H)) fun u=>
 Z0 (Z8 g true ak (Z5 .eql u.1 (zA J 0))) fun Z=>
 Z0 (Zi g Z (.bool false)) fun aa=>
 Zj aa
 (Yp x0 H0 u.2)
 (JJ x0 x5 H0 u.2):=Z9 [3,6,7]
theorem YW:Yp x0 H0 H =
 Z0 (Uq [x0] H) fun g=>
 Z0 (ZO g.1 0) fun h=>
 Z0 (ZO g.1 1) fun j=>
 Z0 (ZO g.1 2) fun u=>
 Z0 (Xv .not j) fun w=>
 Zj w
 (some ((.tuple [(.str []),(.bool false),u]),g.2))
 (JI x0 h H0 g.2):=(ZC (C:=cfg) [3,6,7] (Zn 0 (ZB 81 Tryz.f81 H0)) _ _).trans (by kernel_rfl)
theorem Sx:RQ x0 H0 H =
 Yp x0 H0 H:=Z9 [3,6,7]
theorem Hh:XK [p0] H=Tc p0 H:=Be 61 [3,6,7] Tryz.func81
def AY:Z4:=b9 101 74 Tryz.f101 [1,1,1,1,1,1,1,1,1] H0 [(10,x10)] H
def Pt:Z4:=b9 101 74 Tryz.f101 [1,1,1,1,1,1,1,1] H0 [(0,x0),(10,x10)] H
def GR:KL:=Zc (G8 101 74 Tryz.f101 [1,1,1,1,1,1,1,1]) (Zg cfg 74 101 Tryz.f101 H0)
theorem ZaT:ZR 74 (GR H0):=Zw (C:=cfg) (kp:=cfg.keep 101) (sub (Z1 Tryz.f101) [1,1,1,1,1,1,1,1]) (ZB 101 Tryz.f101 H0)
def I0:Z4:=ZL 101 74 (sub (Z1 Tryz.f101) [1,1,1,1,1,1,1,0,0,0,0,1,1,1]) (Z6 3 (Zc (XC 101 74 Tryz.f101 [1,1,1,1,1,1,1,0,0,0]) (Z6 2 (GR H0)))) [(0,x0),(10,x10),(15,x15),(16,x16)] H
def AZ:Z4:=ZL 101 74 (sub (Z1 Tryz.f101) [1,1,1,1,1,1,1,0,0,0,0,1,1]) (Z6 3 (Zc (XC 101 74 Tryz.f101 [1,1,1,1,1,1,1,0,0,0]) (Z6 2 (GR H0)))) [(0,x0),(10,x10),(15,x15),(16,x16),(17,x17)] H
def Wd:Z4:=Gh 101 74 (sub (Z1 Tryz.f101) [1,1,1,1,1,1,1,0,0,0]) (Z6 2 (GR H0)) [(0,x0),(10,x10),(15,x15)] H
def Pq:Z4:=b9 101 74 Tryz.f101 [1,1,1,1,1,1] H0 [(0,x0),(5,x5),(6,x6),(10,x10),(12,x12)] H
def GS:KL:=Zc (G8 101 74 Tryz.f101 [1,1,1,1,1,1]) (Zg cfg 74 101 Tryz.f101 H0)
theorem ZaU:ZR 74 (GS H0):=Zw (C:=cfg) (kp:=cfg.keep 101) (sub (Z1 Tryz.f101) [1,1,1,1,1,1]) (ZB 101 Tryz.f101 H0)
def I2:Z4:=ZL 101 74 (sub (Z1 Tryz.f101) [1,1,1,1,1,0,1,0,0,1,1,1]) (Zc (XC 101 74 Tryz.f101 [1,1,1,1,1,0,1,0,0]) (Z6 0 (GS H0))) [(0,x0),(5,x5),(6,x6),(10,x10),(12,x12),(31,x31),(32,x32),(33,x33)] H
def I1:Z4:=ZL 101 74 (sub (Z1 Tryz.f101) [1,1,1,1,1,0,1,0,0,1,1]) (Zc (XC 101 74 Tryz.f101 [1,1,1,1,1,0,1,0,0]) (Z6 0 (GS H0))) [(0,x0),(5,x5),(6,x6),(10,x10),(12,x12),(31,x31),(32,x32),(33,x33),(34,x34)] H
def GT:Z4:=Gh 101 74 (sub (Z1 Tryz.f101) [1,1,1,1,1,0,1,0,0]) (Z6 0 (GS H0)) [(0,x0),(5,x5),(6,x6),(10,x10),(12,x12),(31,x31),(32,x32),(33,x33)] H
def AX:Z4:=b9 101 74 Tryz.f101 [1,1,1,1] H0 [(0,x0),(3,x3),(5,x5),(6,x6),(10,x10)] H
def Pp:Z4:=b9 101 74 Tryz.f101 [1,1] H0 [(0,x0),(3,x3),(5,x5),(6,x6)] H
def Za3:Z4:=
 Z0 (ZN p1 H) fun j=>
 Z0 (ZN p2 j.2) fun g=>
 Z0 (Yy (.pointer 124) .eql p0 .nilp) fun h=>
 Zj h
 (some ((.tuple [(.str []),(zA J 5)]),g.2))
 (Pp p0 p3 j.1 g.1 H g.2)
theorem Zei:AY x10 H0 H =
 some ((.tuple [x10,(zA J 0)]),H):=Z9 bh
theorem MB:Pt x0 x10 H0 H =
 Z0 (Vq [x0,x10] H) fun g=>
 Z0 (Z5 .neq g.1 (zA J 0)) fun h=>
 Zj h
 (some ((.tuple [(.str []),g.1]),g.2))
 (AY x10 H0 g.2):=Z9 bh
theorem MC:I0 x0 x10 x15 x16 H0 H =
 Z0 ((ZA 1 [(0,x16)] [(.str [])]).map (.vs 1 .clip)) fun h=>
 Z0 (V8 [x0,x10,h] H) fun g=>
 Z0 (Z5 .neq g.1 (zA J 0)) fun j=>
 Zj j
 (some ((.tuple [(.str []),g.1]),g.2))
 (Wd x0 x10 x15 H0 g.2):=Z9 bh
theorem QM:AZ x0 x10 x15 x16 x17 H0 H =
 Z0 (Xv .not x17) fun g=>
 Zj g
 (Pt x0 x10 H0 H)
 (I0 x0 x10 x15 x16 H0 H):=Z9 bh
theorem WE:Wd x0 x10 x15 H0 H =
 Z0 (XK [x15] H) fun g=>
 Z0 (ZO g.1 0) fun j=>
 Z0 (ZO g.1 1) fun u=>
 Z0 (ZO g.1 2) fun h=>
 Z0 (Z5 .neq h (zA J 0)) fun w=>
 Zj w
 (some ((.tuple [(.str []),h]),g.2))
 (AZ x0 x10 x15 j u H0 g.2):=(ZC (C:=cfg) [3,6,9,11,12,16,17,20,23] (Zn 2 (ZaT H0)) _ _).trans (by kernel_rfl)
theorem Zeh:Pq x0 x5 x6 x10 x12 H0 H =
 Z0 (Z3 true 6 x5 H) fun h=>
 Z0 (Z3 true 5 x6 H) fun j=>
 Z0 (PE [h,j,x12] H) fun g=>
 Wd x0 x10 g.1 H0 g.2:=Z9 bh
theorem Zek:I2 x0 x5 x6 x10 x12 x31 x32 x33 H0 H =
 Z0 (Z5 .add x33 (zA J 1)) fun g=>
 GT x0 x5 x6 x10 x12 x31 x32 g H0 H:=Z9 bh
theorem Zej:I1 x0 x5 x6 x10 x12 x31 x32 x33 x34 H0 H =
 Z0 (Zo 1 x31 x33) fun j=>
 Z0 (Z3 false 1 j H) fun u=>
 Z0 (PF [x0,u] H) fun g=>
 Z0 ((ZA 1 [(0,g.1)] [.nilp]).map (.vs 1 .clip)) fun w=>
 Z0 (Y7 1 8 x12 w g.2) fun h=>
 I2 x0 x5 x6 x10 h.1 x31 x32 x33 H0 h.2:=Z9 bh
theorem MD:GT x0 x5 x6 x10 x12 x31 x32 x33 H0 H =
 Z0 (Z5 .lss x33 x32) fun g=>
 Zj g
 (I1 x0 x5 x6 x10 x12 x31 x32 x33 g H0 H)
 (Pq x0 x5 x6 x10 x12 H0 H):=(ZC (C:=cfg) [3,6,9,11,12,16,17,20,23] (Zn 0 (ZaU H0)) _ _).trans (by kernel_rfl)
theorem Zeg:AX x0 x3 x5 x6 x10 H0 H =
 Z0 (Zk (.slice 9) x3) fun g=>
 GT x0 x5 x6 x10 .nils x3 g (zA J 0) H0 H:=Z9 bh
theorem MA:Pp x0 x3 x5 x6 H0 H =
 Z0 (VL [x0] H) fun g=>
 Z0 (ZO g.1 0) fun j=>
 Z0 (ZO g.1 1) fun h=>
 Z0 (Z5 .neq h (zA J 0)) fun u=>
 Zj u
 (some ((.tuple [(.str []),h]),g.2))
 (AX x0 x3 x5 x6 j H0 g.2):=Z9 bh
theorem Zfb:UO [p0,p1,p2,p3] H=Za3 p0 p1 p2 p3 H:=Be 74 [3,6,9,11,12,16,17,20,23] Tryz.func101
def RT:Z4:=b9 104 67 Tryz.f104 [1,1,1,1,1,1,1,1] H0 [(13,x13)] H
def RR:Z4:=b9 104 67 Tryz.f104 [1,1,1,1,1,1] H0 [(1,x1),(5,x5)] H
def Ww:Z4:=b9 104 67 Tryz.f104 [1,1,1,1,1] H0 [(1,x1),(5,x5),(7,x7)] H
def Wx:KL:=Zc (G8 104 67 Tryz.f104 [1,1,1,1,1]) (Zg cfg 67 104 Tryz.f104 H0)
theorem Lg:ZR 67 (Wx H0):=Zw (C:=cfg) (kp:=cfg.keep 104) (sub (Z1 Tryz.f104) [1,1,1,1,1]) (ZB 104 Tryz.f104 H0)
def JK:Z4:=ZL 104 67 (sub (Z1 Tryz.f104) [1,1,1,1,0,1,0,0,1,1,1]) (Zc (XC 104 67 Tryz.f104 [1,1,1,1,0,1,0,0]) (Z6 0 (Wx H0))) [(1,x1),(5,x5),(6,x6),(7,x7),(20,x20),(21,x21),(22,x22)] H
def OB:KL:=Zc (G8 104 67 Tryz.f104 [1,1,1,1,0,1,0,0,1,1,1]) (Zc (XC 104 67 Tryz.f104 [1,1,1,1,0,1,0,0]) (Z6 0 (Wx H0)))
def RV:Z4:=ZL 104 67 (sub (Z1 Tryz.f104) [1,1,1,1,0,1,0,0,1,1,0,0,1,1,1]) (Z6 1 (OB H0)) [(1,x1),(5,x5),(6,x6),(7,x7),(8,x8),(10,x10),(11,x11),(20,x20),(21,x21),(22,x22)] H
def RU:Z4:=ZL 104 67 (sub (Z1 Tryz.f104) [1,1,1,1,0,1,0,0,1,1]) (Zc (XC 104 67 Tryz.f104 [1,1,1,1,0,1,0,0]) (Z6 0 (Wx H0))) [(1,x1),(5,x5),(6,x6),(7,x7),(20,x20),(21,x21),(22,x22),(23,x23)] H
def Yj:Z4:=Gh 104 67 (sub (Z1 Tryz.f104) [1,1,1,1,0,1,0,0]) (Z6 0 (Wx H0)) [(1,x1),(5,x5),(6,x6),(7,x7),(20,x20),(21,x21),(22,x22)] H
def Td:Z4:=
 Z0 (ZN p0 H) fun g=>
 Z0 (some ((.ptr g.2.length 0),g.2++[.cells [(.str []),(zA J 0),(.bool false)]])) fun j=>
 Z0 (some (.fn (.func 128) [] [g.1])) fun u=>
 Z0 (Z3 false 1 g.1 j.2) fun w=>
 Z0 (Zu w) fun y=>
 Z0 (Z7 12 y) fun z=>
 Z0 (Z3 false 1 z j.2) fun h=>
 Z0 (Zk (.slice 130) h) fun A=>
 Yj g.1 j.1 u (zA J 0) h A (zA J 0) H j.2
theorem SA:RT x13 H0 H =
 some ((.tuple [x13,(.bool true),(zA J 0)]),H):=Z9 bi
theorem Bx:RR x1 x5 H0 H =
 Z0 (Z3 false 1 x1 H) fun j=>
 Z0 (Zu j) fun u=>
 Z0 (Z7 12 u) fun w=>
 Z0 (Z3 false 1 w H) fun y=>
 Z0 (Z7 1 x5) fun z=>
 Z0 (Z3 false 1 z H) fun A=>
 Z0 (Zo 1 y A) fun B=>
 Z0 (Z3 false 1 B H) fun C=>
 Z0 (UV [C] H) fun g=>
 Z0 (ZO g.1 0) fun D=>
 Z0 (ZO g.1 1) fun F=>
 Z0 (ZO g.1 2) fun h=>
 Z0 (Z5 .neq h (zA J 0)) fun E=>
 Zj E
 (some ((.tuple [(.str []),(.bool false),h]),g.2))
 (RT D H0 g.2):=Z9 bi
theorem WO:Ww x1 x5 x7 H0 H =
 Z0 (Z5 .neq x7 (zA J 0)) fun g=>
 Z0 (Z8 g false ak (Z7 2 x5)) fun h=>
 Z0 (Z8 g false ak (Z3 false 1 h H)) fun j=>
 Z0 (Z8 g false ak (Xv .not j)) fun u=>
 Z0 (Zi g (.bool true) u) fun w=>
 Zj w
 (some ((.tuple [(.str []),(.bool false),x7]),H))
 (RR x1 x5 H0 H):=Z9 bi
theorem By:JK x1 x5 x6 x7 x20 x21 x22 H0 H =
 Z0 (Z5 .add x22 (zA J 1)) fun g=>
 Yj x1 x5 x6 x7 x20 x21 g H0 H:=Z9 bi
theorem Bz:RV x1 x5 x6 x7 x8 x10 x11 x20 x21 x22 H0 H =
 Zj x11
 (Z0 (WY [x5,x8,x10,x6] H) fun g=>
 JK x1 x5 x6 x7 x20 x21 x22 H0 g.2)
 (JK x1 x5 x6 x7 x20 x21 x22 H0 H):=Z9 bi
theorem UJ:RU x1 x5 x6 x7 x20 x21 x22 x23 H0 H =
 Z0 (Zo 1 x20 x22) fun j=>
 Z0 (Z3 false 1 j H) fun u=>
 Z0 (Vg [u] H) fun g=>
 Z0 (ZO g.1 0) fun w=>
 Z0 (ZO g.1 1) fun y=>
 Z0 (ZO g.1 2) fun h=>
 Z0 (Z5 .neq h (zA J 0)) fun z=>
 Zj z
 (Ww x1 x5 h H0 g.2)
 (RV x1 x5 x6 x7 x22 w y x20 x21 x22 H0 g.2):=Z9 bi
theorem WP:Yj x1 x5 x6 x7 x20 x21 x22 H0 H =
 Z0 (Z5 .lss x22 x21) fun g=>
 Zj g
 (RU x1 x5 x6 x7 x20 x21 x22 g H0 H)
 (Ww x1 x5 x7 H0 H):=(ZC (C:=cfg) [6,10,12,13,15,18] (Zn 0 (Lg H0)) _ _).trans (by kernel_rfl)
theorem Hi:Uq [p0] H=Td p0 H:=Be 67 [6,10,12,13,15,18] Tryz.func104
def FB:Z4:=
 Z0 (Z3 false 1 p2 H) fun K=>
 Z0 (Zu K) fun L=>
 Z0 (Z7 11 L) fun M=>
 Z0 (Z3 false 1 M H) fun t9=>
 Z0 (Z8 t9 true ak (Z3 false 1 p2 H)) fun h=>
 Z0 (Z8 t9 true ak (Zu h)) fun j=>
 Z0 (Z8 t9 true ak (Z7 0 j)) fun u=>
 Z0 (Z8 t9 true ak (Z3 true 6 u H)) fun w=>
 Z0 (Z8 t9 true ak (Z3 false 1 p2 H)) fun y=>
 Z0 (Z8 t9 true ak (Zu y)) fun z=>
 Z0 (Z8 t9 true ak (Z7 6 z)) fun A=>
 Z0 (Z8 t9 true ak (Z3 true 5 A H)) fun B=>
 Z0 (Z8 t9 true ak (some p0)) fun C=>
 Z0 (Z8 t9 true ak (some p1)) fun D=>
 Z0 (Z8 t9 true (ak,H) (Zf UW [w,B,C,D] H)) fun g=>
 Z0 (Z8 t9 true ak (Z5 .lss g.1 (zA J 0))) fun E=>
 Z0 (Zi t9 E (.bool false)) fun F=>
 some (F,g.2)
theorem LM:QT [p0,p1,p2] H=FB p0 p1 p2 H:=Be 24 [] Tryz.func128
def Ty:Z4:=b9 129 68 Tryz.f129 [1,1,1,1] H0 [(0,x0)] H
def Uz:Z4:=b9 129 68 Tryz.f129 [1,1,1] H0 [(0,x0)] H
def Tx:Z4:=b9 129 68 Tryz.f129 [1,1] H0 [(0,x0)] H
def PV:Z4:=
 Z0 (Yy (.pointer 150) .eql p0 .nilp) fun t9=>
 Zj t9
 (some ((.tuple [(.str []),(.bool false),(zA J 5)]),H))
 (Tx p0 H H)
theorem DI:Ty x0 H0 H =
 Z0 (Zu x0) fun g=>
 Z0 (Z7 5 g) fun h=>
 Z0 (Z3 false 1 h H) fun j=>
 some ((.tuple [j,(.bool true),(zA J 0)]),H):=Z9 [3,11,13]
theorem Ve:Uz x0 H0 H =
 Z0 (Zu x0) fun g=>
 Z0 (Z7 3 g) fun h=>
 Z0 (Z3 false 1 h H) fun j=>
 Z0 (Xv .not j) fun u=>
 Zj u
 (some ((.tuple [(.str []),(.bool false),(zA J 0)]),H))
 (Ty x0 H0 H):=Z9 [3,11,13]
theorem XU:Tx x0 H0 H =
 Z0 (Zu x0) fun A=>
 Z0 (Z7 3 A) fun B=>
 Z0 (Z3 false 1 B H) fun C=>
 Z0 (Xv .not C) fun h=>
 Z0 (Z8 h true ak (some x0)) fun D=>
 Z0 (Z8 h true ak (Zu D)) fun E=>
 Z0 (Z8 h true ak (Z7 4 E)) fun F=>
 Z0 (Z8 h true ak (Z3 false 1 F H)) fun K=>
 Z0 (Z8 h true ak (Xv .not K)) fun L=>
 Z0 (Zi h L (.bool false)) fun M=>
 Zj M
 (Z0 (Zu x0) fun N=>
 Z0 (Z7 0 N) fun O=>
 Z0 (Z3 false 1 O H) fun Q=>
 Z0 (Zu x0) fun R=>
 Z0 (Z7 1 R) fun S=>
 Z0 (Z3 false 1 S H) fun T=>
 Z0 (Zu x0) fun U=>
 Z0 (Z7 2 U) fun V=>
 Z0 (Z3 false 1 V H) fun W=>
 Z0 (Vp [Q,T,W] H) fun g=>
 Z0 (ZO g.1 0) fun X=>
 Z0 (ZO g.1 1) fun t37=>
 Z0 (ZO g.1 2) fun j=>
 Z0 (Z5 .eql j (zA J 0)) fun Y=>
 Zj Y
 (Z0 (Zu x0) fun Z=>
 Z0 (Z7 5 Z) fun aa=>
 Z0 (Zb 1 aa X g.2) fun u=>
 Z0 (Zu x0) fun ab=>
 Z0 (Z7 2 ab) fun ac=>
 Z0 (Zb 1 ac t37 u.2) fun w=>
 Z0 (Zu x0) fun ad=>
 Z0 (Z7 3 ad) fun ae=>
 Z0 (Zb 1 ae (.bool true) w.2) fun y=>
 Uz x0 H0 y.2)
 (Z0 (Z5 .eql j (zA J 5)) fun af=>
 Zj af
 (Z0 (Zu x0) fun ag=>
 Z0 (Z7 4 ag) fun ah=>
 Z0 (Zb 1 ah (.bool true) g.2) fun z=>
 Uz x0 H0 z.2)
 (some ((.tuple [(.str []),(.bool false),j]),g.2))))
 (Uz x0 H0 H):=Z9 [3,11,13]
theorem Ao:Vg [p0] H=PV p0 H:=Be 68 [3,11,13] Tryz.func129
def QV:Z4:=
 Z0 (Zu p0) fun t9=>
 Z0 (Z7 2 t9) fun u=>
 Z0 (Z3 false 1 u H) fun w=>
 Z0 (Xv .not w) fun g=>
 Z0 (Z8 g false ak (some p3)) fun y=>
 Z0 (Z8 g false ak (some p2)) fun z=>
 Z0 (Z8 g false ak (some p0)) fun A=>
 Z0 (Z8 g false ak (Zu A)) fun B=>
 Z0 (Z8 g false ak (Z7 0 B)) fun C=>
 Z0 (Z8 g false ak (Z3 false 1 C H)) fun D=>
 Z0 (Z8 g false (ak,H) (Yd cfg (Za cfg) y [z,D] H)) fun h=>
 Z0 (Zi g (.bool true) h.1) fun E=>
 Zj E
 (Z0 ((YD [(0,1,p2),(1,1,p1),(2,1,(.bool true))] [(.str []),(zA J 0),(.bool false)]).map .agg) fun F=>
 Z0 (Zu p0) fun K=>
 Z0 (Zb 3 K F h.2) fun j=>
 some (ak,j.2))
 (some (ak,h.2))
theorem FV:WY [p0,p1,p2,p3] H=QV p0 p1 p2 p3 H:=Be 27 [] Tryz.func130
def KD:Z4:=b9 131 24 Tryz.f131 [1,1,1] H0 [(5,x5),(6,x6),(7,x7)] H
def PU:Z4:=
 Z0 (Vg [p0] H) fun g=>
 Z0 (ZO g.1 0) fun u=>
 Z0 (ZO g.1 1) fun h=>
 Z0 (ZO g.1 2) fun w=>
 Zj h
 (Z0 (Zu p0) fun z=>
 Z0 (Z7 3 z) fun A=>
 Z0 (Zb 1 A (.bool false) g.2) fun y=>
 Z0 (Zu p0) fun B=>
 Z0 (Z7 5 B) fun C=>
 Z0 (Zb 1 C (.str []) y.2) fun j=>
 KD u h w H j.2)
 (KD u h w H g.2)
theorem Qr:KD x5 x6 x7 H0 H =
 some ((.tuple [x5,x6,x7]),H):=Z9 [4]
theorem An:UV [p0] H=PU p0 H:=Be 24 [4] Tryz.func131
end
end Go.Am
