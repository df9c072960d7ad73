/- The functions of the translation over the abstract machine -/
import Derived.Test.YtnaneekpogohaaaGreatDoorXeGx
open Go.Am.AV renaming int->J
open Go.IntKind renaming i64->zA
namespace Go.Am
open Go.Proofs
set_option maxRecDepth 100000
noncomputable abbrev JU (f n:Nat):=Yn cfg (Zb cfg) (Y5 cfg (cfg.keep f) n) (cfg.keep f) n Zc Z7
noncomputable abbrev ZlC (f n:Nat):=Y5 cfg (cfg.keep f) n
noncomputable section
abbrev ZlA (f n:Nat)(F:Func)(p:List Nat):KL->AL->Hp->Z4:=fun k g H=>JU f n (sub (Z1 F) p) k (Y3 (cfg.keep f) (sub (Z1 F) p) g) H
abbrev Za5 (f n:Nat)(F:Func)(p:List Nat):KL->AL->Hp->Z4:=fun k g H=>ZlC f n (sub (Z1 F) p) k (Y3 (cfg.keep f) (sub (Z1 F) p) g) H
variable (p0 p1 p2 x0 x1 x3 x5 x7 x8 x9 x10:AV)(H0 H:Hp)
noncomputable abbrev c8 (f n:Nat)(F:Func)(p:List Nat)(G:Hp):=fun k K=>JU f n (sub (Z1 F) p) (Zf cfg n f F G) k K
abbrev cb (F:Func):=sub (Z1 F)
abbrev ce:List Nat:=[3,5,6,8,12,14,15,19,20,24,28]
def G6:Z4:=c8 3 182 Tryz.f3 [1,1,1,1,1,1,1,1,1,1,1] H0 [(1,x1),(3,x3),(8,x8),(9,x9)] H
def U8:Z4:=c8 3 182 Tryz.f3 [1,1,1,1,1,1,1,1,1] H0 [(1,x1),(3,x3),(5,x5),(8,x8),(9,x9)] H
def G5:Z4:=c8 3 182 Tryz.f3 [1,1,1,1,1,1,1] H0 [(1,x1),(3,x3),(5,x5),(8,x8),(9,x9)] H
def Xa:KL:=Zc (ZlA 3 182 Tryz.f3 [1,1,1,1,1,1,1]) (Zf cfg 182 3 Tryz.f3 H0)
theorem RO:ZS 182 (Xa H0):=Zw (C:=cfg) (kp:=cfg.keep 3) (cb Tryz.f3 [1,1,1,1,1,1,1]) (Zy 3 Tryz.f3 H0)
def G8:Z4:=JU 3 182 (cb Tryz.f3 [1,1,1,1,1,1,0,1,0,0,1,1]) (Zc (Za5 3 182 Tryz.f3 [1,1,1,1,1,1,0,1,0,0]) (Z7 2 (Xa H0))) [(1,x1),(3,x3),(5,x5),(8,x8),(9,x9),(10,x10)] H
def Ld:KL:=Zc (ZlA 3 182 Tryz.f3 [1,1,1,1,1,1,0,1,0,0,1,1]) (Zc (Za5 3 182 Tryz.f3 [1,1,1,1,1,1,0,1,0,0]) (Z7 2 (Xa H0)))
def G9:Z4:=JU 3 182 (cb Tryz.f3 [1,1,1,1,1,1,0,1,0,0,1,0,0,1,1]) (Z7 3 (Ld H0)) [(1,x1),(3,x3),(5,x5),(8,x8),(9,x9),(10,x10)] H
def G7:Z4:=JU 3 182 (cb Tryz.f3 [1,1,1,1,1,1,0,1,0,0,1]) (Zc (Za5 3 182 Tryz.f3 [1,1,1,1,1,1,0,1,0,0]) (Z7 2 (Xa H0))) [(1,x1),(3,x3),(5,x5),(8,x8),(9,x9),(10,x10)] H
def YE:Z4:=ZlC 3 182 (cb Tryz.f3 [1,1,1,1,1,1,0,1,0,0]) (Z7 2 (Xa H0)) [(1,x1),(3,x3),(5,x5),(8,x8),(9,x9),(10,x10)] H
def G4:Z4:=c8 3 182 Tryz.f3 [1,1,1,1,1,1] H0 [(1,x1),(3,x3),(5,x5),(8,x8),(9,x9)] H
def G3:Z4:=c8 3 182 Tryz.f3 [1,1,1] H0 [(1,x1),(3,x3),(5,x5)] H
def Wa:KL:=Zc (ZlA 3 182 Tryz.f3 [1,1,1]) (Zf cfg 182 3 Tryz.f3 H0)
theorem RP:ZS 182 (Wa H0):=Zw (C:=cfg) (kp:=cfg.keep 3) (cb Tryz.f3 [1,1,1]) (Zy 3 Tryz.f3 H0)
def JT:Z4:=JU 3 182 (cb Tryz.f3 [1,1,0,1,0,0,1,1]) (Zc (Za5 3 182 Tryz.f3 [1,1,0,1,0,0]) (Z7 0 (Wa H0))) [(1,x1),(3,x3),(5,x5),(7,x7)] H
def JS:Z4:=JU 3 182 (cb Tryz.f3 [1,1,0,1,0,0,1]) (Zc (Za5 3 182 Tryz.f3 [1,1,0,1,0,0]) (Z7 0 (Wa H0))) [(1,x1),(3,x3),(5,x5),(7,x7)] H
def YF:Z4:=ZlC 3 182 (cb Tryz.f3 [1,1,0,1,0,0]) (Z7 0 (Wa H0)) [(1,x1),(3,x3),(5,x5),(7,x7)] H
def G2:Z4:=c8 3 182 Tryz.f3 [1,1] H0 [(1,x1),(3,x3),(5,x5)] H
def Gs:Z4:=
 Z0 (ZQ p0 H) fun w=>
 Z0 (ZQ p2 w.2) fun N=>
 Z0 (Zh GR [p1] N.2) fun h=>
 Z0 (XL .not h.1) fun j=>
 Z0 (Z8 j false ap (Z6 0 w.1)) fun z=>
 Z0 (Z8 j false ap (Z6 0 z)) fun A=>
 Z0 (Z8 j false ap (Z3 false 1 A h.2)) fun B=>
 Z0 (Z8 j false ap (Zk (.slice 119) B)) fun C=>
 Z0 (Z8 j false ap (Z5 .gtr C (J zA 10))) fun D=>
 Z0 (Zi j (.bool true) D) fun g=>
 Z0 (Z8 g false ap (Z6 0 w.1)) fun E=>
 Z0 (Z8 g false ap (Z3 true 5 E h.2)) fun F=>
 Z0 (Z8 g false ap (Z6 5 w.1)) fun I=>
 Z0 (Z8 g false ap (Z3 true 2 I h.2)) fun t37=>
 Z0 (Z8 g false ap (some p1)) fun K=>
 Z0 (Z8 g false (ap,h.2) (Zh AP [F,t37,K] h.2)) fun u=>
 Z0 (Z8 g false ap (Z5 .neq u.1 (J zA 0))) fun L=>
 Z0 (Zi g (.bool true) L) fun M=>
 Zj M
 (Z0 (Zh Wj [] u.2) fun y=>
 some (y.1,y.2))
 (G2 p1 w.1 N.1 H u.2)
theorem P8:G6 x1 x3 x8 x9 H0 H =
 Z0 (Vx [x9,(.str [100,97,116,97]),(J zA 0),(J zA 10)] H) fun h=>
 Z0 (ZL h.1 0) fun I=>
 Z0 (ZL h.1 1) fun K=>
 Z0 (Z3 true 6 x8 h.2) fun L=>
 Z0 (Z6 0 x3) fun M=>
 Z0 (Z3 true 5 M h.2) fun N=>
 Z0 (Z6 5 x3) fun O=>
 Z0 (Z3 true 2 O h.2) fun Q=>
 Z0 (Xc [x9,L,N,Q,x1] h.2) fun j=>
 Z0 (ZL j.1 0) fun R=>
 Z0 (ZL j.1 1) fun S=>
 Z0 (ZL j.1 2) fun T=>
 Z0 (some ((.ptr j.2.length 0),j.2++[.cells [(J zA 0),(J zA 0),(J zA 0),(J zA 0)]])) fun F=>
 Z0 (Za 4 F.1 S F.2) fun w=>
 Z0 (Z5 .eql K (J zA 0)) fun B=>
 Z0 (Z8 B true ap (some I)) fun U=>
 Z0 (Z8 B true ap (YR .eql U (.str [107,101,112,116]))) fun V=>
 Z0 (Zi B V (.bool false)) fun C=>
 Z0 (Z8 C true ap (some T)) fun W=>
 Z0 (Z8 C true ap (Z5 .eql W (J zA 0))) fun X=>
 Z0 (Zi C X (.bool false)) fun g=>
 Z0 (Z8 g true ap (some R)) fun Y=>
 Z0 (Z8 g true ap (Z3 true 6 x8 w.2)) fun Z=>
 Z0 (Z8 g true ap (Z6 0 x3)) fun aa=>
 Z0 (Z8 g true ap (Z3 true 5 aa w.2)) fun ab=>
 Z0 (Z8 g true ap (some x1)) fun ac=>
 Z0 (Z8 g true (ap,w.2) (Zh UA [Z,ab,ac] w.2)) fun y=>
 Z0 (Z8 g true (ap,y.2) (Zh Uf [Y,y.1] y.2)) fun z=>
 Z0 (Zi g z.1 (.bool false)) fun u=>
 Z0 (Z8 u true ap (some x9)) fun ad=>
 Z0 (Z8 u true (ap,z.2) (JQ Xn [ad] z.2)) fun A=>
 Z0 (Z8 u true ap (Zk (.slice 108) A.1)) fun ae=>
 Z0 (Z8 u true ap (Z5 .eql ae (J zA 1))) fun af=>
 Z0 (Zi u af (.bool false)) fun E=>
 Z0 (Z8 E true (ap,A.2) (Zh Wj [] A.2)) fun D=>
 Z0 (Zi E D.1 (.bool false)) fun ag=>
 some (ag,D.2):=Z9 ce
theorem P7:U8 x1 x3 x5 x8 x9 H0 H =
 Z0 (WO 3 2 x5 (J zA 2)) fun j=>
 Z0 (Z6 1 j) fun u=>
 Z0 (Z3 false 1 u H) fun w=>
 Z0 (VJ [x9,w] H) fun h=>
 Z0 (WM [x9] h.2) fun g=>
 Z0 (ZL g.1 0) fun A=>
 Z0 (ZL g.1 1) fun y=>
 Z0 (Z5 .neq y (J zA 0)) fun z=>
 Zj z
 (some ((.bool false),g.2))
 (G6 x1 x3 x8 x9 H0 g.2):=Z9 ce
theorem J3:G5 x1 x3 x5 x8 x9 H0 H =
 Z0 (WO 3 2 x5 (J zA 2)) fun w=>
 Z0 (Z6 0 w) fun y=>
 Z0 (Z3 false 1 y H) fun z=>
 Z0 (WV [x9,z] H) fun u=>
 Z0 (WM [x9] u.2) fun g=>
 Z0 (ZL g.1 0) fun D=>
 Z0 (ZL g.1 1) fun j=>
 Z0 (Z5 .neq j (J zA 0)) fun h=>
 Z0 (Z8 h true ap (some j)) fun A=>
 Z0 (Z8 h true ap (Z5 .neq A (J zA 19))) fun B=>
 Z0 (Zi h B (.bool false)) fun C=>
 Zj C
 (some ((.bool false),g.2))
 (U8 x1 x3 x5 x8 x9 H0 g.2):=Z9 ce
theorem J5:G8 x1 x3 x5 x8 x9 x10 H0 H =
 Z0 (Z5 .add x10 (J zA 1)) fun g=>
 YE x1 x3 x5 x8 x9 g H0 H:=Z9 ce
theorem J6:G9 x1 x3 x5 x8 x9 x10 H0 H =
 Z0 (WO 3 2 x5 x10) fun h=>
 Z0 (Z6 1 h) fun j=>
 Z0 (Z3 false 1 j H) fun u=>
 Z0 (VJ [x9,u] H) fun g=>
 G8 x1 x3 x5 x8 x9 x10 H0 g.2:=Z9 ce
theorem J4:G7 x1 x3 x5 x8 x9 x10 H0 H =
 Z0 (WO 3 2 x5 x10) fun C=>
 Z0 (Z6 0 C) fun D=>
 Z0 (Z3 false 1 D H) fun E=>
 Z0 (WV [x9,E] H) fun h=>
 Z0 (Z3 true 6 x8 h.2) fun F=>
 Z0 (Z6 0 x3) fun I=>
 Z0 (Z3 true 5 I h.2) fun K=>
 Z0 (Z6 5 x3) fun L=>
 Z0 (Z3 true 2 L h.2) fun M=>
 Z0 (Xc [x9,F,K,M,x1] h.2) fun g=>
 Z0 (ZL g.1 0) fun O=>
 Z0 (ZL g.1 1) fun N=>
 Z0 (ZL g.1 2) fun B=>
 Z0 (some ((.ptr g.2.length 0),g.2++[.cells [(J zA 0),(J zA 0),(J zA 0),(J zA 0)]])) fun w=>
 Z0 (Za 4 w.1 N w.2) fun j=>
 Z0 (Z5 .neq B (J zA 0)) fun u=>
 Z0 (Z8 u true ap (some B)) fun y=>
 Z0 (Z8 u true ap (Z5 .neq y (J zA 19))) fun z=>
 Z0 (Zi u z (.bool false)) fun A=>
 Zj A
 (some ((.bool false),j.2))
 (G9 x1 x3 x5 x8 x9 x10 H0 j.2):=Z9 ce
theorem J7:YE x1 x3 x5 x8 x9 x10 H0 H =
 Z0 (Z5 .lss x10 (J zA 2)) fun g=>
 Zj g
 (G7 x1 x3 x5 x8 x9 x10 H0 H)
 (G5 x1 x3 x5 x8 x9 H0 H):=(ZC (C:=cfg) [3,5,6,8,12,14,15,19,20,24,28] (Zn 2 (RO H0)) _ _).trans (by kernel_rfl)
theorem P6:G4 x1 x3 x5 x8 x9 H0 H =
 YE x1 x3 x5 x8 x9 (J zA 0) H0 H:=Z9 ce
theorem P5:G3 x1 x3 x5 H0 H =
 Z0 (Zh KJ [] H) fun u=>
 Z0 (some ((.ptr u.2.length 0),u.2++[.cells [(.str []),.nils,(.str []),(.str []),.nils,.nils]])) fun A=>
 Z0 (Za 6 A.1 u.1 A.2) fun B=>
 Z0 (ND [(J zA 262144)] B.2) fun g=>
 Z0 (Wx [g.1,(.str [100,97,116,97])] g.2) fun w=>
 Z0 (Z5 .neq w.1 (J zA 0)) fun h=>
 Z0 (Z8 h false ap (some g.1)) fun C=>
 Z0 (Z8 h false (ap,w.2) (Ww [C,(.str [100,97,116,97]),(.str [107,101,112,116])] w.2)) fun y=>
 Z0 (Z8 h false ap (Z5 .neq y.1 (J zA 0))) fun D=>
 Z0 (Zi h (.bool true) D) fun j=>
 Z0 (Z8 j false ap (some g.1)) fun E=>
 Z0 (Z8 j false (ap,y.2) (Vy [E,(.str [100,97,116,97])] y.2)) fun z=>
 Z0 (Z8 j false ap (Z5 .neq z.1 (J zA 0))) fun F=>
 Z0 (Zi j (.bool true) F) fun I=>
 Zj I
 (some ((.bool false),z.2))
 (G4 x1 x3 x5 A.1 g.1 H0 z.2):=Z9 ce
theorem P2:JT x1 x3 x5 x7 H0 H =
 Z0 (Z5 .add x7 (J zA 1)) fun g=>
 YF x1 x3 x5 g H0 H:=Z9 ce
theorem WK:JS x1 x3 x5 x7 H0 H =
 Z0 (WO 3 2 x5 x7) fun j=>
 Z0 (Z6 0 j) fun u=>
 Z0 (Z3 false 1 u H) fun w=>
 Z0 (Z5 .lss w (J zA 1)) fun g=>
 Z0 (Z8 g false ap (some x7)) fun y=>
 Z0 (Z8 g false ap (WO 3 2 x5 y)) fun z=>
 Z0 (Z8 g false ap (Z6 0 z)) fun A=>
 Z0 (Z8 g false ap (Z3 false 1 A H)) fun B=>
 Z0 (Z8 g false ap (Z5 .gtr B (J zA 200))) fun C=>
 Z0 (Zi g (.bool true) C) fun D=>
 Zj D
 (Z0 (Zh Wj [] H) fun h=>
 some (h.1,h.2))
 (JT x1 x3 x5 x7 H0 H):=Z9 ce
theorem J8:YF x1 x3 x5 x7 H0 H =
 Z0 (Z5 .lss x7 (J zA 3)) fun g=>
 Zj g
 (JS x1 x3 x5 x7 H0 H)
 (G3 x1 x3 x5 H0 H):=(ZC (C:=cfg) [3,5,6,8,12,14,15,19,20,24,28] (Zn 0 (RP H0)) _ _).trans (by kernel_rfl)
theorem P4:G2 x1 x3 x5 H0 H =
 YF x1 x3 x5 (J zA 0) H0 H:=Z9 ce
theorem PX:Gq [p0,p1,p2] H=Gs p0 p1 p2 H:=Be 182 [3,5,6,8,12,14,15,19,20,24,28] Tryz.func3
def PN:Z4:=c8 11 23 Tryz.f11 [1,1] H0 [(0,x0)] H
def Q6:KL:=Zc (ZlA 11 23 Tryz.f11 [1,1]) (Zf cfg 23 11 Tryz.f11 H0)
theorem CK:ZS 23 (Q6 H0):=Zw (C:=cfg) (kp:=cfg.keep 11) (cb Tryz.f11 [1,1]) (Zy 11 Tryz.f11 H0)
def PP:Z4:=JU 11 23 (cb Tryz.f11 [1,0,1,0,0,1,1]) (Zc (Za5 11 23 Tryz.f11 [1,0,1,0,0]) (Z7 0 (Q6 H0))) [(0,x0),(3,x3)] H
def PO:Z4:=JU 11 23 (cb Tryz.f11 [1,0,1,0,0,1]) (Zc (Za5 11 23 Tryz.f11 [1,0,1,0,0]) (Z7 0 (Q6 H0))) [(0,x0),(3,x3)] H
def Q7:Z4:=ZlC 11 23 (cb Tryz.f11 [1,0,1,0,0]) (Z7 0 (Q6 H0)) [(0,x0),(3,x3)] H
def NY:Z4:=
 Q7 p0 (J zA 0) H H
theorem FE:PN x0 H0 H =
 Z0 (Zk (.slice 9) x0) fun g=>
 Z0 (Z5 .leq g (J zA 40)) fun h=>
 some (h,H):=Z9 [3,4,6]
theorem IG:PP x0 x3 H0 H =
 Z0 (Z5 .add x3 (J zA 1)) fun g=>
 Q7 x0 g H0 H:=Z9 [3,4,6]
theorem FF:PO x0 x3 H0 H =
 Z0 (Zo 1 x0 x3) fun g=>
 Z0 (Z3 false 1 g H) fun h=>
 Z0 (Zk .string h) fun j=>
 Z0 (Z5 .gtr j (J zA 200)) fun u=>
 Zj u
 (some ((.bool false),H))
 (PP x0 x3 H0 H):=Z9 [3,4,6]
theorem Vu:Q7 x0 x3 H0 H =
 Z0 (Zk (.slice 9) x0) fun u=>
 Z0 (Z5 .lss x3 u) fun j=>
 Z0 (Z8 j true ap (some x3)) fun t9=>
 Z0 (Z8 j true ap (Z5 .lss t9 (J zA 41))) fun g=>
 Z0 (Zi j g (.bool false)) fun h=>
 Zj h
 (PO x0 x3 H0 H)
 (PN x0 H0 H):=(ZC (C:=cfg) [3,4,6] (Zn 0 (CK H0)) _ _).trans (by kernel_rfl)
theorem O5:GR [p0] H=NY p0 H:=Be 23 [3,4,6] Tryz.func11
def Rr:Z4:=
 Z0 (Zh KJ [] H) fun g=>
 Z0 ((YS [(1,1,(J zA (-1)))] [.nils,(J zA 0),(J zA 0),(.bool false),(.bool false)]).map .agg) fun u=>
 Z0 ((ZB 1 [(0,(.str [98])),(1,(.str [97]))] [(.str []),(.str [])]).map (.vs 1 .clip)) fun t3=>
 Z0 (Zh UA [g.1,u,t3] g.2) fun h=>
 Z0 ((ZB 1 [(0,(.str [97])),(1,(.str [98]))] [(.str []),(.str [])]).map (.vs 1 .clip)) fun t5=>
 Z0 (Zh Uf [h.1,t5] h.2) fun j=>
 some (j.1,j.2)
theorem Sp:Wj [] H=Rr H:=Be 7 [] Tryz.func13
def RK:Z4:=c8 24 26 Tryz.f24 [1,1,1] H0 [] H
def VU:KL:=Zc (ZlA 24 26 Tryz.f24 [1,1,1]) (Zf cfg 26 24 Tryz.f24 H0)
theorem Lf:ZS 26 (VU H0):=Zw (C:=cfg) (kp:=cfg.keep 24) (cb Tryz.f24 [1,1,1]) (Zy 24 Tryz.f24 H0)
def RM:Z4:=JU 24 26 (cb Tryz.f24 [1,1,0,1,0,0,1,1]) (Zc (Za5 24 26 Tryz.f24 [1,1,0,1,0,0]) (Z7 0 (VU H0))) [(0,x0),(1,x1),(5,x5)] H
def RL:Z4:=JU 24 26 (cb Tryz.f24 [1,1,0,1,0,0,1]) (Zc (Za5 24 26 Tryz.f24 [1,1,0,1,0,0]) (Z7 0 (VU H0))) [(0,x0),(1,x1),(5,x5)] H
def VV:Z4:=ZlC 24 26 (cb Tryz.f24 [1,1,0,1,0,0]) (Z7 0 (VU H0)) [(0,x0),(1,x1),(5,x5)] H
def RJ:Z4:=c8 24 26 Tryz.f24 [1,1] H0 [(0,x0),(1,x1)] H
def T6:Z4:=
 Z0 (Zk (.slice 9) p0) fun h=>
 Z0 (Zk (.slice 9) p1) fun t9=>
 Z0 (Z5 .neq h t9) fun g=>
 Zj g
 (some ((.bool false),H))
 (RJ p0 p1 H H)
theorem CN:RK H0 H =
 some ((.bool true),H):=Z9 [3,5,6,8]
theorem CP:RM x0 x1 x5 H0 H =
 Z0 (Z5 .add x5 (J zA 1)) fun g=>
 VV x0 x1 g H0 H:=Z9 [3,5,6,8]
theorem CO:RL x0 x1 x5 H0 H =
 Z0 (Zo 1 x0 x5) fun g=>
 Z0 (Z3 false 1 g H) fun h=>
 Z0 (Zo 1 x1 x5) fun j=>
 Z0 (Z3 false 1 j H) fun u=>
 Z0 (YR .neq h u) fun w=>
 Zj w
 (some ((.bool false),H))
 (RM x0 x1 x5 H0 H):=Z9 [3,5,6,8]
theorem Bg:VV x0 x1 x5 H0 H =
 Z0 (Zk (.slice 9) x0) fun g=>
 Z0 (Z5 .lss x5 g) fun h=>
 Zj h
 (RL x0 x1 x5 H0 H)
 (RK H0 H):=(ZC (C:=cfg) [3,5,6,8] (Zn 0 (Lf H0)) _ _).trans (by kernel_rfl)
theorem CM:RJ x0 x1 H0 H =
 VV x0 x1 (J zA 0) H0 H:=Z9 [3,5,6,8]
theorem CY:Uf [p0,p1] H=T6 p0 p1 H:=Be 26 [3,5,6,8] Tryz.func24
end
end Go.Am
