/- The functions of the translation over the abstract machine -/
import Derived.Test.YtnaneekpogohaaaGreatDoorXeGx
open Go.Am.AV renaming int->J
open Go.IntKind renaming i64->zA
namespace Go.Am
open Go.Proofs
set_option maxRecDepth 100000
noncomputable abbrev NZ (f n:Nat):=Yn cfg (Zb cfg) (Y5 cfg (cfg.keep f) n) (cfg.keep f) n Zc Z8
noncomputable abbrev ZuE (f n:Nat):=Y5 cfg (cfg.keep f) n
noncomputable section
abbrev ZyB (f n:Nat)(F:Func)(p:List Nat):KL->AL->Hp->Z5:=fun k g H=>NZ f n (sub (Z1 F) p) k (Y4 (cfg.keep f) (sub (Z1 F) p) g) H
abbrev ZpM (f n:Nat)(F:Func)(p:List Nat):KL->AL->Hp->Z5:=fun k g H=>ZuE f n (sub (Z1 F) p) k (Y4 (cfg.keep f) (sub (Z1 F) p) g) H
variable (p0 p1 p2 x0 x1 x3 x5 x7 x8:AV)(H0 H:Hp)
noncomputable abbrev bz (f n:Nat)(F:Func)(p:List Nat)(G:Hp):=fun k K=>NZ f n (sub (Z1 F) p) (Zf cfg n f F G) k K
def R1:Z5:=bz 10 176 Tryz.f10 [1,1,1,1,1,1,1,1,1,1,1,1,1] H0 [(1,x1),(3,x3),(7,x7),(8,x8)] H
def Jf:Z5:=bz 10 176 Tryz.f10 [1,1,1,1,1,1,1,1] H0 [(1,x1),(3,x3),(5,x5),(7,x7),(8,x8)] H
def R0:Z5:=bz 10 176 Tryz.f10 [1,1,1,1] H0 [(1,x1),(3,x3),(5,x5),(7,x7)] H
def FZ:Z5:=bz 10 176 Tryz.f10 [1,1] H0 [(1,x1),(3,x3),(5,x5)] H
def Rr:Z5:=
 Z0 (ZO p0 H) fun z=>
 Z0 (ZO p2 z.2) fun B=>
 Z0 (Zh Zcq [p1] B.2) fun u=>
 Z0 (Xm .not u.1) fun w=>
 Z0 (Z7 w false am (Z3 true 7 z.1 u.2)) fun C=>
 Z0 (Z7 w false (am,u.2) (Zh Aq [C] u.2)) fun h=>
 Z0 (Z7 w false am (Xm .not h.1)) fun D=>
 Z0 (Zi w (.bool true) D) fun g=>
 Z0 (Z7 g false am (Z6 0 z.1)) fun E=>
 Z0 (Z7 g false am (Z3 true 5 E h.2)) fun F=>
 Z0 (Z7 g false am (Z6 5 z.1)) fun I=>
 Z0 (Z7 g false am (Z3 true 2 I h.2)) fun K=>
 Z0 (Z7 g false am (some p1)) fun L=>
 Z0 (Z7 g false (am,h.2) (Zh Ar [F,K,L] h.2)) fun j=>
 Z0 (Z7 g false am (Z4 .neq j.1 (J zA 0))) fun M=>
 Z0 (Zi g (.bool true) M) fun t37=>
 Z0 (Z7 t37 false am (Z6 0 B.1)) fun N=>
 Z0 (Z7 t37 false am (Z3 false 1 N j.2)) fun O=>
 Z0 (Z7 t37 false am (Z4 .lss O (J zA 1))) fun Q=>
 Z0 (Zi t37 (.bool true) Q) fun y=>
 Z0 (Z7 y false am (Z6 0 B.1)) fun R=>
 Z0 (Z7 y false am (Z3 false 1 R j.2)) fun S=>
 Z0 (Z7 y false am (Z4 .gtr S (J zA 300))) fun T=>
 Z0 (Zi y (.bool true) T) fun U=>
 Zj U
 (Z0 (Zh Dr [] j.2) fun A=>
 some (A.1,A.2))
 (FZ p1 z.1 B.1 H j.2)
theorem EJ:R1 x1 x3 x7 x8 H0 H =
 Z0 (Zh VL [] (H++[.free])) fun h=>
 Z0 (Z6 0 x3) fun D=>
 Z0 (Z3 true 5 D h.2) fun E=>
 Z0 (Z6 5 x3) fun F=>
 Z0 (Z3 true 2 F h.2) fun I=>
 Z0 (YR [x7,h.1,E,I,x1] h.2) fun j=>
 Z0 (ZJ j.1 0) fun K=>
 Z0 (ZJ j.1 1) fun L=>
 Z0 (ZJ j.1 2) fun M=>
 Z0 (JK (H.length+0) (some (.cells [(J zA 0),(J zA 0),(J zA 0),(J zA 0)])) j.2) fun C=>
 Z0 (Za 4 C.1 L C.2) fun A=>
 Z0 (Z4 .eql M (J zA 0)) fun u=>
 Z0 (Z7 u true am (some K)) fun N=>
 Z0 (Z7 u true am (some x8)) fun t164=>
 Z0 (Z7 u true (am,A.2) (Zh Lc [N,t164] A.2)) fun w=>
 Z0 (Zi u w.1 (.bool false)) fun g=>
 Z0 (Z7 g true am (some x7)) fun O=>
 Z0 (Z7 g true (am,w.2) (Jr YW [O] w.2)) fun y=>
 Z0 (Z7 g true am (Zk (.slice 108) y.1)) fun Q=>
 Z0 (Z7 g true am (Z4 .eql Q (J zA 1))) fun R=>
 Z0 (Zi g R (.bool false)) fun B=>
 Z0 (Z7 B true (am,y.2) (Zh Dr [] y.2)) fun z=>
 Z0 (Zi B z.1 (.bool false)) fun S=>
 some (S,z.2):=Z9 [3,6,11,17]
theorem EH:Jf x1 x3 x5 x7 x8 H0 H =
 Z0 (Z6 1 x5) fun D=>
 Z0 (Z3 false 1 D H) fun E=>
 Z0 (Jb [x7,E] H) fun C=>
 Z0 (WH [x7] C.2) fun j=>
 Z0 (ZJ j.1 0) fun aa=>
 Z0 (ZJ j.1 1) fun F=>
 Z0 (WH [x7] j.2) fun u=>
 Z0 (ZJ u.1 0) fun I=>
 Z0 (ZJ u.1 1) fun K=>
 Z0 (Vp [x7,(.str [100,97,116,97]),(J zA 0),(J zA 10)] u.2) fun h=>
 Z0 (ZJ h.1 0) fun L=>
 Z0 (ZJ h.1 1) fun M=>
 Z0 (Z4 .neq F (J zA 0)) fun y=>
 Z0 (Z7 y false am (some K)) fun N=>
 Z0 (Z7 y false am (Z4 .neq N (J zA 0))) fun O=>
 Z0 (Zi y (.bool true) O) fun z=>
 Z0 (Z7 z false am (some I)) fun Q=>
 Z0 (Z7 z false am (Z4 .neq Q (J zA 0))) fun R=>
 Z0 (Zi z (.bool true) R) fun A=>
 Z0 (Z7 A false am (some M)) fun S=>
 Z0 (Z7 A false am (Z4 .neq S (J zA 0))) fun T=>
 Z0 (Zi A (.bool true) T) fun B=>
 Z0 (Z7 B false am (some L)) fun U=>
 Z0 (Z7 B false am (Yx .neq U (.str [107,101,112,116]))) fun V=>
 Z0 (Zi B (.bool true) V) fun g=>
 Z0 (Z7 g false am (some x7)) fun W=>
 Z0 (Z7 g false (am,h.2) (Jr YW [W] h.2)) fun w=>
 Z0 (Z7 g false am (Zk (.slice 108) w.1)) fun X=>
 Z0 (Z7 g false am (Z4 .neq X (J zA 1))) fun Y=>
 Z0 (Zi g (.bool true) Y) fun Z=>
 Zj Z
 (some ((.bool false),w.2))
 (R1 x1 x3 x7 x8 H0 w.2):=Z9 [3,6,11,17]
theorem EG:R0 x1 x3 x5 x7 H0 H =
 Z0 (Z6 0 x5) fun O=>
 Z0 (Z3 false 1 O H) fun Q=>
 Z0 (UV [x7,Q] H) fun N=>
 Z0 (Zh VL [] N.2) fun C=>
 Z0 (Z6 0 x3) fun R=>
 Z0 (Z3 true 5 R C.2) fun S=>
 Z0 (Zh J9 [C.1,S,x1] C.2) fun w=>
 Z0 (Zh VL [] (w.2++[.free])) fun y=>
 Z0 (Z6 0 x3) fun T=>
 Z0 (Z3 true 5 T y.2) fun U=>
 Z0 (Z6 5 x3) fun V=>
 Z0 (Z3 true 2 V y.2) fun W=>
 Z0 (YR [x7,y.1,U,W,x1] y.2) fun z=>
 Z0 (ZJ z.1 0) fun M=>
 Z0 (ZJ z.1 1) fun X=>
 Z0 (ZJ z.1 2) fun D=>
 Z0 (JK (w.2.length+0) (some (.cells [(J zA 0),(J zA 0),(J zA 0),(J zA 0)])) z.2) fun E=>
 Z0 (Za 4 E.1 X E.2) fun B=>
 Z0 (Z4 .neq D (J zA 0)) fun h=>
 Z0 (Z7 h true am (some D)) fun Y=>
 Z0 (Z7 h true am (Z4 .neq Y (J zA 19))) fun Z=>
 Z0 (Z7 h true am (some Z)) fun A=>
 Z0 (Z7 A false am (some M)) fun aa=>
 Z0 (Z7 A false am (Zk (.slice 9) aa)) fun ab=>
 Z0 (Z7 A false am (Z4 .gtr ab (J zA 0))) fun ac=>
 Z0 (Z7 h true am (Zi A (.bool true) ac)) fun ad=>
 Z0 (Zi h ad (.bool false)) fun j=>
 Z0 (Z7 j false am (some D)) fun ae=>
 Z0 (Z7 j false am (Z4 .eql ae (J zA 0))) fun af=>
 Z0 (Z7 j false am (some af)) fun u=>
 Z0 (Z7 u true am (some M)) fun ag=>
 Z0 (Z7 u true am (some w.1)) fun F=>
 Z0 (Z7 u true (am,B.2) (Zh Lc [ag,F] B.2)) fun g=>
 Z0 (Z7 u true am (Xm .not g.1)) fun I=>
 Z0 (Z7 j false am (Zi u I (.bool false))) fun K=>
 Z0 (Zi j (.bool true) K) fun L=>
 Zj L
 (some ((.bool false),g.2))
 (Jf x1 x3 x5 x7 w.1 H0 g.2):=Z9 [3,6,11,17]
theorem EF:FZ x1 x3 x5 H0 H =
 Z0 (Du [(J zA 262144)] H) fun g=>
 Z0 (Wr [g.1,(.str [100,97,116,97])] g.2) fun u=>
 Z0 (Z4 .neq u.1 (J zA 0)) fun h=>
 Z0 (Z7 h false am (some g.1)) fun z=>
 Z0 (Z7 h false (am,u.2) (Wq [z,(.str [100,97,116,97]),(.str [107,101,112,116])] u.2)) fun w=>
 Z0 (Z7 h false am (Z4 .neq w.1 (J zA 0))) fun A=>
 Z0 (Zi h (.bool true) A) fun j=>
 Z0 (Z7 j false am (some g.1)) fun B=>
 Z0 (Z7 j false (am,w.2) (Vq [B,(.str [100,97,116,97])] w.2)) fun y=>
 Z0 (Z7 j false am (Z4 .neq y.1 (J zA 0))) fun C=>
 Z0 (Zi j (.bool true) C) fun D=>
 Zj D
 (some ((.bool false),y.2))
 (R0 x1 x3 x5 g.1 H0 y.2):=Z9 [3,6,11,17]
theorem Ch:Rn [p0,p1,p2] H=Rr p0 p1 p2 H:=Be 176 [3,6,11,17] Tryz.func10
def Zho:Z5:=bz 30 23 Tryz.f30 [1,1] H0 [(0,x0)] H
def Lk:KL:=Zc (ZyB 30 23 Tryz.f30 [1,1]) (Zf cfg 23 30 Tryz.f30 H0)
theorem Zhr:ZS 23 (Lk H0):=Zw (C:=cfg) (kp:=cfg.keep 30) (sub (Z1 Tryz.f30) [1,1]) (Zz 30 Tryz.f30 H0)
def Zhq:Z5:=NZ 30 23 (sub (Z1 Tryz.f30) [1,0,1,0,0,1,1]) (Zc (ZpM 30 23 Tryz.f30 [1,0,1,0,0]) (Z8 0 (Lk H0))) [(0,x0),(3,x3)] H
def Zhp:Z5:=NZ 30 23 (sub (Z1 Tryz.f30) [1,0,1,0,0,1]) (Zc (ZpM 30 23 Tryz.f30 [1,0,1,0,0]) (Z8 0 (Lk H0))) [(0,x0),(3,x3)] H
def Ll:Z5:=ZuE 30 23 (sub (Z1 Tryz.f30) [1,0,1,0,0]) (Z8 0 (Lk H0)) [(0,x0),(3,x3)] H
def Zk7:Z5:=
 Ll p0 (J zA 0) H H
theorem Zb9:Zho x0 H0 H =
 Z0 (Zk (.slice 9) x0) fun g=>
 Z0 (Z4 .leq g (J zA 40)) fun h=>
 some (h,H):=Z9 [3,4,6]
theorem Zlb:Zhq x0 x3 H0 H =
 Z0 (Z4 .add x3 (J zA 1)) fun g=>
 Ll x0 g H0 H:=Z9 [3,4,6]
theorem Zba:Zhp x0 x3 H0 H =
 Z0 (Zo 1 x0 x3) fun g=>
 Z0 (Z3 false 1 g H) fun h=>
 Z0 (Zk .string h) fun j=>
 Z0 (Z4 .gtr j (J zA 200)) fun u=>
 Zj u
 (some ((.bool false),H))
 (Zhq x0 x3 H0 H):=Z9 [3,4,6]
theorem Fb:Ll x0 x3 H0 H =
 Z0 (Zk (.slice 9) x0) fun u=>
 Z0 (Z4 .lss x3 u) fun j=>
 Z0 (Z7 j true am (some x3)) fun t9=>
 Z0 (Z7 j true am (Z4 .lss t9 (J zA 41))) fun g=>
 Z0 (Zi j g (.bool false)) fun h=>
 Zj h
 (Zhp x0 x3 H0 H)
 (Zho x0 H0 H):=(ZC (C:=cfg) [3,4,6] (Zn 0 (Zhr H0)) _ _).trans (by kernel_rfl)
theorem ZlQ:Zcq [p0] H=Zk7 p0 H:=Be 23 [3,4,6] Tryz.func30
def Zfs:Z5:=
 Z0 (ZO p0 H) fun g=>
 Z0 (Z6 0 g.1) fun t3=>
 Z0 (Z6 0 t3) fun t4=>
 Z0 (Z3 false 1 t4 g.2) fun t5=>
 Z0 (Zk (.slice 119) t5) fun h=>
 Z0 (Z4 .leq h (J zA 10)) fun j=>
 some (j,g.2)
theorem Zjb:Aq [p0] H=Zfs p0 H:=Be 8 [] Tryz.func31
def ZfG:Z5:=bz 34 26 Tryz.f34 [1,1,1] H0 [] H
def N4:KL:=Zc (ZyB 34 26 Tryz.f34 [1,1,1]) (Zf cfg 26 34 Tryz.f34 H0)
theorem Zgj:ZS 26 (N4 H0):=Zw (C:=cfg) (kp:=cfg.keep 34) (sub (Z1 Tryz.f34) [1,1,1]) (Zz 34 Tryz.f34 H0)
def ZfI:Z5:=NZ 34 26 (sub (Z1 Tryz.f34) [1,1,0,1,0,0,1,1]) (Zc (ZpM 34 26 Tryz.f34 [1,1,0,1,0,0]) (Z8 0 (N4 H0))) [(0,x0),(1,x1),(5,x5)] H
def ZfH:Z5:=NZ 34 26 (sub (Z1 Tryz.f34) [1,1,0,1,0,0,1]) (Zc (ZpM 34 26 Tryz.f34 [1,1,0,1,0,0]) (Z8 0 (N4 H0))) [(0,x0),(1,x1),(5,x5)] H
def N5:Z5:=ZuE 34 26 (sub (Z1 Tryz.f34) [1,1,0,1,0,0]) (Z8 0 (N4 H0)) [(0,x0),(1,x1),(5,x5)] H
def ZfF:Z5:=bz 34 26 Tryz.f34 [1,1] H0 [(0,x0),(1,x1)] H
def Zhf:Z5:=
 Z0 (Zk (.slice 9) p0) fun h=>
 Z0 (Zk (.slice 9) p1) fun t9=>
 Z0 (Z4 .neq h t9) fun g=>
 Zj g
 (some ((.bool false),H))
 (ZfF p0 p1 H H)
theorem Zjp:ZfG H0 H =
 some ((.bool true),H):=Z9 [3,5,6,8]
theorem Zjr:ZfI x0 x1 x5 H0 H =
 Z0 (Z4 .add x5 (J zA 1)) fun g=>
 N5 x0 x1 g H0 H:=Z9 [3,5,6,8]
theorem Zjq:ZfH x0 x1 x5 H0 H =
 Z0 (Zo 1 x0 x5) fun g=>
 Z0 (Z3 false 1 g H) fun h=>
 Z0 (Zo 1 x1 x5) fun j=>
 Z0 (Z3 false 1 j H) fun u=>
 Z0 (Yx .neq h u) fun w=>
 Zj w
 (some ((.bool false),H))
 (ZfI x0 x1 x5 H0 H):=Z9 [3,5,6,8]
theorem IF:N5 x0 x1 x5 H0 H =
 Z0 (Zk (.slice 9) x0) fun g=>
 Z0 (Z4 .lss x5 g) fun h=>
 Zj h
 (ZfH x0 x1 x5 H0 H)
 (ZfG H0 H):=(ZC (C:=cfg) [3,5,6,8] (Zn 0 (Zgj H0)) _ _).trans (by kernel_rfl)
theorem Zjo:ZfF x0 x1 H0 H =
 N5 x0 x1 (J zA 0) H0 H:=Z9 [3,5,6,8]
theorem Zl9:Lc [p0,p1] H=Zhf p0 p1 H:=Be 26 [3,5,6,8] Tryz.func34
end
end Go.Am
