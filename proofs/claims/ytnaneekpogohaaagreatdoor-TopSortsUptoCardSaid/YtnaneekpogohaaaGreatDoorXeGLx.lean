/- The functions of the translation over the abstract machine -/
import Derived.Test.YtnaneekpogohaaaGreatDoorXeGx
namespace Go.Am
open Go.Proofs
set_option maxRecDepth 100000
noncomputable abbrev NX (f n:Nat):=Y6 cfg (Z9 cfg) (ZZ cfg (cfg.keep f) n) (cfg.keep f) n Zc Z6
noncomputable abbrev Zpv (f n:Nat):=ZZ cfg (cfg.keep f) n
noncomputable section
abbrev ZuX (f n:Nat)(F:Func)(p:List Nat):KL->AL->Hp->Z4:=fun k g H=>NX f n (sub (Z1 F) p) k (ZS (cfg.keep f) (sub (Z1 F) p) g) H
abbrev Zj6 (f n:Nat)(F:Func)(p:List Nat):KL->AL->Hp->Z4:=fun k g H=>Zpv f n (sub (Z1 F) p) k (ZS (cfg.keep f) (sub (Z1 F) p) g) H
variable (p0 p1 x0 x1 x2 x3 x5 x6 x7 x8 x9:AV)(H0 H:Hp)
def Uk:Z4:=NX 4 100 (sub (Z1 Tryz.f4) [1,1,1,1,1,1,1]) (Zi cfg 100 4 Tryz.f4 H0) [(1,x1),(2,x2),(5,x5),(6,x6),(8,x8)] H
def Wx:KL:=Zc (ZuX 4 100 Tryz.f4 [1,1,1,1,1,1,1]) (Zi cfg 100 4 Tryz.f4 H0)
theorem Tn:ZU 100 (Wx H0):=Zx (C:=cfg) (kp:=cfg.keep 4) (sub (Z1 Tryz.f4) [1,1,1,1,1,1,1]) (ZB 4 Tryz.f4 H0)
def Gc:Z4:=NX 4 100 (sub (Z1 Tryz.f4) [1,1,1,1,1,1,0,1,0,0,1,1]) (Zc (Zj6 4 100 Tryz.f4 [1,1,1,1,1,1,0,1,0,0]) (Z6 0 (Wx H0))) [(1,x1),(2,x2),(5,x5),(6,x6),(7,x7),(8,x8),(9,x9)] H
def Gb:Z4:=NX 4 100 (sub (Z1 Tryz.f4) [1,1,1,1,1,1,0,1,0,0,1]) (Zc (Zj6 4 100 Tryz.f4 [1,1,1,1,1,1,0,1,0,0]) (Z6 0 (Wx H0))) [(1,x1),(2,x2),(5,x5),(6,x6),(7,x7),(8,x8),(9,x9)] H
def Wy:Z4:=Zpv 4 100 (sub (Z1 Tryz.f4) [1,1,1,1,1,1,0,1,0,0]) (Z6 0 (Wx H0)) [(1,x1),(2,x2),(5,x5),(6,x6),(7,x7),(8,x8),(9,x9)] H
def Ga:Z4:=NX 4 100 (sub (Z1 Tryz.f4) [1,1]) (Zi cfg 100 4 Tryz.f4 H0) [(1,x1),(2,x2)] H
def GS:Z4:=
 Z0 (ZO p0 H) fun y=>
 Z0 (Ze KQ [p1] y.2) fun j=>
 Z0 (Xv .not j.1) fun u=>
 Z0 (Z8 u false (.tuple []) (Z7 0 y.1)) fun A=>
 Z0 (Z8 u false (.tuple []) (Z7 0 A)) fun B=>
 Z0 (Z8 u false (.tuple []) (Z3 false 1 B j.2)) fun C=>
 Z0 (Z8 u false (.tuple []) (Zl (.slice 119) C)) fun D=>
 Z0 (Z8 u false (.tuple []) (Z5 .gtr D (.int .i64 10))) fun E=>
 Z0 (Zj u (.bool true) E) fun g=>
 Z0 (Z8 g false (.tuple []) (Z7 0 y.1)) fun F=>
 Z0 (Z8 g false (.tuple []) (Z3 true 5 F j.2)) fun I=>
 Z0 (Z8 g false (.tuple []) (Z7 5 y.1)) fun J=>
 Z0 (Z8 g false (.tuple []) (Z3 true 2 J j.2)) fun K=>
 Z0 (Z8 g false (.tuple []) (some p1)) fun L=>
 Z0 (Z8 g false ((.tuple []),j.2) (Ze A0 [I,K,L] j.2)) fun w=>
 Z0 (Z8 g false (.tuple []) (Z5 .neq w.1 (.int .i64 0))) fun M=>
 Z0 (Zj g (.bool true) M) fun N=>
 Zk N
 (Z0 (Ze Vj [] w.2) fun z=>
 some (z.1,z.2))
 (Ga p1 y.1 H w.2)
theorem NU:Uk x1 x2 x5 x6 x8 H0 H =
 XG x2 H fun K af=>
 XG x5 af fun z5 J=>
 Z0 (Aa [(.int .i64 262144)] (J++[.free])) fun E=>
 Z0 (XE true 6 z5) fun L=>
 Z0 (Z7 0 K) fun M=>
 Z0 (XE true 5 M) fun N=>
 Z0 (Z7 5 K) fun O=>
 Z0 (XE true 2 O) fun Q=>
 Z0 (P7 [E.1,L,N,Q,x1] E.2) fun y=>
 Z0 (ZT y.1 0) fun t70=>
 Z0 (ZT y.1 1) fun R=>
 Z0 (ZT y.1 2) fun t72=>
 Z0 (KV (J.length+0) (some (.cells [(.int .i64 0),(.int .i64 0),(.int .i64 0),(.int .i64 0)])) y.2) fun D=>
 Z0 (Zf 4 D.1 R D.2) fun A=>
 Z0 (Z5 .eql t72 (.int .i64 0)) fun z=>
 Z0 (Z8 z true (.tuple []) (some t70)) fun S=>
 Z0 (Z8 z true (.tuple []) (some x6)) fun T=>
 Z0 (Z8 z true ((.tuple []),A.2) (Ze Wh [S,T] A.2)) fun u=>
 Z0 (Zj z u.1 (.bool false)) fun g=>
 Z0 (Z8 g true (.tuple []) (Z3 true 6 z5 u.2)) fun U=>
 Z0 (Z8 g true (.tuple []) (Z7 0 K)) fun V=>
 Z0 (Z8 g true (.tuple []) (Z3 true 5 V u.2)) fun W=>
 Z0 (Z8 g true (.tuple []) (some x8)) fun X=>
 Z0 (Z8 g true ((.tuple []),u.2) (Rg [U,W,X] u.2)) fun B=>
 Z0 (Z8 g true (.tuple []) (some x6)) fun Y=>
 Z0 (Z8 g true ((.tuple []),B.2) (Ze Wh [B.1,Y] B.2)) fun w=>
 Z0 (Zj g w.1 (.bool false)) fun j=>
 Z0 (Z8 j true (.tuple []) (Z3 true 6 z5 w.2)) fun Z=>
 Z0 (Z8 j true (.tuple []) (Z7 0 K)) fun aa=>
 Z0 (Z8 j true (.tuple []) (Z3 true 5 aa w.2)) fun ab=>
 Z0 (Z8 j true (.tuple []) (some x6)) fun ac=>
 Z0 (Z8 j true ((.tuple []),w.2) (Ze KJ [Z,ab,ac] w.2)) fun C=>
 Z0 (Z8 j true (.tuple []) (Z5 .eql C.1 (.int .i64 (-1)))) fun ad=>
 Z0 (Zj j ad (.bool false)) fun I=>
 Z0 (Z8 I true ((.tuple []),C.2) (Ze Vj [] C.2)) fun F=>
 Z0 (Zj I F.1 (.bool false)) fun ae=>
 some (ae,F.2):=Za [3,9,10,11]
theorem NW:Gc x1 x2 x5 x6 x7 x8 x9 H0 H =
 Z0 (Z5 .add x9 (.int .i64 1)) fun g=>
 Wy x1 x2 x5 x6 x7 x8 g H0 H:=Za [3,9,10,11]
theorem NV:Gb x1 x2 x5 x6 x7 x8 x9 H0 H =
 Z0 (Z3 true 6 x5 H) fun u=>
 Z0 (Z7 0 x2) fun w=>
 Z0 (Z3 true 5 w H) fun y=>
 Z0 (Zn 1 x7 x9) fun z=>
 Z0 (Z3 false 1 z H) fun A=>
 Z0 (Ze WS [u,y,A] H) fun g=>
 Z0 ((ZA 1 [(0,g.1)] [.nils]).map (.vs 1 .clip)) fun B=>
 Z0 (Wk false 1 24 x8 B g.2) fun j=>
 Gc x1 x2 x5 x6 x7 j.1 x9 H0 j.2:=Za [3,9,10,11]
theorem QX:Wy x1 x2 x5 x6 x7 x8 x9 H0 H =
 Z0 (Zl (.slice 29) x7) fun g=>
 Z0 (Z5 .lss x9 g) fun j=>
 Zk j
 (Gb x1 x2 x5 x6 x7 x8 x9 H0 H)
 (Uk x1 x2 x5 x6 x8 H0 H):=(ZD (C:=cfg) [3,9,10,11] (Zm 0 (Tn H0)) _ _).trans (by kernel_rfl)
theorem NT:Ga x1 x2 H0 H =
 Z0 (Ze DU [] H) fun g=>
 Z0 (some ((.ptr g.2.length 0),g.2++[.cells [(.str []),.nils,(.str []),(.str []),.nils,.nils]])) fun y=>
 Z0 (Zf 6 y.1 g.1 y.2) fun u=>
 Z0 (Z3 true 6 y.1 u.2) fun z=>
 Z0 (Z7 0 x2) fun A=>
 Z0 (Z3 true 5 A u.2) fun B=>
 Z0 (Ze WS [z,B,x1] u.2) fun j=>
 Z0 (Z7 5 x2) fun C=>
 Z0 (Z7 0 C) fun D=>
 Z0 (Z3 false 1 D j.2) fun E=>
 Z0 (Ze Rh [x1,E] j.2) fun w=>
 Wy x1 x2 y.1 j.1 w.1 .nils (.int .i64 0) H0 w.2:=Za [3,9,10,11]
theorem M1:GQ [p0,p1] H=GS p0 p1 H:=Be 100 [3,9,10,11] Tryz.func4
def P4:Z4:=NX 11 23 (sub (Z1 Tryz.f11) [1,1]) (Zi cfg 23 11 Tryz.f11 H0) [(0,x0)] H
def UC:KL:=Zc (ZuX 11 23 Tryz.f11 [1,1]) (Zi cfg 23 11 Tryz.f11 H0)
theorem SY:ZU 23 (UC H0):=Zx (C:=cfg) (kp:=cfg.keep 11) (sub (Z1 Tryz.f11) [1,1]) (ZB 11 Tryz.f11 H0)
def P6:Z4:=NX 11 23 (sub (Z1 Tryz.f11) [1,0,1,0,0,1,1]) (Zc (Zj6 11 23 Tryz.f11 [1,0,1,0,0]) (Z6 0 (UC H0))) [(0,x0),(3,x3)] H
def P5:Z4:=NX 11 23 (sub (Z1 Tryz.f11) [1,0,1,0,0,1]) (Zc (Zj6 11 23 Tryz.f11 [1,0,1,0,0]) (Z6 0 (UC H0))) [(0,x0),(3,x3)] H
def UD:Z4:=Zpv 11 23 (sub (Z1 Tryz.f11) [1,0,1,0,0]) (Z6 0 (UC H0)) [(0,x0),(3,x3)] H
def No:Z4:=
 UD p0 (.int .i64 0) H H
theorem DQ:P4 x0 H0 H =
 Z0 (Zl (.slice 9) x0) fun g=>
 Z0 (Z5 .leq g (.int .i64 40)) fun j=>
 some (j,H):=Za [3,4,6]
theorem I3:P6 x0 x3 H0 H =
 Z0 (Z5 .add x3 (.int .i64 1)) fun g=>
 UD x0 g H0 H:=Za [3,4,6]
theorem DR:P5 x0 x3 H0 H =
 Z0 (Zn 1 x0 x3) fun g=>
 Z0 (Z3 false 1 g H) fun j=>
 Z0 (Zl .string j) fun u=>
 Z0 (Z5 .gtr u (.int .i64 200)) fun w=>
 Zk w
 (some ((.bool false),H))
 (P6 x0 x3 H0 H):=Za [3,4,6]
theorem V6:UD x0 x3 H0 H =
 Z0 (Zl (.slice 9) x0) fun w=>
 Z0 (Z5 .lss x3 w) fun u=>
 Z0 (Z8 u true (.tuple []) (some x3)) fun t9=>
 Z0 (Z8 u true (.tuple []) (Z5 .lss t9 (.int .i64 41))) fun g=>
 Z0 (Zj u g (.bool false)) fun j=>
 Zk j
 (P5 x0 x3 H0 H)
 (P4 x0 H0 H):=(ZD (C:=cfg) [3,4,6] (Zm 0 (SY H0)) _ _).trans (by kernel_rfl)
theorem Ir:KQ [p0] H=No p0 H:=Be 23 [3,4,6] Tryz.func11
def FQ:Z4:=
 Z0 (Ze DU [] H) fun g=>
 Z0 ((X5 [(1,1,(.int .i64 (-1)))] [.nils,(.int .i64 0),(.int .i64 0),(.bool false),(.bool false)]).map .agg) fun w=>
 Z0 ((ZA 1 [(0,(.str [98])),(1,(.str [97]))] [(.str []),(.str [])]).map (.vs 1 .clip)) fun t3=>
 Z0 (Ze WS [g.1,w,t3] g.2) fun j=>
 Z0 ((ZA 1 [(0,(.str [97])),(1,(.str [98]))] [(.str []),(.str [])]).map (.vs 1 .clip)) fun t5=>
 Z0 (Ze Wh [j.1,t5] j.2) fun u=>
 some (u.1,u.2)
theorem Ek:Vj [] H=FQ H:=Be 7 [] Tryz.func13
def R6:Z4:=NX 24 26 (sub (Z1 Tryz.f24) [1,1,1]) (Zi cfg 26 24 Tryz.f24 H0) [] H
def Vp:KL:=Zc (ZuX 24 26 Tryz.f24 [1,1,1]) (Zi cfg 26 24 Tryz.f24 H0)
theorem ME:ZU 26 (Vp H0):=Zx (C:=cfg) (kp:=cfg.keep 24) (sub (Z1 Tryz.f24) [1,1,1]) (ZB 24 Tryz.f24 H0)
def R8:Z4:=NX 24 26 (sub (Z1 Tryz.f24) [1,1,0,1,0,0,1,1]) (Zc (Zj6 24 26 Tryz.f24 [1,1,0,1,0,0]) (Z6 0 (Vp H0))) [(0,x0),(1,x1),(5,x5)] H
def R7:Z4:=NX 24 26 (sub (Z1 Tryz.f24) [1,1,0,1,0,0,1]) (Zc (Zj6 24 26 Tryz.f24 [1,1,0,1,0,0]) (Z6 0 (Vp H0))) [(0,x0),(1,x1),(5,x5)] H
def Vq:Z4:=Zpv 24 26 (sub (Z1 Tryz.f24) [1,1,0,1,0,0]) (Z6 0 (Vp H0)) [(0,x0),(1,x1),(5,x5)] H
def R5:Z4:=NX 24 26 (sub (Z1 Tryz.f24) [1,1]) (Zi cfg 26 24 Tryz.f24 H0) [(0,x0),(1,x1)] H
def Rp:Z4:=
 Z0 (Zl (.slice 9) p0) fun j=>
 Z0 (Zl (.slice 9) p1) fun t9=>
 Z0 (Z5 .neq j t9) fun g=>
 Zk g
 (some ((.bool false),H))
 (R5 p0 p1 H H)
theorem C0:R6 H0 H =
 some ((.bool true),H):=Za [3,5,6,8]
theorem C2:R8 x0 x1 x5 H0 H =
 Z0 (Z5 .add x5 (.int .i64 1)) fun g=>
 Vq x0 x1 g H0 H:=Za [3,5,6,8]
theorem C1:R7 x0 x1 x5 H0 H =
 Z0 (Zn 1 x0 x5) fun g=>
 Z0 (Z3 false 1 g H) fun j=>
 Z0 (Zn 1 x1 x5) fun u=>
 Z0 (Z3 false 1 u H) fun w=>
 Z0 (Xb .neq j w) fun y=>
 Zk y
 (some ((.bool false),H))
 (R8 x0 x1 x5 H0 H):=Za [3,5,6,8]
theorem Gd:Vq x0 x1 x5 H0 H =
 Z0 (Zl (.slice 9) x0) fun g=>
 Z0 (Z5 .lss x5 g) fun j=>
 Zk j
 (R7 x0 x1 x5 H0 H)
 (R6 H0 H):=(ZD (C:=cfg) [3,5,6,8] (Zm 0 (ME H0)) _ _).trans (by kernel_rfl)
theorem SZ:R5 x0 x1 H0 H =
 Vq x0 x1 (.int .i64 0) H0 H:=Za [3,5,6,8]
theorem C9:Wh [p0,p1] H=Rp p0 p1 H:=Be 26 [3,5,6,8] Tryz.func24
end
end Go.Am
