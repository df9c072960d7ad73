/-
  The functions of the translation over the abstract machine, a further part: written by program (wip/gen.py).
-/
import Derived.Test.YtehanadfidoodaaGreatDoorTkGx
namespace Go.Am
open Go.Proofs
set_option maxRecDepth 100000
set_option linter.unusedVariables false
set_option linter.unusedSimpArgs false
noncomputable abbrev CXgM (f n:Nat):=CXL cfg (Za7 cfg) (LPL cfg (cfg.keep f) n) (cfg.keep f) n seqL Za3
noncomputable abbrev LPgM (f n:Nat):=LPL cfg (cfg.keep f) n
noncomputable section

def Zhh (x2 x3 x4:AV) (H0 H:Hp):Res:=CXgM 3 31 (sub (Za0 Tryz.f3) [1,1]) (retL cfg 31 3 Tryz.f3 H0) [(2,x2),(3,x3),(4,x4)] H
def Zia (p0 p1 p2:AV) (H:Hp):Res:=
 bnd (abox p0 H) fun r3=>
 bnd (abox p1 r3.2) fun r4=>
 bnd (Zaf (.slice 32) p2) fun t8=>
 bnd (ibin .gtr t8 (.int .i64 8)) fun t9=>
 bnd (gdv t9 false (.tuple []) (Za2 true 6 r3.1 r4.2)) fun t11=>
 bnd (gdv t9 false (.tuple []) (Za2 true 5 r4.1 r4.2)) fun t12=>
 bnd (gdv t9 false (.tuple []) (some p2)) fun t13=>
 bnd (gdv t9 false ((.tuple []),r4.2) (Za5 ZqX [t13] r4.2)) fun r14=>
 bnd (gdv t9 false ((.tuple []),r14.2) (Za5 Zmq [t11,t12,r14.1] r14.2)) fun r15=>
 bnd (gdv t9 false (.tuple []) (aun .not r15.1)) fun t16=>
 bnd (Zae t9 (.bool true) t16) fun t17=>
 cnd t17
  (bnd (Za5 Zes [] r15.2) fun r18=>
  some (r18.1,r18.2))
  (Zhh p2 r3.1 r4.1 H r15.2)
theorem Zmh (x2 x3 x4:AV) (H0 H:Hp):Zhh x2 x3 x4 H0 H =
    bnd (Za2 true 6 x3 H) fun t19=>
    bnd (Za2 true 5 x4 H) fun t20=>
    bnd (Za5 Zd8 [t19,t20,x2] H) fun r22=>
    bnd (Za2 true 6 x3 r22.2) fun t23=>
    bnd (Za2 true 5 x4 r22.2) fun t24=>
    bnd (Za5 ZiZ [t23,t24,x2] r22.2) fun r26=>
    bnd (Za5 Zhb [r22.1,r26.1] r26.2) fun r27=>
    bnd (gdv r27.1 true ((.tuple []),r27.2) (Za5 Zes [] r27.2)) fun r29=>
    bnd (Zae r27.1 r29.1 (.bool false)) fun t30=>
    some (t30,r29.2):=(Za4 [3] _ _ _ _).trans (by kernel_rfl)
theorem Zng (p0 p1 p2:AV) (H:Hp):Zi9 [p0,p1,p2] H=Zia p0 p1 p2 H:=(Zab (C:=cfg) (fn:=Tryz.f3) (c:=Za0 Tryz.f3) (n:=31) [3] Tryz.func3 (by kernel_rfl) (by kernel_rfl) [p0,p1,p2] (by kernel_rfl) H).trans (by kernel_rfl)

def Zvr (H0 H:Hp):Res:=CXgM 15 34 (sub (Za0 Tryz.f15) [1,1,1]) (retL cfg 34 15 Tryz.f15 H0) [] H
def ZkH (H0:Hp):KL:=seqL (fun k al H=>CXgM 15 34 (sub (Za0 Tryz.f15) [1,1,1]) k (Za8 (cfg.keep 15) (sub (Za0 Tryz.f15) [1,1,1]) al) H) (retL cfg 34 15 Tryz.f15 H0)
theorem Zvu (H0:Hp):Tame 34 (ZkH H0):=Zak (C:=cfg) (kp:=cfg.keep 15) (sub (Za0 Tryz.f15) [1,1,1]) (Zao 15 Tryz.f15 H0)
def Zvt (x2 x7:AV) (H0 H:Hp):Res:=CXgM 15 34 (sub (Za0 Tryz.f15) [1,1,0,1,0,0,1,1]) (seqL (fun k al H=>LPgM 15 34 (sub (Za0 Tryz.f15) [1,1,0,1,0,0]) k (Za8 (cfg.keep 15) (sub (Za0 Tryz.f15) [1,1,0,1,0,0]) al) H) (Za3 0 (ZkH H0))) [(2,x2),(7,x7)] H
def Zvs (x2 x7:AV) (H0 H:Hp):Res:=CXgM 15 34 (sub (Za0 Tryz.f15) [1,1,0,1,0,0,1]) (seqL (fun k al H=>LPgM 15 34 (sub (Za0 Tryz.f15) [1,1,0,1,0,0]) k (Za8 (cfg.keep 15) (sub (Za0 Tryz.f15) [1,1,0,1,0,0]) al) H) (Za3 0 (ZkH H0))) [(2,x2),(7,x7)] H
def ZkI (x2 x7:AV) (H0 H:Hp):Res:=LPgM 15 34 (sub (Za0 Tryz.f15) [1,1,0,1,0,0]) (Za3 0 (ZkH H0)) [(2,x2),(7,x7)] H
def Zvq (x2:AV) (H0 H:Hp):Res:=CXgM 15 34 (sub (Za0 Tryz.f15) [1,1]) (retL cfg 34 15 Tryz.f15 H0) [(2,x2)] H
def Zye (p0 p1 p2:AV) (H:Hp):Res:=
 bnd (abox p0 H) fun r3=>
 bnd (abox p1 r3.2) fun r4=>
 bnd (Zaf (.slice 9) p2) fun t9=>
 bnd (ibin .gtr t9 (.int .i64 30)) fun t10=>
 bnd (gdv t10 false (.tuple []) (Zaa 0 r4.1)) fun t12=>
 bnd (gdv t10 false (.tuple []) (Za2 false 1 t12 r4.2)) fun t13=>
 bnd (gdv t10 false (.tuple []) (Zaf (.slice 149) t13)) fun t14=>
 bnd (gdv t10 false (.tuple []) (ibin .gtr t14 (.int .i64 12))) fun t15=>
 bnd (Zae t10 (.bool true) t15) fun t16=>
 bnd (gdv t16 false (.tuple []) (Za2 true 6 r3.1 r4.2)) fun t18=>
 bnd (gdv t16 false ((.tuple []),r4.2) (Za5 ZiS [t18] r4.2)) fun r19=>
 bnd (gdv t16 false (.tuple []) (aun .not r19.1)) fun t20=>
 bnd (Zae t16 (.bool true) t20) fun t21=>
 cnd t21
  (some ((.bool false),r19.2))
  (Zvq p2 H r19.2)
theorem Zz4 (H0 H:Hp):Zvr H0 H =
    some ((.bool true),H):=(Za4 [3,5,6,8] _ _ _ _).trans (by kernel_rfl)
theorem Zz6 (x2 x7:AV) (H0 H:Hp):Zvt x2 x7 H0 H =
    bnd (ibin .add x7 (.int .i64 1)) fun t27=>
    ZkI x2 t27 H0 H:=(Za4 [3,5,6,8] _ _ _ _).trans (by kernel_rfl)
theorem Zz5 (x2 x7:AV) (H0 H:Hp):Zvs x2 x7 H0 H =
    bnd (Zad 1 x2 x7) fun t30=>
    bnd (Za2 false 1 t30 H) fun t31=>
    bnd (Zaf .string t31) fun t32=>
    bnd (ibin .gtr t32 (.int .i64 40)) fun t33=>
    cnd t33
     (some ((.bool false),H))
     (Zvt x2 x7 H0 H):=(Za4 [3,5,6,8] _ _ _ _).trans (by kernel_rfl)
theorem ZpP (x2 x7:AV) (H0 H:Hp):ZkI x2 x7 H0 H =
    bnd (Zaf (.slice 9) x2) fun t24=>
    bnd (ibin .lss x7 t24) fun t25=>
    cnd t25
     (Zvs x2 x7 H0 H)
     (Zvr H0 H):=(Zap (C:=cfg) [3,5,6,8] (Zah 0 (Zvu H0)) _ _).trans (by kernel_rfl)
theorem Zz3 (x2:AV) (H0 H:Hp):Zvq x2 H0 H =
    ZkI x2 (.int .i64 0) H0 H:=(Za4 [3,5,6,8] _ _ _ _).trans (by kernel_rfl)
theorem ZzK (p0 p1 p2:AV) (H:Hp):Zmq [p0,p1,p2] H=Zye p0 p1 p2 H:=(Zab (C:=cfg) (fn:=Tryz.f15) (c:=Za0 Tryz.f15) (n:=34) [3,5,6,8] Tryz.func15 (by kernel_rfl) (by kernel_rfl) [p0,p1,p2] (by kernel_rfl) H).trans (by kernel_rfl)

def Zvm (x3:AV) (H0 H:Hp):Res:=CXgM 16 18 (sub (Za0 Tryz.f16) [1,1,1]) (retL cfg 18 16 Tryz.f16 H0) [(3,x3)] H
def ZkF (H0:Hp):KL:=seqL (fun k al H=>CXgM 16 18 (sub (Za0 Tryz.f16) [1,1,1]) k (Za8 (cfg.keep 16) (sub (Za0 Tryz.f16) [1,1,1]) al) H) (retL cfg 18 16 Tryz.f16 H0)
theorem Zvp (H0:Hp):Tame 18 (ZkF H0):=Zak (C:=cfg) (kp:=cfg.keep 16) (sub (Za0 Tryz.f16) [1,1,1]) (Zao 16 Tryz.f16 H0)
def Zvo (x0 x3 x4:AV) (H0 H:Hp):Res:=CXgM 16 18 (sub (Za0 Tryz.f16) [1,1,0,1,0,0,1,1]) (seqL (fun k al H=>LPgM 16 18 (sub (Za0 Tryz.f16) [1,1,0,1,0,0]) k (Za8 (cfg.keep 16) (sub (Za0 Tryz.f16) [1,1,0,1,0,0]) al) H) (Za3 0 (ZkF H0))) [(0,x0),(3,x3),(4,x4)] H
def Zvn (x0 x3 x4:AV) (H0 H:Hp):Res:=CXgM 16 18 (sub (Za0 Tryz.f16) [1,1,0,1,0,0,1]) (seqL (fun k al H=>LPgM 16 18 (sub (Za0 Tryz.f16) [1,1,0,1,0,0]) k (Za8 (cfg.keep 16) (sub (Za0 Tryz.f16) [1,1,0,1,0,0]) al) H) (Za3 0 (ZkF H0))) [(0,x0),(3,x3),(4,x4)] H
def ZkG (x0 x3 x4:AV) (H0 H:Hp):Res:=LPgM 16 18 (sub (Za0 Tryz.f16) [1,1,0,1,0,0]) (Za3 0 (ZkF H0)) [(0,x0),(3,x3),(4,x4)] H
def Zyd (p0:AV) (H:Hp):Res:=
 ZkG p0 .nils (.int .i64 0) H H
theorem Zz0 (x3:AV) (H0 H:Hp):Zvm x3 H0 H =
    some (x3,H):=(Za4 [4,5,6] _ _ _ _).trans (by kernel_rfl)
theorem Zz2 (x0 x3 x4:AV) (H0 H:Hp):Zvo x0 x3 x4 H0 H =
    bnd (ibin .add x4 (.int .i64 1)) fun t10=>
    ZkG x0 x3 t10 H0 H:=(Za4 [4,5,6] _ _ _ _).trans (by kernel_rfl)
theorem Zz1 (x0 x3 x4:AV) (H0 H:Hp):Zvn x0 x3 x4 H0 H =
    bnd (Zad 1 x0 x4) fun t14=>
    bnd (Za2 false 1 t14 H) fun t15=>
    bnd (ZaH 1 16 x3 t15 H) fun r16=>
    Zvo x0 r16.1 x4 H0 r16.2:=(Za4 [4,5,6] _ _ _ _).trans (by kernel_rfl)
theorem ZpO (x0 x3 x4:AV) (H0 H:Hp):ZkG x0 x3 x4 H0 H =
    bnd (Zaf (.slice 32) x0) fun t7=>
    bnd (ibin .lss x4 t7) fun t8=>
    cnd t8
     (Zvn x0 x3 x4 H0 H)
     (Zvm x3 H0 H):=(Zap (C:=cfg) [4,5,6] (Zah 0 (Zvp H0)) _ _).trans (by kernel_rfl)
theorem ZzJ (p0:AV) (H:Hp):ZqX [p0] H=Zyd p0 H:=(Zab (C:=cfg) (fn:=Tryz.f16) (c:=Za0 Tryz.f16) (n:=18) [4,5,6] Tryz.func16 (by kernel_rfl) (by kernel_rfl) [p0] (by kernel_rfl) H).trans (by kernel_rfl)

def ZtB (H:Hp):Res:=
 bnd ((Zau 1 [(0,(.str [98])),(1,(.str [97])),(2,(.str [66]))] [(.str []),(.str []),(.str [])]).map (.vs 1 .clip)) fun t7=>
 bnd ((ZbJ [(1,1,(.int .i64 (-1)))] [.nils,(.int .i64 0),(.int .i64 0),(.bool false),(.bool false)]).map .agg) fun t8=>
 bnd (some ((.ptr H.length 0),H++[.cells [.nils,(.int .i64 0),(.int .i64 0),(.bool false),(.bool false)]])) fun r2=>
 bnd (Zag 5 r2.1 t8 r2.2) fun r_4=>
 bnd ((ZbJ [(1,1,(.int .i64 (-1))),(2,1,(.int .i64 4)),(4,1,(.bool true))] [.nils,(.int .i64 0),(.int .i64 0),(.bool false),(.bool false)]).map .agg) fun t9=>
 bnd (some ((.ptr r_4.2.length 0),r_4.2++[.cells [.nils,(.int .i64 0),(.int .i64 0),(.bool false),(.bool false)]])) fun r3=>
 bnd (Zag 5 r3.1 t9 r3.2) fun r_7=>
 bnd (Za5 Zbh [] r_7.2) fun r10=>
 bnd (Za2 true 5 r2.1 r10.2) fun t11=>
 bnd (Za5 ZdG [r10.1,t11,t7] r10.2) fun r13=>
 bnd (Za5 Zbh [] r13.2) fun r14=>
 bnd (Za2 true 5 r3.1 r14.2) fun t15=>
 bnd (Za5 ZdG [r14.1,t15,t7] r14.2) fun r17=>
 bnd (Za5 Zbh [] r17.2) fun r18=>
 bnd (Za2 true 5 r2.1 r18.2) fun t19=>
 bnd ((Zau 1 [(0,(.str [97])),(1,(.str [98])),(2,(.str [98])),(3,(.str [97]))] [(.str []),(.str []),(.str []),(.str [])]).map (.vs 1 .clip)) fun t20=>
 bnd (Za5 ZeS [r18.1,t19,t20] r18.2) fun r21=>
 bnd ((Zau 1 [(0,(.str [66])),(1,(.str [97])),(2,(.str [98]))] [(.str []),(.str []),(.str [])]).map (.vs 1 .clip)) fun t23=>
 bnd (Za5 Zhb [r13.1,t23] r21.2) fun r24=>
 bnd (gdv r24.1 true (.tuple []) (some r17.1)) fun t26=>
 bnd (gdv r24.1 true (.tuple []) ((Zau 1 [(0,(.str [97])),(1,(.str [98])),(2,(.str [66]))] [(.str []),(.str []),(.str [])]).map (.vs 1 .clip))) fun t27=>
 bnd (gdv r24.1 true ((.tuple []),r24.2) (Za5 Zhb [t26,t27] r24.2)) fun r28=>
 bnd (Zae r24.1 r28.1 (.bool false)) fun t29=>
 bnd (gdv t29 true (.tuple []) (some r21.1)) fun t31=>
 bnd (gdv t29 true (.tuple []) (ibin .eql t31 (.int .i64 3))) fun t32=>
 bnd (Zae t29 t32 (.bool false)) fun t33=>
 some (t33,r28.2)
theorem Zxs (H:Hp):Zes [] H=ZtB H:=(Zab (C:=cfg) (fn:=Tryz.f17) (c:=Za0 Tryz.f17) (n:=34) [] Tryz.func17 (by kernel_rfl) (by kernel_rfl) [] (by kernel_rfl) H).trans (by kernel_rfl)

def ZtU (H0 H:Hp):Res:=CXgM 18 26 (sub (Za0 Tryz.f18) [1,1,1]) (retL cfg 26 18 Tryz.f18 H0) [] H
def Zj4 (H0:Hp):KL:=seqL (fun k al H=>CXgM 18 26 (sub (Za0 Tryz.f18) [1,1,1]) k (Za8 (cfg.keep 18) (sub (Za0 Tryz.f18) [1,1,1]) al) H) (retL cfg 26 18 Tryz.f18 H0)
theorem ZuO (H0:Hp):Tame 26 (Zj4 H0):=Zak (C:=cfg) (kp:=cfg.keep 18) (sub (Za0 Tryz.f18) [1,1,1]) (Zao 18 Tryz.f18 H0)
def ZtW (x0 x1 x5:AV) (H0 H:Hp):Res:=CXgM 18 26 (sub (Za0 Tryz.f18) [1,1,0,1,0,0,1,1]) (seqL (fun k al H=>LPgM 18 26 (sub (Za0 Tryz.f18) [1,1,0,1,0,0]) k (Za8 (cfg.keep 18) (sub (Za0 Tryz.f18) [1,1,0,1,0,0]) al) H) (Za3 0 (Zj4 H0))) [(0,x0),(1,x1),(5,x5)] H
def ZtV (x0 x1 x5:AV) (H0 H:Hp):Res:=CXgM 18 26 (sub (Za0 Tryz.f18) [1,1,0,1,0,0,1]) (seqL (fun k al H=>LPgM 18 26 (sub (Za0 Tryz.f18) [1,1,0,1,0,0]) k (Za8 (cfg.keep 18) (sub (Za0 Tryz.f18) [1,1,0,1,0,0]) al) H) (Za3 0 (Zj4 H0))) [(0,x0),(1,x1),(5,x5)] H
def Zj5 (x0 x1 x5:AV) (H0 H:Hp):Res:=LPgM 18 26 (sub (Za0 Tryz.f18) [1,1,0,1,0,0]) (Za3 0 (Zj4 H0)) [(0,x0),(1,x1),(5,x5)] H
def ZtT (x0 x1:AV) (H0 H:Hp):Res:=CXgM 18 26 (sub (Za0 Tryz.f18) [1,1]) (retL cfg 26 18 Tryz.f18 H0) [(0,x0),(1,x1)] H
def Zvk (p0 p1:AV) (H:Hp):Res:=
 bnd (Zaf (.slice 9) p0) fun t7=>
 bnd (Zaf (.slice 9) p1) fun t9=>
 bnd (ibin .neq t7 t9) fun t10=>
 cnd t10
  (some ((.bool false),H))
  (ZtT p0 p1 H H)
theorem ZxO (H0 H:Hp):ZtU H0 H =
    some ((.bool true),H):=(Za4 [3,5,6,8] _ _ _ _).trans (by kernel_rfl)
theorem ZxQ (x0 x1 x5:AV) (H0 H:Hp):ZtW x0 x1 x5 H0 H =
    bnd (ibin .add x5 (.int .i64 1)) fun t16=>
    Zj5 x0 x1 t16 H0 H:=(Za4 [3,5,6,8] _ _ _ _).trans (by kernel_rfl)
theorem ZxP (x0 x1 x5:AV) (H0 H:Hp):ZtV x0 x1 x5 H0 H =
    bnd (Zad 1 x0 x5) fun t19=>
    bnd (Za2 false 1 t19 H) fun t20=>
    bnd (Zad 1 x1 x5) fun t23=>
    bnd (Za2 false 1 t23 H) fun t24=>
    bnd (sbin .neq t20 t24) fun t25=>
    cnd t25
     (some ((.bool false),H))
     (ZtW x0 x1 x5 H0 H):=(Za4 [3,5,6,8] _ _ _ _).trans (by kernel_rfl)
theorem Zo8 (x0 x1 x5:AV) (H0 H:Hp):Zj5 x0 x1 x5 H0 H =
    bnd (Zaf (.slice 9) x0) fun t13=>
    bnd (ibin .lss x5 t13) fun t14=>
    cnd t14
     (ZtV x0 x1 x5 H0 H)
     (ZtU H0 H):=(Zap (C:=cfg) [3,5,6,8] (Zah 0 (ZuO H0)) _ _).trans (by kernel_rfl)
theorem ZxN (x0 x1:AV) (H0 H:Hp):ZtT x0 x1 H0 H =
    Zj5 x0 x1 (.int .i64 0) H0 H:=(Za4 [3,5,6,8] _ _ _ _).trans (by kernel_rfl)
theorem ZyY (p0 p1:AV) (H:Hp):Zhb [p0,p1] H=Zvk p0 p1 H:=(Zab (C:=cfg) (fn:=Tryz.f18) (c:=Za0 Tryz.f18) (n:=26) [3,5,6,8] Tryz.func18 (by kernel_rfl) (by kernel_rfl) [p0,p1] (by kernel_rfl) H).trans (by kernel_rfl)

def Ze4 (x9:AV) (H0 H:Hp):Res:=CXgM 19 50 (sub (Za0 Tryz.f19) [1,1,1,1,1,1,1]) (retL cfg 50 19 Tryz.f19 H0) [(9,x9)] H
def Ze3 (x3 x4 x9:AV) (H0 H:Hp):Res:=CXgM 19 50 (sub (Za0 Tryz.f19) [1,1,1,1,1,1]) (retL cfg 50 19 Tryz.f19 H0) [(3,x3),(4,x4),(9,x9)] H
def Ze5 (H0:Hp):KL:=seqL (fun k al H=>CXgM 19 50 (sub (Za0 Tryz.f19) [1,1,1,1,1,1]) k (Za8 (cfg.keep 19) (sub (Za0 Tryz.f19) [1,1,1,1,1,1]) al) H) (retL cfg 50 19 Tryz.f19 H0)
theorem Zop (H0:Hp):Tame 50 (Ze5 H0):=Zak (C:=cfg) (kp:=cfg.keep 19) (sub (Za0 Tryz.f19) [1,1,1,1,1,1]) (Zao 19 Tryz.f19 H0)
def ZlU (x3 x4 x7 x8 x9:AV) (H0 H:Hp):Res:=CXgM 19 50 (sub (Za0 Tryz.f19) [1,1,1,1,1,0,1,0,0,1,1]) (seqL (fun k al H=>LPgM 19 50 (sub (Za0 Tryz.f19) [1,1,1,1,1,0,1,0,0]) k (Za8 (cfg.keep 19) (sub (Za0 Tryz.f19) [1,1,1,1,1,0,1,0,0]) al) H) (Za3 0 (Ze5 H0))) [(3,x3),(4,x4),(7,x7),(8,x8),(9,x9)] H
def ZlT (x3 x4 x7 x8 x9 x10:AV) (H0 H:Hp):Res:=CXgM 19 50 (sub (Za0 Tryz.f19) [1,1,1,1,1,0,1,0,0,1]) (seqL (fun k al H=>LPgM 19 50 (sub (Za0 Tryz.f19) [1,1,1,1,1,0,1,0,0]) k (Za8 (cfg.keep 19) (sub (Za0 Tryz.f19) [1,1,1,1,1,0,1,0,0]) al) H) (Za3 0 (Ze5 H0))) [(3,x3),(4,x4),(7,x7),(8,x8),(9,x9),(10,x10)] H
def Ze6 (x3 x4 x7 x8 x9 x10:AV) (H0 H:Hp):Res:=LPgM 19 50 (sub (Za0 Tryz.f19) [1,1,1,1,1,0,1,0,0]) (Za3 0 (Ze5 H0)) [(3,x3),(4,x4),(7,x7),(8,x8),(9,x9),(10,x10)] H
def ZlS (x2 x3 x4:AV) (H0 H:Hp):Res:=CXgM 19 50 (sub (Za0 Tryz.f19) [1,1]) (retL cfg 50 19 Tryz.f19 H0) [(2,x2),(3,x3),(4,x4)] H
def Zhf (p0 p1 p2:AV) (H:Hp):Res:=
 bnd (abox p0 H) fun r3=>
 bnd (abox p1 r3.2) fun r4=>
 bnd (Za2 true 5 r4.1 r4.2) fun t11=>
 bnd (Za5 ZbR [t11] r4.2) fun r12=>
 bnd (ibin .neq r12.1 (.int .i64 0)) fun t13=>
 cnd t13
  (bnd (ZbD [p2] r12.2) fun r15=>
  Zi3 H r15.1 r15.2)
  (ZlS p2 r3.1 r4.1 H r12.2)
theorem Zqw (x9:AV) (H0 H:Hp):Ze4 x9 H0 H =
    Zi3 H0 x9 H:=(Za4 [3,8,9,11,13] _ _ _ _).trans (by kernel_rfl)
theorem Zqv (x3 x4 x9:AV) (H0 H:Hp):Ze3 x3 x4 x9 H0 H =
    bnd (Zaa 3 x4) fun t44=>
    bnd (Za2 false 1 t44 H) fun t45=>
    cnd t45
     (bnd (some (.fn (.func 71) [] [x3,x4])) fun t47=>
     bnd (Za5 ZbQ [x9,t47] H) fun r48=>
     Ze4 r48.1 H0 r48.2)
     (Ze4 x9 H0 H):=(Za4 [3,8,9,11,13] _ _ _ _).trans (by kernel_rfl)
theorem Zqy (x3 x4 x7 x8 x9:AV) (H0 H:Hp):ZlU x3 x4 x7 x8 x9 H0 H =
    bnd (ZeE [x8,x7] H) fun r26=>
    Ze6 x3 x4 x7 x8 x9 r26.1 H0 r26.2:=(Za4 [3,8,9,11,13] _ _ _ _).trans (by kernel_rfl)
theorem Zqx (x3 x4 x7 x8 x9 x10:AV) (H0 H:Hp):ZlT x3 x4 x7 x8 x9 x10 H0 H =
    bnd (Zad 1 x8 x10) fun t30=>
    bnd (Za2 false 1 t30 H) fun t31=>
    bnd (Zad 1 t31 (.int .i64 0)) fun t32=>
    bnd (Za2 false 1 t32 H) fun t33=>
    bnd ((Zau 1 [(0,t33)] [(.str [])]).map (.vs 1 .clip)) fun t34=>
    bnd (ZaH 1 16 x9 t34 H) fun r35=>
    bnd (Zad 1 x8 x10) fun t40=>
    bnd (Za2 false 1 t40 r35.2) fun t41=>
    bnd (Zbc 1 t41 (some (.int .i64 1)) none none) fun t42=>
    bnd (Zad 1 x8 x10) fun t43=>
    bnd (Zag 1 t43 t42 r35.2) fun r_23=>
    ZlU x3 x4 x7 x8 r35.1 H0 r_23.2:=(Za4 [3,8,9,11,13] _ _ _ _).trans (by kernel_rfl)
theorem Zio (x3 x4 x7 x8 x9 x10:AV) (H0 H:Hp):Ze6 x3 x4 x7 x8 x9 x10 H0 H =
    bnd (ibin .geq x10 (.int .i64 0)) fun t23=>
    cnd t23
     (ZlT x3 x4 x7 x8 x9 x10 H0 H)
     (Ze3 x3 x4 x9 H0 H):=(Zap (C:=cfg) [3,8,9,11,13] (Zah 0 (Zop H0)) _ _).trans (by kernel_rfl)
theorem Zqu (x2 x3 x4:AV) (H0 H:Hp):ZlS x2 x3 x4 H0 H =
    frzK x3 H fun z3 z3H=>
    frzK x4 z3H fun z4 z4H=>
    bnd (some (.fn (.func 66) [] [z3,z4])) fun t16=>
    bnd (ZbO [x2] z4H) fun r18=>
    bnd (ZeE [r18.1,t16] r18.2) fun r21=>
    Ze6 z3 z4 t16 r18.1 .nils r21.1 H0 r21.2:=(Za4 [3,8,9,11,13] _ _ _ _).trans (by kernel_rfl)
theorem Zjl (p0 p1 p2:AV) (H:Hp):Zd8 [p0,p1,p2] H=Zhf p0 p1 p2 H:=(Zab (C:=cfg) (fn:=Tryz.f19) (c:=Za0 Tryz.f19) (n:=50) [3,8,9,11,13] Tryz.func19 (by kernel_rfl) (by kernel_rfl) [p0,p1,p2] (by kernel_rfl) H).trans (by kernel_rfl)

def ZrP (x2 x3 x4 x7 x9 x10:AV) (H0 H:Hp):Res:=CXgM 20 103 (sub (Za0 Tryz.f20) [1,1,1,1,0,0,0,1,1,1]) (Za3 3 (seqL (fun k al H=>LPgM 20 103 (sub (Za0 Tryz.f20) [1,1,1,1,0,0]) k (Za8 (cfg.keep 20) (sub (Za0 Tryz.f20) [1,1,1,1,0,0]) al) H) (Za3 2 (retL cfg 103 20 Tryz.f20 H0)))) [(2,x2),(3,x3),(4,x4),(7,x7),(9,x9),(10,x10)] H
def ZeW (x2 x3 x4 x7 x9 x10:AV) (H0 H:Hp):Res:=CXgM 20 103 (sub (Za0 Tryz.f20) [1,1,1,1,0,0,0,1,1]) (Za3 3 (seqL (fun k al H=>LPgM 20 103 (sub (Za0 Tryz.f20) [1,1,1,1,0,0]) k (Za8 (cfg.keep 20) (sub (Za0 Tryz.f20) [1,1,1,1,0,0]) al) H) (Za3 2 (retL cfg 103 20 Tryz.f20 H0)))) [(2,x2),(3,x3),(4,x4),(7,x7),(9,x9),(10,x10)] H
def ZhD (H0:Hp):KL:=seqL (fun k al H=>CXgM 20 103 (sub (Za0 Tryz.f20) [1,1,1,1,0,0,0,1,1]) k (Za8 (cfg.keep 20) (sub (Za0 Tryz.f20) [1,1,1,1,0,0,0,1,1]) al) H) (Za3 3 (seqL (fun k al H=>LPgM 20 103 (sub (Za0 Tryz.f20) [1,1,1,1,0,0]) k (Za8 (cfg.keep 20) (sub (Za0 Tryz.f20) [1,1,1,1,0,0]) al) H) (Za3 2 (retL cfg 103 20 Tryz.f20 H0))))
theorem Ztm (H0:Hp):Tame 103 (ZhD H0):=Zak (C:=cfg) (kp:=cfg.keep 20) (sub (Za0 Tryz.f20) [1,1,1,1,0,0,0,1,1]) (Zah 3 (Znb (C:=cfg) (kp:=cfg.keep 20) (sub (Za0 Tryz.f20) [1,1,1,1,0,0]) (Zah 2 (Zao 20 Tryz.f20 H0))))
def ZhC (x2 x3 x4 x7 x9 x10 x11:AV) (H0 H:Hp):Res:=CXgM 20 103 (sub (Za0 Tryz.f20) [1,1,1,1,0,0,0,1,0,1,0,0,1,1]) (seqL (fun k al H=>LPgM 20 103 (sub (Za0 Tryz.f20) [1,1,1,1,0,0,0,1,0,1,0,0]) k (Za8 (cfg.keep 20) (sub (Za0 Tryz.f20) [1,1,1,1,0,0,0,1,0,1,0,0]) al) H) (Za3 4 (ZhD H0))) [(2,x2),(3,x3),(4,x4),(7,x7),(9,x9),(10,x10),(11,x11)] H
def ZrQ (x2 x3 x4 x7 x9 x10 x11:AV) (H0 H:Hp):Res:=CXgM 20 103 (sub (Za0 Tryz.f20) [1,1,1,1,0,0,0,1,0,1,0,0,1]) (seqL (fun k al H=>LPgM 20 103 (sub (Za0 Tryz.f20) [1,1,1,1,0,0,0,1,0,1,0,0]) k (Za8 (cfg.keep 20) (sub (Za0 Tryz.f20) [1,1,1,1,0,0,0,1,0,1,0,0]) al) H) (Za3 4 (ZhD H0))) [(2,x2),(3,x3),(4,x4),(7,x7),(9,x9),(10,x10),(11,x11)] H
def ZhG (x2 x3 x4 x7 x9 x10 x11:AV) (H0 H:Hp):Res:=LPgM 20 103 (sub (Za0 Tryz.f20) [1,1,1,1,0,0,0,1,0,1,0,0]) (Za3 4 (ZhD H0)) [(2,x2),(3,x3),(4,x4),(7,x7),(9,x9),(10,x10),(11,x11)] H
def ZhF (x2 x3 x4 x7 x9:AV) (H0 H:Hp):Res:=LPgM 20 103 (sub (Za0 Tryz.f20) [1,1,1,1,0,0]) (Za3 2 (retL cfg 103 20 Tryz.f20 H0)) [(2,x2),(3,x3),(4,x4),(7,x7),(9,x9)] H
def ZrO (x2 x3 x4 x7:AV) (H0 H:Hp):Res:=CXgM 20 103 (sub (Za0 Tryz.f20) [1,1,1]) (retL cfg 103 20 Tryz.f20 H0) [(2,x2),(3,x3),(4,x4),(7,x7)] H
def Zlz (H0:Hp):KL:=seqL (fun k al H=>CXgM 20 103 (sub (Za0 Tryz.f20) [1,1,1]) k (Za8 (cfg.keep 20) (sub (Za0 Tryz.f20) [1,1,1]) al) H) (retL cfg 103 20 Tryz.f20 H0)
theorem Ztn (H0:Hp):Tame 103 (Zlz H0):=Zak (C:=cfg) (kp:=cfg.keep 20) (sub (Za0 Tryz.f20) [1,1,1]) (Zao 20 Tryz.f20 H0)
def ZrR (x7:AV) (H0 H:Hp):Res:=CXgM 20 103 (sub (Za0 Tryz.f20) [1,1,0,1,0,1]) (Zlz H0) [(7,x7)] H
def ZhE (H0:Hp):KL:=seqL (fun k al H=>CXgM 20 103 (sub (Za0 Tryz.f20) [1,1,0,1,0,1]) k (Za8 (cfg.keep 20) (sub (Za0 Tryz.f20) [1,1,0,1,0,1]) al) H) (Zlz H0)
theorem Zto (H0:Hp):Tame 103 (ZhE H0):=Zak (C:=cfg) (kp:=cfg.keep 20) (sub (Za0 Tryz.f20) [1,1,0,1,0,1]) (Ztn H0)
def ZrT (x2 x7 x8:AV) (H0 H:Hp):Res:=CXgM 20 103 (sub (Za0 Tryz.f20) [1,1,0,1,0,0,1,0,0,1,1]) (seqL (fun k al H=>LPgM 20 103 (sub (Za0 Tryz.f20) [1,1,0,1,0,0,1,0,0]) k (Za8 (cfg.keep 20) (sub (Za0 Tryz.f20) [1,1,0,1,0,0,1,0,0]) al) H) (Za3 0 (ZhE H0))) [(2,x2),(7,x7),(8,x8)] H
def ZrS (x2 x7 x8:AV) (H0 H:Hp):Res:=CXgM 20 103 (sub (Za0 Tryz.f20) [1,1,0,1,0,0,1,0,0,1]) (seqL (fun k al H=>LPgM 20 103 (sub (Za0 Tryz.f20) [1,1,0,1,0,0,1,0,0]) k (Za8 (cfg.keep 20) (sub (Za0 Tryz.f20) [1,1,0,1,0,0,1,0,0]) al) H) (Za3 0 (ZhE H0))) [(2,x2),(7,x7),(8,x8)] H
def ZhI (x2 x7 x8:AV) (H0 H:Hp):Res:=LPgM 20 103 (sub (Za0 Tryz.f20) [1,1,0,1,0,0,1,0,0]) (Za3 0 (ZhE H0)) [(2,x2),(7,x7),(8,x8)] H
def ZtN (p0 p1 p2:AV) (H:Hp):Res:=
 bnd (abox p0 H) fun r3=>
 bnd (abox p1 r3.2) fun r4=>
 bnd (Za2 true 5 r4.1 r4.2) fun t12=>
 bnd (Za5 Zg2 [t12] r4.2) fun r13=>
 bnd (ibin .neq r13.1 (.int .i64 0)) fun t14=>
 cnd t14
  (ZhI p2 .nils (.int .i64 0) H r13.2)
  (ZrO p2 r3.1 r4.1 .nils H r13.2)
theorem Zw5 (x2 x3 x4 x7 x9 x10:AV) (H0 H:Hp):ZrP x2 x3 x4 x7 x9 x10 H0 H =
    bnd (Zad 1 x2 x10) fun t87=>
    bnd (Za2 false 1 t87 H) fun t88=>
    bnd (Zad 1 x9 x10) fun t91=>
    bnd (Za2 false 1 t91 H) fun t92=>
    bnd (Zad 1 t88 t92) fun t93=>
    bnd (Za2 false 1 t93 H) fun t94=>
    bnd ((Zau 1 [(0,t94)] [(.str [])]).map (.vs 1 .clip)) fun t95=>
    bnd (ZaH 1 16 x7 t95 H) fun r96=>
    bnd (Zad 1 x9 x10) fun t99=>
    bnd (Za2 false 1 t99 r96.2) fun t100=>
    bnd (ibin .add t100 (.int .i64 1)) fun t101=>
    bnd (Zad 1 x9 x10) fun t102=>
    bnd (Zag 1 t102 t101 r96.2) fun r_17=>
    ZhF x2 x3 x4 r96.1 x9 H0 r_17.2:=(Za4 [5,6,7,8,12,13,15,17] _ _ _ _).trans (by kernel_rfl)
theorem ZhB (x2 x3 x4 x7 x9 x10:AV) (H0 H:Hp):ZeW x2 x3 x4 x7 x9 x10 H0 H =
    bnd (ibin .lss x10 (.int .i64 0)) fun t79=>
    cnd t79
     (bnd (Za2 true 6 x3 H) fun t80=>
     bnd (Za2 true 5 x4 H) fun t81=>
     bnd (Za5 ZoH [t80,t81,x7] H) fun r83=>
     Zi3 H0 r83.1 r83.2)
     (ZrP x2 x3 x4 x7 x9 x10 H0 H):=(Za4 [5,6,7,8,12,13,15,17] _ _ _ _).trans (by kernel_rfl)
theorem Zw7 (x2 x3 x4 x7 x9 x10 x11:AV) (H0 H:Hp):ZhC x2 x3 x4 x7 x9 x10 x11 H0 H =
    bnd (ibin .add x11 (.int .i64 1)) fun t36=>
    ZhG x2 x3 x4 x7 x9 x10 t36 H0 H:=(Za4 [5,6,7,8,12,13,15,17] _ _ _ _).trans (by kernel_rfl)
theorem Zw6 (x2 x3 x4 x7 x9 x10 x11:AV) (H0 H:Hp):ZrQ x2 x3 x4 x7 x9 x10 x11 H0 H =
    bnd (Zad 1 x9 x11) fun t39=>
    bnd (Za2 false 1 t39 H) fun t40=>
    bnd (Zad 1 x2 x11) fun t43=>
    bnd (Za2 false 1 t43 H) fun t44=>
    bnd (Zaf (.slice 9) t44) fun t45=>
    bnd (ibin .lss t40 t45) fun t46=>
    bnd (gdv t46 true (.tuple []) (some x10)) fun t48=>
    bnd (gdv t46 true (.tuple []) (ibin .lss t48 (.int .i64 0))) fun t49=>
    bnd (gdv t46 true (.tuple []) (some t49)) fun t50=>
    bnd (gdv t50 false (.tuple []) (Za2 true 6 x3 H)) fun t51=>
    bnd (gdv t50 false (.tuple []) (Za2 true 5 x4 H)) fun t52=>
    bnd (gdv t50 false (.tuple []) (some x2)) fun t53=>
    bnd (gdv t50 false (.tuple []) (some x10)) fun t54=>
    bnd (gdv t50 false (.tuple []) (Zad 1 t53 t54)) fun t55=>
    bnd (gdv t50 false (.tuple []) (Za2 false 1 t55 H)) fun t56=>
    bnd (gdv t50 false (.tuple []) (some x9)) fun t57=>
    bnd (gdv t50 false (.tuple []) (some x10)) fun t58=>
    bnd (gdv t50 false (.tuple []) (Zad 1 t57 t58)) fun t59=>
    bnd (gdv t50 false (.tuple []) (Za2 false 1 t59 H)) fun t60=>
    bnd (gdv t50 false (.tuple []) (Zad 1 t56 t60)) fun t61=>
    bnd (gdv t50 false (.tuple []) (Za2 false 1 t61 H)) fun t62=>
    bnd (gdv t50 false (.tuple []) (some x2)) fun t63=>
    bnd (gdv t50 false (.tuple []) (some x11)) fun t64=>
    bnd (gdv t50 false (.tuple []) (Zad 1 t63 t64)) fun t65=>
    bnd (gdv t50 false (.tuple []) (Za2 false 1 t65 H)) fun t66=>
    bnd (gdv t50 false (.tuple []) (some x9)) fun t67=>
    bnd (gdv t50 false (.tuple []) (some x11)) fun t68=>
    bnd (gdv t50 false (.tuple []) (Zad 1 t67 t68)) fun t69=>
    bnd (gdv t50 false (.tuple []) (Za2 false 1 t69 H)) fun t70=>
    bnd (gdv t50 false (.tuple []) (Zad 1 t66 t70)) fun t71=>
    bnd (gdv t50 false (.tuple []) (Za2 false 1 t71 H)) fun t72=>
    bnd (gdv t50 false ((.tuple []),H) (Za5 ZiU [t51,t52,t62,t72] H)) fun r73=>
    bnd (gdv t50 false (.tuple []) (ibin .gtr r73.1 (.int .i64 0))) fun t74=>
    bnd (gdv t46 true (.tuple []) (Zae t50 (.bool true) t74)) fun t75=>
    bnd (Zae t46 t75 (.bool false)) fun t76=>
    cnd t76
     (ZhC x2 x3 x4 x7 x9 x11 x11 H0 r73.2)
     (ZhC x2 x3 x4 x7 x9 x10 x11 H0 r73.2):=(Za4 [5,6,7,8,12,13,15,17] _ _ _ _).trans (by kernel_rfl)
theorem ZhH (x2 x3 x4 x7 x9 x10 x11:AV) (H0 H:Hp):ZhG x2 x3 x4 x7 x9 x10 x11 H0 H =
    bnd (Zaf (.slice 32) x2) fun t33=>
    bnd (ibin .lss x11 t33) fun t34=>
    cnd t34
     (ZrQ x2 x3 x4 x7 x9 x10 x11 H0 H)
     (ZeW x2 x3 x4 x7 x9 x10 H0 H):=(Zap (C:=cfg) [5,6,7,8,12,13,15,17] (Zah 4 (Ztm H0)) _ _).trans (by kernel_rfl)
theorem ZeH (x2 x3 x4 x7 x9:AV) (H0 H:Hp):ZhF x2 x3 x4 x7 x9 H0 H =
    ZhG x2 x3 x4 x7 x9 (.int .i64 (-1)) (.int .i64 0) H0 H:=(Zap (C:=cfg) [5,6,7,8,12,13,15,17] (Zah 2 (Zao 20 Tryz.f20 H0)) _ _).trans (by kernel_rfl)
theorem Zw4 (x2 x3 x4 x7:AV) (H0 H:Hp):ZrO x2 x3 x4 x7 H0 H =
    bnd (Zaf (.slice 32) x2) fun t29=>
    bnd (Zda 1 8 false (.int .i64 0) t29 t29 H) fun r30=>
    ZhF x2 x3 x4 x7 r30.1 H0 r30.2:=(Za4 [5,6,7,8,12,13,15,17] _ _ _ _).trans (by kernel_rfl)
theorem Zw8 (x7:AV) (H0 H:Hp):ZrR x7 H0 H =
    Zi3 H0 x7 H:=(Za4 [5,6,7,8,12,13,15,17] _ _ _ _).trans (by kernel_rfl)
theorem Zwa (x2 x7 x8:AV) (H0 H:Hp):ZrT x2 x7 x8 H0 H =
    bnd (ibin .add x8 (.int .i64 1)) fun t20=>
    ZhI x2 x7 t20 H0 H:=(Za4 [5,6,7,8,12,13,15,17] _ _ _ _).trans (by kernel_rfl)
theorem Zw9 (x2 x7 x8:AV) (H0 H:Hp):ZrS x2 x7 x8 H0 H =
    bnd (Zad 1 x2 x8) fun t24=>
    bnd (Za2 false 1 t24 H) fun t25=>
    bnd (ZaH 1 16 x7 t25 H) fun r26=>
    ZrT x2 r26.1 x8 H0 r26.2:=(Za4 [5,6,7,8,12,13,15,17] _ _ _ _).trans (by kernel_rfl)
theorem ZmH (x2 x7 x8:AV) (H0 H:Hp):ZhI x2 x7 x8 H0 H =
    bnd (Zaf (.slice 32) x2) fun t17=>
    bnd (ibin .lss x8 t17) fun t18=>
    cnd t18
     (ZrS x2 x7 x8 H0 H)
     (ZrR x7 H0 H):=(Zap (C:=cfg) [5,6,7,8,12,13,15,17] (Zah 0 (Zto H0)) _ _).trans (by kernel_rfl)
theorem ZxF (p0 p1 p2:AV) (H:Hp):ZiZ [p0,p1,p2] H=ZtN p0 p1 p2 H:=(Zab (C:=cfg) (fn:=Tryz.f20) (c:=Za0 Tryz.f20) (n:=103) [5,6,7,8,12,13,15,17] Tryz.func20 (by kernel_rfl) (by kernel_rfl) [p0,p1,p2] (by kernel_rfl) H).trans (by kernel_rfl)

def Zi5 (x7:AV) (H0 H:Hp):Res:=CXgM 34 22 (sub (Za0 Tryz.f34) [1,1,1,1]) (retL cfg 22 34 Tryz.f34 H0) [(7,x7)] H
def Zn4 (x2 x3 x4:AV) (H0 H:Hp):Res:=CXgM 34 22 (sub (Za0 Tryz.f34) [1,1]) (retL cfg 22 34 Tryz.f34 H0) [(2,x2),(3,x3),(4,x4)] H
def ZnQ (p0 p1 p2:AV) (H:Hp):Res:=
 bnd (abox p0 H) fun r3=>
 bnd (abox p1 r3.2) fun r4=>
 bnd (Za2 true 5 r4.1 r4.2) fun t8=>
 bnd (Za5 ZbR [t8] r4.2) fun r9=>
 bnd (ibin .neq r9.1 (.int .i64 0)) fun t10=>
 cnd t10
  (bnd (Za5 ZaJ [p2] r9.2) fun r12=>
  some (r12.1,r12.2))
  (Zn4 p2 r3.1 r4.1 H r9.2)
theorem Zjx (x7:AV) (H0 H:Hp):Zi5 x7 H0 H =
    some (x7,H):=(Za4 [3,6] _ _ _ _).trans (by kernel_rfl)
theorem Zsr (x2 x3 x4:AV) (H0 H:Hp):Zn4 x2 x3 x4 H0 H =
    frzK x3 H fun z3 z3H=>
    frzK x4 z3H fun z4 z4H=>
    bnd (some (.fn (.func 84) [] [z3,z4])) fun t14=>
    bnd (Za5 ZaP [x2,t14] z4H) fun r15=>
    bnd (Zaa 3 z4) fun t16=>
    bnd (Za2 false 1 t16 r15.2) fun t17=>
    cnd t17
     (bnd (some (.fn (.func 85) [] [z3,z4])) fun t19=>
     bnd (Za5 ZbQ [r15.1,t19] r15.2) fun r20=>
     Zi5 r20.1 H0 r20.2)
     (Zi5 r15.1 H0 r15.2):=(Za4 [3,6] _ _ _ _).trans (by kernel_rfl)
theorem Zt0 (p0 p1 p2:AV) (H:Hp):ZdG [p0,p1,p2] H=ZnQ p0 p1 p2 H:=(Zab (C:=cfg) (fn:=Tryz.f34) (c:=Za0 Tryz.f34) (n:=22) [3,6] Tryz.func34 (by kernel_rfl) (by kernel_rfl) [p0,p1,p2] (by kernel_rfl) H).trans (by kernel_rfl)

def ZtA (p0:AV) (H:Hp):Res:=
 bnd (abox p0 H) fun r1=>
 bnd (Zaa 1 r1.1) fun t3=>
 bnd (Za2 false 1 t3 r1.2) fun t4=>
 bnd (Zaf (.slice 3) t4) fun t5=>
 bnd (ibin .leq t5 (.int .i64 300)) fun t6=>
 bnd (gdv t6 true (.tuple []) (Zaa 2 r1.1)) fun t8=>
 bnd (gdv t6 true (.tuple []) (Za2 false 1 t8 r1.2)) fun t9=>
 bnd (gdv t6 true (.tuple []) (Zaf .string t9)) fun t10=>
 bnd (gdv t6 true (.tuple []) (ibin .leq t10 (.int .i64 300))) fun t11=>
 bnd (Zae t6 t11 (.bool false)) fun t12=>
 bnd (gdv t12 true (.tuple []) (Zaa 3 r1.1)) fun t14=>
 bnd (gdv t12 true (.tuple []) (Za2 false 1 t14 r1.2)) fun t15=>
 bnd (gdv t12 true (.tuple []) (Zaf .string t15)) fun t16=>
 bnd (gdv t12 true (.tuple []) (ibin .leq t16 (.int .i64 300))) fun t17=>
 bnd (Zae t12 t17 (.bool false)) fun t18=>
 bnd (gdv t18 true (.tuple []) (Zaa 4 r1.1)) fun t20=>
 bnd (gdv t18 true (.tuple []) (Za2 false 1 t20 r1.2)) fun t21=>
 bnd (gdv t18 true (.tuple []) (Zaf (.slice 264) t21)) fun t22=>
 bnd (gdv t18 true (.tuple []) (ibin .leq t22 (.int .i64 30))) fun t23=>
 bnd (Zae t18 t23 (.bool false)) fun t24=>
 bnd (gdv t24 true (.tuple []) (Zaa 5 r1.1)) fun t26=>
 bnd (gdv t24 true (.tuple []) (Za2 false 1 t26 r1.2)) fun t27=>
 bnd (gdv t24 true (.tuple []) (Zaf (.slice 210) t27)) fun t28=>
 bnd (gdv t24 true (.tuple []) (ibin .leq t28 (.int .i64 70))) fun t29=>
 bnd (Zae t24 t29 (.bool false)) fun t30=>
 some (t30,r1.2)
theorem Zxr (p0:AV) (H:Hp):ZiS [p0] H=ZtA p0 H:=(Zab (C:=cfg) (fn:=Tryz.f62) (c:=Za0 Tryz.f62) (n:=31) [] Tryz.func62 (by kernel_rfl) (by kernel_rfl) [p0] (by kernel_rfl) H).trans (by kernel_rfl)

def Ziq (H0 H:Hp):Res:=CXgM 63 41 (sub (Za0 Tryz.f63) [1,1,1]) (retL cfg 41 63 Tryz.f63 H0) [] H
def ZcZ (H0:Hp):KL:=seqL (fun k al H=>CXgM 63 41 (sub (Za0 Tryz.f63) [1,1,1]) k (Za8 (cfg.keep 63) (sub (Za0 Tryz.f63) [1,1,1]) al) H) (retL cfg 41 63 Tryz.f63 H0)
theorem ZlV (H0:Hp):Tame 41 (ZcZ H0):=Zak (C:=cfg) (kp:=cfg.keep 63) (sub (Za0 Tryz.f63) [1,1,1]) (Zao 63 Tryz.f63 H0)
def Zis (x2 x3 x4 x7:AV) (H0 H:Hp):Res:=CXgM 63 41 (sub (Za0 Tryz.f63) [1,1,0,1,0,0,1,1]) (seqL (fun k al H=>LPgM 63 41 (sub (Za0 Tryz.f63) [1,1,0,1,0,0]) k (Za8 (cfg.keep 63) (sub (Za0 Tryz.f63) [1,1,0,1,0,0]) al) H) (Za3 0 (ZcZ H0))) [(2,x2),(3,x3),(4,x4),(7,x7)] H
def Zir (x2 x3 x4 x7:AV) (H0 H:Hp):Res:=CXgM 63 41 (sub (Za0 Tryz.f63) [1,1,0,1,0,0,1]) (seqL (fun k al H=>LPgM 63 41 (sub (Za0 Tryz.f63) [1,1,0,1,0,0]) k (Za8 (cfg.keep 63) (sub (Za0 Tryz.f63) [1,1,0,1,0,0]) al) H) (Za3 0 (ZcZ H0))) [(2,x2),(3,x3),(4,x4),(7,x7)] H
def Zd0 (x2 x3 x4 x7:AV) (H0 H:Hp):Res:=LPgM 63 41 (sub (Za0 Tryz.f63) [1,1,0,1,0,0]) (Za3 0 (ZcZ H0)) [(2,x2),(3,x3),(4,x4),(7,x7)] H
def Zip (x2 x3 x4:AV) (H0 H:Hp):Res:=CXgM 63 41 (sub (Za0 Tryz.f63) [1,1]) (retL cfg 41 63 Tryz.f63 H0) [(2,x2),(3,x3),(4,x4)] H
def Zjm (p0 p1 p2:AV) (H:Hp):Res:=
 bnd (abox p0 H) fun r3=>
 bnd (abox p1 r3.2) fun r4=>
 bnd (Za2 true 5 r4.1 r4.2) fun t9=>
 bnd (Za5 ZbR [t9] r4.2) fun r10=>
 bnd (ibin .neq r10.1 (.int .i64 0)) fun t11=>
 cnd t11
  (some ((.int .i64 (-1)),r10.2))
  (Zip p2 r3.1 r4.1 H r10.2)
theorem Zgj (H0 H:Hp):Ziq H0 H =
    some ((.int .i64 (-1)),H):=(Za4 [3,5,6,9] _ _ _ _).trans (by kernel_rfl)
theorem Zgk (x2 x3 x4 x7:AV) (H0 H:Hp):Zis x2 x3 x4 x7 H0 H =
    bnd (ibin .add x7 (.int .i64 1)) fun t17=>
    Zd0 x2 x3 x4 t17 H0 H:=(Za4 [3,5,6,9] _ _ _ _).trans (by kernel_rfl)
theorem ZnF (x2 x3 x4 x7:AV) (H0 H:Hp):Zir x2 x3 x4 x7 H0 H =
    bnd (Za2 true 6 x3 H) fun t18=>
    bnd (Za2 true 5 x4 H) fun t19=>
    bnd (ibin .sub x7 (.int .i64 1)) fun t22=>
    bnd (Zad 1 x2 t22) fun t23=>
    bnd (Za2 false 1 t23 H) fun t24=>
    bnd (Zad 1 x2 x7) fun t27=>
    bnd (Za2 false 1 t27 H) fun t28=>
    bnd (Za5 Zci [t18,t19,t24,t28] H) fun r29=>
    bnd (ibin .gtr r29.1 (.int .i64 0)) fun t31=>
    bnd (gdv t31 false (.tuple []) (Zaa 3 x4)) fun t33=>
    bnd (gdv t31 false (.tuple []) (Za2 false 1 t33 r29.2)) fun t34=>
    bnd (gdv t31 false (.tuple []) (some t34)) fun t35=>
    bnd (gdv t35 true (.tuple []) (some r29.1)) fun t36=>
    bnd (gdv t35 true (.tuple []) (ibin .eql t36 (.int .i64 0))) fun t37=>
    bnd (gdv t31 false (.tuple []) (Zae t35 t37 (.bool false))) fun t38=>
    bnd (Zae t31 (.bool true) t38) fun t39=>
    cnd t39
     (some (x7,r29.2))
     (Zis x2 x3 x4 x7 H0 r29.2):=(Za4 [3,5,6,9] _ _ _ _).trans (by kernel_rfl)
theorem Zdu (x2 x3 x4 x7:AV) (H0 H:Hp):Zd0 x2 x3 x4 x7 H0 H =
    bnd (Zaf (.slice 9) x2) fun t14=>
    bnd (ibin .lss x7 t14) fun t15=>
    cnd t15
     (Zir x2 x3 x4 x7 H0 H)
     (Ziq H0 H):=(Zap (C:=cfg) [3,5,6,9] (Zah 0 (ZlV H0)) _ _).trans (by kernel_rfl)
theorem Zgi (x2 x3 x4:AV) (H0 H:Hp):Zip x2 x3 x4 H0 H =
    Zd0 x2 x3 x4 (.int .i64 1) H0 H:=(Za4 [3,5,6,9] _ _ _ _).trans (by kernel_rfl)
theorem ZnR (p0 p1 p2:AV) (H:Hp):ZeS [p0,p1,p2] H=Zjm p0 p1 p2 H:=(Zab (C:=cfg) (fn:=Tryz.f63) (c:=Za0 Tryz.f63) (n:=41) [3,5,6,9] Tryz.func63 (by kernel_rfl) (by kernel_rfl) [p0,p1,p2] (by kernel_rfl) H).trans (by kernel_rfl)

def ZcC (x6:AV) (H0 H:Hp):Res:=CXgM 65 36 (sub (Za0 Tryz.f65) [1,1,1,1,1]) (retL cfg 36 65 Tryz.f65 H0) [(6,x6)] H
def ZaW (H0:Hp):KL:=seqL (fun k al H=>CXgM 65 36 (sub (Za0 Tryz.f65) [1,1,1,1,1]) k (Za8 (cfg.keep 65) (sub (Za0 Tryz.f65) [1,1,1,1,1]) al) H) (retL cfg 36 65 Tryz.f65 H0)
theorem ZeC (H0:Hp):Tame 36 (ZaW H0):=Zak (C:=cfg) (kp:=cfg.keep 65) (sub (Za0 Tryz.f65) [1,1,1,1,1]) (Zao 65 Tryz.f65 H0)
def ZcE (x6 x25 x26 x27:AV) (H0 H:Hp):Res:=CXgM 65 36 (sub (Za0 Tryz.f65) [1,1,1,1,0,1,0,0,1,1,1]) (seqL (fun k al H=>LPgM 65 36 (sub (Za0 Tryz.f65) [1,1,1,1,0,1,0,0]) k (Za8 (cfg.keep 65) (sub (Za0 Tryz.f65) [1,1,1,1,0,1,0,0]) al) H) (Za3 2 (ZaW H0))) [(6,x6),(25,x25),(26,x26),(27,x27)] H
def ZcD (x6 x25 x26 x27 x28:AV) (H0 H:Hp):Res:=CXgM 65 36 (sub (Za0 Tryz.f65) [1,1,1,1,0,1,0,0,1,1]) (seqL (fun k al H=>LPgM 65 36 (sub (Za0 Tryz.f65) [1,1,1,1,0,1,0,0]) k (Za8 (cfg.keep 65) (sub (Za0 Tryz.f65) [1,1,1,1,0,1,0,0]) al) H) (Za3 2 (ZaW H0))) [(6,x6),(25,x25),(26,x26),(27,x27),(28,x28)] H
def ZaY (x6 x25 x26 x27:AV) (H0 H:Hp):Res:=LPgM 65 36 (sub (Za0 Tryz.f65) [1,1,1,1,0,1,0,0]) (Za3 2 (ZaW H0)) [(6,x6),(25,x25),(26,x26),(27,x27)] H
def Zbx (x0 x3:AV) (H0 H:Hp):Res:=CXgM 65 36 (sub (Za0 Tryz.f65) [1,1,1]) (retL cfg 36 65 Tryz.f65 H0) [(0,x0),(3,x3)] H
def ZaX (H0:Hp):KL:=seqL (fun k al H=>CXgM 65 36 (sub (Za0 Tryz.f65) [1,1,1]) k (Za8 (cfg.keep 65) (sub (Za0 Tryz.f65) [1,1,1]) al) H) (retL cfg 36 65 Tryz.f65 H0)
theorem ZeD (H0:Hp):Tame 36 (ZaX H0):=Zak (C:=cfg) (kp:=cfg.keep 65) (sub (Za0 Tryz.f65) [1,1,1]) (Zao 65 Tryz.f65 H0)
def Zby (x0 x3 x9 x10 x11:AV) (H0 H:Hp):Res:=CXgM 65 36 (sub (Za0 Tryz.f65) [1,1,0,1,0,0,1,1,1]) (seqL (fun k al H=>LPgM 65 36 (sub (Za0 Tryz.f65) [1,1,0,1,0,0]) k (Za8 (cfg.keep 65) (sub (Za0 Tryz.f65) [1,1,0,1,0,0]) al) H) (Za3 0 (ZaX H0))) [(0,x0),(3,x3),(9,x9),(10,x10),(11,x11)] H
def ZcF (x0 x3 x9 x10 x11 x12:AV) (H0 H:Hp):Res:=CXgM 65 36 (sub (Za0 Tryz.f65) [1,1,0,1,0,0,1,1]) (seqL (fun k al H=>LPgM 65 36 (sub (Za0 Tryz.f65) [1,1,0,1,0,0]) k (Za8 (cfg.keep 65) (sub (Za0 Tryz.f65) [1,1,0,1,0,0]) al) H) (Za3 0 (ZaX H0))) [(0,x0),(3,x3),(9,x9),(10,x10),(11,x11),(12,x12)] H
def ZaZ (x0 x3 x9 x10 x11:AV) (H0 H:Hp):Res:=LPgM 65 36 (sub (Za0 Tryz.f65) [1,1,0,1,0,0]) (Za3 0 (ZaX H0)) [(0,x0),(3,x3),(9,x9),(10,x10),(11,x11)] H
def ZcO (p0:AV) (H:Hp):Res:=
 bnd (Zaf (.slice 32) p0) fun t10=>
 ZaZ p0 (.int .i64 0) p0 t10 (.int .i64 0) H H
theorem Zf8 (x6:AV) (H0 H:Hp):ZcC x6 H0 H =
    some (x6,H):=(Za4 [4,8,9,12,14,15] _ _ _ _).trans (by kernel_rfl)
theorem Zfa (x6 x25 x26 x27:AV) (H0 H:Hp):ZcE x6 x25 x26 x27 H0 H =
    bnd (ibin .add x27 (.int .i64 1)) fun t34=>
    ZaY x6 x25 x26 t34 H0 H:=(Za4 [4,8,9,12,14,15] _ _ _ _).trans (by kernel_rfl)
theorem Zf9 (x6 x25 x26 x27 x28:AV) (H0 H:Hp):ZcD x6 x25 x26 x27 x28 H0 H =
    bnd (Zad 1 x25 x27) fun t29=>
    bnd (Za2 false 1 t29 H) fun t30=>
    bnd (ZaH 1 16 x6 t30 H) fun r33=>
    ZcE r33.1 x25 x26 x27 H0 r33.2:=(Za4 [4,8,9,12,14,15] _ _ _ _).trans (by kernel_rfl)
theorem Zce (x6 x25 x26 x27:AV) (H0 H:Hp):ZaY x6 x25 x26 x27 H0 H =
    bnd (ibin .lss x27 x26) fun t28=>
    cnd t28
     (ZcD x6 x25 x26 x27 t28 H0 H)
     (ZcC x6 H0 H):=(Zap (C:=cfg) [4,8,9,12,14,15] (Zah 2 (ZeC H0)) _ _).trans (by kernel_rfl)
theorem Zf7 (x0 x3:AV) (H0 H:Hp):Zbx x0 x3 H0 H =
    bnd (growE.run [.nils,x3] H) fun r24=>
    bnd (Zaf (.slice 32) x0) fun t26=>
    ZaY r24.1 x0 t26 (.int .i64 0) H0 r24.2:=(Za4 [4,8,9,12,14,15] _ _ _ _).trans (by kernel_rfl)
theorem Zfc (x0 x3 x9 x10 x11:AV) (H0 H:Hp):Zby x0 x3 x9 x10 x11 H0 H =
    bnd (ibin .add x11 (.int .i64 1)) fun t22=>
    ZaZ x0 x3 x9 x10 t22 H0 H:=(Za4 [4,8,9,12,14,15] _ _ _ _).trans (by kernel_rfl)
theorem Zfb (x0 x3 x9 x10 x11 x12:AV) (H0 H:Hp):ZcF x0 x3 x9 x10 x11 x12 H0 H =
    bnd (Zad 1 x9 x11) fun t13=>
    bnd (Za2 false 1 t13 H) fun t14=>
    bnd (Zaf (.slice 9) t14) fun t17=>
    bnd (ibin .add x3 t17) fun t18=>
    bnd (ibin .lss t18 (.int .i64 0)) fun t20=>
    cnd t20
     (bnd ((none:Option AV)) fun t21=>
     bnd ((none:Option AV)) fun tNone_17=>
     Zby x0 t18 x9 x10 x11 H0 H)
     (Zby x0 t18 x9 x10 x11 H0 H):=(Za4 [4,8,9,12,14,15] _ _ _ _).trans (by kernel_rfl)
theorem Zcf (x0 x3 x9 x10 x11:AV) (H0 H:Hp):ZaZ x0 x3 x9 x10 x11 H0 H =
    bnd (ibin .lss x11 x10) fun t12=>
    cnd t12
     (ZcF x0 x3 x9 x10 x11 t12 H0 H)
     (Zbx x0 x3 H0 H):=(Zap (C:=cfg) [4,8,9,12,14,15] (Zah 0 (ZeD H0)) _ _).trans (by kernel_rfl)
theorem Zfh (p0:AV) (H:Hp):ZbD [p0] H=ZcO p0 H:=(Zab (C:=cfg) (fn:=Tryz.f65) (c:=Za0 Tryz.f65) (n:=36) [4,8,9,12,14,15] Tryz.func65 (by kernel_rfl) (by kernel_rfl) [p0] (by kernel_rfl) H).trans (by kernel_rfl)

def Zka (p0 p1 p2 p3:AV) (H:Hp):Res:=
 bnd (Za2 true 6 p2 H) fun t7=>
 bnd (Za2 true 5 p3 H) fun t8=>
 bnd (Za5 Zci [t7,t8,p0,p1] H) fun r11=>
 bnd (ibin .gtr r11.1 (.int .i64 0)) fun t12=>
 some (t12,r11.2)
theorem ZoI (p0 p1 p2 p3:AV) (H:Hp):Zk7 [p0,p1,p2,p3] H=Zka p0 p1 p2 p3 H:=(Zab (C:=cfg) (fn:=Tryz.f66) (c:=Za0 Tryz.f66) (n:=13) [] Tryz.func66 (by kernel_rfl) (by kernel_rfl) [p0,p1,p2,p3] (by kernel_rfl) H).trans (by kernel_rfl)

def ZcR (x0:AV) (H0 H:Hp):Res:=CXgM 68 8 (sub (Za0 Tryz.f68) [1,1]) (retL cfg 8 68 Tryz.f68 H0) [(0,x0)] H
def Zd1 (p0:AV) (H:Hp):Res:=
 bnd (ebin (.slice 32) .eql p0 .nils) fun t4=>
 cnd t4
  (some (.nils,H))
  (ZcR p0 H H)
theorem ZfB (x0:AV) (H0 H:Hp):ZcR x0 H0 H =
    bnd ((Zau 1 [] []).map (.vs 1 .clip)) fun t5=>
    bnd (ZhJ false 1 24 t5 x0 H) fun r7=>
    some (r7.1,r7.2):=(Za4 [3] _ _ _ _).trans (by kernel_rfl)
theorem ZfR (p0:AV) (H:Hp):ZbO [p0] H=Zd1 p0 H:=(Zab (C:=cfg) (fn:=Tryz.f68) (c:=Za0 Tryz.f68) (n:=8) [3] Tryz.func68 (by kernel_rfl) (by kernel_rfl) [p0] (by kernel_rfl) H).trans (by kernel_rfl)

def ZlW (x5:AV) (H0 H:Hp):Res:=CXgM 69 38 (sub (Za0 Tryz.f69) [1,1,1]) (retL cfg 38 69 Tryz.f69 H0) [(5,x5)] H
def Ze8 (H0:Hp):KL:=seqL (fun k al H=>CXgM 69 38 (sub (Za0 Tryz.f69) [1,1,1]) k (Za8 (cfg.keep 69) (sub (Za0 Tryz.f69) [1,1,1]) al) H) (retL cfg 38 69 Tryz.f69 H0)
theorem Zoq (H0:Hp):Tame 38 (Ze8 H0):=Zak (C:=cfg) (kp:=cfg.keep 69) (sub (Za0 Tryz.f69) [1,1,1]) (Zao 69 Tryz.f69 H0)
def Ze7 (x0 x1 x5 x8 x9 x10:AV) (H0 H:Hp):Res:=CXgM 69 38 (sub (Za0 Tryz.f69) [1,1,0,1,0,0,1,1,1]) (seqL (fun k al H=>LPgM 69 38 (sub (Za0 Tryz.f69) [1,1,0,1,0,0]) k (Za8 (cfg.keep 69) (sub (Za0 Tryz.f69) [1,1,0,1,0,0]) al) H) (Za3 0 (Ze8 H0))) [(0,x0),(1,x1),(5,x5),(8,x8),(9,x9),(10,x10)] H
def ZlX (x0 x1 x5 x8 x9 x10 x11:AV) (H0 H:Hp):Res:=CXgM 69 38 (sub (Za0 Tryz.f69) [1,1,0,1,0,0,1,1]) (seqL (fun k al H=>LPgM 69 38 (sub (Za0 Tryz.f69) [1,1,0,1,0,0]) k (Za8 (cfg.keep 69) (sub (Za0 Tryz.f69) [1,1,0,1,0,0]) al) H) (Za3 0 (Ze8 H0))) [(0,x0),(1,x1),(5,x5),(8,x8),(9,x9),(10,x10),(11,x11)] H
def Ze9 (x0 x1 x5 x8 x9 x10:AV) (H0 H:Hp):Res:=LPgM 69 38 (sub (Za0 Tryz.f69) [1,1,0,1,0,0]) (Za3 0 (Ze8 H0)) [(0,x0),(1,x1),(5,x5),(8,x8),(9,x9),(10,x10)] H
def Zmu (p0 p1:AV) (H:Hp):Res:=
 bnd (Zaf (.slice 32) p0) fun t9=>
 Ze9 p0 p1 (.int .i64 (-1)) p0 t9 (.int .i64 0) H H
theorem Zqz (x5:AV) (H0 H:Hp):ZlW x5 H0 H =
    some (x5,H):=(Za4 [4,7,8] _ _ _ _).trans (by kernel_rfl)
theorem ZqB (x0 x1 x5 x8 x9 x10:AV) (H0 H:Hp):Ze7 x0 x1 x5 x8 x9 x10 H0 H =
    bnd (ibin .add x10 (.int .i64 1)) fun t36=>
    Ze9 x0 x1 x5 x8 x9 t36 H0 H:=(Za4 [4,7,8] _ _ _ _).trans (by kernel_rfl)
theorem ZqA (x0 x1 x5 x8 x9 x10 x11:AV) (H0 H:Hp):ZlX x0 x1 x5 x8 x9 x10 x11 H0 H =
    bnd (Zad 1 x8 x10) fun t13=>
    bnd (Za2 false 1 t13 H) fun t14=>
    bnd (Zaf (.slice 9) t14) fun t16=>
    bnd (ibin .gtr t16 (.int .i64 0)) fun t17=>
    bnd (gdv t17 true (.tuple []) (some x5)) fun t19=>
    bnd (gdv t17 true (.tuple []) (ibin .lss t19 (.int .i64 0))) fun t20=>
    bnd (gdv t17 true (.tuple []) (some t20)) fun t21=>
    bnd (gdv t21 false (.tuple []) (some x1)) fun t22=>
    bnd (gdv t21 false (.tuple []) (some x0)) fun t23=>
    bnd (gdv t21 false (.tuple []) (some x5)) fun t24=>
    bnd (gdv t21 false (.tuple []) (Zad 1 t23 t24)) fun t25=>
    bnd (gdv t21 false (.tuple []) (Za2 false 1 t25 H)) fun t26=>
    bnd (gdv t21 false (.tuple []) (Zad 1 t26 (.int .i64 0))) fun t27=>
    bnd (gdv t21 false (.tuple []) (Za2 false 1 t27 H)) fun t28=>
    bnd (gdv t21 false (.tuple []) (some t14)) fun t29=>
    bnd (gdv t21 false (.tuple []) (Zad 1 t29 (.int .i64 0))) fun t30=>
    bnd (gdv t21 false (.tuple []) (Za2 false 1 t30 H)) fun t31=>
    bnd (gdv t21 false ((.tuple []),H) (ZaN cfg (Za7 cfg) t22 [t28,t31] H)) fun r32=>
    bnd (gdv t17 true (.tuple []) (Zae t21 (.bool true) r32.1)) fun t33=>
    bnd (Zae t17 t33 (.bool false)) fun t34=>
    cnd t34
     (Ze7 x0 x1 x10 x8 x9 x10 H0 r32.2)
     (Ze7 x0 x1 x5 x8 x9 x10 H0 r32.2):=(Za4 [4,7,8] _ _ _ _).trans (by kernel_rfl)
theorem Zit (x0 x1 x5 x8 x9 x10:AV) (H0 H:Hp):Ze9 x0 x1 x5 x8 x9 x10 H0 H =
    bnd (ibin .lss x10 x9) fun t11=>
    cnd t11
     (ZlX x0 x1 x5 x8 x9 x10 t11 H0 H)
     (ZlW x5 H0 H):=(Zap (C:=cfg) [4,7,8] (Zah 0 (Zoq H0)) _ _).trans (by kernel_rfl)
theorem Zr4 (p0 p1:AV) (H:Hp):ZeE [p0,p1] H=Zmu p0 p1 H:=(Zab (C:=cfg) (fn:=Tryz.f69) (c:=Za0 Tryz.f69) (n:=38) [4,7,8] Tryz.func69 (by kernel_rfl) (by kernel_rfl) [p0,p1] (by kernel_rfl) H).trans (by kernel_rfl)

def ZeM (x5:AV) (H0 H:Hp):Res:=CXgM 70 35 (sub (Za0 Tryz.f70) [1,1,1]) (retL cfg 35 70 Tryz.f70 H0) [(5,x5)] H
def ZbL (H0:Hp):KL:=seqL (fun k al H=>CXgM 70 35 (sub (Za0 Tryz.f70) [1,1,1]) k (Za8 (cfg.keep 70) (sub (Za0 Tryz.f70) [1,1,1]) al) H) (retL cfg 35 70 Tryz.f70 H0)
theorem Zi6 (H0:Hp):Tame 35 (ZbL H0):=Zak (C:=cfg) (kp:=cfg.keep 70) (sub (Za0 Tryz.f70) [1,1,1]) (Zao 70 Tryz.f70 H0)
def ZbK (x1 x5 x8 x9 x10:AV) (H0 H:Hp):Res:=CXgM 70 35 (sub (Za0 Tryz.f70) [1,1,0,1,0,0,1,1,1]) (seqL (fun k al H=>LPgM 70 35 (sub (Za0 Tryz.f70) [1,1,0,1,0,0]) k (Za8 (cfg.keep 70) (sub (Za0 Tryz.f70) [1,1,0,1,0,0]) al) H) (Za3 0 (ZbL H0))) [(1,x1),(5,x5),(8,x8),(9,x9),(10,x10)] H
def Zcx (x1 x5 x8 x9 x10 x11:AV) (H0 H:Hp):Res:=CXgM 70 35 (sub (Za0 Tryz.f70) [1,1,0,1,0,0,1,1]) (seqL (fun k al H=>LPgM 70 35 (sub (Za0 Tryz.f70) [1,1,0,1,0,0]) k (Za8 (cfg.keep 70) (sub (Za0 Tryz.f70) [1,1,0,1,0,0]) al) H) (Za3 0 (ZbL H0))) [(1,x1),(5,x5),(8,x8),(9,x9),(10,x10),(11,x11)] H
def ZbM (x1 x5 x8 x9 x10:AV) (H0 H:Hp):Res:=LPgM 70 35 (sub (Za0 Tryz.f70) [1,1,0,1,0,0]) (Za3 0 (ZbL H0)) [(1,x1),(5,x5),(8,x8),(9,x9),(10,x10)] H
def ZeT (p0 p1:AV) (H:Hp):Res:=
 bnd (Zaf (.slice 9) p0) fun t9=>
 ZbM p1 .nils p0 t9 (.int .i64 0) H H
theorem ZiN (x5:AV) (H0 H:Hp):ZeM x5 H0 H =
    some (x5,H):=(Za4 [4,7,8] _ _ _ _).trans (by kernel_rfl)
theorem ZiP (x1 x5 x8 x9 x10:AV) (H0 H:Hp):ZbK x1 x5 x8 x9 x10 H0 H =
    bnd (ibin .add x10 (.int .i64 1)) fun t33=>
    ZbM x1 x5 x8 x9 t33 H0 H:=(Za4 [4,7,8] _ _ _ _).trans (by kernel_rfl)
theorem ZiO (x1 x5 x8 x9 x10 x11:AV) (H0 H:Hp):Zcx x1 x5 x8 x9 x10 x11 H0 H =
    bnd (Zad 1 x8 x10) fun t12=>
    bnd (Za2 false 1 t12 H) fun t13=>
    bnd (Zaf (.slice 9) x5) fun t15=>
    bnd (ibin .eql t15 (.int .i64 0)) fun t16=>
    bnd (gdv t16 false (.tuple []) (some x1)) fun t18=>
    bnd (gdv t16 false (.tuple []) (some x5)) fun t19=>
    bnd (gdv t16 false (.tuple []) (some x5)) fun t20=>
    bnd (gdv t16 false (.tuple []) (Zaf (.slice 9) t20)) fun t21=>
    bnd (gdv t16 false (.tuple []) (ibin .sub t21 (.int .i64 1))) fun t22=>
    bnd (gdv t16 false (.tuple []) (Zad 1 t19 t22)) fun t23=>
    bnd (gdv t16 false (.tuple []) (Za2 false 1 t23 H)) fun t24=>
    bnd (gdv t16 false (.tuple []) (some t13)) fun t25=>
    bnd (gdv t16 false ((.tuple []),H) (ZaN cfg (Za7 cfg) t18 [t24,t25] H)) fun r26=>
    bnd (gdv t16 false (.tuple []) (aun .not r26.1)) fun t27=>
    bnd (Zae t16 (.bool true) t27) fun t28=>
    cnd t28
     (bnd ((Zau 1 [(0,t13)] [(.str [])]).map (.vs 1 .clip)) fun t31=>
     bnd (ZaH 1 16 x5 t31 r26.2) fun r32=>
     ZbK x1 r32.1 x8 x9 x10 H0 r32.2)
     (ZbK x1 x5 x8 x9 x10 H0 r26.2):=(Za4 [4,7,8] _ _ _ _).trans (by kernel_rfl)
theorem ZdN (x1 x5 x8 x9 x10:AV) (H0 H:Hp):ZbM x1 x5 x8 x9 x10 H0 H =
    bnd (ibin .lss x10 x9) fun t11=>
    cnd t11
     (Zcx x1 x5 x8 x9 x10 t11 H0 H)
     (ZeM x5 H0 H):=(Zap (C:=cfg) [4,7,8] (Zah 0 (Zi6 H0)) _ _).trans (by kernel_rfl)
theorem Zjn (p0 p1:AV) (H:Hp):ZbQ [p0,p1] H=ZeT p0 p1 H:=(Zab (C:=cfg) (fn:=Tryz.f70) (c:=Za0 Tryz.f70) (n:=35) [4,7,8] Tryz.func70 (by kernel_rfl) (by kernel_rfl) [p0,p1] (by kernel_rfl) H).trans (by kernel_rfl)

def Zkb (p0 p1 p2 p3:AV) (H:Hp):Res:=
 bnd (Za2 true 6 p2 H) fun t7=>
 bnd (Za2 true 5 p3 H) fun t8=>
 bnd (Za5 ZbZ [t7,t8,p0,p1] H) fun r11=>
 bnd (ibin .eql r11.1 (.int .i64 0)) fun t12=>
 some (t12,r11.2)
theorem ZoJ (p0 p1 p2 p3:AV) (H:Hp):Zk8 [p0,p1,p2,p3] H=Zkb p0 p1 p2 p3 H:=(Zab (C:=cfg) (fn:=Tryz.f71) (c:=Za0 Tryz.f71) (n:=13) [] Tryz.func71 (by kernel_rfl) (by kernel_rfl) [p0,p1,p2,p3] (by kernel_rfl) H).trans (by kernel_rfl)

def ZtX (x7:AV) (H0 H:Hp):Res:=CXgM 75 47 (sub (Za0 Tryz.f75) [1,1,1]) (retL cfg 47 75 Tryz.f75 H0) [(7,x7)] H
def Zj7 (H0:Hp):KL:=seqL (fun k al H=>CXgM 75 47 (sub (Za0 Tryz.f75) [1,1,1]) k (Za8 (cfg.keep 75) (sub (Za0 Tryz.f75) [1,1,1]) al) H) (retL cfg 47 75 Tryz.f75 H0)
theorem ZuP (H0:Hp):Tame 47 (Zj7 H0):=Zak (C:=cfg) (kp:=cfg.keep 75) (sub (Za0 Tryz.f75) [1,1,1]) (Zao 75 Tryz.f75 H0)
def Zj6 (x2 x3 x4 x7 x8:AV) (H0 H:Hp):Res:=CXgM 75 47 (sub (Za0 Tryz.f75) [1,1,0,1,0,0,1,1]) (seqL (fun k al H=>LPgM 75 47 (sub (Za0 Tryz.f75) [1,1,0,1,0,0]) k (Za8 (cfg.keep 75) (sub (Za0 Tryz.f75) [1,1,0,1,0,0]) al) H) (Za3 0 (Zj7 H0))) [(2,x2),(3,x3),(4,x4),(7,x7),(8,x8)] H
def ZtY (x2 x3 x4 x7 x8:AV) (H0 H:Hp):Res:=CXgM 75 47 (sub (Za0 Tryz.f75) [1,1,0,1,0,0,1]) (seqL (fun k al H=>LPgM 75 47 (sub (Za0 Tryz.f75) [1,1,0,1,0,0]) k (Za8 (cfg.keep 75) (sub (Za0 Tryz.f75) [1,1,0,1,0,0]) al) H) (Za3 0 (Zj7 H0))) [(2,x2),(3,x3),(4,x4),(7,x7),(8,x8)] H
def Zj8 (x2 x3 x4 x7 x8:AV) (H0 H:Hp):Res:=LPgM 75 47 (sub (Za0 Tryz.f75) [1,1,0,1,0,0]) (Za3 0 (Zj7 H0)) [(2,x2),(3,x3),(4,x4),(7,x7),(8,x8)] H
def Zvl (p0 p1 p2:AV) (H:Hp):Res:=
 bnd (abox p0 H) fun r3=>
 bnd (abox p1 r3.2) fun r4=>
 Zj8 p2 r3.1 r4.1 .nils (.int .i64 0) H r4.2
theorem ZxR (x7:AV) (H0 H:Hp):ZtX x7 H0 H =
    some (x7,H):=(Za4 [4,5,7] _ _ _ _).trans (by kernel_rfl)
theorem ZxS (x2 x3 x4 x7 x8:AV) (H0 H:Hp):Zj6 x2 x3 x4 x7 x8 H0 H =
    bnd (ibin .add x8 (.int .i64 1)) fun t14=>
    Zj8 x2 x3 x4 x7 t14 H0 H:=(Za4 [4,5,7] _ _ _ _).trans (by kernel_rfl)
theorem Zfk (x2 x3 x4 x7 x8:AV) (H0 H:Hp):ZtY x2 x3 x4 x7 x8 H0 H =
    bnd (Zaa 3 x4) fun t15=>
    bnd (Za2 false 1 t15 H) fun t16=>
    bnd (aun .not t16) fun t17=>
    bnd (gdv t17 false (.tuple []) (some x7)) fun t19=>
    bnd (gdv t17 false (.tuple []) (Zaf (.slice 9) t19)) fun t20=>
    bnd (gdv t17 false (.tuple []) (ibin .eql t20 (.int .i64 0))) fun t21=>
    bnd (Zae t17 (.bool true) t21) fun t22=>
    bnd (gdv t22 false (.tuple []) (Za2 true 6 x3 H)) fun t24=>
    bnd (gdv t22 false (.tuple []) (Za2 true 5 x4 H)) fun t25=>
    bnd (gdv t22 false (.tuple []) (some x7)) fun t26=>
    bnd (gdv t22 false (.tuple []) (some x7)) fun t27=>
    bnd (gdv t22 false (.tuple []) (Zaf (.slice 9) t27)) fun t28=>
    bnd (gdv t22 false (.tuple []) (ibin .sub t28 (.int .i64 1))) fun t29=>
    bnd (gdv t22 false (.tuple []) (Zad 1 t26 t29)) fun t30=>
    bnd (gdv t22 false (.tuple []) (Za2 false 1 t30 H)) fun t31=>
    bnd (gdv t22 false (.tuple []) (some x2)) fun t32=>
    bnd (gdv t22 false (.tuple []) (some x8)) fun t33=>
    bnd (gdv t22 false (.tuple []) (Zad 1 t32 t33)) fun t34=>
    bnd (gdv t22 false (.tuple []) (Za2 false 1 t34 H)) fun t35=>
    bnd (gdv t22 false ((.tuple []),H) (Za5 Zek [t24,t25,t31,t35] H)) fun r36=>
    bnd (gdv t22 false (.tuple []) (ibin .neq r36.1 (.int .i64 0))) fun t37=>
    bnd (Zae t22 (.bool true) t37) fun t38=>
    cnd t38
     (bnd (Zad 1 x2 x8) fun t42=>
     bnd (Za2 false 1 t42 r36.2) fun t43=>
     bnd ((Zau 1 [(0,t43)] [(.str [])]).map (.vs 1 .clip)) fun t44=>
     bnd (ZaH 1 16 x7 t44 r36.2) fun r45=>
     Zj6 x2 x3 x4 r45.1 x8 H0 r45.2)
     (Zj6 x2 x3 x4 x7 x8 H0 r36.2):=(Za4 [4,5,7] _ _ _ _).trans (by kernel_rfl)
theorem Zo9 (x2 x3 x4 x7 x8:AV) (H0 H:Hp):Zj8 x2 x3 x4 x7 x8 H0 H =
    bnd (Zaf (.slice 9) x2) fun t11=>
    bnd (ibin .lss x8 t11) fun t12=>
    cnd t12
     (ZtY x2 x3 x4 x7 x8 H0 H)
     (ZtX x7 H0 H):=(Zap (C:=cfg) [4,5,7] (Zah 0 (ZuP H0)) _ _).trans (by kernel_rfl)
theorem ZyZ (p0 p1 p2:AV) (H:Hp):ZoH [p0,p1,p2] H=Zvl p0 p1 p2 H:=(Zab (C:=cfg) (fn:=Tryz.f75) (c:=Za0 Tryz.f75) (n:=47) [4,5,7] Tryz.func75 (by kernel_rfl) (by kernel_rfl) [p0,p1,p2] (by kernel_rfl) H).trans (by kernel_rfl)

def ZcB (x0:AV) (H0 H:Hp):Res:=CXgM 76 8 (sub (Za0 Tryz.f76) [1,1]) (retL cfg 8 76 Tryz.f76 H0) [(0,x0)] H
def ZcN (p0:AV) (H:Hp):Res:=
 bnd (ebin (.slice 9) .eql p0 .nils) fun t4=>
 cnd t4
  (some (.nils,H))
  (ZcB p0 H H)
theorem Zf6 (x0:AV) (H0 H:Hp):ZcB x0 H0 H =
    bnd ((Zau 1 [] []).map (.vs 1 .clip)) fun t5=>
    bnd (ZaH 1 16 t5 x0 H) fun r7=>
    some (r7.1,r7.2):=(Za4 [3] _ _ _ _).trans (by kernel_rfl)
theorem Zfg (p0:AV) (H:Hp):ZaJ [p0] H=ZcN p0 H:=(Zab (C:=cfg) (fn:=Tryz.f76) (c:=Za0 Tryz.f76) (n:=8) [3] Tryz.func76 (by kernel_rfl) (by kernel_rfl) [p0] (by kernel_rfl) H).trans (by kernel_rfl)

def Zdk (x6 x7 x8:AV) (H0 H:Hp):Res:=CXgM 83 67 (sub (Za0 Tryz.f83) [1,1,1,1,1,1]) (retL cfg 67 83 Tryz.f83 H0) [(6,x6),(7,x7),(8,x8)] H
def ZbU (H0:Hp):KL:=seqL (fun k al H=>CXgM 83 67 (sub (Za0 Tryz.f83) [1,1,1,1,1,1]) k (Za8 (cfg.keep 83) (sub (Za0 Tryz.f83) [1,1,1,1,1,1]) al) H) (retL cfg 67 83 Tryz.f83 H0)
theorem Zfv (H0:Hp):Tame 67 (ZbU H0):=Zak (C:=cfg) (kp:=cfg.keep 83) (sub (Za0 Tryz.f83) [1,1,1,1,1,1]) (Zao 83 Tryz.f83 H0)
def Zdl (x1 x6 x7 x8:AV) (H0 H:Hp):Res:=CXgM 83 67 (sub (Za0 Tryz.f83) [1,1,1,1,1,0,0,0,1]) (seqL (fun k al H=>LPgM 83 67 (sub (Za0 Tryz.f83) [1,1,1,1,1,0,0,0]) k (Za8 (cfg.keep 83) (sub (Za0 Tryz.f83) [1,1,1,1,1,0,0,0]) al) H) (Za3 0 (ZbU H0))) [(1,x1),(6,x6),(7,x7),(8,x8)] H
def ZaM (x1 x6 x7 x8:AV) (H0 H:Hp):Res:=LPgM 83 67 (sub (Za0 Tryz.f83) [1,1,1,1,1,0,0,0]) (Za3 0 (ZbU H0)) [(1,x1),(6,x6),(7,x7),(8,x8)] H
def Zdj (x0 x1:AV) (H0 H:Hp):Res:=CXgM 83 67 (sub (Za0 Tryz.f83) [1,1]) (retL cfg 67 83 Tryz.f83 H0) [(0,x0),(1,x1)] H
def Zbd (p0 p1:AV) (H:Hp):Res:=
 bnd (Zaf (.slice 9) p0) fun t10=>
 bnd (ibin .lss t10 (.int .i64 2)) fun t11=>
 cnd t11
  (bnd (Za5 ZaJ [p0] H) fun r13=>
  some (r13.1,r13.2))
  (Zdj p0 p1 H H)
theorem Zcz (x6 x7 x8:AV) (H0 H:Hp):Zdk x6 x7 x8 H0 H =
    bnd (ZaH 1 16 x8 x6 H) fun r64=>
    bnd (ZaH 1 16 r64.1 x7 r64.2) fun r66=>
    some (r66.1,r66.2):=(Za4 [3,7,12] _ _ _ _).trans (by kernel_rfl)
theorem ZcA (x1 x6 x7 x8:AV) (H0 H:Hp):Zdl x1 x6 x7 x8 H0 H =
    bnd (Zad 1 x6 (.int .i64 0)) fun t40=>
    bnd (Za2 false 1 t40 H) fun t41=>
    bnd (Zad 1 x7 (.int .i64 0)) fun t43=>
    bnd (Za2 false 1 t43 H) fun t44=>
    bnd (ZaN cfg (Za7 cfg) x1 [t41,t44] H) fun r45=>
    cnd r45.1
     (bnd (Zad 1 x7 (.int .i64 0)) fun t48=>
     bnd (Za2 false 1 t48 r45.2) fun t49=>
     bnd ((Zau 1 [(0,t49)] [(.str [])]).map (.vs 1 .clip)) fun t50=>
     bnd (ZaH 1 16 x8 t50 r45.2) fun r51=>
     bnd (Zbc 1 x7 (some (.int .i64 1)) none none) fun t53=>
     ZaM x1 x6 t53 r51.1 H0 r51.2)
     (bnd (Zad 1 x6 (.int .i64 0)) fun t56=>
     bnd (Za2 false 1 t56 r45.2) fun t57=>
     bnd ((Zau 1 [(0,t57)] [(.str [])]).map (.vs 1 .clip)) fun t58=>
     bnd (ZaH 1 16 x8 t58 r45.2) fun r59=>
     bnd (Zbc 1 x6 (some (.int .i64 1)) none none) fun t61=>
     ZaM x1 t61 x7 r59.1 H0 r59.2):=(Za4 [3,7,12] _ _ _ _).trans (by kernel_rfl)
theorem ZaV (x1 x6 x7 x8:AV) (H0 H:Hp):ZaM x1 x6 x7 x8 H0 H =
    bnd (Zaf (.slice 9) x6) fun t31=>
    bnd (ibin .gtr t31 (.int .i64 0)) fun t32=>
    bnd (gdv t32 true (.tuple []) (some x7)) fun t34=>
    bnd (gdv t32 true (.tuple []) (Zaf (.slice 9) t34)) fun t35=>
    bnd (gdv t32 true (.tuple []) (ibin .gtr t35 (.int .i64 0))) fun t36=>
    bnd (Zae t32 t36 (.bool false)) fun t37=>
    cnd t37
     (Zdl x1 x6 x7 x8 H0 H)
     (Zdk x6 x7 x8 H0 H):=(Zap (C:=cfg) [3,7,12] (Zah 0 (Zfv H0)) _ _).trans (by kernel_rfl)
theorem Zgl (x0 x1:AV) (H0 H:Hp):Zdj x0 x1 H0 H =
    bnd (Zaf (.slice 9) x0) fun t15=>
    bnd (ibin .quo t15 (.int .i64 2)) fun t16=>
    bnd (Zbc 1 x0 none (some t16) none) fun t19=>
    bnd (Za5 ZaP [t19,x1] H) fun r21=>
    bnd (Zbc 1 x0 (some t16) none none) fun t24=>
    bnd (Za5 ZaP [t24,x1] r21.2) fun r26=>
    bnd (Zaf (.slice 9) x0) fun t28=>
    bnd (Zda 1 16 false (.str []) (.int .i64 0) t28 r26.2) fun r29=>
    ZaM x1 r21.1 r26.1 r29.1 H0 r29.2:=(Za4 [3,7,12] _ _ _ _).trans (by kernel_rfl)
theorem ZbE (p0 p1:AV) (H:Hp):ZaP [p0,p1] H=Zbd p0 p1 H:=(Zab (C:=cfg) (fn:=Tryz.f83) (c:=Za0 Tryz.f83) (n:=67) [3,7,12] Tryz.func83 (by kernel_rfl) (by kernel_rfl) [p0,p1] (by kernel_rfl) H).trans (by kernel_rfl)

def Zlc (p0 p1 p2 p3:AV) (H:Hp):Res:=
 bnd (Za2 true 6 p2 H) fun t7=>
 bnd (Za2 true 5 p3 H) fun t8=>
 bnd (Za5 Zci [t7,t8,p0,p1] H) fun r11=>
 bnd (ibin .gtr r11.1 (.int .i64 0)) fun t12=>
 some (t12,r11.2)
theorem Zqi (p0 p1 p2 p3:AV) (H:Hp):Zl8 [p0,p1,p2,p3] H=Zlc p0 p1 p2 p3 H:=(Zab (C:=cfg) (fn:=Tryz.f84) (c:=Za0 Tryz.f84) (n:=13) [] Tryz.func84 (by kernel_rfl) (by kernel_rfl) [p0,p1,p2,p3] (by kernel_rfl) H).trans (by kernel_rfl)

def Zld (p0 p1 p2 p3:AV) (H:Hp):Res:=
 bnd (Za2 true 6 p2 H) fun t7=>
 bnd (Za2 true 5 p3 H) fun t8=>
 bnd (Za5 ZbZ [t7,t8,p0,p1] H) fun r11=>
 bnd (ibin .eql r11.1 (.int .i64 0)) fun t12=>
 some (t12,r11.2)
theorem Zqj (p0 p1 p2 p3:AV) (H:Hp):Zl9 [p0,p1,p2,p3] H=Zld p0 p1 p2 p3 H:=(Zab (C:=cfg) (fn:=Tryz.f85) (c:=Za0 Tryz.f85) (n:=13) [] Tryz.func85 (by kernel_rfl) (by kernel_rfl) [p0,p1,p2,p3] (by kernel_rfl) H).trans (by kernel_rfl)

end
end Go.Am
