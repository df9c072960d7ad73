/-
  The functions of the translation over the abstract machine, a further part: written by program (wip/gen.py).
-/
import Derived.Test.YtehanadfidoodaaGreatDoorNkGx
namespace Go.Am
open Go.Proofs
set_option maxRecDepth 100000
set_option linter.unusedVariables false
set_option linter.unusedSimpArgs false
noncomputable abbrev CXgS (f n:Nat):=CXL cfg (Za7 cfg) (LPL cfg (cfg.keep f) n) (cfg.keep f) n seqL Za4
noncomputable abbrev LPgS (f n:Nat):=LPL cfg (cfg.keep f) n
noncomputable section

def ZnL (x0 x1 x2:AV) (H0 H:Hp):Res:=CXgS 28 39 (sub (Za0 Tryz.f28) [1,1,1,1]) (retL cfg 39 28 Tryz.f28 H0) [(0,x0),(1,x1),(2,x2)] H
def Zif (H0:Hp):KL:=seqL (fun k al H=>CXgS 28 39 (sub (Za0 Tryz.f28) [1,1,1,1]) k (Za8 (cfg.keep 28) (sub (Za0 Tryz.f28) [1,1,1,1]) al) H) (retL cfg 39 28 Tryz.f28 H0)
theorem Zqo (H0:Hp):Tame 39 (Zif H0):=Zan (C:=cfg) (kp:=cfg.keep 28) (sub (Za0 Tryz.f28) [1,1,1,1]) (Zaq 28 Tryz.f28 H0)
def Zwh (x0 x1 x2 x18 x19 x20 x21:AV) (H0 H:Hp):Res:=CXgS 28 39 (sub (Za0 Tryz.f28) [1,1,1,0,1,0,0,1,1]) (seqL (fun k al H=>LPgS 28 39 (sub (Za0 Tryz.f28) [1,1,1,0,1,0,0]) k (Za8 (cfg.keep 28) (sub (Za0 Tryz.f28) [1,1,1,0,1,0,0]) al) H) (Za4 0 (Zif H0))) [(0,x0),(1,x1),(2,x2),(18,x18),(19,x19),(20,x20),(21,x21)] H
def ZnM (x0 x1 x2 x18 x19 x20:AV) (H0 H:Hp):Res:=LPgS 28 39 (sub (Za0 Tryz.f28) [1,1,1,0,1,0,0]) (Za4 0 (Zif H0)) [(0,x0),(1,x1),(2,x2),(18,x18),(19,x19),(20,x20)] H
def ZnK (x0 x1 x2:AV) (H0 H:Hp):Res:=CXgS 28 39 (sub (Za0 Tryz.f28) [1,1,1]) (retL cfg 39 28 Tryz.f28 H0) [(0,x0),(1,x1),(2,x2)] H
def ZnJ (x0 x1 x2:AV) (H0 H:Hp):Res:=CXgS 28 39 (sub (Za0 Tryz.f28) [1,1]) (retL cfg 39 28 Tryz.f28 H0) [(0,x0),(1,x1),(2,x2)] H
def Zof (p0 p1 p2:AV) (H:Hp):Res:=
 bnd (ebin (.pointer 120) .eql p0 .nilp) fun t12=>
 cnd t12
  (some ((.tuple [.nilp,(.int .i64 5)]),H))
  (ZnJ p0 p1 p2 H H)
theorem ZsO (x0 x1 x2:AV) (H0 H:Hp):ZnL x0 x1 x2 H0 H =
    bnd (some ((.map H.length),H++[.map [] 0])) fun r33=>
    bnd ((Zbq [(0,1,x0),(1,1,x1),(3,1,r33.1)] [.nilp,(.str []),.nils,.nilm]).map .agg) fun t34=>
    bnd (ZhY (.int .i64 0) x2) fun t36=>
    bnd ((Zbq [(0,4,t34),(4,1,t36)] [.nilp,(.str []),.nils,.nilm,(.int .i64 0),(.int .i64 0),(.bool false)]).map .agg) fun t37=>
    bnd (abox t37 r33.2) fun r38=>
    some ((.tuple [r38.1,(.int .i64 0)]),r38.2):=(Za3 [3,5,7,11,12] _ _ _ _).trans (by kernel_rfl)
theorem ZsP (x0 x1 x2 x18 x19 x20:AV) (H0 H:Hp):ZnM x0 x1 x2 x18 x19 x20 H0 H =
    bnd (ibin .lss x20 x19) fun t21=>
    cnd t21
     (Zwh x0 x1 x2 x18 x19 x20 t21 H0 H)
     (ZnL x0 x1 x2 H0 H):=(Zar (C:=cfg) [3,5,7,11,12] (Zag 0 (Zqo H0)) _ _).trans (by kernel_rfl)
theorem ZsN (x0 x1 x2:AV) (H0 H:Hp):ZnK x0 x1 x2 H0 H =
    bnd (roC ZiD [x0,x1] H) fun r18=>
    bnd (Zae (.slice 9) r18.1) fun t19=>
    ZnM x0 x1 x2 r18.1 t19 (.int .i64 0) H0 r18.2:=(Za3 [3,5,7,11,12] _ _ _ _).trans (by kernel_rfl)
theorem ZsM (x0 x1 x2:AV) (H0 H:Hp):ZnJ x0 x1 x2 H0 H =
    bnd (Zaa Zdd [x1] H) fun r14=>
    bnd (aun .not r14.1) fun t15=>
    cnd t15
     (some ((.tuple [.nilp,(.int .i64 4)]),r14.2))
     (ZnK x0 x1 x2 H0 r14.2):=(Za3 [3,5,7,11,12] _ _ _ _).trans (by kernel_rfl)
theorem Zt8 (p0 p1 p2:AV) (H:Hp):Zfy [p0,p1,p2] H=Zof p0 p1 p2 H:=(Za9 (C:=cfg) (fn:=Tryz.f28) (c:=Za0 Tryz.f28) (n:=39) [3,5,7,11,12] Tryz.func28 (by kernel_rfl) (by kernel_rfl) [p0,p1,p2] (by kernel_rfl) H).trans (by kernel_rfl)

def Zva (p0:AV) (H:Hp):Res:=
 bnd (ZhY p0 (.int .i64 0)) fun t4=>
 bnd (ZdQ t4 (.int .i64 262144)) fun t5=>
 bnd (some ((.map H.length),H++[.map [] 0])) fun r6=>
 bnd ((Zbq [(0,1,t5),(3,1,r6.1)] [(.int .i64 0),(.int .i64 0),(.int .i64 0),.nilm,(.bool false),(.int .i64 0)]).map .agg) fun t7=>
 bnd (abox t7 r6.2) fun r8=>
 some (r8.1,r8.2)
theorem Zyo (p0:AV) (H:Hp):ZoY [p0] H=Zva p0 H:=(Za9 (C:=cfg) (fn:=Tryz.f29) (c:=Za0 Tryz.f29) (n:=9) [] Tryz.func29 (by kernel_rfl) (by kernel_rfl) [p0] (by kernel_rfl) H).trans (by kernel_rfl)

def ZjO (x3:AV) (H0 H:Hp):Res:=CXgS 53 38 (sub (Za0 Tryz.f53) [1,1,1,1]) (retL cfg 38 53 Tryz.f53 H0) [(3,x3)] H
def ZdC (H0:Hp):KL:=seqL (fun k al H=>CXgS 53 38 (sub (Za0 Tryz.f53) [1,1,1,1]) k (Za8 (cfg.keep 53) (sub (Za0 Tryz.f53) [1,1,1,1]) al) H) (retL cfg 38 53 Tryz.f53 H0)
theorem ZnF (H0:Hp):Tame 38 (ZdC H0):=Zan (C:=cfg) (kp:=cfg.keep 53) (sub (Za0 Tryz.f53) [1,1,1,1]) (Zaq 53 Tryz.f53 H0)
def ZjQ (x0 x3 x10 x11 x12:AV) (H0 H:Hp):Res:=CXgS 53 38 (sub (Za0 Tryz.f53) [1,1,1,0,1,0,0,1,1,1]) (seqL (fun k al H=>LPgS 53 38 (sub (Za0 Tryz.f53) [1,1,1,0,1,0,0]) k (Za8 (cfg.keep 53) (sub (Za0 Tryz.f53) [1,1,1,0,1,0,0]) al) H) (Za4 0 (ZdC H0))) [(0,x0),(3,x3),(10,x10),(11,x11),(12,x12)] H
def ZjP (x0 x3 x10 x11 x12 x13:AV) (H0 H:Hp):Res:=CXgS 53 38 (sub (Za0 Tryz.f53) [1,1,1,0,1,0,0,1,1]) (seqL (fun k al H=>LPgS 53 38 (sub (Za0 Tryz.f53) [1,1,1,0,1,0,0]) k (Za8 (cfg.keep 53) (sub (Za0 Tryz.f53) [1,1,1,0,1,0,0]) al) H) (Za4 0 (ZdC H0))) [(0,x0),(3,x3),(10,x10),(11,x11),(12,x12),(13,x13)] H
def ZdD (x0 x3 x10 x11 x12:AV) (H0 H:Hp):Res:=LPgS 53 38 (sub (Za0 Tryz.f53) [1,1,1,0,1,0,0]) (Za4 0 (ZdC H0)) [(0,x0),(3,x3),(10,x10),(11,x11),(12,x12)] H
def ZjN (x0:AV) (H0 H:Hp):Res:=CXgS 53 38 (sub (Za0 Tryz.f53) [1,1]) (retL cfg 38 53 Tryz.f53 H0) [(0,x0)] H
def ZkB (p0:AV) (H:Hp):Res:=
 bnd (ebin (.pointer 120) .eql p0 .nilp) fun t8=>
 cnd t8
  (some (.nils,H))
  (ZjN p0 H H)
theorem Zpq (x3:AV) (H0 H:Hp):ZjO x3 H0 H =
    some (x3,H):=(Za3 [3,6,9,10] _ _ _ _).trans (by kernel_rfl)
theorem Zps (x0 x3 x10 x11 x12:AV) (H0 H:Hp):ZjQ x0 x3 x10 x11 x12 H0 H =
    bnd (ibin .add x12 (.int .i64 1)) fun t36=>
    ZdD x0 x3 x10 x11 t36 H0 H:=(Za3 [3,6,9,10] _ _ _ _).trans (by kernel_rfl)
theorem Zpr (x0 x3 x10 x11 x12 x13:AV) (H0 H:Hp):ZjP x0 x3 x10 x11 x12 x13 H0 H =
    bnd (Zaf 1 x10 x12) fun t14=>
    bnd (Za2 false 1 t14 H) fun t15=>
    bnd (anil x0) fun t17=>
    bnd (Za5 3 t17) fun t18=>
    bnd (Za2 false 1 t18 H) fun t19=>
    bnd (ZaK .string .nilp false t19 t15 H) fun t21=>
    bnd (anil t21) fun t25=>
    bnd (Za5 0 t25) fun t26=>
    bnd (Za2 false 1 t26 H) fun t27=>
    bnd (Zae (.slice 5) t27) fun t28=>
    bnd (anil t21) fun t30=>
    bnd (Za5 1 t30) fun t31=>
    bnd (Za2 false 1 t31 H) fun t32=>
    bnd ((Zbq [(0,1,t15),(1,1,t28),(2,1,t32)] [(.str []),(.int .i64 0),(.int .i64 0)]).map .agg) fun t33=>
    bnd ((Zau 3 [(0,t33)] [(.agg [(.str []),(.int .i64 0),(.int .i64 0)])]).map (.vs 3 .clip)) fun t34=>
    bnd (ZaH 3 32 x3 t34 H) fun r35=>
    ZjQ x0 r35.1 x10 x11 x12 H0 r35.2:=(Za3 [3,6,9,10] _ _ _ _).trans (by kernel_rfl)
theorem ZhG (x0 x3 x10 x11 x12:AV) (H0 H:Hp):ZdD x0 x3 x10 x11 x12 H0 H =
    bnd (ibin .lss x12 x11) fun t13=>
    cnd t13
     (ZjP x0 x3 x10 x11 x12 t13 H0 H)
     (ZjO x3 H0 H):=(Zar (C:=cfg) [3,6,9,10] (Zag 0 (ZnF H0)) _ _).trans (by kernel_rfl)
theorem Zpp (x0:AV) (H0 H:Hp):ZjN x0 H0 H =
    bnd (ZxJ.run [x0] H) fun r10=>
    bnd (Zae (.slice 9) r10.1) fun t11=>
    ZdD x0 .nils r10.1 t11 (.int .i64 0) H0 r10.2:=(Za3 [3,6,9,10] _ _ _ _).trans (by kernel_rfl)
theorem ZpM (p0:AV) (H:Hp):ZcC [p0] H=ZkB p0 H:=(Za9 (C:=cfg) (fn:=Tryz.f53) (c:=Za0 Tryz.f53) (n:=38) [3,6,9,10] Tryz.func53 (by kernel_rfl) (by kernel_rfl) [p0] (by kernel_rfl) H).trans (by kernel_rfl)

def Zhg (x0:AV) (H0 H:Hp):Res:=CXgS 77 54 (sub (Za0 Tryz.f77) [1,1]) (retL cfg 54 77 Tryz.f77 H0) [(0,x0)] H
def Zer (H0:Hp):KL:=seqL (fun k al H=>CXgS 77 54 (sub (Za0 Tryz.f77) [1,1]) k (Za8 (cfg.keep 77) (sub (Za0 Tryz.f77) [1,1]) al) H) (retL cfg 54 77 Tryz.f77 H0)
theorem Zpx (H0:Hp):Tame 54 (Zer H0):=Zan (C:=cfg) (kp:=cfg.keep 77) (sub (Za0 Tryz.f77) [1,1]) (Zaq 77 Tryz.f77 H0)
def Zhi (x0 x7 x8:AV) (H0 H:Hp):Res:=CXgS 77 54 (sub (Za0 Tryz.f77) [1,0,1,0,0,1,1,1]) (seqL (fun k al H=>LPgS 77 54 (sub (Za0 Tryz.f77) [1,0,1,0,0]) k (Za8 (cfg.keep 77) (sub (Za0 Tryz.f77) [1,0,1,0,0]) al) H) (Za4 0 (Zer H0))) [(0,x0),(7,x7),(8,x8)] H
def Zhh (x0 x7 x8 x9:AV) (H0 H:Hp):Res:=CXgS 77 54 (sub (Za0 Tryz.f77) [1,0,1,0,0,1,1]) (seqL (fun k al H=>LPgS 77 54 (sub (Za0 Tryz.f77) [1,0,1,0,0]) k (Za8 (cfg.keep 77) (sub (Za0 Tryz.f77) [1,0,1,0,0]) al) H) (Za4 0 (Zer H0))) [(0,x0),(7,x7),(8,x8),(9,x9)] H
def Zes (x0 x7 x8:AV) (H0 H:Hp):Res:=LPgS 77 54 (sub (Za0 Tryz.f77) [1,0,1,0,0]) (Za4 0 (Zer H0)) [(0,x0),(7,x7),(8,x8)] H
def ZmK (p0:AV) (H:Hp):Res:=
 bnd (Zae .string p0) fun t7=>
 Zes p0 t7 (.int .i64 0) H H
theorem Zrp (x0:AV) (H0 H:Hp):Zhg x0 H0 H =
    bnd (sbin .neq x0 (.str [])) fun t48=>
    bnd (gdv t48 true (.tuple []) (some x0)) fun t50=>
    bnd (gdv t48 true (.tuple []) (Zae .string t50)) fun t51=>
    bnd (gdv t48 true (.tuple []) (ibin .leq t51 (.int .i64 16))) fun t52=>
    bnd (Zad t48 t52 (.bool false)) fun t53=>
    some (t53,H):=(Za3 [3,8,9] _ _ _ _).trans (by kernel_rfl)
theorem Zjp (x0 x7 x8:AV) (H0 H:Hp):Zhi x0 x7 x8 H0 H =
    bnd (ibin .add x8 (.int .i64 1)) fun t46=>
    Zes x0 x7 t46 H0 H:=(Za3 [3,8,9] _ _ _ _).trans (by kernel_rfl)
theorem Zrq (x0 x7 x8 x9:AV) (H0 H:Hp):Zhh x0 x7 x8 x9 H0 H =
    bnd (Zal x0 x8) fun t13=>
    bnd (ibin .eql t13 (.int .u8 95)) fun t15=>
    bnd (gdv t15 false (.tuple []) (some t13)) fun t17=>
    bnd (gdv t15 false (.tuple []) (ibin .geq t17 (.int .u8 97))) fun t18=>
    bnd (gdv t15 false (.tuple []) (some t18)) fun t19=>
    bnd (gdv t19 true (.tuple []) (some t13)) fun t20=>
    bnd (gdv t19 true (.tuple []) (ibin .leq t20 (.int .u8 122))) fun t21=>
    bnd (gdv t15 false (.tuple []) (Zad t19 t21 (.bool false))) fun t22=>
    bnd (Zad t15 (.bool true) t22) fun t23=>
    bnd (gdv t23 false (.tuple []) (some t13)) fun t25=>
    bnd (gdv t23 false (.tuple []) (ibin .geq t25 (.int .u8 65))) fun t26=>
    bnd (gdv t23 false (.tuple []) (some t26)) fun t27=>
    bnd (gdv t27 true (.tuple []) (some t13)) fun t28=>
    bnd (gdv t27 true (.tuple []) (ibin .leq t28 (.int .u8 90))) fun t29=>
    bnd (gdv t23 false (.tuple []) (Zad t27 t29 (.bool false))) fun t30=>
    bnd (Zad t23 (.bool true) t30) fun t31=>
    bnd (aun .not t31) fun t33=>
    bnd (gdv t33 true (.tuple []) (some x8)) fun t35=>
    bnd (gdv t33 true (.tuple []) (ibin .eql t35 (.int .i64 0))) fun t36=>
    bnd (gdv t33 true (.tuple []) (some t36)) fun t37=>
    bnd (gdv t37 false (.tuple []) (some t13)) fun t38=>
    bnd (gdv t37 false (.tuple []) (ibin .lss t38 (.int .u8 48))) fun t39=>
    bnd (gdv t33 true (.tuple []) (Zad t37 (.bool true) t39)) fun t40=>
    bnd (gdv t33 true (.tuple []) (some t40)) fun t41=>
    bnd (gdv t41 false (.tuple []) (some t13)) fun t42=>
    bnd (gdv t41 false (.tuple []) (ibin .gtr t42 (.int .u8 57))) fun t43=>
    bnd (gdv t33 true (.tuple []) (Zad t41 (.bool true) t43)) fun t44=>
    bnd (Zad t33 t44 (.bool false)) fun t45=>
    cnd t45
     (some ((.bool false),H))
     (Zhi x0 x7 x8 H0 H):=(Za3 [3,8,9] _ _ _ _).trans (by kernel_rfl)
theorem Zd2 (x0 x7 x8:AV) (H0 H:Hp):Zes x0 x7 x8 H0 H =
    bnd (ibin .lss x8 x7) fun t9=>
    cnd t9
     (Zhh x0 x7 x8 t9 H0 H)
     (Zhg x0 H0 H):=(Zar (C:=cfg) [3,8,9] (Zag 0 (Zpx H0)) _ _).trans (by kernel_rfl)
theorem Zsa (p0:AV) (H:Hp):Zdd [p0] H=ZmK p0 H:=(Za9 (C:=cfg) (fn:=Tryz.f77) (c:=Za0 Tryz.f77) (n:=54) [3,8,9] Tryz.func77 (by kernel_rfl) (by kernel_rfl) [p0] (by kernel_rfl) H).trans (by kernel_rfl)

def ZnH (x5:AV) (H0 H:Hp):Res:=CXgS 78 56 (sub (Za0 Tryz.f78) [1,1,1,1,1]) (retL cfg 56 78 Tryz.f78 H0) [(5,x5)] H
def Zie (H0:Hp):KL:=seqL (fun k al H=>CXgS 78 56 (sub (Za0 Tryz.f78) [1,1,1,1,1]) k (Za8 (cfg.keep 78) (sub (Za0 Tryz.f78) [1,1,1,1,1]) al) H) (retL cfg 56 78 Tryz.f78 H0)
theorem Zqn (H0:Hp):Tame 56 (Zie H0):=Zan (C:=cfg) (kp:=cfg.keep 78) (sub (Za0 Tryz.f78) [1,1,1,1,1]) (Zaq 78 Tryz.f78 H0)
def Zwg (x5 x6 x21 x22 x23 x24:AV) (H0 H:Hp):Res:=CXgS 78 56 (sub (Za0 Tryz.f78) [1,1,1,1,0,1,0,0,1,1]) (seqL (fun k al H=>LPgS 78 56 (sub (Za0 Tryz.f78) [1,1,1,1,0,1,0,0]) k (Za8 (cfg.keep 78) (sub (Za0 Tryz.f78) [1,1,1,1,0,1,0,0]) al) H) (Za4 0 (Zie H0))) [(5,x5),(6,x6),(21,x21),(22,x22),(23,x23),(24,x24)] H
def ZnI (x5 x6 x21 x22 x23:AV) (H0 H:Hp):Res:=LPgS 78 56 (sub (Za0 Tryz.f78) [1,1,1,1,0,1,0,0]) (Za4 0 (Zie H0)) [(5,x5),(6,x6),(21,x21),(22,x22),(23,x23)] H
def ZnG (x0 x1 x5:AV) (H0 H:Hp):Res:=CXgS 78 56 (sub (Za0 Tryz.f78) [1,1,1]) (retL cfg 56 78 Tryz.f78 H0) [(0,x0),(1,x1),(5,x5)] H
def Zoe (p0 p1:AV) (H:Hp):Res:=
 bnd (ebin (.pointer 120) .eql p0 .nilp) fun t11=>
 bnd (gdv t11 false (.tuple []) (some p1)) fun t13=>
 bnd (gdv t11 false ((.tuple []),H) (Zaa Zdd [t13] H)) fun r14=>
 bnd (gdv t11 false (.tuple []) (aun .not r14.1)) fun t15=>
 bnd (Zad t11 (.bool true) t15) fun t16=>
 cnd t16
  (some (.nils,r14.2))
  (ZnG p0 p1 .nils H r14.2)
theorem ZsK (x5:AV) (H0 H:Hp):ZnH x5 H0 H =
    some (x5,H):=(Za3 [4,7,11,12] _ _ _ _).trans (by kernel_rfl)
theorem ZsL (x5 x6 x21 x22 x23:AV) (H0 H:Hp):ZnI x5 x6 x21 x22 x23 H0 H =
    bnd (ibin .lss x23 x22) fun t24=>
    cnd t24
     (Zwg x5 x6 x21 x22 x23 t24 H0 H)
     (ZnH x5 H0 H):=(Zar (C:=cfg) [4,7,11,12] (Zag 0 (Zqn H0)) _ _).trans (by kernel_rfl)
theorem ZsJ (x0 x1 x5:AV) (H0 H:Hp):ZnG x0 x1 x5 H0 H =
    bnd (Zaa Zeg [x1] H) fun r19=>
    bnd (roC ZcC [x0] r19.2) fun r21=>
    bnd (Zae (.slice 142) r21.1) fun t22=>
    ZnI x5 r19.1 r21.1 t22 (.int .i64 0) H0 r21.2:=(Za3 [4,7,11,12] _ _ _ _).trans (by kernel_rfl)
theorem Zt7 (p0 p1:AV) (H:Hp):ZiD [p0,p1] H=Zoe p0 p1 H:=(Za9 (C:=cfg) (fn:=Tryz.f78) (c:=Za0 Tryz.f78) (n:=56) [4,7,11,12] Tryz.func78 (by kernel_rfl) (by kernel_rfl) [p0,p1] (by kernel_rfl) H).trans (by kernel_rfl)

def Ziw (x0 x4:AV) (H0 H:Hp):Res:=CXgS 80 63 (sub (Za0 Tryz.f80) [1,1,1,1,1]) (retL cfg 63 80 Tryz.f80 H0) [(0,x0),(4,x4)] H
def Ziv (x0:AV) (H0 H:Hp):Res:=CXgS 80 63 (sub (Za0 Tryz.f80) [1,1,1]) (retL cfg 63 80 Tryz.f80 H0) [(0,x0)] H
def Ziu (x0:AV) (H0 H:Hp):Res:=CXgS 80 63 (sub (Za0 Tryz.f80) [1,1]) (retL cfg 63 80 Tryz.f80 H0) [(0,x0)] H
def ZiI (p0:AV) (H:Hp):Res:=
 bnd (ebin (.pointer 117) .eql p0 .nilp) fun t7=>
 cnd t7
  (some ((.tuple [(.str []),(.int .i64 5)]),H))
  (Ziu p0 H H)
theorem ZnN (x0 x4:AV) (H0 H:Hp):Ziw x0 x4 H0 H =
    bnd (anil x0) fun t44=>
    bnd (Za5 5 t44) fun t45=>
    bnd (Za2 false 1 t45 H) fun t46=>
    bnd (ibin .add t46 (.int .i64 1)) fun t47=>
    bnd (anil x0) fun t48=>
    bnd (Za5 5 t48) fun t49=>
    bnd (Zab 1 t49 t47 H) fun r_18=>
    bnd (anil x0) fun t52=>
    bnd (Za5 0 t52) fun t53=>
    bnd (Za5 2 t53) fun t54=>
    bnd (Za2 false 1 t54 r_18.2) fun t55=>
    bnd ((Zau 1 [(0,x4)] [(.str [])]).map (.vs 1 .clip)) fun t57=>
    bnd (ZaH 1 16 t55 t57 r_18.2) fun r58=>
    bnd (anil x0) fun t59=>
    bnd (Za5 0 t59) fun t60=>
    bnd (Za5 2 t60) fun t61=>
    bnd (Zab 1 t61 r58.1 r58.2) fun r_28=>
    some ((.tuple [x4,(.int .i64 0)]),r_28.2):=(Za3 [3,5,9] _ _ _ _).trans (by kernel_rfl)
theorem Zgb (x0:AV) (H0 H:Hp):Ziv x0 H0 H =
    bnd (anil x0) fun t21=>
    bnd (Za5 0 t21) fun t22=>
    bnd (Za5 1 t22) fun t23=>
    bnd (Za2 false 1 t23 H) fun t24=>
    bnd (Zaa Zeg [t24] H) fun r25=>
    bnd (anil x0) fun t27=>
    bnd (Za5 5 t27) fun t28=>
    bnd (Za2 false 1 t28 r25.2) fun t29=>
    bnd (ibin .add t29 (.int .i64 1)) fun t30=>
    bnd (Zaa ZmA [t30] r25.2) fun r31=>
    bnd (sbin .add r25.1 r31.1) fun t32=>
    bnd (anil x0) fun t34=>
    bnd (Za5 0 t34) fun t35=>
    bnd (Za5 0 t35) fun t36=>
    bnd (Za2 false 1 t36 r31.2) fun t37=>
    bnd (ZeO [t37,t32] r31.2) fun r39=>
    bnd (ibin .neq r39.1 (.int .i64 0)) fun t41=>
    cnd t41
     (some ((.tuple [(.str []),r39.1]),r39.2))
     (Ziw x0 t32 H0 r39.2):=(Za3 [3,5,9] _ _ _ _).trans (by kernel_rfl)
theorem Zdq (x0:AV) (H0 H:Hp):Ziu x0 H0 H =
    bnd (anil x0) fun t9=>
    bnd (Za5 6 t9) fun t10=>
    bnd (Za2 false 1 t10 H) fun t11=>
    bnd (gdv t11 false (.tuple []) (some x0)) fun t13=>
    bnd (gdv t11 false (.tuple []) (anil t13)) fun t14=>
    bnd (gdv t11 false (.tuple []) (Za5 0 t14)) fun t15=>
    bnd (gdv t11 false (.tuple []) (Za5 0 t15)) fun t16=>
    bnd (gdv t11 false (.tuple []) (Za2 false 1 t16 H)) fun t17=>
    bnd (gdv t11 false (.tuple []) (ebin (.pointer 120) .eql t17 .nilp)) fun t18=>
    bnd (Zad t11 (.bool true) t18) fun t19=>
    cnd t19
     (some ((.tuple [(.str []),(.int .i64 8)]),H))
     (Ziv x0 H0 H):=(Za3 [3,5,9] _ _ _ _).trans (by kernel_rfl)
theorem ZnR (p0:AV) (H:Hp):ZcU [p0] H=ZiI p0 H:=(Za9 (C:=cfg) (fn:=Tryz.f80) (c:=Za0 Tryz.f80) (n:=63) [3,5,9] Tryz.func80 (by kernel_rfl) (by kernel_rfl) [p0] (by kernel_rfl) H).trans (by kernel_rfl)

def ZgY (x0 x1 x8:AV) (H0 H:Hp):Res:=CXgS 81 51 (sub (Za0 Tryz.f81) [1,1,1,1,1,1]) (retL cfg 51 81 Tryz.f81 H0) [(0,x0),(1,x1),(8,x8)] H
def ZgX (x0 x1 x8:AV) (H0 H:Hp):Res:=CXgS 81 51 (sub (Za0 Tryz.f81) [1,1,1,1,1]) (retL cfg 51 81 Tryz.f81 H0) [(0,x0),(1,x1),(8,x8)] H
def ZgW (x0 x1 x2:AV) (H0 H:Hp):Res:=CXgS 81 51 (sub (Za0 Tryz.f81) [1,1,1]) (retL cfg 51 81 Tryz.f81 H0) [(0,x0),(1,x1),(2,x2)] H
def ZgV (x0 x1 x2:AV) (H0 H:Hp):Res:=CXgS 81 51 (sub (Za0 Tryz.f81) [1,1]) (retL cfg 51 81 Tryz.f81 H0) [(0,x0),(1,x1),(2,x2)] H
def Zho (p0 p1 p2:AV) (H:Hp):Res:=
 bnd (ZbO [p0,p1] H) fun r12=>
 bnd (ibin .neq r12.1 (.int .i64 0)) fun t14=>
 cnd t14
  (some (r12.1,r12.2))
  (ZgV p0 p1 p2 H r12.2)
theorem Zln (x0 x1 x8:AV) (H0 H:Hp):ZgY x0 x1 x8 H0 H =
    bnd (anil x0) fun t44=>
    bnd (Za5 0 t44) fun t45=>
    bnd (Za5 0 t45) fun t46=>
    bnd (Za2 false 1 t46 H) fun t47=>
    bnd (ZeN [t47,x1,x8] H) fun r50=>
    some (r50.1,r50.2):=(Za3 [4,6,9,11] _ _ _ _).trans (by kernel_rfl)
theorem Zfl (x0 x1 x8:AV) (H0 H:Hp):ZgX x0 x1 x8 H0 H =
    bnd (Zae .string x8) fun t32=>
    bnd (anil x0) fun t34=>
    bnd (Za5 4 t34) fun t35=>
    bnd (Za2 false 1 t35 H) fun t36=>
    bnd (anil x0) fun t38=>
    bnd (Za5 0 t38) fun t39=>
    bnd (roC Zcy [t39] H) fun r40=>
    bnd (ibin .sub t36 r40.1) fun t41=>
    bnd (ibin .gtr t32 t41) fun t42=>
    cnd t42
     (some ((.int .i64 11),r40.2))
     (ZgY x0 x1 x8 H0 r40.2):=(Za3 [4,6,9,11] _ _ _ _).trans (by kernel_rfl)
theorem ZcQ (x0 x1 x2:AV) (H0 H:Hp):ZgW x0 x1 x2 H0 H =
    bnd (Zaa ZjW [x2] H) fun r25=>
    bnd (aext r25.1 0) fun t26=>
    bnd (aext r25.1 1) fun t27=>
    bnd (ibin .neq t27 (.int .i64 0)) fun t29=>
    cnd t29
     (some (t27,r25.2))
     (ZgX x0 x1 t26 H0 r25.2):=(Za3 [4,6,9,11] _ _ _ _).trans (by kernel_rfl)
theorem ZbL (x0 x1 x2:AV) (H0 H:Hp):ZgV x0 x1 x2 H0 H =
    bnd (anil x0) fun t17=>
    bnd (Za5 0 t17) fun t18=>
    bnd (Za5 3 t18) fun t19=>
    bnd (Za2 false 1 t19 H) fun t20=>
    bnd (ZaK .string (.bool false) false t20 x1 H) fun t22=>
    cnd t22
     (some ((.int .i64 8),H))
     (ZgW x0 x1 x2 H0 H):=(Za3 [4,6,9,11] _ _ _ _).trans (by kernel_rfl)
theorem ZlT (p0 p1 p2:AV) (H:Hp):Zcx [p0,p1,p2] H=Zho p0 p1 p2 H:=(Za9 (C:=cfg) (fn:=Tryz.f81) (c:=Za0 Tryz.f81) (n:=51) [4,6,9,11] Tryz.func81 (by kernel_rfl) (by kernel_rfl) [p0,p1,p2] (by kernel_rfl) H).trans (by kernel_rfl)

def ZhO (x0 x1:AV) (H0 H:Hp):Res:=CXgS 82 29 (sub (Za0 Tryz.f82) [1,1,1]) (retL cfg 29 82 Tryz.f82 H0) [(0,x0),(1,x1)] H
def ZhN (x0 x1:AV) (H0 H:Hp):Res:=CXgS 82 29 (sub (Za0 Tryz.f82) [1,1]) (retL cfg 29 82 Tryz.f82 H0) [(0,x0),(1,x1)] H
def Zij (p0 p1:AV) (H:Hp):Res:=
 bnd (ZbO [p0,p1] H) fun r9=>
 bnd (ibin .neq r9.1 (.int .i64 0)) fun t11=>
 cnd t11
  (some (r9.1,r9.2))
  (ZhN p0 p1 H r9.2)
theorem Zmm (x0 x1:AV) (H0 H:Hp):ZhO x0 x1 H0 H =
    bnd (anil x0) fun t24=>
    bnd (Za5 0 t24) fun t25=>
    bnd (Za5 3 t25) fun t26=>
    bnd (Za2 false 1 t26 H) fun t27=>
    bnd (ZbD .string t27 x1 (.bool true) H) fun r_5=>
    some ((.int .i64 0),r_5.2):=(Za3 [4,7] _ _ _ _).trans (by kernel_rfl)
theorem ZfM (x0 x1:AV) (H0 H:Hp):ZhN x0 x1 H0 H =
    bnd (anil x0) fun t14=>
    bnd (Za5 0 t14) fun t15=>
    bnd (Za5 0 t15) fun t16=>
    bnd (Za2 false 1 t16 H) fun t17=>
    bnd (ZfT [t17,x1] H) fun r19=>
    bnd (ibin .neq r19.1 (.int .i64 0)) fun t21=>
    cnd t21
     (some (r19.1,r19.2))
     (ZhO x0 x1 H0 r19.2):=(Za3 [4,7] _ _ _ _).trans (by kernel_rfl)
theorem ZmI (p0 p1:AV) (H:Hp):ZcK [p0,p1] H=Zij p0 p1 H:=(Za9 (C:=cfg) (fn:=Tryz.f82) (c:=Za0 Tryz.f82) (n:=29) [4,7] Tryz.func82 (by kernel_rfl) (by kernel_rfl) [p0,p1] (by kernel_rfl) H).trans (by kernel_rfl)

def ZhM (x2 x12 x13:AV) (H0 H:Hp):Res:=CXgS 86 49 (sub (Za0 Tryz.f86) [1,1,1,1,1,1,1]) (retL cfg 49 86 Tryz.f86 H0) [(2,x2),(12,x12),(13,x13)] H
def ZhL (x2 x10:AV) (H0 H:Hp):Res:=CXgS 86 49 (sub (Za0 Tryz.f86) [1,1,1,1,1]) (retL cfg 49 86 Tryz.f86 H0) [(2,x2),(10,x10)] H
def ZhK (x2 x10:AV) (H0 H:Hp):Res:=CXgS 86 49 (sub (Za0 Tryz.f86) [1,1,1,1]) (retL cfg 49 86 Tryz.f86 H0) [(2,x2),(10,x10)] H
def ZhJ (x0 x1 x2:AV) (H0 H:Hp):Res:=CXgS 86 49 (sub (Za0 Tryz.f86) [1,1]) (retL cfg 49 86 Tryz.f86 H0) [(0,x0),(1,x1),(2,x2)] H
def Zew (p0 p1 p2:AV) (H:Hp):Res:=
 bnd (ZbO [p0,p1] H) fun r16=>
 bnd (ibin .neq r16.1 (.int .i64 0)) fun t18=>
 cnd t18
  (some ((.tuple [(.str []),(.int .i64 0),r16.1]),r16.2))
  (ZhJ p0 p1 p2 H r16.2)
theorem Zml (x2 x12 x13:AV) (H0 H:Hp):ZhM x2 x12 x13 H0 H =
    bnd (ibin .add x2 x13) fun t48=>
    some ((.tuple [x12,t48,(.int .i64 0)]),H):=(Za3 [4,7,9,12] _ _ _ _).trans (by kernel_rfl)
theorem Zmk (x2 x10:AV) (H0 H:Hp):ZhL x2 x10 H0 H =
    bnd (Zaa Zmv [x10,(.int .i64 0)] H) fun r38=>
    bnd (aext r38.1 0) fun t39=>
    bnd (aext r38.1 1) fun t40=>
    bnd (aext r38.1 2) fun t41=>
    bnd (ibin .neq t41 (.int .i64 0)) fun t43=>
    cnd t43
     (some ((.tuple [(.str []),(.int .i64 0),t41]),r38.2))
     (ZhM x2 t39 t40 H0 r38.2):=(Za3 [4,7,9,12] _ _ _ _).trans (by kernel_rfl)
theorem ZfL (x2 x10:AV) (H0 H:Hp):ZhK x2 x10 H0 H =
    bnd (sbin .eql x10 (.str [])) fun t35=>
    cnd t35
     (some ((.tuple [(.str []),(.int .i64 0),(.int .i64 5)]),H))
     (ZhL x2 x10 H0 H):=(Za3 [4,7,9,12] _ _ _ _).trans (by kernel_rfl)
theorem ZfK (x0 x1 x2:AV) (H0 H:Hp):ZhJ x0 x1 x2 H0 H =
    bnd (anil x0) fun t22=>
    bnd (Za5 0 t22) fun t23=>
    bnd (Za5 0 t23) fun t24=>
    bnd (Za2 false 1 t24 H) fun t25=>
    bnd (ZfS [t25,x1,x2,(.int .i64 4102)] H) fun r28=>
    bnd (aext r28.1 0) fun t29=>
    bnd (aext r28.1 1) fun t30=>
    bnd (ibin .neq t30 (.int .i64 0)) fun t32=>
    cnd t32
     (some ((.tuple [(.str []),(.int .i64 0),t30]),r28.2))
     (ZhK x2 t29 H0 r28.2):=(Za3 [4,7,9,12] _ _ _ _).trans (by kernel_rfl)
theorem ZfW (p0 p1 p2:AV) (H:Hp):ZcJ [p0,p1,p2] H=Zew p0 p1 p2 H:=(Za9 (C:=cfg) (fn:=Tryz.f86) (c:=Za0 Tryz.f86) (n:=49) [4,7,9,12] Tryz.func86 (by kernel_rfl) (by kernel_rfl) [p0,p1,p2] (by kernel_rfl) H).trans (by kernel_rfl)

def ZgZ (x3:AV) (H0 H:Hp):Res:=CXgS 103 29 (sub (Za0 Tryz.f103) [1,1,1]) (retL cfg 29 103 Tryz.f103 H0) [(3,x3)] H
def Zcl (H0:Hp):KL:=seqL (fun k al H=>CXgS 103 29 (sub (Za0 Tryz.f103) [1,1,1]) k (Za8 (cfg.keep 103) (sub (Za0 Tryz.f103) [1,1,1]) al) H) (retL cfg 29 103 Tryz.f103 H0)
theorem Zkk (H0:Hp):Tame 29 (Zcl H0):=Zan (C:=cfg) (kp:=cfg.keep 103) (sub (Za0 Tryz.f103) [1,1,1]) (Zaq 103 Tryz.f103 H0)
def ZdG (x0 x3 x10 x11 x12:AV) (H0 H:Hp):Res:=CXgS 103 29 (sub (Za0 Tryz.f103) [1,1,0,1,0,0,1,1,1]) (seqL (fun k al H=>LPgS 103 29 (sub (Za0 Tryz.f103) [1,1,0,1,0,0]) k (Za8 (cfg.keep 103) (sub (Za0 Tryz.f103) [1,1,0,1,0,0]) al) H) (Za4 0 (Zcl H0))) [(0,x0),(3,x3),(10,x10),(11,x11),(12,x12)] H
def Zh0 (x0 x3 x10 x11 x12 x13:AV) (H0 H:Hp):Res:=CXgS 103 29 (sub (Za0 Tryz.f103) [1,1,0,1,0,0,1,1]) (seqL (fun k al H=>LPgS 103 29 (sub (Za0 Tryz.f103) [1,1,0,1,0,0]) k (Za8 (cfg.keep 103) (sub (Za0 Tryz.f103) [1,1,0,1,0,0]) al) H) (Za4 0 (Zcl H0))) [(0,x0),(3,x3),(10,x10),(11,x11),(12,x12),(13,x13)] H
def Zcm (x0 x3 x10 x11 x12:AV) (H0 H:Hp):Res:=LPgS 103 29 (sub (Za0 Tryz.f103) [1,1,0,1,0,0]) (Za4 0 (Zcl H0)) [(0,x0),(3,x3),(10,x10),(11,x11),(12,x12)] H
def Zhp (p0:AV) (H:Hp):Res:=
 bnd (anil p0) fun t7=>
 bnd (Za5 0 t7) fun t8=>
 bnd (Za2 false 1 t8 H) fun t9=>
 bnd (roC ZcC [t9] H) fun r10=>
 bnd (Zae (.slice 142) r10.1) fun t11=>
 Zcm p0 (.int .i64 0) r10.1 t11 (.int .i64 0) H r10.2
theorem Zlo (x3:AV) (H0 H:Hp):ZgZ x3 H0 H =
    some (x3,H):=(Za3 [4,7,8] _ _ _ _).trans (by kernel_rfl)
theorem Zfm (x0 x3 x10 x11 x12:AV) (H0 H:Hp):ZdG x0 x3 x10 x11 x12 H0 H =
    bnd (ibin .add x12 (.int .i64 1)) fun t27=>
    Zcm x0 x3 x10 x11 t27 H0 H:=(Za3 [4,7,8] _ _ _ _).trans (by kernel_rfl)
theorem Zlp (x0 x3 x10 x11 x12 x13:AV) (H0 H:Hp):Zh0 x0 x3 x10 x11 x12 x13 H0 H =
    bnd (Zaf 3 x10 x12) fun t14=>
    bnd (Za2 true 3 t14 H) fun t15=>
    bnd (some ((.ptr H.length 0),H++[.cells [(.str []),(.int .i64 0),(.int .i64 0)]])) fun r5=>
    bnd (Zab 3 r5.1 t15 r5.2) fun r_11=>
    bnd (anil x0) fun t17=>
    bnd (Za5 2 t17) fun t18=>
    bnd (Za2 false 1 t18 r_11.2) fun t19=>
    bnd (Za5 0 r5.1) fun t20=>
    bnd (Za2 false 1 t20 r_11.2) fun t21=>
    bnd (Zaa Zb4 [t19,t21] r_11.2) fun r22=>
    cnd r22.1
     (bnd (Za5 1 r5.1) fun t24=>
     bnd (Za2 false 1 t24 r22.2) fun t25=>
     bnd (ibin .add x3 t25) fun t26=>
     ZdG x0 t26 x10 x11 x12 H0 r22.2)
     (ZdG x0 x3 x10 x11 x12 H0 r22.2):=(Za3 [4,7,8] _ _ _ _).trans (by kernel_rfl)
theorem Zfn (x0 x3 x10 x11 x12:AV) (H0 H:Hp):Zcm x0 x3 x10 x11 x12 H0 H =
    bnd (ibin .lss x12 x11) fun t13=>
    cnd t13
     (Zh0 x0 x3 x10 x11 x12 t13 H0 H)
     (ZgZ x3 H0 H):=(Zar (C:=cfg) [4,7,8] (Zag 0 (Zkk H0)) _ _).trans (by kernel_rfl)
theorem ZlU (p0:AV) (H:Hp):Zcy [p0] H=Zhp p0 H:=(Za9 (C:=cfg) (fn:=Tryz.f103) (c:=Za0 Tryz.f103) (n:=29) [4,7,8] Tryz.func103 (by kernel_rfl) (by kernel_rfl) [p0] (by kernel_rfl) H).trans (by kernel_rfl)

def Zlz (p0:AV) (H:Hp):Res:=
 bnd (sbin .add (.str [46,116,109,112,46]) p0) fun t4=>
 bnd (sbin .add t4 (.str [46])) fun t5=>
 some (t5,H)
theorem Zqw (p0:AV) (H:Hp):Zeg [p0] H=Zlz p0 H:=(Za9 (C:=cfg) (fn:=Tryz.f114) (c:=Za0 Tryz.f114) (n:=6) [] Tryz.func114 (by kernel_rfl) (by kernel_rfl) [p0] (by kernel_rfl) H).trans (by kernel_rfl)

def ZjV (x6:AV) (H0 H:Hp):Res:=CXgS 116 20 (sub (Za0 Tryz.f116) [1,1,1,1,1]) (retL cfg 20 116 Tryz.f116 H0) [(6,x6)] H
def ZjU (x0 x1:AV) (H0 H:Hp):Res:=CXgS 116 20 (sub (Za0 Tryz.f116) [1,1,1]) (retL cfg 20 116 Tryz.f116 H0) [(0,x0),(1,x1)] H
def ZjT (x0 x1:AV) (H0 H:Hp):Res:=CXgS 116 20 (sub (Za0 Tryz.f116) [1,1]) (retL cfg 20 116 Tryz.f116 H0) [(0,x0),(1,x1)] H
def ZkE (p0 p1:AV) (H:Hp):Res:=
 bnd (ebin (.pointer 120) .eql p0 .nilp) fun t8=>
 cnd t8
  (some ((.tuple [.nilp,(.int .i64 5)]),H))
  (ZjT p0 p1 H H)
theorem Zpv (x6:AV) (H0 H:Hp):ZjV x6 H0 H =
    some ((.tuple [x6,(.int .i64 0)]),H):=(Za3 [3,5,8] _ _ _ _).trans (by kernel_rfl)
theorem ZhH (x0 x1:AV) (H0 H:Hp):ZjU x0 x1 H0 H =
    bnd (anil x0) fun t12=>
    bnd (Za5 3 t12) fun t13=>
    bnd (Za2 false 1 t13 H) fun t14=>
    bnd (ZaK .string .nilp false t14 x1 H) fun t16=>
    bnd (ebin (.pointer 131) .eql t16 .nilp) fun t18=>
    cnd t18
     (some ((.tuple [.nilp,(.int .i64 5)]),H))
     (ZjV t16 H0 H):=(Za3 [3,5,8] _ _ _ _).trans (by kernel_rfl)
theorem Zed (x0 x1:AV) (H0 H:Hp):ZjT x0 x1 H0 H =
    bnd (Zdu [x0] H) fun r10=>
    cnd r10.1
     (some ((.tuple [.nilp,(.int .i64 19)]),r10.2))
     (ZjU x0 x1 H0 r10.2):=(Za3 [3,5,8] _ _ _ _).trans (by kernel_rfl)
theorem ZpP (p0 p1:AV) (H:Hp):ZcD [p0,p1] H=ZkE p0 p1 H:=(Za9 (C:=cfg) (fn:=Tryz.f116) (c:=Za0 Tryz.f116) (n:=20) [3,5,8] Tryz.func116 (by kernel_rfl) (by kernel_rfl) [p0,p1] (by kernel_rfl) H).trans (by kernel_rfl)

def Zt0 (p0:AV) (H:Hp):Res:=
 bnd (sumC Zuv [p0] H) fun r4=>
 some (r4.1,r4.2)
theorem Zwp (p0:AV) (H:Hp):ZmA [p0] H=Zt0 p0 H:=(Za9 (C:=cfg) (fn:=Tryz.f118) (c:=Za0 Tryz.f118) (n:=5) [] Tryz.func118 (by kernel_rfl) (by kernel_rfl) [p0] (by kernel_rfl) H).trans (by kernel_rfl)

def ZeD (x0 x1:AV) (H0 H:Hp):Res:=CXgS 119 46 (sub (Za0 Tryz.f119) [1,1,1]) (retL cfg 46 119 Tryz.f119 H0) [(0,x0),(1,x1)] H
def Zit (x0 x1:AV) (H0 H:Hp):Res:=CXgS 119 46 (sub (Za0 Tryz.f119) [1,1]) (retL cfg 46 119 Tryz.f119 H0) [(0,x0),(1,x1)] H
def ZiH (p0 p1:AV) (H:Hp):Res:=
 bnd (ebin (.pointer 120) .eql p0 .nilp) fun t7=>
 cnd t7
  (some ((.int .i64 5),H))
  (bnd (Zdu [p0] H) fun r10=>
  cnd r10.1
   (some ((.int .i64 19),r10.2))
   (bnd (Zaa Zi2 [p1] r10.2) fun r13=>
   bnd (aun .not r13.1) fun t14=>
   cnd t14
    (some ((.int .i64 4),r13.2))
    (bnd (anil p0) fun t17=>
    bnd (Za5 3 t17) fun t18=>
    bnd (Za2 false 1 t18 r13.2) fun t19=>
    bnd (ZaK .string .nilp false t19 p1 r13.2) fun t21=>
    bnd (ebin (.pointer 131) .neq t21 .nilp) fun t22=>
    cnd t22
     (some ((.int .i64 6),r13.2))
     (bnd (anil p0) fun t25=>
     bnd (Za5 3 t25) fun t26=>
     bnd (Za2 false 1 t26 r13.2) fun t27=>
     bnd (ZeS t27 r13.2) fun t28=>
     bnd (ibin .geq t28 (.int .i64 64)) fun t29=>
     cnd t29
      (some ((.int .i64 3),r13.2))
      (Zit p0 p1 H r13.2)))))
theorem ZnE (x0 x1:AV) (H0 H:Hp):ZeD x0 x1 H0 H =
    bnd (anil x0) fun t40=>
    bnd (Za5 3 t40) fun t41=>
    bnd (Za2 false 1 t41 H) fun t42=>
    bnd (some (.agg [.nils,(.int .i64 0)])) fun t44=>
    bnd (abox t44 H) fun r45=>
    bnd (ZbD .string t42 x1 r45.1 r45.2) fun r_6=>
    some ((.int .i64 0),r_6.2):=(Za3 [11,13] _ _ _ _).trans (by kernel_rfl)
theorem ZnD (x0 x1:AV) (H0 H:Hp):Zit x0 x1 H0 H =
    bnd (anil x0) fun t31=>
    bnd (Za5 3 t31) fun t32=>
    bnd (Za2 false 1 t32 H) fun t33=>
    bnd (ebin (.map 9 129) .eql t33 .nilm) fun t34=>
    cnd t34
     (bnd (some ((.map H.length),H++[.map [] 0])) fun r36=>
     bnd (anil x0) fun t37=>
     bnd (Za5 3 t37) fun t38=>
     bnd (Zab 1 t38 r36.1 r36.2) fun r_14=>
     ZeD x0 x1 H0 r_14.2)
     (ZeD x0 x1 H0 H):=(Za3 [11,13] _ _ _ _).trans (by kernel_rfl)
theorem ZnQ (p0 p1:AV) (H:Hp):ZeO [p0,p1] H=ZiH p0 p1 H:=(Za9 (C:=cfg) (fn:=Tryz.f119) (c:=Za0 Tryz.f119) (n:=46) [11,13] Tryz.func119 (by kernel_rfl) (by kernel_rfl) [p0,p1] (by kernel_rfl) H).trans (by kernel_rfl)

def ZhP (H0 H:Hp):Res:=CXgS 120 22 (sub (Za0 Tryz.f120) [1,1]) (retL cfg 22 120 Tryz.f120 H0) [] H
def Zik (p0 p1:AV) (H:Hp):Res:=
 bnd (ebin (.pointer 117) .eql p0 .nilp) fun t7=>
 cnd t7
  (some ((.int .i64 5),H))
  (bnd (anil p0) fun t10=>
  bnd (Za5 6 t10) fun t11=>
  bnd (Za2 false 1 t11 H) fun t12=>
  cnd t12
   (some ((.int .i64 8),H))
   (bnd (anil p0) fun t15=>
   bnd (Za5 0 t15) fun t16=>
   bnd (Za5 2 t16) fun t17=>
   bnd (Za2 false 1 t17 H) fun t18=>
   bnd (Zaa Zb4 [t18,p1] H) fun r20=>
   bnd (aun .not r20.1) fun t21=>
   cnd t21
    (some ((.int .i64 5),r20.2))
    (ZhP H r20.2)))
theorem Zmn (H0 H:Hp):ZhP H0 H =
    some ((.int .i64 0),H):=(Za3 [7] _ _ _ _).trans (by kernel_rfl)
theorem ZmJ (p0 p1:AV) (H:Hp):ZbO [p0,p1] H=Zik p0 p1 H:=(Za9 (C:=cfg) (fn:=Tryz.f120) (c:=Za0 Tryz.f120) (n:=22) [7] Tryz.func120 (by kernel_rfl) (by kernel_rfl) [p0,p1] (by kernel_rfl) H).trans (by kernel_rfl)

def Zot (x4:AV) (H0 H:Hp):Res:=CXgS 121 27 (sub (Za0 Tryz.f121) [1,1,1]) (retL cfg 27 121 Tryz.f121 H0) [(4,x4)] H
def ZdW (H0:Hp):KL:=seqL (fun k al H=>CXgS 121 27 (sub (Za0 Tryz.f121) [1,1,1]) k (Za8 (cfg.keep 121) (sub (Za0 Tryz.f121) [1,1,1]) al) H) (retL cfg 27 121 Tryz.f121 H0)
theorem Zr0 (H0:Hp):Tame 27 (ZdW H0):=Zan (C:=cfg) (kp:=cfg.keep 121) (sub (Za0 Tryz.f121) [1,1,1]) (Zaq 121 Tryz.f121 H0)
def Zov (x4 x9 x10 x11:AV) (H0 H:Hp):Res:=CXgS 121 27 (sub (Za0 Tryz.f121) [1,1,0,1,0,0,1,1,1]) (seqL (fun k al H=>LPgS 121 27 (sub (Za0 Tryz.f121) [1,1,0,1,0,0]) k (Za8 (cfg.keep 121) (sub (Za0 Tryz.f121) [1,1,0,1,0,0]) al) H) (Za4 0 (ZdW H0))) [(4,x4),(9,x9),(10,x10),(11,x11)] H
def Zxt (H0:Hp):KL:=seqL (fun k al H=>CXgS 121 27 (sub (Za0 Tryz.f121) [1,1,0,1,0,0,1,1,1]) k (Za8 (cfg.keep 121) (sub (Za0 Tryz.f121) [1,1,0,1,0,0,1,1,1]) al) H) (seqL (fun k al H=>LPgS 121 27 (sub (Za0 Tryz.f121) [1,1,0,1,0,0]) k (Za8 (cfg.keep 121) (sub (Za0 Tryz.f121) [1,1,0,1,0,0]) al) H) (Za4 0 (ZdW H0)))
def Zow (x4 x7 x9 x10 x11:AV) (H0 H:Hp):Res:=CXgS 121 27 (sub (Za0 Tryz.f121) [1,1,0,1,0,0,1,1,0,0,1,1,1]) (Za4 1 (Zxt H0)) [(4,x4),(7,x7),(9,x9),(10,x10),(11,x11)] H
def Zou (x4 x9 x10 x11 x12:AV) (H0 H:Hp):Res:=CXgS 121 27 (sub (Za0 Tryz.f121) [1,1,0,1,0,0,1,1]) (seqL (fun k al H=>LPgS 121 27 (sub (Za0 Tryz.f121) [1,1,0,1,0,0]) k (Za8 (cfg.keep 121) (sub (Za0 Tryz.f121) [1,1,0,1,0,0]) al) H) (Za4 0 (ZdW H0))) [(4,x4),(9,x9),(10,x10),(11,x11),(12,x12)] H
def ZfC (x4 x9 x10 x11:AV) (H0 H:Hp):Res:=LPgS 121 27 (sub (Za0 Tryz.f121) [1,1,0,1,0,0]) (Za4 0 (ZdW H0)) [(4,x4),(9,x9),(10,x10),(11,x11)] H
def ZpC (p0:AV) (H:Hp):Res:=
 bnd (some ((.ptr H.length 0),H++[.bld 192 5 []])) fun r4=>
 bnd (Zae (.slice 9) p0) fun t10=>
 ZfC r4.1 p0 t10 (.int .i64 0) H r4.2
theorem ZtL (x4:AV) (H0 H:Hp):Zot x4 H0 H =
    bnd (Zms.run [x4] H) fun r26=>
    some ((.tuple [r26.1,(.int .i64 0)]),r26.2):=(Za3 [4,8,9,10] _ _ _ _).trans (by kernel_rfl)
theorem ZtM (x4 x9 x10 x11:AV) (H0 H:Hp):Zov x4 x9 x10 x11 H0 H =
    bnd (ibin .add x11 (.int .i64 1)) fun t25=>
    ZfC x4 x9 x10 t25 H0 H:=(Za3 [4,8,9,10] _ _ _ _).trans (by kernel_rfl)
theorem ZtN (x4 x7 x9 x10 x11:AV) (H0 H:Hp):Zow x4 x7 x9 x10 x11 H0 H =
    bnd (Zy6.run [x4,x7] H) fun r24=>
    Zov x4 x9 x10 x11 H0 r24.2:=(Za3 [4,8,9,10] _ _ _ _).trans (by kernel_rfl)
theorem ZkM (x4 x9 x10 x11 x12:AV) (H0 H:Hp):Zou x4 x9 x10 x11 x12 H0 H =
    bnd (Zaf 1 x9 x11) fun t13=>
    bnd (Za2 false 1 t13 H) fun t14=>
    bnd (Zaa ZjX [t14] H) fun r17=>
    bnd (aext r17.1 0) fun t18=>
    bnd (aext r17.1 1) fun t19=>
    bnd (ibin .neq t19 (.int .i64 0)) fun t21=>
    cnd t21
     (some ((.tuple [(.str []),t19]),r17.2))
     (Zow x4 t18 x9 x10 x11 H0 r17.2):=(Za3 [4,8,9,10] _ _ _ _).trans (by kernel_rfl)
theorem ZkN (x4 x9 x10 x11:AV) (H0 H:Hp):ZfC x4 x9 x10 x11 H0 H =
    bnd (ibin .lss x11 x10) fun t12=>
    cnd t12
     (Zou x4 x9 x10 x11 t12 H0 H)
     (Zot x4 H0 H):=(Zar (C:=cfg) [4,8,9,10] (Zag 0 (Zr0 H0)) _ _).trans (by kernel_rfl)
theorem ZuC (p0:AV) (H:Hp):ZjW [p0] H=ZpC p0 H:=(Za9 (C:=cfg) (fn:=Tryz.f121) (c:=Za0 Tryz.f121) (n:=27) [4,8,9,10] Tryz.func121 (by kernel_rfl) (by kernel_rfl) [p0] (by kernel_rfl) H).trans (by kernel_rfl)

def Zis (x0 x2 x7:AV) (H0 H:Hp):Res:=CXgS 122 60 (sub (Za0 Tryz.f122) [1,1,1,1]) (retL cfg 60 122 Tryz.f122 H0) [(0,x0),(2,x2),(7,x7)] H
def Zir (x0 x2 x7:AV) (H0 H:Hp):Res:=CXgS 122 60 (sub (Za0 Tryz.f122) [1,1,1]) (retL cfg 60 122 Tryz.f122 H0) [(0,x0),(2,x2),(7,x7)] H
def ZiG (p0 p1 p2:AV) (H:Hp):Res:=
 bnd (ZcD [p0,p1] H) fun r12=>
 bnd (aext r12.1 0) fun t13=>
 bnd (aext r12.1 1) fun t14=>
 bnd (ibin .neq t14 (.int .i64 0)) fun t16=>
 cnd t16
  (some (t14,r12.2))
  (Zir p0 p2 t13 H r12.2)
theorem ZnC (x0 x2 x7:AV) (H0 H:Hp):Zis x0 x2 x7 H0 H =
    bnd (anil x7) fun t32=>
    bnd (Za5 0 t32) fun t33=>
    bnd (Za2 false 1 t33 H) fun t34=>
    bnd (ZaH 1 1 t34 x2 H) fun r36=>
    bnd (anil x7) fun t37=>
    bnd (Za5 0 t37) fun t38=>
    bnd (Zab 1 t38 r36.1 r36.2) fun r_10=>
    bnd (anil x0) fun t40=>
    bnd (Za5 1 t40) fun t41=>
    bnd (Za2 false 1 t41 r_10.2) fun t42=>
    bnd (Zae .string x2) fun t44=>
    bnd (ibin .add t42 t44) fun t45=>
    bnd (anil x0) fun t46=>
    bnd (Za5 1 t46) fun t47=>
    bnd (Zab 1 t47 t45 r_10.2) fun r_18=>
    bnd (anil x0) fun t50=>
    bnd (Za5 2 t50) fun t51=>
    bnd (Za2 false 1 t51 r_18.2) fun t52=>
    bnd (anil x0) fun t54=>
    bnd (Za5 1 t54) fun t55=>
    bnd (Za2 false 1 t55 r_18.2) fun t56=>
    bnd (ZhY t52 t56) fun t57=>
    bnd (anil x0) fun t58=>
    bnd (Za5 2 t58) fun t59=>
    bnd (Zab 1 t59 t57 r_18.2) fun r_28=>
    some ((.int .i64 0),r_28.2):=(Za3 [4,6] _ _ _ _).trans (by kernel_rfl)
theorem Zga (x0 x2 x7:AV) (H0 H:Hp):Zir x0 x2 x7 H0 H =
    bnd (anil x0) fun t19=>
    bnd (Za5 1 t19) fun t20=>
    bnd (Za2 false 1 t20 H) fun t21=>
    bnd (Zae .string x2) fun t23=>
    bnd (ibin .add t21 t23) fun t24=>
    bnd (anil x0) fun t26=>
    bnd (Za5 0 t26) fun t27=>
    bnd (Za2 false 1 t27 H) fun t28=>
    bnd (ibin .gtr t24 t28) fun t29=>
    cnd t29
     (some ((.int .i64 12),H))
     (Zis x0 x2 x7 H0 H):=(Za3 [4,6] _ _ _ _).trans (by kernel_rfl)
theorem ZnP (p0 p1 p2:AV) (H:Hp):ZeN [p0,p1,p2] H=ZiG p0 p1 p2 H:=(Za9 (C:=cfg) (fn:=Tryz.f122) (c:=Za0 Tryz.f122) (n:=60) [4,6] Tryz.func122 (by kernel_rfl) (by kernel_rfl) [p0,p1,p2] (by kernel_rfl) H).trans (by kernel_rfl)

def Zfw (x6:AV) (H0 H:Hp):Res:=CXgS 123 24 (sub (Za0 Tryz.f123) [1,1,1]) (retL cfg 24 123 Tryz.f123 H0) [(6,x6)] H
def ZkD (p0 p1:AV) (H:Hp):Res:=
 bnd (ZcD [p0,p1] H) fun r10=>
 bnd (aext r10.1 0) fun t11=>
 bnd (aext r10.1 1) fun t12=>
 bnd (ibin .eql t12 (.int .i64 0)) fun t14=>
 cnd t14
  (bnd (anil t11) fun t17=>
  bnd (Za5 0 t17) fun t18=>
  bnd (Za2 false 1 t18 r10.2) fun t19=>
  bnd (Zae (.slice 5) t19) fun t20=>
  bnd (anil t11) fun t21=>
  bnd (Za5 1 t21) fun t22=>
  bnd (Zab 1 t22 t20 r10.2) fun r_11=>
  Zfw t12 H r_11.2)
  (Zfw t12 H r10.2)
theorem Zec (x6:AV) (H0 H:Hp):Zfw x6 H0 H =
    some (x6,H):=(Za3 [4] _ _ _ _).trans (by kernel_rfl)
theorem ZpO (p0 p1:AV) (H:Hp):ZfT [p0,p1] H=ZkD p0 p1 H:=(Za9 (C:=cfg) (fn:=Tryz.f123) (c:=Za0 Tryz.f123) (n:=24) [4] Tryz.func123 (by kernel_rfl) (by kernel_rfl) [p0,p1] (by kernel_rfl) H).trans (by kernel_rfl)

def ZjS (x2 x3 x10:AV) (H0 H:Hp):Res:=CXgS 124 54 (sub (Za0 Tryz.f124) [1,1,1,1]) (retL cfg 54 124 Tryz.f124 H0) [(2,x2),(3,x3),(10,x10)] H
def ZjR (x2 x3 x10:AV) (H0 H:Hp):Res:=CXgS 124 54 (sub (Za0 Tryz.f124) [1,1,1]) (retL cfg 54 124 Tryz.f124 H0) [(2,x2),(3,x3),(10,x10)] H
def ZkC (p0 p1 p2 p3:AV) (H:Hp):Res:=
 bnd (ZcD [p0,p1] H) fun r15=>
 bnd (aext r15.1 0) fun t16=>
 bnd (aext r15.1 1) fun t17=>
 bnd (ibin .neq t17 (.int .i64 0)) fun t19=>
 cnd t19
  (some ((.tuple [(.str []),t17]),r15.2))
  (ZjR p2 p3 t16 H r15.2)
theorem Zpu (x2 x3 x10:AV) (H0 H:Hp):ZjS x2 x3 x10 H0 H =
    bnd (anil x10) fun t37=>
    bnd (Za5 0 t37) fun t38=>
    bnd (Za2 false 1 t38 H) fun t39=>
    bnd (anil x10) fun t44=>
    bnd (Za5 0 t44) fun t45=>
    bnd (Za2 false 1 t45 H) fun t46=>
    bnd (Zae (.slice 5) t46) fun t47=>
    bnd (ibin .sub t47 x2) fun t49=>
    bnd (ZdQ x3 t49) fun t50=>
    bnd (ibin .add x2 t50) fun t51=>
    bnd (Zb1 1 t39 (some x2) (some t51) none) fun t52=>
    bnd (cvRd t52 H) fun t53=>
    some ((.tuple [t53,(.int .i64 0)]),H):=(Za3 [4,6] _ _ _ _).trans (by kernel_rfl)
theorem Zpt (x2 x3 x10:AV) (H0 H:Hp):ZjR x2 x3 x10 H0 H =
    bnd (ibin .lss x2 (.int .i64 0)) fun t22=>
    bnd (gdv t22 false (.tuple []) (some x2)) fun t24=>
    bnd (gdv t22 false (.tuple []) (some x10)) fun t25=>
    bnd (gdv t22 false (.tuple []) (anil t25)) fun t26=>
    bnd (gdv t22 false (.tuple []) (Za5 0 t26)) fun t27=>
    bnd (gdv t22 false (.tuple []) (Za2 false 1 t27 H)) fun t28=>
    bnd (gdv t22 false (.tuple []) (Zae (.slice 5) t28)) fun t29=>
    bnd (gdv t22 false (.tuple []) (ibin .gtr t24 t29)) fun t30=>
    bnd (Zad t22 (.bool true) t30) fun t31=>
    bnd (gdv t31 false (.tuple []) (some x3)) fun t33=>
    bnd (gdv t31 false (.tuple []) (ibin .lss t33 (.int .i64 0))) fun t34=>
    bnd (Zad t31 (.bool true) t34) fun t35=>
    cnd t35
     (some ((.tuple [(.str []),(.int .i64 2)]),H))
     (ZjS x2 x3 x10 H0 H):=(Za3 [4,6] _ _ _ _).trans (by kernel_rfl)
theorem ZpN (p0 p1 p2 p3:AV) (H:Hp):ZfS [p0,p1,p2,p3] H=ZkC p0 p1 p2 p3 H:=(Za9 (C:=cfg) (fn:=Tryz.f124) (c:=Za0 Tryz.f124) (n:=54) [4,6] Tryz.func124 (by kernel_rfl) (by kernel_rfl) [p0,p1,p2,p3] (by kernel_rfl) H).trans (by kernel_rfl)

def ZrV (x1 x7 x8:AV) (H0 H:Hp):Res:=CXgS 125 58 (sub (Za0 Tryz.f125) [1,1,1,1,1,1,1,1]) (retL cfg 58 125 Tryz.f125 H0) [(1,x1),(7,x7),(8,x8)] H
def ZrU (x1 x7 x8:AV) (H0 H:Hp):Res:=CXgS 125 58 (sub (Za0 Tryz.f125) [1,1,1,1,1,1,1]) (retL cfg 58 125 Tryz.f125 H0) [(1,x1),(7,x7),(8,x8)] H
def ZrT (x1 x7 x8:AV) (H0 H:Hp):Res:=CXgS 125 58 (sub (Za0 Tryz.f125) [1,1,1,1,1,1]) (retL cfg 58 125 Tryz.f125 H0) [(1,x1),(7,x7),(8,x8)] H
def ZrS (x1 x7:AV) (H0 H:Hp):Res:=CXgS 125 58 (sub (Za0 Tryz.f125) [1,1,1,1]) (retL cfg 58 125 Tryz.f125 H0) [(1,x1),(7,x7)] H
def ZrR (x0 x1:AV) (H0 H:Hp):Res:=CXgS 125 58 (sub (Za0 Tryz.f125) [1,1]) (retL cfg 58 125 Tryz.f125 H0) [(0,x0),(1,x1)] H
def ZsX (p0 p1:AV) (H:Hp):Res:=
 bnd (ibin .lss p1 (.int .i64 0)) fun t10=>
 bnd (gdv t10 false (.tuple []) (some p1)) fun t12=>
 bnd (gdv t10 false (.tuple []) (some p0)) fun t13=>
 bnd (gdv t10 false (.tuple []) (Zae .string t13)) fun t14=>
 bnd (gdv t10 false (.tuple []) (ibin .gtr t12 t14)) fun t15=>
 bnd (Zad t10 (.bool true) t15) fun t16=>
 cnd t16
  (some ((.tuple [(.str []),(.int .i64 0),(.int .i64 2)]),H))
  (ZrR p0 p1 H H)
theorem ZvX (x1 x7 x8:AV) (H0 H:Hp):ZrV x1 x7 x8 H0 H =
    bnd (ibin .add x8 (.int .i64 2)) fun t52=>
    bnd (ZaL x7 (some (.int .i64 2)) (some t52) none) fun t53=>
    bnd (ibin .add x1 x8) fun t56=>
    bnd (ibin .add t56 (.int .i64 6)) fun t57=>
    some ((.tuple [t53,t57,(.int .i64 0)]),H):=(Za3 [3,6,9,11,13] _ _ _ _).trans (by kernel_rfl)
theorem ZvW (x1 x7 x8:AV) (H0 H:Hp):ZrU x1 x7 x8 H0 H =
    bnd (ibin .add x8 (.int .i64 2)) fun t40=>
    bnd (ibin .add x8 (.int .i64 6)) fun t42=>
    bnd (ZaL x7 (some t40) (some t42) none) fun t43=>
    bnd (ibin .add x8 (.int .i64 2)) fun t46=>
    bnd (ZaL x7 none (some t46) none) fun t47=>
    bnd (Zaa Zkn [t47] H) fun r48=>
    bnd (sbin .neq t43 r48.1) fun t49=>
    cnd t49
     (some ((.tuple [(.str []),(.int .i64 0),(.int .i64 13)]),r48.2))
     (ZrV x1 x7 x8 H0 r48.2):=(Za3 [3,6,9,11,13] _ _ _ _).trans (by kernel_rfl)
theorem ZvV (x1 x7 x8:AV) (H0 H:Hp):ZrT x1 x7 x8 H0 H =
    bnd (Zae .string x7) fun t34=>
    bnd (ibin .add x8 (.int .i64 6)) fun t36=>
    bnd (ibin .lss t34 t36) fun t37=>
    cnd t37
     (some ((.tuple [(.str []),(.int .i64 0),(.int .i64 14)]),H))
     (ZrU x1 x7 x8 H0 H):=(Za3 [3,6,9,11,13] _ _ _ _).trans (by kernel_rfl)
theorem ZvU (x1 x7:AV) (H0 H:Hp):ZrS x1 x7 H0 H =
    bnd (Zal x7 (.int .i64 0)) fun t24=>
    bnd (Zbl .i64 t24) fun t25=>
    bnd (ibin .shl t25 (.int .u64 8)) fun t26=>
    bnd (Zal x7 (.int .i64 1)) fun t28=>
    bnd (Zbl .i64 t28) fun t29=>
    bnd (ibin .or t26 t29) fun t30=>
    bnd (ibin .gtr t30 (.int .i64 4096)) fun t32=>
    cnd t32
     (some ((.tuple [(.str []),(.int .i64 0),(.int .i64 13)]),H))
     (ZrT x1 x7 t30 H0 H):=(Za3 [3,6,9,11,13] _ _ _ _).trans (by kernel_rfl)
theorem ZvT (x0 x1:AV) (H0 H:Hp):ZrR x0 x1 H0 H =
    bnd (ZaL x0 (some x1) none none) fun t19=>
    bnd (Zae .string t19) fun t21=>
    bnd (ibin .lss t21 (.int .i64 2)) fun t22=>
    cnd t22
     (some ((.tuple [(.str []),(.int .i64 0),(.int .i64 14)]),H))
     (ZrS x1 t19 H0 H):=(Za3 [3,6,9,11,13] _ _ _ _).trans (by kernel_rfl)
theorem Zwn (p0 p1:AV) (H:Hp):Zmv [p0,p1] H=ZsX p0 p1 H:=(Za9 (C:=cfg) (fn:=Tryz.f125) (c:=Za0 Tryz.f125) (n:=58) [3,6,9,11,13] Tryz.func125 (by kernel_rfl) (by kernel_rfl) [p0,p1] (by kernel_rfl) H).trans (by kernel_rfl)

def ZcR (p0 p1:AV) (H:Hp):Res:=
 bnd (Zaa Zc0 [p0,p1] H) fun r7=>
 bnd (ibin .geq r7.1 (.int .i64 0)) fun t8=>
 some (t8,r7.2)
theorem ZfN (p0 p1:AV) (H:Hp):Zb4 [p0,p1] H=ZcR p0 p1 H:=(Za9 (C:=cfg) (fn:=Tryz.f146) (c:=Za0 Tryz.f146) (n:=9) [] Tryz.func146 (by kernel_rfl) (by kernel_rfl) [p0,p1] (by kernel_rfl) H).trans (by kernel_rfl)

def Zcd (x0:AV) (H0 H:Hp):Res:=CXgS 167 37 (sub (Za0 Tryz.f167) [1,1]) (retL cfg 37 167 Tryz.f167 H0) [(0,x0)] H
def Zju (p0:AV) (H:Hp):Res:=
 bnd (anil p0) fun t5=>
 bnd (Za5 4 t5) fun t6=>
 bnd (Za2 false 1 t6 H) fun t7=>
 cnd t7
  (Zcd p0 H H)
  (bnd (anil p0) fun t10=>
  bnd (Za5 5 t10) fun t11=>
  bnd (Za2 false 1 t11 H) fun t12=>
  bnd (ibin .eql t12 (.int .i64 1)) fun t13=>
  cnd t13
   (bnd (anil p0) fun t16=>
   bnd (Za5 4 t16) fun t17=>
   bnd (Zab 1 t17 (.bool true) H) fun r_13=>
   bnd (anil p0) fun t18=>
   bnd (Za5 5 t18) fun t19=>
   bnd (Zab 1 t19 (.int .i64 0) r_13.2) fun r_16=>
   Zcd p0 H r_16.2)
   (bnd (anil p0) fun t22=>
   bnd (Za5 5 t22) fun t23=>
   bnd (Za2 false 1 t23 H) fun t24=>
   bnd (ibin .gtr t24 (.int .i64 1)) fun t25=>
   cnd t25
    (bnd (anil p0) fun t27=>
    bnd (Za5 5 t27) fun t28=>
    bnd (Za2 false 1 t28 H) fun t29=>
    bnd (ibin .sub t29 (.int .i64 1)) fun t30=>
    bnd (anil p0) fun t31=>
    bnd (Za5 5 t31) fun t32=>
    bnd (Zab 1 t32 t30 H) fun r_27=>
    Zcd p0 H r_27.2)
    (Zcd p0 H H)))
theorem Zck (x0:AV) (H0 H:Hp):Zcd x0 H0 H =
    bnd (anil x0) fun t34=>
    bnd (Za5 4 t34) fun t35=>
    bnd (Za2 false 1 t35 H) fun t36=>
    some (t36,H):=(Za3 [6] _ _ _ _).trans (by kernel_rfl)
theorem Zp3 (p0:AV) (H:Hp):Zdu [p0] H=Zju p0 H:=(Za9 (C:=cfg) (fn:=Tryz.f167) (c:=Za0 Tryz.f167) (n:=37) [6] Tryz.func167 (by kernel_rfl) (by kernel_rfl) [p0] (by kernel_rfl) H).trans (by kernel_rfl)

def Zhd (x0:AV) (H0 H:Hp):Res:=CXgS 169 58 (sub (Za0 Tryz.f169) [1,1]) (retL cfg 58 169 Tryz.f169 H0) [(0,x0)] H
def Zep (H0:Hp):KL:=seqL (fun k al H=>CXgS 169 58 (sub (Za0 Tryz.f169) [1,1]) k (Za8 (cfg.keep 169) (sub (Za0 Tryz.f169) [1,1]) al) H) (retL cfg 58 169 Tryz.f169 H0)
theorem Zpw (H0:Hp):Tame 58 (Zep H0):=Zan (C:=cfg) (kp:=cfg.keep 169) (sub (Za0 Tryz.f169) [1,1]) (Zaq 169 Tryz.f169 H0)
def Zhf (x0 x7 x8:AV) (H0 H:Hp):Res:=CXgS 169 58 (sub (Za0 Tryz.f169) [1,0,1,0,0,1,1,1]) (seqL (fun k al H=>LPgS 169 58 (sub (Za0 Tryz.f169) [1,0,1,0,0]) k (Za8 (cfg.keep 169) (sub (Za0 Tryz.f169) [1,0,1,0,0]) al) H) (Za4 0 (Zep H0))) [(0,x0),(7,x7),(8,x8)] H
def Zhe (x0 x7 x8 x9:AV) (H0 H:Hp):Res:=CXgS 169 58 (sub (Za0 Tryz.f169) [1,0,1,0,0,1,1]) (seqL (fun k al H=>LPgS 169 58 (sub (Za0 Tryz.f169) [1,0,1,0,0]) k (Za8 (cfg.keep 169) (sub (Za0 Tryz.f169) [1,0,1,0,0]) al) H) (Za4 0 (Zep H0))) [(0,x0),(7,x7),(8,x8),(9,x9)] H
def Zeq (x0 x7 x8:AV) (H0 H:Hp):Res:=LPgS 169 58 (sub (Za0 Tryz.f169) [1,0,1,0,0]) (Za4 0 (Zep H0)) [(0,x0),(7,x7),(8,x8)] H
def ZmH (p0:AV) (H:Hp):Res:=
 bnd (Zae .string p0) fun t7=>
 Zeq p0 t7 (.int .i64 0) H H
theorem Zrm (x0:AV) (H0 H:Hp):Zhd x0 H0 H =
    bnd (sbin .neq x0 (.str [])) fun t52=>
    bnd (gdv t52 true (.tuple []) (some x0)) fun t54=>
    bnd (gdv t52 true (.tuple []) (Zae .string t54)) fun t55=>
    bnd (gdv t52 true (.tuple []) (ibin .leq t55 (.int .i64 32))) fun t56=>
    bnd (Zad t52 t56 (.bool false)) fun t57=>
    some (t57,H):=(Za3 [3,8,9] _ _ _ _).trans (by kernel_rfl)
theorem Zjo (x0 x7 x8:AV) (H0 H:Hp):Zhf x0 x7 x8 H0 H =
    bnd (ibin .add x8 (.int .i64 1)) fun t50=>
    Zeq x0 x7 t50 H0 H:=(Za3 [3,8,9] _ _ _ _).trans (by kernel_rfl)
theorem Zrn (x0 x7 x8 x9:AV) (H0 H:Hp):Zhe x0 x7 x8 x9 H0 H =
    bnd (Zal x0 x8) fun t13=>
    bnd (ibin .geq t13 (.int .u8 97)) fun t15=>
    bnd (gdv t15 true (.tuple []) (some t13)) fun t17=>
    bnd (gdv t15 true (.tuple []) (ibin .leq t17 (.int .u8 122))) fun t18=>
    bnd (Zad t15 t18 (.bool false)) fun t19=>
    bnd (gdv t19 false (.tuple []) (some t13)) fun t21=>
    bnd (gdv t19 false (.tuple []) (ibin .geq t21 (.int .u8 65))) fun t22=>
    bnd (gdv t19 false (.tuple []) (some t22)) fun t23=>
    bnd (gdv t23 true (.tuple []) (some t13)) fun t24=>
    bnd (gdv t23 true (.tuple []) (ibin .leq t24 (.int .u8 90))) fun t25=>
    bnd (gdv t19 false (.tuple []) (Zad t23 t25 (.bool false))) fun t26=>
    bnd (Zad t19 (.bool true) t26) fun t27=>
    bnd (gdv t27 false (.tuple []) (some t13)) fun t29=>
    bnd (gdv t27 false (.tuple []) (ibin .eql t29 (.int .u8 95))) fun t30=>
    bnd (Zad t27 (.bool true) t30) fun t31=>
    bnd (gdv t31 false (.tuple []) (some t13)) fun t33=>
    bnd (gdv t31 false (.tuple []) (ibin .eql t33 (.int .u8 46))) fun t34=>
    bnd (Zad t31 (.bool true) t34) fun t35=>
    bnd (aun .not t35) fun t37=>
    bnd (gdv t37 true (.tuple []) (some x8)) fun t39=>
    bnd (gdv t37 true (.tuple []) (ibin .eql t39 (.int .i64 0))) fun t40=>
    bnd (gdv t37 true (.tuple []) (some t40)) fun t41=>
    bnd (gdv t41 false (.tuple []) (some t13)) fun t42=>
    bnd (gdv t41 false (.tuple []) (ibin .lss t42 (.int .u8 48))) fun t43=>
    bnd (gdv t37 true (.tuple []) (Zad t41 (.bool true) t43)) fun t44=>
    bnd (gdv t37 true (.tuple []) (some t44)) fun t45=>
    bnd (gdv t45 false (.tuple []) (some t13)) fun t46=>
    bnd (gdv t45 false (.tuple []) (ibin .gtr t46 (.int .u8 57))) fun t47=>
    bnd (gdv t37 true (.tuple []) (Zad t45 (.bool true) t47)) fun t48=>
    bnd (Zad t37 t48 (.bool false)) fun t49=>
    cnd t49
     (some ((.bool false),H))
     (Zhf x0 x7 x8 H0 H):=(Za3 [3,8,9] _ _ _ _).trans (by kernel_rfl)
theorem Zd1 (x0 x7 x8:AV) (H0 H:Hp):Zeq x0 x7 x8 H0 H =
    bnd (ibin .lss x8 x7) fun t9=>
    cnd t9
     (Zhe x0 x7 x8 t9 H0 H)
     (Zhd x0 H0 H):=(Zar (C:=cfg) [3,8,9] (Zag 0 (Zpw H0)) _ _).trans (by kernel_rfl)
theorem Zs9 (p0:AV) (H:Hp):Zi2 [p0] H=ZmH p0 H:=(Za9 (C:=cfg) (fn:=Tryz.f169) (c:=Za0 Tryz.f169) (n:=58) [3,8,9] Tryz.func169 (by kernel_rfl) (by kernel_rfl) [p0] (by kernel_rfl) H).trans (by kernel_rfl)

def Zox (x0:AV) (H0 H:Hp):Res:=CXgS 170 23 (sub (Za0 Tryz.f170) [1,1]) (retL cfg 23 170 Tryz.f170 H0) [(0,x0)] H
def ZpD (p0:AV) (H:Hp):Res:=
 bnd (Zae .string p0) fun t6=>
 bnd (ibin .gtr t6 (.int .i64 4096)) fun t7=>
 cnd t7
  (some ((.tuple [(.str []),(.int .i64 3)]),H))
  (Zox p0 H H)
theorem ZtO (x0:AV) (H0 H:Hp):Zox x0 H0 H =
    bnd (Zae .string x0) fun t9=>
    bnd (ibin .shr t9 (.int .u64 8)) fun t10=>
    bnd (Zbl .u8 t10) fun t11=>
    bnd (Zae .string x0) fun t13=>
    bnd (Zbl .u8 t13) fun t14=>
    bnd ((Zau 1 [(0,t11),(1,t14)] [(.int .u8 0),(.int .u8 0)]).map (.vs 1 .clip)) fun t15=>
    bnd (cvRd t15 H) fun t16=>
    bnd (sbin .add t16 x0) fun t18=>
    bnd (Zaa Zkn [t18] H) fun r21=>
    bnd (sbin .add t18 r21.1) fun t22=>
    some ((.tuple [t22,(.int .i64 0)]),r21.2):=(Za3 [3] _ _ _ _).trans (by kernel_rfl)
theorem ZuD (p0:AV) (H:Hp):ZjX [p0] H=ZpD p0 H:=(Za9 (C:=cfg) (fn:=Tryz.f170) (c:=Za0 Tryz.f170) (n:=23) [3] Tryz.func170 (by kernel_rfl) (by kernel_rfl) [p0] (by kernel_rfl) H).trans (by kernel_rfl)

def Zv7 (p0:AV) (H:Hp):Res:=
 bnd (Zaa ZoW [p0] H) fun r5=>
 bnd (Zbl .u8 r5.1) fun t7=>
 bnd (ibin .shr r5.1 (.int .u64 8)) fun t9=>
 bnd (Zbl .u8 t9) fun t10=>
 bnd (ibin .shr r5.1 (.int .u64 16)) fun t12=>
 bnd (Zbl .u8 t12) fun t13=>
 bnd (ibin .shr r5.1 (.int .u64 24)) fun t15=>
 bnd (Zbl .u8 t15) fun t16=>
 bnd ((Zau 1 [(0,t7),(1,t10),(2,t13),(3,t16)] [(.int .u8 0),(.int .u8 0),(.int .u8 0),(.int .u8 0)]).map (.vs 1 .clip)) fun t17=>
 bnd (cvRd t17 r5.2) fun t18=>
 some (t18,r5.2)
theorem Zyl (p0:AV) (H:Hp):Zkn [p0] H=Zv7 p0 H:=(Za9 (C:=cfg) (fn:=Tryz.f173) (c:=Za0 Tryz.f173) (n:=19) [] Tryz.func173 (by kernel_rfl) (by kernel_rfl) [p0] (by kernel_rfl) H).trans (by kernel_rfl)

def Zdl (H0 H:Hp):Res:=CXgS 185 19 (sub (Za0 Tryz.f185) [1,1]) (retL cfg 19 185 Tryz.f185 H0) [] H
def Zbb (H0:Hp):KL:=seqL (fun k al H=>CXgS 185 19 (sub (Za0 Tryz.f185) [1,1]) k (Za8 (cfg.keep 185) (sub (Za0 Tryz.f185) [1,1]) al) H) (retL cfg 19 185 Tryz.f185 H0)
theorem ZfO (H0:Hp):Tame 19 (Zbb H0):=Zan (C:=cfg) (kp:=cfg.keep 185) (sub (Za0 Tryz.f185) [1,1]) (Zaq 185 Tryz.f185 H0)
def Zdn (x0 x1 x7 x8:AV) (H0 H:Hp):Res:=CXgS 185 19 (sub (Za0 Tryz.f185) [1,0,1,0,0,1,1,1]) (seqL (fun k al H=>LPgS 185 19 (sub (Za0 Tryz.f185) [1,0,1,0,0]) k (Za8 (cfg.keep 185) (sub (Za0 Tryz.f185) [1,0,1,0,0]) al) H) (Za4 0 (Zbb H0))) [(0,x0),(1,x1),(7,x7),(8,x8)] H
def Zdm (x0 x1 x7 x8 x9:AV) (H0 H:Hp):Res:=CXgS 185 19 (sub (Za0 Tryz.f185) [1,0,1,0,0,1,1]) (seqL (fun k al H=>LPgS 185 19 (sub (Za0 Tryz.f185) [1,0,1,0,0]) k (Za8 (cfg.keep 185) (sub (Za0 Tryz.f185) [1,0,1,0,0]) al) H) (Za4 0 (Zbb H0))) [(0,x0),(1,x1),(7,x7),(8,x8),(9,x9)] H
def Zbc (x0 x1 x7 x8:AV) (H0 H:Hp):Res:=LPgS 185 19 (sub (Za0 Tryz.f185) [1,0,1,0,0]) (Za4 0 (Zbb H0)) [(0,x0),(1,x1),(7,x7),(8,x8)] H
def ZdE (p0 p1:AV) (H:Hp):Res:=
 bnd (Zae (.slice 9) p0) fun t7=>
 Zbc p0 p1 t7 (.int .i64 0) H H
theorem ZgC (H0 H:Hp):Zdl H0 H =
    some ((.int .i64 (-1)),H):=(Za3 [3,6,7] _ _ _ _).trans (by kernel_rfl)
theorem ZgE (x0 x1 x7 x8:AV) (H0 H:Hp):Zdn x0 x1 x7 x8 H0 H =
    bnd (ibin .add x8 (.int .i64 1)) fun t18=>
    Zbc x0 x1 x7 t18 H0 H:=(Za3 [3,6,7] _ _ _ _).trans (by kernel_rfl)
theorem ZgD (x0 x1 x7 x8 x9:AV) (H0 H:Hp):Zdm x0 x1 x7 x8 x9 H0 H =
    bnd (Zaf 1 x0 x8) fun t14=>
    bnd (Za2 false 1 t14 H) fun t15=>
    bnd (sbin .eql x1 t15) fun t16=>
    cnd t16
     (some (x8,H))
     (Zdn x0 x1 x7 x8 H0 H):=(Za3 [3,6,7] _ _ _ _).trans (by kernel_rfl)
theorem ZcP (x0 x1 x7 x8:AV) (H0 H:Hp):Zbc x0 x1 x7 x8 H0 H =
    bnd (ibin .lss x8 x7) fun t9=>
    cnd t9
     (Zdm x0 x1 x7 x8 t9 H0 H)
     (Zdl H0 H):=(Zar (C:=cfg) [3,6,7] (Zag 0 (ZfO H0)) _ _).trans (by kernel_rfl)
theorem Zh5 (p0 p1:AV) (H:Hp):Zc0 [p0,p1] H=ZdE p0 p1 H:=(Za9 (C:=cfg) (fn:=Tryz.f185) (c:=Za0 Tryz.f185) (n:=19) [3,6,7] Tryz.func185 (by kernel_rfl) (by kernel_rfl) [p0,p1] (by kernel_rfl) H).trans (by kernel_rfl)

def ZtI (x3:AV) (H0 H:Hp):Res:=CXgS 208 33 (sub (Za0 Tryz.f208) [1,1,1]) (retL cfg 33 208 Tryz.f208 H0) [(3,x3)] H
def Zj7 (H0:Hp):KL:=seqL (fun k al H=>CXgS 208 33 (sub (Za0 Tryz.f208) [1,1,1]) k (Za8 (cfg.keep 208) (sub (Za0 Tryz.f208) [1,1,1]) al) H) (retL cfg 33 208 Tryz.f208 H0)
theorem ZuS (H0:Hp):Tame 33 (Zj7 H0):=Zan (C:=cfg) (kp:=cfg.keep 208) (sub (Za0 Tryz.f208) [1,1,1]) (Zaq 208 Tryz.f208 H0)
def ZtK (x0 x3 x6 x7:AV) (H0 H:Hp):Res:=CXgS 208 33 (sub (Za0 Tryz.f208) [1,1,0,1,0,0,1,1,1]) (seqL (fun k al H=>LPgS 208 33 (sub (Za0 Tryz.f208) [1,1,0,1,0,0]) k (Za8 (cfg.keep 208) (sub (Za0 Tryz.f208) [1,1,0,1,0,0]) al) H) (Za4 0 (Zj7 H0))) [(0,x0),(3,x3),(6,x6),(7,x7)] H
def ZtJ (x0 x3 x6 x7 x8:AV) (H0 H:Hp):Res:=CXgS 208 33 (sub (Za0 Tryz.f208) [1,1,0,1,0,0,1,1]) (seqL (fun k al H=>LPgS 208 33 (sub (Za0 Tryz.f208) [1,1,0,1,0,0]) k (Za8 (cfg.keep 208) (sub (Za0 Tryz.f208) [1,1,0,1,0,0]) al) H) (Za4 0 (Zj7 H0))) [(0,x0),(3,x3),(6,x6),(7,x7),(8,x8)] H
def Zj8 (x0 x3 x6 x7:AV) (H0 H:Hp):Res:=LPgS 208 33 (sub (Za0 Tryz.f208) [1,1,0,1,0,0]) (Za4 0 (Zj7 H0)) [(0,x0),(3,x3),(6,x6),(7,x7)] H
def Zv6 (p0:AV) (H:Hp):Res:=
 bnd (Zae .string p0) fun t6=>
 Zj8 p0 (.int .u32 4294967295) t6 (.int .i64 0) H H
theorem Zxq (x3:AV) (H0 H:Hp):ZtI x3 H0 H =
    bnd (aun .xor x3) fun t32=>
    some (t32,H):=(Za3 [4,8,9] _ _ _ _).trans (by kernel_rfl)
theorem Zxs (x0 x3 x6 x7:AV) (H0 H:Hp):ZtK x0 x3 x6 x7 H0 H =
    bnd (ibin .add x7 (.int .i64 1)) fun t30=>
    Zj8 x0 x3 x6 t30 H0 H:=(Za3 [4,8,9] _ _ _ _).trans (by kernel_rfl)
theorem Zxr (x0 x3 x6 x7 x8:AV) (H0 H:Hp):ZtJ x0 x3 x6 x7 x8 H0 H =
    bnd (Zal x0 x7) fun t13=>
    bnd (Zbl .u32 t13) fun t14=>
    bnd (ibin .xor x3 t14) fun t15=>
    bnd (ibin .and t15 (.int .u32 15)) fun t17=>
    bnd (Zk3 16 1 crcV t17) fun t18=>
    bnd (Za2 false 1 t18 H) fun t19=>
    bnd (ibin .shr t15 (.int .u64 4)) fun t21=>
    bnd (ibin .xor t19 t21) fun t22=>
    bnd (ibin .and t22 (.int .u32 15)) fun t24=>
    bnd (Zk3 16 1 crcV t24) fun t25=>
    bnd (Za2 false 1 t25 H) fun t26=>
    bnd (ibin .shr t22 (.int .u64 4)) fun t28=>
    bnd (ibin .xor t26 t28) fun t29=>
    ZtK x0 t29 x6 x7 H0 H:=(Za3 [4,8,9] _ _ _ _).trans (by kernel_rfl)
theorem Zos (x0 x3 x6 x7:AV) (H0 H:Hp):Zj8 x0 x3 x6 x7 H0 H =
    bnd (ibin .lss x7 x6) fun t8=>
    cnd t8
     (ZtJ x0 x3 x6 x7 t8 H0 H)
     (ZtI x3 H0 H):=(Zar (C:=cfg) [4,8,9] (Zag 0 (ZuS H0)) _ _).trans (by kernel_rfl)
theorem Zyk (p0:AV) (H:Hp):ZoW [p0] H=Zv6 p0 H:=(Za9 (C:=cfg) (fn:=Tryz.f208) (c:=Za0 Tryz.f208) (n:=33) [4,8,9] Tryz.func208 (by kernel_rfl) (by kernel_rfl) [p0] (by kernel_rfl) H).trans (by kernel_rfl)

end
end Go.Am
