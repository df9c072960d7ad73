/-
  The functions of the translation over the abstract machine, a further part: written by program (wip/gen.py).
-/
import Derived.Test.YtpahcdhligjdiaaRcGx
namespace Go.Am
open Go.Proofs
set_option maxRecDepth 100000
set_option linter.unusedVariables false
set_option linter.unusedSimpArgs false
noncomputable abbrev CXgS (f n:Nat):=CXL cfg (callw cfg) (LPL cfg (cfg.keep f) n) (cfg.keep f) n seqL blockL
noncomputable abbrev LPgS (f n:Nat):=LPL cfg (cfg.keep f) n
noncomputable section

def resim_Threads_J3 (x12:AV) (H0 H:Hp):Res:=CXgS 15 71 (sub (bodyOf Try.f15) [1,1,1,1,1,1,1,1]) (retL cfg 71 15 Try.f15 H0) [(12,x12)] H
def resim_Threads_K1 (H0:Hp):KL:=seqL (fun k al H=>CXgS 15 71 (sub (bodyOf Try.f15) [1,1,1,1,1,1,1,1]) k (trimL (cfg.keep 15) (sub (bodyOf Try.f15) [1,1,1,1,1,1,1,1]) al) H) (retL cfg 71 15 Try.f15 H0)
theorem resim_Threads_K1_tame (H0:Hp):Tame 71 (resim_Threads_K1 H0):=tame_seq (C:=cfg) (kp:=cfg.keep 15) (sub (bodyOf Try.f15) [1,1,1,1,1,1,1,1]) (tame_ret 15 Try.f15 H0)
def resim_Threads_J5 (x12 x56 x57 x58:AV) (H0 H:Hp):Res:=CXgS 15 71 (sub (bodyOf Try.f15) [1,1,1,1,1,1,1,0,1,0,0,1,1,1]) (seqL (fun k al H=>LPgS 15 71 (sub (bodyOf Try.f15) [1,1,1,1,1,1,1,0,1,0,0]) k (trimL (cfg.keep 15) (sub (bodyOf Try.f15) [1,1,1,1,1,1,1,0,1,0,0]) al) H) (blockL 2 (resim_Threads_K1 H0))) [(12,x12),(56,x56),(57,x57),(58,x58)] H
def resim_Threads_J4 (x12 x56 x57 x58 x59:AV) (H0 H:Hp):Res:=CXgS 15 71 (sub (bodyOf Try.f15) [1,1,1,1,1,1,1,0,1,0,0,1,1]) (seqL (fun k al H=>LPgS 15 71 (sub (bodyOf Try.f15) [1,1,1,1,1,1,1,0,1,0,0]) k (trimL (cfg.keep 15) (sub (bodyOf Try.f15) [1,1,1,1,1,1,1,0,1,0,0]) al) H) (blockL 2 (resim_Threads_K1 H0))) [(12,x12),(56,x56),(57,x57),(58,x58),(59,x59)] H
def resim_Threads_L1 (x12 x56 x57 x58:AV) (H0 H:Hp):Res:=LPgS 15 71 (sub (bodyOf Try.f15) [1,1,1,1,1,1,1,0,1,0,0]) (blockL 2 (resim_Threads_K1 H0)) [(12,x12),(56,x56),(57,x57),(58,x58)] H
def resim_Threads_J2 (x10:AV) (H0 H:Hp):Res:=CXgS 15 71 (sub (bodyOf Try.f15) [1,1,1,1,1,1]) (retL cfg 71 15 Try.f15 H0) [(10,x10)] H
def resim_Threads_K2 (H0:Hp):KL:=seqL (fun k al H=>CXgS 15 71 (sub (bodyOf Try.f15) [1,1,1,1,1,1]) k (trimL (cfg.keep 15) (sub (bodyOf Try.f15) [1,1,1,1,1,1]) al) H) (retL cfg 71 15 Try.f15 H0)
theorem resim_Threads_K2_tame (H0:Hp):Tame 71 (resim_Threads_K2 H0):=tame_seq (C:=cfg) (kp:=cfg.keep 15) (sub (bodyOf Try.f15) [1,1,1,1,1,1]) (tame_ret 15 Try.f15 H0)
def resim_Threads_J7 (x3 x9 x10 x11:AV) (H0 H:Hp):Res:=CXgS 15 71 (sub (bodyOf Try.f15) [1,1,1,1,1,0,1,0,0,1,1]) (seqL (fun k al H=>LPgS 15 71 (sub (bodyOf Try.f15) [1,1,1,1,1,0,1,0,0]) k (trimL (cfg.keep 15) (sub (bodyOf Try.f15) [1,1,1,1,1,0,1,0,0]) al) H) (blockL 0 (resim_Threads_K2 H0))) [(3,x3),(9,x9),(10,x10),(11,x11)] H
def resim_Threads_J6 (x3 x9 x10 x11:AV) (H0 H:Hp):Res:=CXgS 15 71 (sub (bodyOf Try.f15) [1,1,1,1,1,0,1,0,0,1]) (seqL (fun k al H=>LPgS 15 71 (sub (bodyOf Try.f15) [1,1,1,1,1,0,1,0,0]) k (trimL (cfg.keep 15) (sub (bodyOf Try.f15) [1,1,1,1,1,0,1,0,0]) al) H) (blockL 0 (resim_Threads_K2 H0))) [(3,x3),(9,x9),(10,x10),(11,x11)] H
def resim_Threads_L2 (x3 x9 x10 x11:AV) (H0 H:Hp):Res:=LPgS 15 71 (sub (bodyOf Try.f15) [1,1,1,1,1,0,1,0,0]) (blockL 0 (resim_Threads_K2 H0)) [(3,x3),(9,x9),(10,x10),(11,x11)] H
def resim_Threads_J1 (x2 x3 x9:AV) (H0 H:Hp):Res:=CXgS 15 71 (sub (bodyOf Try.f15) [1,1,1]) (retL cfg 71 15 Try.f15 H0) [(2,x2),(3,x3),(9,x9)] H
def F_resim_Threads (p0 p1 p2 p3:AV) (H:Hp):Res:=
 bnd (abox p0 H) fun r4=>
 bnd (aload true 2 r4.1 r4.2) fun t15=>
 bnd (C_resim_simulate [t15,p1] r4.2) fun r17=>
 bnd (ebin (.pointer 81) .eql r17.1 .nilp) fun t19=>
 bnd (gdv t19 false (.tuple []) (some p2)) fun t21=>
 bnd (gdv t19 false (.tuple []) (ibin .lss t21 (.int .i64 0))) fun t22=>
 bnd (apick t19 (.bool true) t22) fun t23=>
 bnd (gdv t23 false (.tuple []) (some p3)) fun t25=>
 bnd (gdv t23 false (.tuple []) (some p1)) fun t26=>
 bnd (gdv t23 false (.tuple []) (alenD .string t26)) fun t27=>
 bnd (gdv t23 false (.tuple []) (ibin .gtr t25 t27)) fun t28=>
 bnd (apick t23 (.bool true) t28) fun t29=>
 bnd (gdv t29 false (.tuple []) (some p3)) fun t31=>
 bnd (gdv t29 false (.tuple []) (some p2)) fun t32=>
 bnd (gdv t29 false (.tuple []) (ibin .lss t31 t32)) fun t33=>
 bnd (apick t29 (.bool true) t33) fun t34=>
 cnd t34
  (some (.nils,r17.2))
  (resim_Threads_J1 p2 p3 r17.1 H r17.2)
theorem resim_Threads_J3_eq (x12:AV) (H0 H:Hp):resim_Threads_J3 x12 H0 H =
    bnd (sortE.run [x12] H) fun r69=>
    some (x12,r69.2):=(CXM_eq [4,8,9,10,13,15,16] _ _ _ _).trans (by kernel_rfl)
theorem resim_Threads_J5_eq (x12 x56 x57 x58:AV) (H0 H:Hp):resim_Threads_J5 x12 x56 x57 x58 H0 H =
    bnd (ibin .add x58 (.int .i64 1)) fun t67=>
    resim_Threads_L1 x12 x56 x57 t67 H0 H:=(CXM_eq [4,8,9,10,13,15,16] _ _ _ _).trans (by kernel_rfl)
theorem resim_Threads_J4_eq (x12 x56 x57 x58 x59:AV) (H0 H:Hp):resim_Threads_J4 x12 x56 x57 x58 x59 H0 H =
    bnd (aindexS 2 x56 x58) fun t60=>
    bnd (aload true 2 t60 H) fun t61=>
    bnd (some ((.ptr H.length 0),H++[.cells [(.int .i64 0),(.int .i64 0)]])) fun r14=>
    bnd (astoreU 2 r14.1 t61 r14.2) fun r_19=>
    bnd (afield 0 r14.1) fun t63=>
    bnd (aload false 1 t63 r_19.2) fun t64=>
    bnd ((setElems 1 [(0,t64)] [(.int .i64 0)]).map (.vs 1 .clip)) fun t65=>
    bnd (aappEL false 1 8 x12 t65 r_19.2) fun r66=>
    resim_Threads_J5 r66.1 x56 x57 x58 H0 r66.2:=(CXM_eq [4,8,9,10,13,15,16] _ _ _ _).trans (by kernel_rfl)
theorem resim_Threads_L1_eq (x12 x56 x57 x58:AV) (H0 H:Hp):resim_Threads_L1 x12 x56 x57 x58 H0 H =
    bnd (ibin .lss x58 x57) fun t59=>
    cnd t59
     (resim_Threads_J4 x12 x56 x57 x58 t59 H0 H)
     (resim_Threads_J3 x12 H0 H):=(LPL_eqm (C:=cfg) [4,8,9,10,13,15,16] (tame_block 2 (resim_Threads_K1_tame H0)) _ _).trans (by kernel_rfl)
theorem resim_Threads_J2_eq (x10:AV) (H0 H:Hp):resim_Threads_J2 x10 H0 H =
    bnd (alenD (.slice 87) x10) fun t57=>
    resim_Threads_L1 .nils x10 t57 (.int .i64 0) H0 H:=(CXM_eq [4,8,9,10,13,15,16] _ _ _ _).trans (by kernel_rfl)
theorem resim_Threads_J7_eq (x3 x9 x10 x11:AV) (H0 H:Hp):resim_Threads_J7 x3 x9 x10 x11 H0 H =
    bnd (ibin .add x11 (.int .i64 1)) fun t51=>
    resim_Threads_L2 x3 x9 x10 t51 H0 H:=(CXM_eq [4,8,9,10,13,15,16] _ _ _ _).trans (by kernel_rfl)
theorem resim_Threads_J6_eq (x3 x9 x10 x11:AV) (H0 H:Hp):resim_Threads_J6 x3 x9 x10 x11 H0 H =
    bnd (C_resim_simulation_next [x9,x10,x11,(.fn (.func 32) [] [])] H) fun r55=>
    resim_Threads_J7 x3 x9 r55.1 x11 H0 r55.2:=(CXM_eq [4,8,9,10,13,15,16] _ _ _ _).trans (by kernel_rfl)
theorem resim_Threads_L2_eq (x3 x9 x10 x11:AV) (H0 H:Hp):resim_Threads_L2 x3 x9 x10 x11 H0 H =
    bnd (ibin .lss x11 x3) fun t49=>
    cnd t49
     (resim_Threads_J6 x3 x9 x10 x11 H0 H)
     (resim_Threads_J2 x10 H0 H):=(LPL_eqm (C:=cfg) [4,8,9,10,13,15,16] (tame_block 0 (resim_Threads_K2_tame H0)) _ _).trans (by kernel_rfl)
theorem resim_Threads_J1_eq (x2 x3 x9:AV) (H0 H:Hp):resim_Threads_J1 x2 x3 x9 H0 H =
    bnd (anil x9) fun t36=>
    bnd (afield 4099 t36) fun t37=>
    bnd (aload false 1 t37 H) fun t38=>
    bnd (ibin .add t38 (.int .i64 1)) fun t39=>
    bnd (anil x9) fun t40=>
    bnd (afield 4099 t40) fun t41=>
    bnd (astoreU 1 t41 t39 H) fun r_10=>
    bnd (C_resim_simulation_reach [x9,.nils,(.int .i64 0),x2,x2] r_10.2) fun r45=>
    resim_Threads_L2 x3 x9 r45.1 x2 H0 r45.2:=(CXM_eq [4,8,9,10,13,15,16] _ _ _ _).trans (by kernel_rfl)
theorem F_resim_Threads_eq (p0 p1 p2 p3:AV) (H:Hp):C_resim_Threads [p0,p1,p2,p3] H=F_resim_Threads p0 p1 p2 p3 H:=(callw_cxm (C:=cfg) (fn:=Try.f15) (c:=bodyOf Try.f15) (n:=71) [4,8,9,10,13,15,16] Try.func15 (by kernel_rfl) (by kernel_rfl) [p0,p1,p2,p3] (by kernel_rfl) H).trans (by kernel_rfl)

def resim_simulate_J1 (x1 x2:AV) (H0 H:Hp):Res:=CXgS 29 12 (sub (bodyOf Try.f29) [1,1]) (retL cfg 12 29 Try.f29 H0) [(1,x1),(2,x2)] H
def F_resim_simulate (p0 p1:AV) (H:Hp):Res:=
 bnd (abox p0 H) fun r2=>
 bnd (aload true 2 r2.1 r2.2) fun t5=>
 bnd (flatC C_reprog_Valid [t5] r2.2) fun r6=>
 bnd (aun .not r6.1) fun t7=>
 cnd t7
  (some (.nilp,r6.2))
  (resim_simulate_J1 p1 r2.1 H r6.2)
theorem resim_simulate_J1_eq (x1 x2:AV) (H0 H:Hp):resim_simulate_J1 x1 x2 H0 H =
    bnd (aload true 2 x2 H) fun t8=>
    bnd (abuild Try.prog 81 [(0,t8),(1,x1)]) fun t10=>
    bnd (abox t10 H) fun r11=>
    some (r11.1,r11.2):=(CXM_eq [3] _ _ _ _).trans (by kernel_rfl)
theorem F_resim_simulate_eq (p0 p1:AV) (H:Hp):C_resim_simulate [p0,p1] H=F_resim_simulate p0 p1 H:=(callw_cxm (C:=cfg) (fn:=Try.f29) (c:=bodyOf Try.f29) (n:=12) [3] Try.func29 (by kernel_rfl) (by kernel_rfl) [p0,p1] (by kernel_rfl) H).trans (by kernel_rfl)

def resim_simulation_reach_J1 (x1:AV) (H0 H:Hp):Res:=CXgS 30 153 (sub (bodyOf Try.f30) [1,1,1]) (retL cfg 153 30 Try.f30 H0) [(1,x1)] H
def resim_simulation_reach_K1 (H0:Hp):KL:=seqL (fun k al H=>CXgS 30 153 (sub (bodyOf Try.f30) [1,1,1]) k (trimL (cfg.keep 30) (sub (bodyOf Try.f30) [1,1,1]) al) H) (retL cfg 153 30 Try.f30 H0)
theorem resim_simulation_reach_K1_tame (H0:Hp):Tame 153 (resim_simulation_reach_K1 H0):=tame_seq (C:=cfg) (kp:=cfg.keep 30) (sub (bodyOf Try.f30) [1,1,1]) (tame_ret 30 Try.f30 H0)
def resim_simulation_reach_J3 (x0 x1 x3 x4 x11:AV) (H0 H:Hp):Res:=CXgS 30 153 (sub (bodyOf Try.f30) [1,1,0,0,0,1,0,1,1,1]) (blockL 1 (seqL (fun k al H=>LPgS 30 153 (sub (bodyOf Try.f30) [1,1,0,0,0]) k (trimL (cfg.keep 30) (sub (bodyOf Try.f30) [1,1,0,0,0]) al) H) (blockL 0 (resim_simulation_reach_K1 H0)))) [(0,x0),(1,x1),(3,x3),(4,x4),(11,x11)] H
def resim_simulation_reach_J2 (x0 x1 x3 x4:AV) (H0 H:Hp):Res:=CXgS 30 153 (sub (bodyOf Try.f30) [1,1,0,0,0,1]) (seqL (fun k al H=>LPgS 30 153 (sub (bodyOf Try.f30) [1,1,0,0,0]) k (trimL (cfg.keep 30) (sub (bodyOf Try.f30) [1,1,0,0,0]) al) H) (blockL 0 (resim_simulation_reach_K1 H0))) [(0,x0),(1,x1),(3,x3),(4,x4)] H
def resim_simulation_reach_L1 (x0 x1 x3 x4:AV) (H0 H:Hp):Res:=LPgS 30 153 (sub (bodyOf Try.f30) [1,1,0,0,0]) (blockL 0 (resim_simulation_reach_K1 H0)) [(0,x0),(1,x1),(3,x3),(4,x4)] H
def F_resim_simulation_reach (p0 p1 p2 p3 p4:AV) (H:Hp):Res:=
 bnd (anil p0) fun t15=>
 bnd (afield 4100 t15) fun t16=>
 bnd (aload false 1 t16 H) fun t17=>
 bnd (asliceV 1 t17 none (some (.int .i64 0)) none) fun t18=>
 bnd ((setElems 1 [(0,p2)] [(.int .i64 0)]).map (.vs 1 .clip)) fun t20=>
 bnd (aappEL false 1 8 t18 t20 H) fun r21=>
 bnd (anil p0) fun t22=>
 bnd (afield 4100 t22) fun t23=>
 bnd (astoreU 1 t23 r21.1 r21.2) fun r_9=>
 resim_simulation_reach_L1 p0 p1 p3 p4 H r_9.2
theorem resim_simulation_reach_J1_eq (x1:AV) (H0 H:Hp):resim_simulation_reach_J1 x1 H0 H =
    some (x1,H):=(CXM_eq [3,6,20] _ _ _ _).trans (by kernel_rfl)
theorem resim_simulation_reach_J3_eq (x0 x1 x3 x4 x11:AV) (H0 H:Hp):resim_simulation_reach_J3 x0 x1 x3 x4 x11 H0 H =
    bnd (anil x0) fun t70=>
    bnd (afield 4099 t70) fun t71=>
    bnd (aload false 1 t71 H) fun t72=>
    bnd (anil x0) fun t73=>
    bnd (afield 3 t73) fun t74=>
    bnd (aindexA 4096 1 t74 x11) fun t75=>
    bnd (astoreU 1 t75 t72 H) fun r_38=>
    bnd (anil x0) fun t77=>
    bnd (afield 0 t77) fun t78=>
    bnd (afield 0 t78) fun t79=>
    bnd (aload false 1 t79 r_38.2) fun t80=>
    bnd (aindexS 7 t80 x11) fun t82=>
    bnd (aload true 7 t82 r_38.2) fun t83=>
    bnd (some ((.ptr r_38.2.length 0),r_38.2++[.cells [(.int .i64 0),(.int .u64 0),(.int .u64 0),(.int .u64 0),(.int .u64 0),(.int .i64 0),(.int .i64 0)]])) fun r12=>
    bnd (astoreU 7 r12.1 t83 r12.2) fun r_46=>
    bnd (afield 0 r12.1) fun t84=>
    bnd (aload false 1 t84 r_46.2) fun t85=>
    bnd (ibin .eql t85 (.int .i64 3)) fun t93=>
    cnd t93
     (bnd (anil x0) fun t96=>
     bnd (afield 4100 t96) fun t97=>
     bnd (aload false 1 t97 r_46.2) fun t98=>
     bnd (afield 5 r12.1) fun t99=>
     bnd (aload false 1 t99 r_46.2) fun t100=>
     bnd ((setElems 1 [(0,t100)] [(.int .i64 0)]).map (.vs 1 .clip)) fun t101=>
     bnd (aappEL false 1 8 t98 t101 r_46.2) fun r102=>
     bnd (anil x0) fun t103=>
     bnd (afield 4100 t103) fun t104=>
     bnd (astoreU 1 t104 r102.1 r102.2) fun r_59=>
     resim_simulation_reach_L1 x0 x1 x3 x4 H0 r_59.2)
     (bnd (ibin .eql t85 (.int .i64 2)) fun t106=>
     cnd t106
      (bnd (anil x0) fun t109=>
      bnd (afield 4100 t109) fun t110=>
      bnd (aload false 1 t110 r_46.2) fun t111=>
      bnd (afield 6 r12.1) fun t112=>
      bnd (aload false 1 t112 r_46.2) fun t113=>
      bnd (afield 5 r12.1) fun t114=>
      bnd (aload false 1 t114 r_46.2) fun t115=>
      bnd ((setElems 1 [(0,t113),(1,t115)] [(.int .i64 0),(.int .i64 0)]).map (.vs 1 .clip)) fun t116=>
      bnd (aappEL false 1 8 t111 t116 r_46.2) fun r117=>
      bnd (anil x0) fun t118=>
      bnd (afield 4100 t118) fun t119=>
      bnd (astoreU 1 t119 r117.1 r117.2) fun r_72=>
      resim_simulation_reach_L1 x0 x1 x3 x4 H0 r_72.2)
      (bnd (ibin .eql t85 (.int .i64 4)) fun t121=>
      cnd t121
       (bnd (roC C_resim_simulation_begins [x0,x4] r_46.2) fun r124=>
       cnd r124.1
        (bnd (anil x0) fun t127=>
        bnd (afield 4100 t127) fun t128=>
        bnd (aload false 1 t128 r124.2) fun t129=>
        bnd (ibin .add x11 (.int .i64 1)) fun t131=>
        bnd ((setElems 1 [(0,t131)] [(.int .i64 0)]).map (.vs 1 .clip)) fun t132=>
        bnd (aappEL false 1 8 t129 t132 r124.2) fun r133=>
        bnd (anil x0) fun t134=>
        bnd (afield 4100 t134) fun t135=>
        bnd (astoreU 1 t135 r133.1 r133.2) fun r_83=>
        resim_simulation_reach_L1 x0 x1 x3 x4 H0 r_83.2)
        (resim_simulation_reach_L1 x0 x1 x3 x4 H0 r124.2))
       (bnd (ibin .eql t85 (.int .i64 5)) fun t137=>
       cnd t137
        (bnd (roC C_resim_simulation_ends [x0,x4] r_46.2) fun r140=>
        cnd r140.1
         (bnd (anil x0) fun t143=>
         bnd (afield 4100 t143) fun t144=>
         bnd (aload false 1 t144 r140.2) fun t145=>
         bnd (ibin .add x11 (.int .i64 1)) fun t147=>
         bnd ((setElems 1 [(0,t147)] [(.int .i64 0)]).map (.vs 1 .clip)) fun t148=>
         bnd (aappEL false 1 8 t145 t148 r140.2) fun r149=>
         bnd (anil x0) fun t150=>
         bnd (afield 4100 t150) fun t151=>
         bnd (astoreU 1 t151 r149.1 r149.2) fun r_94=>
         resim_simulation_reach_L1 x0 x1 x3 x4 H0 r_94.2)
         (resim_simulation_reach_L1 x0 x1 x3 x4 H0 r140.2))
        (bnd ((afill [(0,1,x11),(1,1,x3)] [(.int .i64 0),(.int .i64 0)]).map .agg) fun t89=>
        bnd ((setElems 2 [(0,t89)] [(.agg [(.int .i64 0),(.int .i64 0)])]).map (.vs 2 .clip)) fun t90=>
        bnd (aappE 2 16 x1 t90 r_46.2) fun r91=>
        resim_simulation_reach_L1 x0 r91.1 x3 x4 H0 r91.2)))):=(CXM_eq [3,6,20] _ _ _ _).trans (by kernel_rfl)
theorem resim_simulation_reach_J2_eq (x0 x1 x3 x4:AV) (H0 H:Hp):resim_simulation_reach_J2 x0 x1 x3 x4 H0 H =
    bnd (anil x0) fun t31=>
    bnd (afield 4100 t31) fun t32=>
    bnd (aload false 1 t32 H) fun t33=>
    bnd (anil x0) fun t35=>
    bnd (afield 4100 t35) fun t36=>
    bnd (aload false 1 t36 H) fun t37=>
    bnd (alenD (.slice 3) t37) fun t38=>
    bnd (ibin .sub t38 (.int .i64 1)) fun t39=>
    bnd (aindexS 1 t33 t39) fun t40=>
    bnd (aload false 1 t40 H) fun t41=>
    bnd (anil x0) fun t44=>
    bnd (afield 4100 t44) fun t45=>
    bnd (aload false 1 t45 H) fun t46=>
    bnd (anil x0) fun t48=>
    bnd (afield 4100 t48) fun t49=>
    bnd (aload false 1 t49 H) fun t50=>
    bnd (alenD (.slice 3) t50) fun t51=>
    bnd (ibin .sub t51 (.int .i64 1)) fun t52=>
    bnd (asliceV 1 t46 none (some t52) none) fun t53=>
    bnd (anil x0) fun t54=>
    bnd (afield 4100 t54) fun t55=>
    bnd (astoreU 1 t55 t53 H) fun r_31=>
    bnd (anil x0) fun t58=>
    bnd (afield 3 t58) fun t59=>
    bnd (aindexA 4096 1 t59 t41) fun t60=>
    bnd (aload false 1 t60 r_31.2) fun t61=>
    bnd (anil x0) fun t63=>
    bnd (afield 4099 t63) fun t64=>
    bnd (aload false 1 t64 r_31.2) fun t65=>
    bnd (ibin .eql t61 t65) fun t66=>
    cnd t66
     (resim_simulation_reach_L1 x0 x1 x3 x4 H0 r_31.2)
     (resim_simulation_reach_J3 x0 x1 x3 x4 t41 H0 r_31.2):=(CXM_eq [3,6,20] _ _ _ _).trans (by kernel_rfl)
theorem resim_simulation_reach_L1_eq (x0 x1 x3 x4:AV) (H0 H:Hp):resim_simulation_reach_L1 x0 x1 x3 x4 H0 H =
    bnd (anil x0) fun t25=>
    bnd (afield 4100 t25) fun t26=>
    bnd (aload false 1 t26 H) fun t27=>
    bnd (alenD (.slice 3) t27) fun t28=>
    bnd (ibin .gtr t28 (.int .i64 0)) fun t29=>
    cnd t29
     (resim_simulation_reach_J2 x0 x1 x3 x4 H0 H)
     (resim_simulation_reach_J1 x1 H0 H):=(LPL_eqm (C:=cfg) [3,6,20] (tame_block 0 (resim_simulation_reach_K1_tame H0)) _ _).trans (by kernel_rfl)
theorem F_resim_simulation_reach_eq (p0 p1 p2 p3 p4:AV) (H:Hp):C_resim_simulation_reach [p0,p1,p2,p3,p4] H=F_resim_simulation_reach p0 p1 p2 p3 p4 H:=(callw_cxm (C:=cfg) (fn:=Try.f30) (c:=bodyOf Try.f30) (n:=153) [3,6,20] Try.func30 (by kernel_rfl) (by kernel_rfl) [p0,p1,p2,p3,p4] (by kernel_rfl) H).trans (by kernel_rfl)

def resim_simulation_next_J1 (x9:AV) (H0 H:Hp):Res:=CXgS 31 66 (sub (bodyOf Try.f31) [1,1,1,1]) (retL cfg 66 31 Try.f31 H0) [(9,x9)] H
def resim_simulation_next_K1 (H0:Hp):KL:=seqL (fun k al H=>CXgS 31 66 (sub (bodyOf Try.f31) [1,1,1,1]) k (trimL (cfg.keep 31) (sub (bodyOf Try.f31) [1,1,1,1]) al) H) (retL cfg 66 31 Try.f31 H0)
theorem resim_simulation_next_K1_tame (H0:Hp):Tame 66 (resim_simulation_next_K1 H0):=tame_seq (C:=cfg) (kp:=cfg.keep 31) (sub (bodyOf Try.f31) [1,1,1,1]) (tame_ret 31 Try.f31 H0)
def resim_simulation_next_J3 (x0 x2 x3 x9 x20 x21 x22:AV) (H0 H:Hp):Res:=CXgS 31 66 (sub (bodyOf Try.f31) [1,1,1,0,1,0,0,1,1,1]) (seqL (fun k al H=>LPgS 31 66 (sub (bodyOf Try.f31) [1,1,1,0,1,0,0]) k (trimL (cfg.keep 31) (sub (bodyOf Try.f31) [1,1,1,0,1,0,0]) al) H) (blockL 0 (resim_simulation_next_K1 H0))) [(0,x0),(2,x2),(3,x3),(9,x9),(20,x20),(21,x21),(22,x22)] H
def resim_simulation_next_J2 (x0 x2 x3 x9 x20 x21 x22 x23:AV) (H0 H:Hp):Res:=CXgS 31 66 (sub (bodyOf Try.f31) [1,1,1,0,1,0,0,1,1]) (seqL (fun k al H=>LPgS 31 66 (sub (bodyOf Try.f31) [1,1,1,0,1,0,0]) k (trimL (cfg.keep 31) (sub (bodyOf Try.f31) [1,1,1,0,1,0,0]) al) H) (blockL 0 (resim_simulation_next_K1 H0))) [(0,x0),(2,x2),(3,x3),(9,x9),(20,x20),(21,x21),(22,x22),(23,x23)] H
def resim_simulation_next_L1 (x0 x2 x3 x9 x20 x21 x22:AV) (H0 H:Hp):Res:=LPgS 31 66 (sub (bodyOf Try.f31) [1,1,1,0,1,0,0]) (blockL 0 (resim_simulation_next_K1 H0)) [(0,x0),(2,x2),(3,x3),(9,x9),(20,x20),(21,x21),(22,x22)] H
def F_resim_simulation_next (p0 p1 p2 p3:AV) (H:Hp):Res:=
 bnd (anil p0) fun t14=>
 bnd (afield 4099 t14) fun t15=>
 bnd (aload false 1 t15 H) fun t16=>
 bnd (ibin .add t16 (.int .i64 1)) fun t17=>
 bnd (anil p0) fun t18=>
 bnd (afield 4099 t18) fun t19=>
 bnd (astoreU 1 t19 t17 H) fun r_7=>
 bnd (alenD (.slice 87) p1) fun t21=>
 resim_simulation_next_L1 p0 p2 p3 .nils p1 t21 (.int .i64 0) H r_7.2
theorem resim_simulation_next_J1_eq (x9:AV) (H0 H:Hp):resim_simulation_next_J1 x9 H0 H =
    some (x9,H):=(CXM_eq [5,9,10] _ _ _ _).trans (by kernel_rfl)
theorem resim_simulation_next_J3_eq (x0 x2 x3 x9 x20 x21 x22:AV) (H0 H:Hp):resim_simulation_next_J3 x0 x2 x3 x9 x20 x21 x22 H0 H =
    bnd (ibin .add x22 (.int .i64 1)) fun t64=>
    resim_simulation_next_L1 x0 x2 x3 x9 x20 x21 t64 H0 H:=(CXM_eq [5,9,10] _ _ _ _).trans (by kernel_rfl)
theorem resim_simulation_next_J2_eq (x0 x2 x3 x9 x20 x21 x22 x23:AV) (H0 H:Hp):resim_simulation_next_J2 x0 x2 x3 x9 x20 x21 x22 x23 H0 H =
    bnd (aindexS 2 x20 x22) fun t24=>
    bnd (aload true 2 t24 H) fun t25=>
    bnd (some ((.ptr H.length 0),H++[.cells [(.int .i64 0),(.int .i64 0)]])) fun r11=>
    bnd (astoreU 2 r11.1 t25 r11.2) fun r_14=>
    bnd (anil x0) fun t27=>
    bnd (afield 0 t27) fun t28=>
    bnd (afield 0 t28) fun t29=>
    bnd (aload false 1 t29 r_14.2) fun t30=>
    bnd (afield 0 r11.1) fun t31=>
    bnd (aload false 1 t31 r_14.2) fun t32=>
    bnd (aindexS 7 t30 t32) fun t33=>
    bnd (aload true 7 t33 r_14.2) fun t34=>
    bnd (some ((.ptr r_14.2.length 0),r_14.2++[.cells [(.int .i64 0),(.int .u64 0),(.int .u64 0),(.int .u64 0),(.int .u64 0),(.int .i64 0),(.int .i64 0)]])) fun r12=>
    bnd (astoreU 7 r12.1 t34 r12.2) fun r_24=>
    bnd (afield 0 r12.1) fun t35=>
    bnd (aload false 1 t35 r_24.2) fun t36=>
    bnd (ibin .eql t36 (.int .i64 1)) fun t37=>
    bnd (gdv t37 true (.tuple []) (some x3)) fun t39=>
    bnd (gdv t37 true (.tuple []) (aload true 2 r11.1 r_24.2)) fun t40=>
    bnd (gdv t37 true ((.tuple []),r_24.2) (acall cfg (callw cfg) t39 [t40] r_24.2)) fun r41=>
    bnd (apick t37 r41.1 (.bool false)) fun t42=>
    bnd (gdv t42 true (.tuple []) (afield 1 r12.1)) fun t44=>
    bnd (gdv t42 true (.tuple []) (aload true 4 t44 r41.2)) fun t45=>
    bnd (gdv t42 true (.tuple []) (some x0)) fun t46=>
    bnd (gdv t42 true (.tuple []) (anil t46)) fun t47=>
    bnd (gdv t42 true (.tuple []) (afield 2 t47)) fun t48=>
    bnd (gdv t42 true (.tuple []) (aload false 1 t48 r41.2)) fun t49=>
    bnd (gdv t42 true (.tuple []) (some x2)) fun t50=>
    bnd (gdv t42 true (.tuple []) (aindexStr t49 t50)) fun t51=>
    bnd (gdv t42 true ((.tuple []),r41.2) (flatC C_charset_Has [t45,t51] r41.2)) fun r52=>
    bnd (apick t42 r52.1 (.bool false)) fun t53=>
    cnd t53
     (bnd (afield 0 r11.1) fun t56=>
     bnd (aload false 1 t56 r52.2) fun t57=>
     bnd (ibin .add t57 (.int .i64 1)) fun t58=>
     bnd (afield 1 r11.1) fun t59=>
     bnd (aload false 1 t59 r52.2) fun t60=>
     bnd (ibin .add x2 (.int .i64 1)) fun t62=>
     bnd (C_resim_simulation_reach [x0,x9,t58,t60,t62] r52.2) fun r63=>
     resim_simulation_next_J3 x0 x2 x3 r63.1 x20 x21 x22 H0 r63.2)
     (resim_simulation_next_J3 x0 x2 x3 x9 x20 x21 x22 H0 r52.2):=(CXM_eq [5,9,10] _ _ _ _).trans (by kernel_rfl)
theorem resim_simulation_next_L1_eq (x0 x2 x3 x9 x20 x21 x22:AV) (H0 H:Hp):resim_simulation_next_L1 x0 x2 x3 x9 x20 x21 x22 H0 H =
    bnd (ibin .lss x22 x21) fun t23=>
    cnd t23
     (resim_simulation_next_J2 x0 x2 x3 x9 x20 x21 x22 t23 H0 H)
     (resim_simulation_next_J1 x9 H0 H):=(LPL_eqm (C:=cfg) [5,9,10] (tame_block 0 (resim_simulation_next_K1_tame H0)) _ _).trans (by kernel_rfl)
theorem F_resim_simulation_next_eq (p0 p1 p2 p3:AV) (H:Hp):C_resim_simulation_next [p0,p1,p2,p3] H=F_resim_simulation_next p0 p1 p2 p3 H:=(callw_cxm (C:=cfg) (fn:=Try.f31) (c:=bodyOf Try.f31) (n:=66) [5,9,10] Try.func31 (by kernel_rfl) (by kernel_rfl) [p0,p1,p2,p3] (by kernel_rfl) H).trans (by kernel_rfl)

def F_resim_all (p0:AV) (H:Hp):Res:=
 bnd (abox p0 H) fun r1=>
 some ((.bool true),r1.2)
theorem F_resim_all_eq (p0:AV) (H:Hp):C_resim_all [p0] H=F_resim_all p0 H:=(callw_cxm (C:=cfg) (fn:=Try.f32) (c:=bodyOf Try.f32) (n:=3) [] Try.func32 (by kernel_rfl) (by kernel_rfl) [p0] (by kernel_rfl) H).trans (by kernel_rfl)

def F_resim_simulation_begins (p0 p1:AV) (H:Hp):Res:=
 bnd (ibin .eql p1 (.int .i64 0)) fun t6=>
 bnd (gdv t6 false (.tuple []) (some p0)) fun t8=>
 bnd (gdv t6 false (.tuple []) (anil t8)) fun t9=>
 bnd (gdv t6 false (.tuple []) (afield 0 t9)) fun t10=>
 bnd (gdv t6 false (.tuple []) (afield 1 t10)) fun t11=>
 bnd (gdv t6 false (.tuple []) (aload false 1 t11 H)) fun t12=>
 bnd (gdv t6 false (.tuple []) (some t12)) fun t13=>
 bnd (gdv t13 true (.tuple []) (some p0)) fun t14=>
 bnd (gdv t13 true (.tuple []) (anil t14)) fun t15=>
 bnd (gdv t13 true (.tuple []) (afield 2 t15)) fun t16=>
 bnd (gdv t13 true (.tuple []) (aload false 1 t16 H)) fun t17=>
 bnd (gdv t13 true (.tuple []) (some p1)) fun t18=>
 bnd (gdv t13 true (.tuple []) (ibin .sub t18 (.int .i64 1))) fun t19=>
 bnd (gdv t13 true (.tuple []) (aindexStr t17 t19)) fun t20=>
 bnd (gdv t13 true (.tuple []) (ibin .eql t20 (.int .u8 10))) fun t21=>
 bnd (gdv t6 false (.tuple []) (apick t13 t21 (.bool false))) fun t22=>
 bnd (apick t6 (.bool true) t22) fun t23=>
 some (t23,H)
theorem F_resim_simulation_begins_eq (p0 p1:AV) (H:Hp):C_resim_simulation_begins [p0,p1] H=F_resim_simulation_begins p0 p1 H:=(callw_cxm (C:=cfg) (fn:=Try.f48) (c:=bodyOf Try.f48) (n:=24) [] Try.func48 (by kernel_rfl) (by kernel_rfl) [p0,p1] (by kernel_rfl) H).trans (by kernel_rfl)

def F_resim_simulation_ends (p0 p1:AV) (H:Hp):Res:=
 bnd (anil p0) fun t7=>
 bnd (afield 2 t7) fun t8=>
 bnd (aload false 1 t8 H) fun t9=>
 bnd (alenD .string t9) fun t10=>
 bnd (ibin .eql p1 t10) fun t11=>
 bnd (gdv t11 false (.tuple []) (some p0)) fun t13=>
 bnd (gdv t11 false (.tuple []) (anil t13)) fun t14=>
 bnd (gdv t11 false (.tuple []) (afield 0 t14)) fun t15=>
 bnd (gdv t11 false (.tuple []) (afield 1 t15)) fun t16=>
 bnd (gdv t11 false (.tuple []) (aload false 1 t16 H)) fun t17=>
 bnd (gdv t11 false (.tuple []) (some t17)) fun t18=>
 bnd (gdv t18 true (.tuple []) (some p0)) fun t19=>
 bnd (gdv t18 true (.tuple []) (anil t19)) fun t20=>
 bnd (gdv t18 true (.tuple []) (afield 2 t20)) fun t21=>
 bnd (gdv t18 true (.tuple []) (aload false 1 t21 H)) fun t22=>
 bnd (gdv t18 true (.tuple []) (some p1)) fun t23=>
 bnd (gdv t18 true (.tuple []) (aindexStr t22 t23)) fun t24=>
 bnd (gdv t18 true (.tuple []) (ibin .eql t24 (.int .u8 10))) fun t25=>
 bnd (gdv t11 false (.tuple []) (apick t18 t25 (.bool false))) fun t26=>
 bnd (apick t11 (.bool true) t26) fun t27=>
 some (t27,H)
theorem F_resim_simulation_ends_eq (p0 p1:AV) (H:Hp):C_resim_simulation_ends [p0,p1] H=F_resim_simulation_ends p0 p1 H:=(callw_cxm (C:=cfg) (fn:=Try.f49) (c:=bodyOf Try.f49) (n:=28) [] Try.func49 (by kernel_rfl) (by kernel_rfl) [p0,p1] (by kernel_rfl) H).trans (by kernel_rfl)

end
end Go.Am
