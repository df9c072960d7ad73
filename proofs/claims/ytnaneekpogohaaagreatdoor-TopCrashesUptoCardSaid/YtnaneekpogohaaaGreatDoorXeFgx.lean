/- tempfile -/
import Derived.Test.YtnaneekpogohaaaGreatDoorProg
import Derived.Test.YtnaneekpogohaaaGreatDoorXePfx
open List renaming not_mem_nil->zA,contains_iff_mem->zB,mem_cons->zC
open Prod.mk renaming injEq->zD
namespace Go.Am.Fg
open Go.Am
open Go.Proofs
set_option maxRecDepth 100000
def ZgU:List (Nat×List (Nat×List Nat)):=[]
def userList:List Nat:=[53,73,95,96]
def pureList:List Nat:=[]
def flatList:List Nat:=[]
def extList:List (Nat×ExtK):=[(177,.cmp),(200,.same),(201,.indexByte)]
def roList:List Nat:=[]
def eqList:List Nat:=[]
noncomputable def sumList:List (Nat×(List AV->Option AV)):=[]
noncomputable def effList:List (Nat×EffFn):=[(53,cloneE),(95,delE)]
def bldList:List (Nat×Nat):=[]
def wrbList:List Nat:=[]
def qkList:List (Nat×List Nat):=[]
def linList:List Nat:=[]
noncomputable def cfg:Cfg:={ P:=Tryz.prog,glob:=Zzk,sum:=fun f=>sumList.lookup f,user:=fun f=>userList.contains f,eqok:=fun t=>eqList.contains t,pure:=fun f=>pureList.contains f,flat:=fun f=>flatList.contains f,ext:=fun f=>extList.lookup f,keep:=Zp8 ZgU,eff:=fun f=>effList.lookup f,bld:=fun t=>bldList.lookup t,lin:=fun t=>linList.contains t,qk:=fun t a=>qkList.contains (t,a),wrb:=fun t=>wrbList.contains t,ro:=fun f=>roList.contains f }
noncomputable def C_tempfile_owned_forget:List AV->Hp->Z4:=Zb cfg 73
noncomputable def F_tempfile_owned_forget (p0 p1:AV)(H:Hp):Z4 :=
 Z0 (ZQ p1 H) fun r3_1 =>
 Z0 (Zu p0) fun t6_2 =>
 Z0 (Z6 2 t6_2) fun t7_3 =>
 Z0 (Z3 false 1 t7_3 r3_1.2) fun t8_4 =>
 Z0 (cloneE.run [t8_4] r3_1.2) fun r9_5 =>
 Z0 (some (.fn (.func 96) [] [r3_1.1])) fun t10_6 =>
 Z0 (delE.run [r9_5.1,t10_6] r9_5.2) fun r11_7 =>
 Z0 (Zu p0) fun t12_8 =>
 Z0 (Z6 2 t12_8) fun t13_9 =>
 Z0 (Za 1 t13_9 r11_7.1 r11_7.2) fun r_10 =>
 Z0 (Zu p0) fun t15_11 =>
 Z0 (Z6 3 t15_11) fun t16_12 =>
 Z0 (Z3 false 1 t16_12 r_10.2) fun t17_13 =>
 Z0 (Z3 false 1 r3_1.1 r_10.2) fun t18_14 =>
 Z0 (Jz .string t17_13 t18_14 r_10.2) fun r_15 =>
 some ((.tuple []),r_15.2)
theorem F_tempfile_owned_forget_eq (p0 p1:AV)(H:Hp):C_tempfile_owned_forget [p0,p1] H=F_tempfile_owned_forget p0 p1 H:=(Zd (C:=cfg) (fn:=Tryz.f73) (c:=Z1 Tryz.f73) (n:=19) [] Tryz.func73 (by kernel_rfl) (by kernel_rfl) [p0,p1] (by kernel_rfl) H).trans (by kernel_rfl)
theorem ZjX:∀ f∈userList,Oa Tryz.prog f :=
 Z2 Tryz.call53 (
 Z2 Tryz.call73 (
 Z2 Tryz.call95 (
 Z2 Tryz.call96 (
 ZiX))))
theorem Zqc:∀ t∈eqList,Tryz.prog.stoodInHeld t=false/\Tryz.prog.eqGuardType Tryz.prog.depth t=false:=by
 intro t ht;simp only[eqList,zC,zA,or_false]at ht
theorem ZdN (args:Array Value)(w:World):(callFunc 177 args).run Tryz.prog w=(do pure (.value (<-DG .cmp args)):Sem Next).run Tryz.prog w:=by kernel_rfl
theorem ZdO (args:Array Value)(w:World):(callFunc 200 args).run Tryz.prog w=(do pure (.value (<-DG .same args)):Sem Next).run Tryz.prog w:=by kernel_rfl
theorem ZdP (args:Array Value)(w:World):(callFunc 201 args).run Tryz.prog w=(do pure (.value (<-DG .indexByte args)):Sem Next).run Tryz.prog w:=by kernel_rfl
theorem Zmu:∀ f e,cfg.ext f=some e->∀ (args:Array Value) (w:World),(callFunc f args).run Tryz.prog w=(do pure (.value (<-DG e args)):Sem Next).run Tryz.prog w:=by
 intro f e h;have h2:=TJ (l:=extList) h;simp only[extList,zC,zD,zA,or_false]at h2;rcases h2 with ⟨rfl,rfl⟩|⟨rfl,rfl⟩|⟨rfl,rfl⟩
 ·exact ZdN
 ·exact ZdO
 ·exact ZdP
theorem Znv:∀ f g,cfg.sum f=some g->cfg.user f=true/\ZhH cfg f g:=by
 intro f g h;cases (show (none:Option (List AV->Option AV))=some g from h)
theorem Zmm:∀ f g,cfg.eff f=some g->cfg.user f=true/\FH cfg f g:=by
 intro f g h;have h2:=TJ (l:=effList) h;simp only[effList,zC,zD,zA,or_false]at h2;rcases h2 with ⟨rfl,rfl⟩|⟨rfl,rfl⟩
 ·exact⟨by kernel_rfl,Zsf (C:=cfg) rfl (fun _=>rfl)⟩
 ·exact⟨by kernel_rfl,ZxA (C:=cfg) rfl (fun _=>rfl)⟩
theorem cfg_ok:Um cfg :=
 ⟨fun t h=>Zqc t (zB.1 h),fun f h=>ZjX f (zB.1 h),by kernel_rfl,Zmu,Znv,Zmm⟩
end Go.Am.Fg
