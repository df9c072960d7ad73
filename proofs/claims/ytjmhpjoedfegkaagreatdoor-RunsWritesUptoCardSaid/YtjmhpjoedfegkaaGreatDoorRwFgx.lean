/- tempfile -/
import Derived.Test.YtjmhpjoedfegkaaGreatDoorProg
import Derived.Test.YtjmhpjoedfegkaaGreatDoorRwPfx
open List renaming not_mem_nil->zA,contains_iff_mem->zB,mem_cons->zC
open Prod.mk renaming injEq->zD
namespace Go.Am.Fg
open Go.Am
open Go.Proofs
set_option maxRecDepth 100000
def Ad:List (Nat×List (Nat×List Nat)):=[]
def userList:List Nat:=[47,84,110,111]
def pureList:List Nat:=[]
def flatList:List Nat:=[]
def extList:List (Nat×ExtK):=[(152,.same),(190,.cmp),(209,.indexByte)]
def roList:List Nat:=[]
def eqList:List Nat:=[]
noncomputable def sumList:List (Nat×(List AV->Option AV)):=[]
noncomputable def effList:List (Nat×EffFn):=[(47,cloneE),(110,delE)]
def bldList:List (Nat×Nat):=[]
def wrbList:List Nat:=[]
def qkList:List (Nat×List Nat):=[]
def linList:List Nat:=[]
noncomputable def cfg:Cfg:={ P:=Tryz.prog,glob:=Zy6,sum:=λf=>sumList.lookup f,user:=λf=>userList.contains f,eqok:=λt=>eqList.contains t,pure:=λf=>pureList.contains f,flat:=λf=>flatList.contains f,ext:=λf=>extList.lookup f,keep:=ZjV Ad,eff:=λf=>effList.lookup f,bld:=λt=>bldList.lookup t,lin:=λt=>linList.contains t,qk:=λt a=>qkList.contains (t,a),wrb:=λt=>wrbList.contains t,ro:=λf=>roList.contains f }
noncomputable def C_tempfile_owned_forget:List AV->Hp->Z3:=Za cfg 84
noncomputable def F_tempfile_owned_forget (p0 p1:AV)(H:Hp):Z3 :=
 Z0 (ZY p1 H) λr3_1 =>
 Z0 (Zw p0) λt6_2 =>
 Z0 (Z6 2 t6_2) λt7_3 =>
 Z0 (Z4 false 1 t7_3 r3_1.2) λt8_4 =>
 Z0 (cloneE.run [t8_4] r3_1.2) λr9_5 =>
 Z0 (some (.fn (.func 111) [] [r3_1.1])) λt10_6 =>
 Z0 (delE.run [r9_5.1,t10_6] r9_5.2) λr11_7 =>
 Z0 (Zw p0) λt12_8 =>
 Z0 (Z6 2 t12_8) λt13_9 =>
 Z0 (Zg 1 t13_9 r11_7.1 r11_7.2) λr_10 =>
 Z0 (Zw p0) λt15_11 =>
 Z0 (Z6 3 t15_11) λt16_12 =>
 Z0 (Z4 false 1 t16_12 r_10.2) λt17_13 =>
 Z0 (Z4 false 1 r3_1.1 r_10.2) λt18_14 =>
 Z0 (Jx .string t17_13 t18_14 r_10.2) λr_15 =>
 some ((.tuple []),r_15.2)
theorem F_tempfile_owned_forget_eq (p0 p1:AV)(H:Hp):C_tempfile_owned_forget [p0,p1] H=F_tempfile_owned_forget p0 p1 H:=(Zb (C:=cfg) (fn:=Tryz.f84) (c:=Z1 Tryz.f84) (n:=19) [] Tryz.func84 (by kernel_rfl) (by kernel_rfl) [p0,p1] (by kernel_rfl) H).trans (by kernel_rfl)
theorem fA:∀ f∈userList,HI Tryz.prog f :=
 Z5 Tryz.call47 (
 Z5 Tryz.call84 (
 Z5 Tryz.call110 (
 Z5 Tryz.call111 (
 kY))))
theorem ZhR:∀ t∈eqList,Tryz.prog.stoodInHeld t=false/\Tryz.prog.eqGuardType Tryz.prog.depth t=false:=by
 intro t ht;simp only[eqList,zC,zA,or_false]at ht
theorem L9 (args:Array Value)(w:World):(callFunc 152 args).run Tryz.prog w=(do pure (.value (<-Jz .same args)):Sem Next).run Tryz.prog w:=by kernel_rfl
theorem La (args:Array Value)(w:World):(callFunc 190 args).run Tryz.prog w=(do pure (.value (<-Jz .cmp args)):Sem Next).run Tryz.prog w:=by kernel_rfl
theorem Lb (args:Array Value)(w:World):(callFunc 209 args).run Tryz.prog w=(do pure (.value (<-Jz .indexByte args)):Sem Next).run Tryz.prog w:=by kernel_rfl
theorem Zbz:∀ f e,cfg.ext f=some e->∀ (args:Array Value) (w:World),(callFunc f args).run Tryz.prog w=(do pure (.value (<-Jz e args)):Sem Next).run Tryz.prog w:=by
 intro f e h;have h2:=BQ (l:=extList) h;simp only[extList,zC,zD,zA,or_false]at h2;rcases h2 with ⟨rfl,rfl⟩|⟨rfl,rfl⟩|⟨rfl,rfl⟩
 ·exact L9
 ·exact La
 ·exact Lb
theorem Zcn:∀ f g,cfg.sum f=some g->cfg.user f=true/\Zcw cfg f g:=by
 intro f g h;cases (show (none:Option (List AV->Option AV))=some g from h)
theorem Zbt:∀ f g,cfg.eff f=some g->cfg.user f=true/\Bw cfg f g:=by
 intro f g h;have h2:=BQ (l:=effList) h;simp only[effList,zC,zD,zA,or_false]at h2;rcases h2 with ⟨rfl,rfl⟩|⟨rfl,rfl⟩
 ·exact⟨by kernel_rfl,ZsX (C:=cfg) rfl (λ_=>rfl)⟩
 ·exact⟨by kernel_rfl,ZyC (C:=cfg) rfl (λ_=>rfl)⟩
theorem cfg_ok:VG cfg :=
 ⟨λt h=>ZhR t (zB.1 h),λf h=>fA f (zB.1 h),by kernel_rfl,Zbz,Zcn,Zbt⟩
end Go.Am.Fg
