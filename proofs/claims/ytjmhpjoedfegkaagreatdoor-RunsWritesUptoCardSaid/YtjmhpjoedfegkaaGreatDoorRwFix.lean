/- The functions of the translation over the abstract machine -/
import Derived.Test.YtjmhpjoedfegkaaGreatDoorProg
import Derived.Test.YtjmhpjoedfegkaaGreatDoorRwPfx
open List renaming contains_iff_mem->zA,not_mem_nil->zB,mem_cons->zC
namespace Go.Am.Sg
open Go.Am
open Go.Proofs
set_option maxRecDepth 100000
def Ad:List (Nat×List (Nat×List Nat)):=[(132,[(4,[3,4,5]),(5,[3,4,5]),(6,[3,4,5]),(8,[4])]),
 (166,[(3,[0,3,4]),(4,[0,3,4]),(5,[0,3,4]),(7,[0,3,4,5]),(8,[0,3,4,5]),(9,[0,3,4,5]),(12,[3])])]
def userList:List Nat:=[132,166]
def pureList:List Nat:=[]
def flatList:List Nat:=[166]
def extList:List (Nat×ExtK):=[(152,.same),(190,.cmp),(209,.indexByte)]
def roList:List Nat:=[]
def eqList:List Nat:=[]
noncomputable def sumList:List (Nat×(List AV->Option AV)):=[]
noncomputable def effList:List (Nat×EffFn):=[]
def bldList:List (Nat×Nat):=[]
def wrbList:List Nat:=[94]
def qkList:List (Nat×List Nat):=[]
def linList:List Nat:=[5]
noncomputable def cfg:Cfg:={ P:=Tryz.prog,glob:=Zy6,sum:=λf=>sumList.lookup f,user:=λf=>userList.contains f,eqok:=λt=>eqList.contains t,pure:=λf=>pureList.contains f,flat:=λf=>flatList.contains f,ext:=λf=>extList.lookup f,keep:=ZjV Ad,eff:=λf=>effList.lookup f,bld:=λt=>bldList.lookup t,lin:=λt=>linList.contains t,qk:=λt a=>qkList.contains (t,a),wrb:=λt=>wrbList.contains t,ro:=λf=>roList.contains f }
noncomputable def C_R17_seal:List AV->Hp->Z3:=Za cfg 132
noncomputable def C_R17_Crc:List AV->Hp->Z3:=Za cfg 166
noncomputable def Ze2 (x4:AV)(H0 H:Hp):Z3:=Y7 cfg (Za cfg) (ZT cfg (cfg.keep 132) 25) (cfg.keep 132) 25 Zc Z7 (sub (Z1 Tryz.f132) [1,1,1,1]) (Zd cfg 25 132 Tryz.f132 H0) [(4,x4)] H
noncomputable def Me (H0:Hp):KL:=Zc (λk al H=>Y7 cfg (Za cfg) (ZT cfg (cfg.keep 132) 25) (cfg.keep 132) 25 Zc Z7 (sub (Z1 Tryz.f132) [1,1,1,1]) k (Y3 (cfg.keep 132) (sub (Z1 Tryz.f132) [1,1,1,1]) al) H) (Zd cfg 25 132 Tryz.f132 H0)
theorem Zft (H0:Hp):ZV 25 (Me H0):=Zv (C:=cfg) (kp:=cfg.keep 132) (sub (Z1 Tryz.f132) [1,1,1,1]) (Zy 132 Tryz.f132 H0)
noncomputable def Ze4 (x3 x4 x5:AV)(H0 H:Hp):Z3:=Y7 cfg (Za cfg) (ZT cfg (cfg.keep 132) 25) (cfg.keep 132) 25 Zc Z7 (sub (Z1 Tryz.f132) [1,1,1,0,1,0,0,1,1]) (Zc (λk al H=>ZT cfg (cfg.keep 132) 25 (sub (Z1 Tryz.f132) [1,1,1,0,1,0,0]) k (Y3 (cfg.keep 132) (sub (Z1 Tryz.f132) [1,1,1,0,1,0,0]) al) H) (Z7 0 (Me H0))) [(3,x3),(4,x4),(5,x5)] H
noncomputable def Ze3 (x3 x4 x5:AV)(H0 H:Hp):Z3:=Y7 cfg (Za cfg) (ZT cfg (cfg.keep 132) 25) (cfg.keep 132) 25 Zc Z7 (sub (Z1 Tryz.f132) [1,1,1,0,1,0,0,1]) (Zc (λk al H=>ZT cfg (cfg.keep 132) 25 (sub (Z1 Tryz.f132) [1,1,1,0,1,0,0]) k (Y3 (cfg.keep 132) (sub (Z1 Tryz.f132) [1,1,1,0,1,0,0]) al) H) (Z7 0 (Me H0))) [(3,x3),(4,x4),(5,x5)] H
noncomputable def R17_seal_L1 (x3 x4 x5:AV)(H0 H:Hp):Z3:=ZT cfg (cfg.keep 132) 25 (sub (Z1 Tryz.f132) [1,1,1,0,1,0,0]) (Z7 0 (Me H0)) [(3,x3),(4,x4),(5,x5)] H
noncomputable def F_R17_seal (p0:AV)(H:Hp):Z3 :=
 Z0 (Ze C_R17_Crc [p0] H) λr7_1 =>
 Z0 (ZS .i64 r7_1.1) λt8_2 =>
 Z0 (SM p0 r7_1.2) λr10_3 =>
 R17_seal_L1 t8_2 r10_3.1 (.int .i64 0) H r10_3.2
theorem R17_seal_J1_eq (x4:AV)(H0 H:Hp):Ze2 x4 H0 H =
 Z0 (XM x4 H) λt24_4 =>
 some (t24_4,H):=(GK [5,6,8] _ _ _ _).trans (by kernel_rfl)
theorem R17_seal_J3_eq (x3 x4 x5:AV)(H0 H:Hp):Ze4 x3 x4 x5 H0 H =
 Z0 (Z2 .add x5 (.int .i64 1)) λt14_5 =>
 R17_seal_L1 x3 x4 t14_5 H0 H:=(GK [5,6,8] _ _ _ _).trans (by kernel_rfl)
theorem R17_seal_J2_eq (x3 x4 x5:AV)(H0 H:Hp):Ze3 x3 x4 x5 H0 H =
 Z0 (Z2 .rem x3 (.int .i64 256)) λt17_6 =>
 Z0 (ZS .u8 t17_6) λt18_7 =>
 Z0 ((ZB 1 [(0,t18_7)] [(.int .u8 0)]).map (.vs 1 .clip)) λt19_8 =>
 Z0 (V1 false 1 1 x4 t19_8 H) λr20_9 =>
 Z0 (Z2 .quo x3 (.int .i64 256)) λt22_10 =>
 Ze4 t22_10 r20_9.1 x5 H0 r20_9.2:=(GK [5,6,8] _ _ _ _).trans (by kernel_rfl)
theorem R17_seal_L1_eq (x3 x4 x5:AV)(H0 H:Hp):R17_seal_L1 x3 x4 x5 H0 H =
 Z0 (Z2 .lss x5 (.int .i64 4)) λt12_11 =>
 Zh t12_11
  (Ze3 x3 x4 x5 H0 H)
  (Ze2 x4 H0 H):=(ZC (C:=cfg) [5,6,8] (Zo 0 (Zft H0)) _ _).trans (by kernel_rfl)
theorem F_R17_seal_eq (p0:AV)(H:Hp):C_R17_seal [p0] H=F_R17_seal p0 H:=(Zb (C:=cfg) (fn:=Tryz.f132) (c:=Z1 Tryz.f132) (n:=25) [5,6,8] Tryz.func132 (by kernel_rfl) (by kernel_rfl) [p0] (by kernel_rfl) H).trans (by kernel_rfl)
noncomputable def Zh2 (x3:AV)(H0 H:Hp):Z3:=Y7 cfg (Za cfg) (ZT cfg (cfg.keep 166) 33) (cfg.keep 166) 33 Zc Z7 (sub (Z1 Tryz.f166) [1,1,1]) (Zd cfg 33 166 Tryz.f166 H0) [(3,x3)] H
noncomputable def TF (H0:Hp):KL:=Zc (λk al H=>Y7 cfg (Za cfg) (ZT cfg (cfg.keep 166) 33) (cfg.keep 166) 33 Zc Z7 (sub (Z1 Tryz.f166) [1,1,1]) k (Y3 (cfg.keep 166) (sub (Z1 Tryz.f166) [1,1,1]) al) H) (Zd cfg 33 166 Tryz.f166 H0)
theorem IG (H0:Hp):ZV 33 (TF H0):=Zv (C:=cfg) (kp:=cfg.keep 166) (sub (Z1 Tryz.f166) [1,1,1]) (Zy 166 Tryz.f166 H0)
noncomputable def R17_Crc_J3 (x0 x3 x4:AV)(H0 H:Hp):Z3:=Y7 cfg (Za cfg) (ZT cfg (cfg.keep 166) 33) (cfg.keep 166) 33 Zc Z7 (sub (Z1 Tryz.f166) [1,1,0,1,0,0,1,1]) (Zc (λk al H=>ZT cfg (cfg.keep 166) 33 (sub (Z1 Tryz.f166) [1,1,0,1,0,0]) k (Y3 (cfg.keep 166) (sub (Z1 Tryz.f166) [1,1,0,1,0,0]) al) H) (Z7 0 (TF H0))) [(0,x0),(3,x3),(4,x4)] H
noncomputable def SD (H0:Hp):KL:=Zc (λk al H=>Y7 cfg (Za cfg) (ZT cfg (cfg.keep 166) 33) (cfg.keep 166) 33 Zc Z7 (sub (Z1 Tryz.f166) [1,1,0,1,0,0,1,1]) k (Y3 (cfg.keep 166) (sub (Z1 Tryz.f166) [1,1,0,1,0,0,1,1]) al) H) (Zc (λk al H=>ZT cfg (cfg.keep 166) 33 (sub (Z1 Tryz.f166) [1,1,0,1,0,0]) k (Y3 (cfg.keep 166) (sub (Z1 Tryz.f166) [1,1,0,1,0,0]) al) H) (Z7 0 (TF H0)))
theorem Zh5 (H0:Hp):ZV 33 (SD H0):=Zv (C:=cfg) (kp:=cfg.keep 166) (sub (Z1 Tryz.f166) [1,1,0,1,0,0,1,1]) (Ov (C:=cfg) (kp:=cfg.keep 166) (sub (Z1 Tryz.f166) [1,1,0,1,0,0]) (Zo 0 (IG H0)))
noncomputable def gE (x0 x3 x4 x5:AV)(H0 H:Hp):Z3:=Y7 cfg (Za cfg) (ZT cfg (cfg.keep 166) 33) (cfg.keep 166) 33 Zc Z7 (sub (Z1 Tryz.f166) [1,1,0,1,0,0,1,0,0,1,1,0,0,1,1]) (Zc (λk al H=>ZT cfg (cfg.keep 166) 33 (sub (Z1 Tryz.f166) [1,1,0,1,0,0,1,0,0,1,1,0,0]) k (Y3 (cfg.keep 166) (sub (Z1 Tryz.f166) [1,1,0,1,0,0,1,0,0,1,1,0,0]) al) H) (Z7 2 (Z7 1 (SD H0)))) [(0,x0),(3,x3),(4,x4),(5,x5)] H
noncomputable def Zh4 (x0 x3 x4 x5:AV)(H0 H:Hp):Z3:=Y7 cfg (Za cfg) (ZT cfg (cfg.keep 166) 33) (cfg.keep 166) 33 Zc Z7 (sub (Z1 Tryz.f166) [1,1,0,1,0,0,1,0,0,1,1,0,0,1]) (Zc (λk al H=>ZT cfg (cfg.keep 166) 33 (sub (Z1 Tryz.f166) [1,1,0,1,0,0,1,0,0,1,1,0,0]) k (Y3 (cfg.keep 166) (sub (Z1 Tryz.f166) [1,1,0,1,0,0,1,0,0,1,1,0,0]) al) H) (Z7 2 (Z7 1 (SD H0)))) [(0,x0),(3,x3),(4,x4),(5,x5)] H
noncomputable def R17_Crc_L2 (x0 x3 x4 x5:AV)(H0 H:Hp):Z3:=ZT cfg (cfg.keep 166) 33 (sub (Z1 Tryz.f166) [1,1,0,1,0,0,1,0,0,1,1,0,0]) (Z7 2 (Z7 1 (SD H0))) [(0,x0),(3,x3),(4,x4),(5,x5)] H
noncomputable def Zh3 (x0 x3 x4:AV)(H0 H:Hp):Z3:=Y7 cfg (Za cfg) (ZT cfg (cfg.keep 166) 33) (cfg.keep 166) 33 Zc Z7 (sub (Z1 Tryz.f166) [1,1,0,1,0,0,1]) (Zc (λk al H=>ZT cfg (cfg.keep 166) 33 (sub (Z1 Tryz.f166) [1,1,0,1,0,0]) k (Y3 (cfg.keep 166) (sub (Z1 Tryz.f166) [1,1,0,1,0,0]) al) H) (Z7 0 (TF H0))) [(0,x0),(3,x3),(4,x4)] H
noncomputable def R17_Crc_L1 (x0 x3 x4:AV)(H0 H:Hp):Z3:=ZT cfg (cfg.keep 166) 33 (sub (Z1 Tryz.f166) [1,1,0,1,0,0]) (Z7 0 (TF H0)) [(0,x0),(3,x3),(4,x4)] H
noncomputable def F_R17_Crc (p0:AV)(H:Hp):Z3 :=
 R17_Crc_L1 p0 (.int .i64 4294967295) (.int .i64 0) H H
theorem R17_Crc_J1_eq (x3:AV)(H0 H:Hp):Zh2 x3 H0 H =
 Z0 (Z2 .sub (.int .i64 4294967295) x3) λt31_1 =>
 Z0 (ZS .u32 t31_1) λt32_2 =>
 some (t32_2,H):=(GK [4,5,8,9,12] _ _ _ _).trans (by kernel_rfl)
theorem R17_Crc_J3_eq (x0 x3 x4:AV)(H0 H:Hp):R17_Crc_J3 x0 x3 x4 H0 H =
 Z0 (Z2 .add x4 (.int .i64 1)) λt11_3 =>
 R17_Crc_L1 x0 x3 t11_3 H0 H:=(GK [4,5,8,9,12] _ _ _ _).trans (by kernel_rfl)
theorem R17_Crc_J5_eq (x0 x3 x4 x5:AV)(H0 H:Hp):gE x0 x3 x4 x5 H0 H =
 Z0 (Z2 .add x5 (.int .i64 1)) λt21_7 =>
 R17_Crc_L2 x0 x3 x4 t21_7 H0 H:=(GK [4,5,8,9,12] _ _ _ _).trans (by kernel_rfl)
theorem R17_Crc_J4_eq (x0 x3 x4 x5:AV)(H0 H:Hp):Zh4 x0 x3 x4 x5 H0 H =
 Z0 (Z2 .rem x3 (.int .i64 2)) λt23_8 =>
 Z0 (Z2 .eql t23_8 (.int .i64 1)) λt24_9 =>
 Zh t24_9
  (Z0 (Z2 .quo x3 (.int .i64 2)) λt26_10 =>
  Z0 (Z2 .xor t26_10 (.int .i64 3988292384)) λt27_11 =>
  gE x0 t27_11 x4 x5 H0 H)
  (Z0 (Z2 .quo x3 (.int .i64 2)) λt29_12 =>
  gE x0 t29_12 x4 x5 H0 H):=(GK [4,5,8,9,12] _ _ _ _).trans (by kernel_rfl)
theorem R17_Crc_L2_eq (x0 x3 x4 x5:AV)(H0 H:Hp):R17_Crc_L2 x0 x3 x4 x5 H0 H =
 Z0 (Z2 .lss x5 (.int .i64 8)) λt19_13 =>
 Zh t19_13
  (Zh4 x0 x3 x4 x5 H0 H)
  (R17_Crc_J3 x0 x3 x4 H0 H):=(ZC (C:=cfg) [4,5,8,9,12] (Zo 2 (Zo 1 (Zh5 H0))) _ _).trans (by kernel_rfl)
theorem R17_Crc_J2_eq (x0 x3 x4:AV)(H0 H:Hp):Zh3 x0 x3 x4 H0 H =
 Z0 (Zp x0 x4) λt15_4 =>
 Z0 (ZS .i64 t15_4) λt16_5 =>
 Z0 (Z2 .xor x3 t16_5) λt17_6 =>
 R17_Crc_L2 x0 t17_6 x4 (.int .i64 0) H0 H:=(GK [4,5,8,9,12] _ _ _ _).trans (by kernel_rfl)
theorem R17_Crc_L1_eq (x0 x3 x4:AV)(H0 H:Hp):R17_Crc_L1 x0 x3 x4 H0 H =
 Z0 (Zf .string x0) λt8_14 =>
 Z0 (Z2 .lss x4 t8_14) λt9_15 =>
 Zh t9_15
  (Zh3 x0 x3 x4 H0 H)
  (Zh2 x3 H0 H):=(ZC (C:=cfg) [4,5,8,9,12] (Zo 0 (IG H0)) _ _).trans (by kernel_rfl)
theorem F_R17_Crc_eq (p0:AV)(H:Hp):C_R17_Crc [p0] H=F_R17_Crc p0 H:=(Zb (C:=cfg) (fn:=Tryz.f166) (c:=Z1 Tryz.f166) (n:=33) [4,5,8,9,12] Tryz.func166 (by kernel_rfl) (by kernel_rfl) [p0] (by kernel_rfl) H).trans (by kernel_rfl)
theorem fA:∀ f∈userList,HI Tryz.prog f :=
 Z5 Tryz.call132 (
 Z5 Tryz.call166 (
 kY))
theorem ZhR:∀ t∈eqList,Tryz.prog.stoodInHeld t=false/\Tryz.prog.eqGuardType Tryz.prog.depth t=false:=by
 intro t ht;simp only[eqList,zC,zB,or_false]at ht
theorem L9 (args:Array Value)(w:World):(callFunc 152 args).run Tryz.prog w=(do pure (.value (<-Jz .same args)):Sem Next).run Tryz.prog w:=by kernel_rfl
theorem La (args:Array Value)(w:World):(callFunc 190 args).run Tryz.prog w=(do pure (.value (<-Jz .cmp args)):Sem Next).run Tryz.prog w:=by kernel_rfl
theorem Lb (args:Array Value)(w:World):(callFunc 209 args).run Tryz.prog w=(do pure (.value (<-Jz .indexByte args)):Sem Next).run Tryz.prog w:=by kernel_rfl
theorem Zbz:∀ f e,cfg.ext f=some e->∀ (args:Array Value) (w:World),(callFunc f args).run Tryz.prog w=(do pure (.value (<-Jz e args)):Sem Next).run Tryz.prog w:=by
 intro f e h;have h2:=BQ (l:=extList) h;simp only[extList,zC,Prod.mk.injEq,zB,or_false]at h2;rcases h2 with ⟨rfl,rfl⟩|⟨rfl,rfl⟩|⟨rfl,rfl⟩
 ·exact L9
 ·exact La
 ·exact Lb
theorem Zcn:∀ f g,cfg.sum f=some g->cfg.user f=true/\Zcw cfg f g:=by
 intro f g h;cases (show (none:Option (List AV->Option AV))=some g from h)
theorem Zbt:∀ f g,cfg.eff f=some g->cfg.user f=true/\Bw cfg f g:=by
 intro f g h;cases (show (none:Option EffFn)=some g from h)
theorem cfg_ok:VG cfg :=
 ⟨λt h=>ZhR t (zA.1 h),λf h=>fA f (zA.1 h),by kernel_rfl,Zbz,Zcn,Zbt⟩
end Go.Am.Sg
