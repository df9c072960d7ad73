/-
  Bytes told apart; names; letters and digits alone.
-/
import Derived.Test.YtehanadfidoodaaGreatDoorNkSx
import Derived.Test.YtehanadfidoodaaGreatDoorNkGCx
namespace Go.Am
set_option maxRecDepth 100000
theorem Bq {α β γ:Type}(x:Option α)(f:α→Option β)(g:β→Option γ):Z0 (Z0 x f) g=Z0 x fun a=>Z0 (f a) g:=by cases x <;> rfl
def PC (t13_9 x8:AV):Option AV :=
 Z0 (Z5 .eql t13_9 (.int .u8 95)) fun t15_10 =>
 Z0 (Z6 t15_10 false (.tuple []) (some t13_9)) fun t17_11 =>
 Z0 (Z6 t15_10 false (.tuple []) (Z5 .geq t17_11 (.int .u8 97))) fun t18_12 =>
 Z0 (Z6 t15_10 false (.tuple []) (some t18_12)) fun t19_13 =>
 Z0 (Z6 t19_13 true (.tuple []) (some t13_9)) fun t20_14 =>
 Z0 (Z6 t19_13 true (.tuple []) (Z5 .leq t20_14 (.int .u8 122))) fun t21_15 =>
 Z0 (Z6 t15_10 false (.tuple []) (Zg t19_13 t21_15 (.bool false))) fun t22_16 =>
 Z0 (Zg t15_10 (.bool true) t22_16) fun t23_17 =>
 Z0 (Z6 t23_17 false (.tuple []) (some t13_9)) fun t25_18 =>
 Z0 (Z6 t23_17 false (.tuple []) (Z5 .geq t25_18 (.int .u8 65))) fun t26_19 =>
 Z0 (Z6 t23_17 false (.tuple []) (some t26_19)) fun t27_20 =>
 Z0 (Z6 t27_20 true (.tuple []) (some t13_9)) fun t28_21 =>
 Z0 (Z6 t27_20 true (.tuple []) (Z5 .leq t28_21 (.int .u8 90))) fun t29_22 =>
 Z0 (Z6 t23_17 false (.tuple []) (Zg t27_20 t29_22 (.bool false))) fun t30_23 =>
 Z0 (Zg t23_17 (.bool true) t30_23) fun t31_24 =>
 Z0 (X9 .not t31_24) fun t33_25 =>
 Z0 (Z6 t33_25 true (.tuple []) (some x8)) fun t35_26 =>
 Z0 (Z6 t33_25 true (.tuple []) (Z5 .eql t35_26 (.int .i64 0))) fun t36_27 =>
 Z0 (Z6 t33_25 true (.tuple []) (some t36_27)) fun t37_28 =>
 Z0 (Z6 t37_28 false (.tuple []) (some t13_9)) fun t38_29 =>
 Z0 (Z6 t37_28 false (.tuple []) (Z5 .lss t38_29 (.int .u8 48))) fun t39_30 =>
 Z0 (Z6 t33_25 true (.tuple []) (Zg t37_28 (.bool true) t39_30)) fun t40_31 =>
 Z0 (Z6 t33_25 true (.tuple []) (some t40_31)) fun t41_32 =>
 Z0 (Z6 t41_32 false (.tuple []) (some t13_9)) fun t42_33 =>
 Z0 (Z6 t41_32 false (.tuple []) (Z5 .gtr t42_33 (.int .u8 57))) fun t43_34 =>
 Z0 (Z6 t33_25 true (.tuple []) (Zg t41_32 (.bool true) t43_34)) fun t44_35 =>
 Z0 (Zg t33_25 t44_35 (.bool false)) fun t45_36 =>
 some t45_36
theorem Fg (x0 x7 x8 x9:AV)(H0 H:Hp):FW x0 x7 x8 x9 H0 H =
 Z0 (Zr x0 x8) fun t13_9 =>
 Z0 (PC t13_9 x8) fun t45_36 =>
 Zk t45_36 (some ((.bool false),H)) (FX x0 x7 x8 H0 H):=by
 rw[Zce];simp only[PC,Bq,Vd]
def ZgP (t31_2:AV):Option AV :=
 Z0 (Z5 .geq t31_2 (.int .u8 97)) fun t33_3 =>
 Z0 (Z6 t33_3 true (.tuple []) (some t31_2)) fun t35_4 =>
 Z0 (Z6 t33_3 true (.tuple []) (Z5 .leq t35_4 (.int .u8 122))) fun t36_5 =>
 Z0 (Zg t33_3 t36_5 (.bool false)) fun t37_6 =>
 Z0 (Z6 t37_6 false (.tuple []) (some t31_2)) fun t39_7 =>
 Z0 (Z6 t37_6 false (.tuple []) (Z5 .geq t39_7 (.int .u8 65))) fun t40_8 =>
 Z0 (Z6 t37_6 false (.tuple []) (some t40_8)) fun t41_9 =>
 Z0 (Z6 t41_9 true (.tuple []) (some t31_2)) fun t42_10 =>
 Z0 (Z6 t41_9 true (.tuple []) (Z5 .leq t42_10 (.int .u8 90))) fun t43_11 =>
 Z0 (Z6 t37_6 false (.tuple []) (Zg t41_9 t43_11 (.bool false))) fun t44_12 =>
 Z0 (Zg t37_6 (.bool true) t44_12) fun t45_13 =>
 Z0 (Z6 t45_13 false (.tuple []) (some t31_2)) fun t47_14 =>
 Z0 (Z6 t45_13 false (.tuple []) (Z5 .geq t47_14 (.int .u8 48))) fun t48_15 =>
 Z0 (Z6 t45_13 false (.tuple []) (some t48_15)) fun t49_16 =>
 Z0 (Z6 t49_16 true (.tuple []) (some t31_2)) fun t50_17 =>
 Z0 (Z6 t49_16 true (.tuple []) (Z5 .leq t50_17 (.int .u8 57))) fun t51_18 =>
 Z0 (Z6 t45_13 false (.tuple []) (Zg t49_16 t51_18 (.bool false))) fun t52_19 =>
 Z0 (Zg t45_13 (.bool true) t52_19) fun t53_20 =>
 Z0 (Z6 t53_20 false (.tuple []) (some t31_2)) fun t55_21 =>
 Z0 (Z6 t53_20 false (.tuple []) (Z5 .eql t55_21 (.int .u8 95))) fun t56_22 =>
 Z0 (Zg t53_20 (.bool true) t56_22) fun t57_23 =>
 Z0 (X9 .not t57_23) fun t58_24 =>
 some t58_24
theorem OE (x0 x3:AV)(H0 H:Hp):Tk x0 x3 H0 H =
 Z0 (Zr x0 x3) fun t31_2 =>
 Z0 (ZgP t31_2) fun t58_24 =>
 Zk t58_24 (some ((.bool false),H)) (Tl x0 x3 H0 H):=by
 rw[Zdt];simp only[ZgP,Bq,Vd]
def ZgL (r16_4a t14_3:AV):Option AV :=
 Z0 (Z6 r16_4a false (.tuple []) (some t14_3)) fun t18_5 =>
 Z0 (Z6 r16_4a false (.tuple []) (Z5 .geq t18_5 (.int .u8 48))) fun t19_6 =>
 Z0 (Z6 r16_4a false (.tuple []) (some t19_6)) fun t20_7 =>
 Z0 (Z6 t20_7 true (.tuple []) (some t14_3)) fun t21_8 =>
 Z0 (Z6 t20_7 true (.tuple []) (Z5 .leq t21_8 (.int .u8 57))) fun t22_9 =>
 Z0 (Z6 r16_4a false (.tuple []) (Zg t20_7 t22_9 (.bool false))) fun t23_10 =>
 Z0 (Zg r16_4a (.bool true) t23_10) fun t24_11 =>
 Z0 (Z6 t24_11 false (.tuple []) (some t14_3)) fun t26_12 =>
 Z0 (Z6 t24_11 false (.tuple []) (Z5 .geq t26_12 (.int .u8 97))) fun t27_13 =>
 Z0 (Z6 t24_11 false (.tuple []) (some t27_13)) fun t28_14 =>
 Z0 (Z6 t28_14 true (.tuple []) (some t14_3)) fun t29_15 =>
 Z0 (Z6 t28_14 true (.tuple []) (Z5 .leq t29_15 (.int .u8 122))) fun t30_16 =>
 Z0 (Z6 t24_11 false (.tuple []) (Zg t28_14 t30_16 (.bool false))) fun t31_17 =>
 Z0 (Zg t24_11 (.bool true) t31_17) fun t32_18 =>
 Z0 (Z6 t32_18 false (.tuple []) (some t14_3)) fun t34_19 =>
 Z0 (Z6 t32_18 false (.tuple []) (Z5 .geq t34_19 (.int .u8 65))) fun t35_20 =>
 Z0 (Z6 t32_18 false (.tuple []) (some t35_20)) fun t36_21 =>
 Z0 (Z6 t36_21 true (.tuple []) (some t14_3)) fun t37_22 =>
 Z0 (Z6 t36_21 true (.tuple []) (Z5 .leq t37_22 (.int .u8 90))) fun t38_23 =>
 Z0 (Z6 t32_18 false (.tuple []) (Zg t36_21 t38_23 (.bool false))) fun t39_24 =>
 Z0 (Zg t32_18 (.bool true) t39_24) fun t40_25 =>
 some t40_25
theorem ZdD (x0 x3 x4:AV)(H0 H:Hp):EB x0 x3 x4 H0 H =
 Z0 (Zr x0 x4) fun t14_3 =>
 Z0 (U8 [t14_3] H) fun r16_4 =>
 Z0 (ZgL r16_4.1 t14_3) fun t40_25 =>
 Zk t40_25 (Z0 ((Zz 1 [(0,t14_3)] [(.int .u8 0)]).map (.vs 1 .clip)) fun t43_26=>Z0 (ZS 1 1 x3 t43_26 r16_4.2) fun r44_27=>KZ x0 r44_27.1 x4 H0 r44_27.2) (KZ x0 x3 x4 H0 r16_4.2):=by
 rw[ZhA];simp only[ZgL,Bq,Vd]
def ZjK (r15_7a t13_6:AV):Option AV :=
 Z0 (Z6 r15_7a false (.tuple []) (some t13_6)) fun t17_8 =>
 Z0 (Z6 r15_7a false (.tuple []) (Z5 .geq t17_8 (.int .u8 97))) fun t18_9 =>
 Z0 (Z6 r15_7a false (.tuple []) (some t18_9)) fun t19_10 =>
 Z0 (Z6 t19_10 true (.tuple []) (some t13_6)) fun t20_11 =>
 Z0 (Z6 t19_10 true (.tuple []) (Z5 .leq t20_11 (.int .u8 122))) fun t21_12 =>
 Z0 (Z6 r15_7a false (.tuple []) (Zg t19_10 t21_12 (.bool false))) fun t22_13 =>
 Z0 (Zg r15_7a (.bool true) t22_13) fun t23_14 =>
 Z0 (Z6 t23_14 false (.tuple []) (some t13_6)) fun t25_15 =>
 Z0 (Z6 t23_14 false (.tuple []) (Z5 .geq t25_15 (.int .u8 65))) fun t26_16 =>
 Z0 (Z6 t23_14 false (.tuple []) (some t26_16)) fun t27_17 =>
 Z0 (Z6 t27_17 true (.tuple []) (some t13_6)) fun t28_18 =>
 Z0 (Z6 t27_17 true (.tuple []) (Z5 .leq t28_18 (.int .u8 90))) fun t29_19 =>
 Z0 (Z6 t23_14 false (.tuple []) (Zg t27_17 t29_19 (.bool false))) fun t30_20 =>
 Z0 (Zg t23_14 (.bool true) t30_20) fun t31_21 =>
 Z0 (Z6 t31_21 false (.tuple []) (some t13_6)) fun t33_22 =>
 Z0 (Z6 t31_21 false (.tuple []) (Z5 .geq t33_22 (.int .u8 48))) fun t34_23 =>
 Z0 (Z6 t31_21 false (.tuple []) (some t34_23)) fun t35_24 =>
 Z0 (Z6 t35_24 true (.tuple []) (some t13_6)) fun t36_25 =>
 Z0 (Z6 t35_24 true (.tuple []) (Z5 .leq t36_25 (.int .u8 57))) fun t37_26 =>
 Z0 (Z6 t31_21 false (.tuple []) (Zg t35_24 t37_26 (.bool false))) fun t38_27 =>
 Z0 (Zg t31_21 (.bool true) t38_27) fun t39_28 =>
 some t39_28
theorem HF (x0 x3 x7 x8 x9:AV)(H0 H:Hp):DU x0 x3 x7 x8 x9 H0 H =
 Z0 (Zr x0 x8) fun t13_6 =>
 Z0 (WB [t13_6] H) fun r15_7 =>
 Z0 (ZjK r15_7.1 t13_6) fun t39_28 =>
 Zk t39_28 (Z0 (byteE.run [x3,t13_6] r15_7.2) fun r41_29=>U6 x0 x3 x7 x8 H0 r41_29.2) (U6 x0 x3 x7 x8 H0 r15_7.2):=by
 rw[Zb5];simp only[ZjK,Bq,Vd]
def Dr:Option AV→Option Bool
 |some (.bool b)=>some b
 |_=>none
theorem Ua {x:Option AV}{b:Bool}(h:Dr x=some b):x=some (.bool b):=by
 unfold Dr at h
 split at h
 ·injection h with h;subst h;rfl
 ·cases h
def ZqH (n:Nat):Bool:=(decide (97≤n)&&decide (n≤122)) || (decide (65≤n)&&decide (n≤90))
def Ro (n:Nat):Bool:=decide (48≤n)&&decide (n≤57)
def XO (n:Nat):Bool:=n==95 || ZqH n || Ro n
theorem ZiB:((List.range 256).all fun n=>(Dr (PC (.int .u8 (n:Int)) (.int .i64 1))==some (!XO n))&&(Dr (PC (.int .u8 (n:Int)) (.int .i64 0))==some (!XO n || Ro n)))=true:=by kernel_rfl
theorem ZoV:((List.range 256).all fun n=>(Dr (ZgP (.int .u8 (n:Int)))==some (!XO n)))=true:=by kernel_rfl
theorem Zbw (b:UInt8):b.toNat<256:=b.toNat_lt
theorem ZcP (b:UInt8):PC (.int .u8 b.toNat) (.int .i64 0)=some (.bool (!XO b.toNat || Ro b.toNat)):=by
 have h:=V0 ZiB (Zbw b)
 simp only[Bool.and_eq_true,beq_iff_eq]at h
 exact Ua h.2
theorem Zgw (b:UInt8){i:Int}(hi:(i==0)=false):PC (.int .u8 b.toNat) (.int .i64 i)=some (.bool (!XO b.toNat)):=by
 have h:=V0 ZiB (Zbw b)
 simp only[Bool.and_eq_true,beq_iff_eq]at h
 rw[←Ua h.1]
 have e:Z5 .eql (.int .i64 i) (.int .i64 0)=Z5 .eql (.int .i64 1) (.int .i64 0):=by simp only[Z5,Xz,XA,hi];rfl
 unfold PC
 iterate 16 refine congrArg (Z0 _) (funext fun t=>?_)
 cases t with
 |bool b =>
  cases b
  ·rfl
  ·simp only[ZkC,Vd,e]
 |_=>rfl
theorem Zrq (b:UInt8):ZgP (.int .u8 b.toNat)=some (.bool (!XO b.toNat)):=by
 have h:=V0 ZoV (Zbw b)
 simp only[beq_iff_eq]at h
 exact Ua h
def WI (s:List UInt8):Bool :=
 match s with
 |[]=>false
 |b::_=>decide (s.length≤32)&&!Ro b.toNat&&s.all fun c=>XO c.toNat
theorem ZmO (s:List UInt8)(hs:s.length≤4611686018427387904)(H0 H:Hp):FV (.str s) H0 H=some (.bool (!s.isEmpty&&decide (s.length≤32)),H):=by
 rw[Zcd]
 cases s with
 |nil=>simp[go_sem,Yq,Gj]
 |cons b l =>
  simp only[Yq,Gj,go_sem,Zj]
  have:(!((b::l)==([]:List UInt8)))=true:=rfl
  have c:decide (((b::l).length:Int)≤32)=decide ((b::l).length≤32):=by rw[Bool.eq_iff_iff];simp;omega
  simp only[this,go_sem,c,List.isEmpty_cons,Bool.not_false,Bool.true_and]
theorem ZqQ (s:List UInt8)(hs:s.length≤4611686018427387904)(H0 H:Hp):∀ (k i:Nat),s.length-i=k→0<i→i≤s.length →
 JV (.str s) (.int .i64 s.length) (.int .i64 i) H0 H=some (.bool (((s.drop i).all fun c=>XO c.toNat)&&(!s.isEmpty&&decide (s.length≤32))),H):=by
 intro k
 induction k with
 |zero =>
  intro i hk h0 hi
  rw[Ur]
  have hlt:decide ((i:Int)<(s.length:Int))=false:=by simp;omega
  have hd:s.drop i=[]:=List.drop_eq_nil_iff.2 (by omega)
  simp only[go_sem,hlt,ZmO s hs,hd,List.all_nil,Bool.true_and]
 |succ k ih =>
  intro i hk h0 hi
  rw[Ur]
  have hl:i<s.length:=by omega
  have hlt:decide ((i:Int)<(s.length:Int))=true:=by simp;omega
  have hw:IntKind.i64.wrap ((i:Int)+1)=((i+1:Nat):Int):=by rw[Zq (by omega) (by omega)];omega
  have h0':((i:Int)==0)=false:=by simp;omega
  simp only[go_sem,hlt,Fg,ZC (List.getElem?_eq_getElem hl),Zgw _ h0']
  rw[List.drop_eq_getElem_cons hl,List.all_cons]
  cases hb:XO s[i].toNat with
  |false=>simp only[go_sem,Bool.not_false,Bool.false_and]
  |true =>
   simp only[go_sem,Bool.not_true,Bool.true_and,P6,hw]
   exact ih (i+1) (by omega) (by omega) (by omega)
theorem ZqR (s:List UInt8)(hs:s.length≤4611686018427387904)(H:Hp):Qt [.str s] H=some (.bool (WI s),H):=by
 rw[Zda]
 unfold Ac
 simp only[go_sem,Zj]
 cases s with
 |nil=>rw[Ur];simp[go_sem,ZmO [] (by simp),WI]
 |cons b l =>
  rw[Ur]
  have hlt:decide ((0:Int)<((b::l).length:Int))=true:=by simp
  have hw:IntKind.i64.wrap ((0:Int)+1)=((0+1:Nat):Int):=by decide
  have hidx:Zr (.str (b::l)) (.int .i64 0)=some (.int .u8 b.toNat):=by simp[Zr]
  simp only[go_sem,hlt,Fg,hidx,ZcP]
  cases hb:(!XO b.toNat || Ro b.toNat) with
  |true =>
   have:WI (b::l)=false:=by
    unfold WI
    simp only[Bool.or_eq_true,Bool.not_eq_true']at hb
    rcases hb with hb|hb <;> simp[hb]
   simp only[go_sem,this]
  |false =>
   simp only[Bool.or_eq_false_iff,Bool.not_eq_false']at hb
   simp only[go_sem,P6,hw]
   rw[ZqQ (b::l) hs H H l.length 1 (by simp) (by omega) (by simp)]
   have:WI (b::l)=(((b::l).drop 1).all (fun c=>XO c.toNat)&&(!(b::l).isEmpty&&decide ((b::l).length≤32))):=by
    unfold WI
    simp only[hb.1,hb.2,List.all_cons,List.drop_one,List.tail_cons,List.isEmpty_cons,Bool.not_false,Bool.true_and,Bool.and_true]
    rw[Bool.and_comm]
   rw[this]
theorem ZoW (s:List UInt8)(hs:s.length≤4611686018427387904)(H0 H:Hp):∀ (k i:Nat),s.length-i=k→i≤s.length →
 GI (.str s) (.int .i64 i) H0 H=some (.bool ((s.drop i).all fun c=>XO c.toNat),H):=by
 intro k
 induction k with
 |zero =>
  intro i hk hi
  rw[Nv]
  have hlt:decide ((i:Int)<(s.length:Int))=false:=by simp;omega
  have hd:s.drop i=[]:=List.drop_eq_nil_iff.2 (by omega)
  simp only[go_sem,Zj,hlt,Zds,hd,List.all_nil]
 |succ k ih =>
  intro i hk hi
  rw[Nv]
  have hl:i<s.length:=by omega
  have hlt:decide ((i:Int)<(s.length:Int))=true:=by simp;omega
  have hw:IntKind.i64.wrap ((i:Int)+1)=((i+1:Nat):Int):=by rw[Zq (by omega) (by omega)];omega
  simp only[go_sem,Zj,hlt,OE,ZC (List.getElem?_eq_getElem hl),Zrq]
  rw[List.drop_eq_getElem_cons hl,List.all_cons]
  cases hb:XO s[i].toNat with
  |false=>simp only[go_sem,Bool.not_false,Bool.false_and]
  |true =>
   simp only[go_sem,Bool.not_true,Bool.true_and,Zdu,hw]
   exact ih (i+1) (by omega) (by omega)
theorem ZoX (s:List UInt8)(hs:s.length≤4611686018427387904)(H:Hp):J9 [.str s] H=some (.bool (WI s),H):=by
 rw[Zet]
 unfold IY
 simp only[go_sem,Zj]
 cases s with
 |nil=>simp[go_sem,WI]
 |cons b l =>
  have h0:((((b::l).length:Nat):Int)==0)=false:=by simp;omega
  have hidx:Zr (.str (b::l)) (.int .i64 0)=some (.int .u8 b.toNat):=by simp[Zr]
  simp only[go_sem,h0]
  by_cases h32:32<(b::l).length
  ·have c1:decide ((32:Int)<((b::l).length:Int))=true:=by simp at h32 ⊢;omega
   have    : WI (b :: l) = false := by unfold WI; have : decide ((b :: l).length ≤ 32) = false := by simp at h32 ⊢; omega
                                       rw[this];rfl
   simp only[go_sem,c1,this]
  ·have c1:decide ((32:Int)<((b::l).length:Int))=false:=by simp at h32 ⊢;omega
   have c2:decide ((b::l).length≤32)=true:=by simp at h32 ⊢;omega
   have hl:=ZoW (b::l) hs H H (b::l).length 0 (by simp) (by omega)
   rw[show ((0:Nat):Int)=0 from rfl,List.drop_zero]at hl
   have hn:WI (b::l)=(!Ro b.toNat&&(b::l).all fun c=>XO c.toNat):=by unfold WI;simp only[c2,Bool.true_and]
   simp only[go_sem,c1,hidx,Zdr,hl,hn]
   have e1:decide ((48:Int)≤(b.toNat:Int))=decide (48≤b.toNat):=by rw[Bool.eq_iff_iff];simp;omega
   have e2:decide ((b.toNat:Int)≤(57:Int))=decide (b.toNat≤57):=by rw[Bool.eq_iff_iff];simp;omega
   unfold Ro
   simp only[e1,e2]
   cases h48:decide (48≤b.toNat) with
   |false=>simp only[go_sem,Bool.false_and,Bool.not_false,Bool.true_and]
   |true =>
    cases h57:decide (b.toNat≤57) with
    |false=>simp only[go_sem,hidx,e2,h57,Bool.true_and,Bool.not_false]
    |true=>simp only[go_sem,hidx,e2,h57,Bool.true_and,Bool.not_true,Bool.false_and]
theorem ZiC (s:List UInt8)(hs:s.length≤4611686018427387904)(H:Hp):Zc Qt [.str s] H=some (.bool (WI s),H):=YZ rfl (ZqR s hs []) rfl
theorem ZgQ (s:List UInt8)(hs:s.length≤4611686018427387904)(H:Hp):Zc J9 [.str s] H=some (.bool (WI s),H):=YZ rfl (ZoX s hs []) rfl
theorem Znk (a b c d e:AV)(H:Hp):(Z8 0 (.vp [a,b,c,d,e])=some (.vp [a,b,c,d,e]))∧(Z8 1 (.vp [a,b,c,d,e])=some (.vp [b,c,d,e]))∧(Z8 2 (.vp [a,b,c,d,e])=some (.vp [c,d,e]))∧(Z8 3 (.vp [a,b,c,d,e])=some (.vp [d,e])):=⟨rfl,rfl,rfl,rfl⟩
theorem ZfF (a b:AV):(Z8 0 (.vp [a,b])=some (.vp [a,b]))∧(Z8 1 (.vp [a,b])=some (.vp [b])):=⟨rfl,rfl⟩
theorem Zw (a:AV)(l:List AV)(H:Hp):Z3 false 1 (.vp (a::l)) H=some a:=(Eq.refl _).trans (Eq.refl _)
theorem Dp (a:AV)(l:List AV):Yi false 1 (.vp (a::l))=some a:=(Eq.refl _).trans (Eq.refl _)
theorem ZfI (a b:AV)(H:Hp):Z3 true 2 (.vp [a,b]) H=some (.agg [a,b]):=by simp[Z3,Go.Am.apart]
theorem ZkG {tok:Tok}{fs:List (Nat×Nat)}{i:Int}{p:Nat×Nat}(h0:0≤i)(h:fs[i.toNat]?=some p):Zl 2 (.vs 2 tok (fs.map XY)) (.int .i64 i)=some (.vp [.int .i64 p.1,.int .i64 p.2]):=by
 simp[Zl,h0,h,XY,AV.cells]
theorem Zag (H:Hp)(a b:AV):Zi 2 (.ptr H.length 0) (.agg [a,b]) (H++[.cells [.int .i64 0,.int .i64 0]])=some (.tuple [],H++[.cells [a,b]]):=by
 rw[Wu (sz:=2) (v:=.agg [a,b]) (Xg _ _) rfl rfl (by simp)]
 simp[AV.cells,splice]
theorem ZdY (H:Hp)(l:List AV)(k:AV→Hp→Z4):Xl (.ptr H.length 0) (H++[.cells l]) k=k (.vp l) (H++[.dead]):=by
 rw[M2 (Xg _ _),ZtS]
theorem E3 {line:List UInt8}{f e:Nat}(hf:f≤line.length)(he:e≤line.length)(H0 H:Hp) :
 UD (.str line) (.int .i64 (f:Int)) (.int .i64 (e:Int)) H0 H=some (.str (if e<f then [] else (line.take e).drop f),H):=by
 rw[ZbY]
 by_cases h:e≤f
 ·have c:decide ((e:Int)≤(f:Int))=true:=by simp;omega
  have hd:(if e<f then [] else (line.take e).drop f)=[]:=by
   split
   ·rfl
   ·simp;omega
  simp only[go_sem,c,hd]
 ·have c:decide ((e:Int)≤(f:Int))=false:=by simp;omega
  have hs:=Po (s:=line) (n:=(f:Int)) (m:=(e:Int)) .i64 .i64 (by omega) (by omega) (by omega)
  have e1:((f:Int)).toNat=f:=by omega
  have e2:((e:Int)).toNat=e:=by omega
  rw[e1,e2]at hs
  have hd:¬ e<f:=by omega
  simp only[go_sem,c,ZbZ,hs,hd,if_false]
theorem AR {line:List UInt8}(hlen:line.length≤1048576){k:Ke}(hk:KeOk k)(sep:Int)(H:Hp) :
 ∃ H',Gv [.str line,.agg k.cells,.int .i64 sep] H=some (.str (ex line (fields line sep) k),H'):=by
 rw[Zd5]
 unfold A9
 have hbox:ZU (.agg k.cells) H=some (.ptr H.length 0,H++[.cells k.cells]):=Bn rfl
 have hget:=Xg H (.cells k.cells)
 obtain⟨x',H2,g1,g2,g3⟩:=Zmb hlen sep (H++[.cells k.cells])
 have hget2:=g3 _ _ hget
 simp only[Ke.cells]at hbox hget hget2 g1 ⊢
 obtain⟨v0,v1,v2,v3⟩:=Znk (.int .i64 k.ff) (.int .i64 k.fc) (.int .i64 k.tf) (.int .i64 k.tc) (.int .i64 k.fl) H
 simp only[hbox,go_sem,g1,M2 hget2,v0,v1,Zw,Dp,ZqN,g2.len,List.length_map]
 by_cases hin:max k.ff 1≤((fields line sep).length:Int)
 ·have c1:decide (((fields line sep).length:Int)<max k.ff 1)=false:=by simp;omega
  have hff:=hk.ff
  have hfc:=hk.fc
  have hix:(max k.ff 1-1).toNat<(fields line sep).length:=by omega
  obtain⟨⟨a,b⟩,hab⟩:∃ p,(fields line sep)[(max k.ff 1-1).toNat]?=some p:=⟨_,List.getElem?_eq_getElem hix⟩
  obtain⟨r1,r2⟩:=LB line sep _ (List.mem_of_getElem? hab)
  simp only at r1 r2
  have w0:IntKind.i64.wrap (max k.ff 1-1)=max k.ff 1-1:=Zq (by omega) (by omega)
  have w1:IntKind.i64.wrap (max k.fc 1-1)=max k.fc 1-1:=Zq (by omega) (by omega)
  have w2:IntKind.i64.wrap ((b:Int)-a)=(b:Int)-a:=Zq (by omega) (by omega)
  have w3:IntKind.i64.wrap ((a:Int)+min (max k.fc 1-1) ((b:Int)-a))=((VR a b k:Nat):Int):=by rw[Zq (by omega) (by omega)];unfold VR;omega
  have hfl:VR a b k≤line.length:=by unfold VR;omega
  rcases g2 with ⟨_,hnil⟩|⟨tt,te,rfl,_⟩
  ·have:fields line sep=[]:=by simpa using hnil
   rw[this]at hix
   simp at hix
  have hidx:=ZkG (tok:=.own tt te) (fs:=fields line sep) (i:=max k.ff 1-1) (by omega) hab
  obtain⟨u0,u1⟩:=ZfF (.int .i64 (a:Int)) (.int .i64 (b:Int))
  simp only[c1,go_sem,ZbX,w0,hidx,ZfI,Zag,ZdY,u0,u1,Dp,Zw,w1,w2,Zgs,w3,v2]
  have fin:∀ e:Nat,e≤line.length→e=GR line (fields line sep) k→ex line (fields line sep) k=(if e<VR a b k then [] else (line.take e).drop (VR a b k)):=by
   intro e _ he
   subst he
   unfold ex
   rw[if_pos hin,PO hab]
  by_cases ht:0<k.tf
  ·have c2:decide ((0:Int)<k.tf)=true:=by simp[ht]
   have htf:=hk.tf
   simp only[c2,go_sem,Zw,List.length_map,v2]
   by_cases hin2:k.tf≤((fields line sep).length:Int)
   ·have c3:decide (k.tf≤((fields line sep).length:Int))=true:=by simp[hin2]
    have hix2:(k.tf-1).toNat<(fields line sep).length:=by omega
    obtain⟨⟨a2,b2⟩,hab2⟩:∃ p,(fields line sep)[(k.tf-1).toNat]?=some p:=⟨_,List.getElem?_eq_getElem hix2⟩
    obtain⟨s1,s2⟩:=LB line sep _ (List.mem_of_getElem? hab2)
    simp only at s1 s2
    have w6:IntKind.i64.wrap (k.tf-1)=k.tf-1:=Zq (by omega) (by omega)
    have hidx2:=ZkG (tok:=.own tt te) (fs:=fields line sep) (i:=k.tf-1) (by omega) hab2
    obtain⟨t0,t1⟩:=ZfF (.int .i64 (a2:Int)) (.int .i64 (b2:Int))
    simp only[c3,go_sem,v2,Zw,w6,hidx2,ZfI,Zag]
    have htc:=hk.tc
    simp only[Nat.zero_add,ZF (Xg _ _),List.getElem?_cons_zero,List.getElem?_cons_succ,go_sem,v3,Zw]
    by_cases hc:0<k.tc
    ·have c4:decide ((0:Int)<k.tc)=true:=by simp[hc]
     have w4:IntKind.i64.wrap ((b2:Int)-a2)=(b2:Int)-a2:=Zq (by omega) (by omega)
     have w5:IntKind.i64.wrap ((a2:Int)+min k.tc ((b2:Int)-a2))=((a2+(min k.tc ((b2:Int)-a2)).toNat:Nat):Int):=by rw[Zq (by omega) (by omega)];omega
     simp only[c4,go_sem,ZdY,t0,t1,Dp,Zw,v3,w4,Zgs,w5]
     rw[E3 hfl (by omega)]
     rw[fin (a2+(min k.tc ((b2:Int)-a2)).toNat) (by omega) (by unfold GR;rw[if_pos ⟨ht,hin2⟩,PO hab2];simp[hc])]
     exact⟨_,rfl⟩
    ·have c4:decide ((0:Int)<k.tc)=false:=by simp;omega
     simp only[c4,go_sem]
     rw[E3 hfl s2]
     rw[fin b2 s2 (by unfold GR;rw[if_pos ⟨ht,hin2⟩,PO hab2];simp[hc])]
     exact⟨_,rfl⟩
   ·have c3:decide (k.tf≤((fields line sep).length:Int))=false:=by simp;omega
    simp only[c3,go_sem]
    rw[E3 hfl (Nat.le_refl _)]
    rw[fin line.length (Nat.le_refl _) (by unfold GR;rw[if_neg (fun h=>hin2 h.2)])]
    exact⟨_,rfl⟩
  ·have c2:decide ((0:Int)<k.tf)=false:=by simp;omega
   simp only[Zw,go_sem,c2]
   rw[E3 hfl (Nat.le_refl _)]
   rw[fin line.length (Nat.le_refl _) (by unfold GR;rw[if_neg (fun h=>ht h.1)])]
   exact⟨_,rfl⟩
 ·have c1:decide (((fields line sep).length:Int)<max k.ff 1)=true:=by simp;omega
  simp only[c1,go_sem]
  have:ex line (fields line sep) k=[]:=by unfold ex;rw[if_neg hin]
  rw[this]
  exact⟨_,rfl⟩
def Tr {α:Type}(bad:α→Option Int)(key:α→List UInt8):List α→List (List UInt8)→Int
 |[],_=>0
 |c::r,seen=>match bad c with
  |some e=>e
  |none=>if seen.contains (key c) then 6 else Tr bad key r (seen++[key c])
theorem Br {α:Type}(bad:α→Option Int)(key:α→List UInt8)(c:α)(r:List α)(seen:List (List UInt8)):Tr bad key (c::r) seen=match bad c with
 |some e=>e
 |none=>if seen.contains (key c) then 6 else Tr bad key r (seen++[key c]):=(Eq.refl _).trans (Eq.refl _)
def Et (es:List (AV×AV×Nat))(seen:List (List UInt8)):Prop:=es.map (fun e=>(e.1,e.2.1))=seen.map fun s=>(AV.str s,AV.bool true)
theorem Zga (k:List UInt8):∀ (es:List (AV×AV×Nat)) (seen:List (List UInt8)) (i:Nat),Et es seen →
 if seen.contains k then ∃ j,YJ (.str k) es i=some (some (j,.bool true)) else YJ (.str k) es i=some none:=by
 intro es
 induction es with
 |nil =>
  intro seen i h
  cases seen with
  |nil=>simp[YJ]
  |cons s r=>simp[Et]at h
 |cons e es ih =>
  intro seen i h
  cases seen with
  |nil=>simp[Et]at h
  |cons s r =>
   obtain⟨a,b,c⟩:=e
   simp only[Et,List.map_cons,List.cons.injEq,Prod.mk.injEq]at h
   obtain⟨⟨rfl,rfl⟩,h2⟩:=h
   have:=ih r (i+1) h2
   simp only[YJ,UH,List.contains_cons]
   cases hk:(k==s) with
   |true=>simp
   |false=>simpa using this
theorem ZiT {H:Hp}{m:Nat}{es:List (AV×AV×Nat)}{c:Nat}{seen:List (List UInt8)}(hm:H[m]?=some (.map es c))(hs:Et es seen)(k:List UInt8) :
 Y6 .string (.bool false) false (.map m) (.str k) H=some (.bool (seen.contains k)):=by
 have h:=Zga k es seen 0 hs
 unfold Y6
 simp only[W4,if_true,YW,hm]
 cases hk:seen.contains k with
 |true =>
  rw[hk]at h
  obtain⟨j,hj⟩:=h
  simp[hj]
 |false =>
  rw[hk]at h
  simp at h
  simp[h]
theorem Zlk {H:Hp}{m:Nat}{es:List (AV×AV×Nat)}{c:Nat}{seen:List (List UInt8)}(hm:H[m]?=some (.map es c))(hs:Et es seen){k:List UInt8}(hk:seen.contains k=false) :
 Xi .string (.map m) (.str k) (.bool true) H=some (.tuple [],H.set m (.map (es++[(.str k,.bool true,c)]) (c+1)))∧Et (es++[(.str k,.bool true,c)]) (seen++[k]):=by
 have h:=Zga k es seen 0 hs
 rw[hk]at h
 simp at h
 constructor
 ·unfold Xi
  simp only[hm,W4,if_true,h]
 ·unfold Et at hs ⊢
  simp[hs]
theorem Do (l:List AV):Z8 0 (.vp l)=some (.vp l):=by simp[Z8]
def WT (c:List UInt8×List Int):AV:=.agg (.str c.1::c.2.map (.int .u64))
def NR (c:List UInt8×List Int):Option Int:=if WI c.1 then none else some 4
def EG (l:List (List UInt8×List Int)):Int:=if 24<l.length then 3 else Tr NR Prod.fst l []
def Zbb (l:List (List UInt8×List Int)):Prop:=∀ c∈l,c.2.length=4∧c.1.length≤4611686018427387904
theorem Sl.cls {x:AV}{l:List (List UInt8×List Int)}(h:Sl 5 x (l.map WT)){i:Nat}{c:List UInt8×List Int}(hi:l[i]?=some c):Zl 5 x (.int .i64 (i:Int))=some (.vp (.str c.1::c.2.map (.int .u64))):=h.idx (c:=WT c) (by simp[hi])
theorem Xy (n:Nat)(l:List AV)(hl:l.length=n)(H:Hp):Z3 true n (.vp l) H=some (.agg l):=by
 subst hl
 simp[Z3,Go.Am.apart]
theorem NN (H:Hp)(n:Nat)(l z:List AV)(hl:l.length=n)(hz:z.length=n):Zi n (.ptr H.length 0) (.agg l) (H++[.cells z])=some (.tuple [],H++[.cells l]):=by
 rw[Wu (sz:=n) (v:=.agg l) (Xg _ _) rfl hl (by omega)]
 simp[AV.cells,splice,hz,hl]
theorem Zsw {x:AV}{l:List (List UInt8×List Int)}(h:Sl 5 x (l.map WT))(hl:l.length≤24)(hok:Zbb l)(H0:Hp)(m:Nat):∀ (k i:Nat) (H:Hp) (es:List (AV×AV×Nat)) (c:Nat),l.length-i=k→i≤l.length →
 H[m]?=some (.map es c)→Et es ((l.take i).map Prod.fst) →
 ∃ H',Wo (.map m) x (.int .i64 (l.length:Int)) (.int .i64 (i:Int)) H0 H=some (.int .i64 (Tr NR Prod.fst (l.drop i) ((l.take i).map Prod.fst)),H'):=by
 intro k
 induction k with
 |zero =>
  intro i H es c hk hi hm hs
  rw[QY]
  have hlt:decide ((i:Int)<(l.length:Int))=false:=by simp;omega
  have hd:l.drop i=[]:=List.drop_eq_nil_iff.2 (by omega)
  simp only[go_sem,hlt,Pw,hd]
  exact⟨_,rfl⟩
 |succ k ih =>
  intro i H es c hk hi hm hs
  rw[QY]
  have hl1:i<l.length:=by omega
  have hlt:decide ((i:Int)<(l.length:Int))=true:=by simp;omega
  have hw:IntKind.i64.wrap ((i:Int)+1)=((i+1:Nat):Int):=by rw[Zq (by omega) (by omega)];omega
  obtain⟨h4,hnm⟩:=hok l[i] (List.getElem_mem hl1)
  have hlen5:(AV.str l[i].1::l[i].2.map (AV.int .u64)).length=5:=by simp[h4]
  have hst:=NN H 5 _ [.str [],.int .u64 0,.int .u64 0,.int .u64 0,.int .u64 0] hlen5 rfl
  simp only[go_sem,hlt,Px,h.cls (List.getElem?_eq_getElem hl1),Xy 5 _ hlen5,hst,Nat.zero_add,ZA,List.getElem?_cons_zero,ZiC _ hnm]
  rw[List.drop_eq_getElem_cons hl1,Br]
  have hmm:(H++[AObj.cells (AV.str l[i].1::l[i].2.map (AV.int .u64))])[m]?=some (.map es c):=Yy hm _
  cases hb:WI l[i].1 with
  |false =>
   simp only[go_sem,Bool.not_false,NR,hb,Bool.false_eq_true,if_false]
   exact⟨_,rfl⟩
  |true =>
   simp only[go_sem,Bool.not_true,NR,hb,if_true,Pz,Nat.zero_add,ZA,List.getElem?_cons_zero,ZiT hmm hs]
   cases hc:((l.take i).map Prod.fst).contains l[i].1 with
   |true =>
    simp only[go_sem,if_true]
    exact⟨_,rfl⟩
   |false =>
    obtain⟨q1,q2⟩:=Zlk hmm hs hc
    simp only[go_sem,Bool.false_eq_true,if_false,PA,Nat.zero_add,ZA,List.getElem?_cons_zero,q1,Py,hw]
    have ht:(l.take (i+1)).map Prod.fst=(l.take i).map Prod.fst++[l[i].1]:=by
     rw[List.take_add_one,List.getElem?_eq_getElem hl1,List.map_append];rfl
    rw[←ht]
    refine ih (i+1) _ _ _ (by omega) (by omega) (ZB _ hmm) ?_
    rw[ht];exact q2
theorem Zsx {x:AV}{l:List (List UInt8×List Int)}(h:Sl 5 x (l.map WT))(hok:Zbb l)(hl0:l.length≤4611686018427387904)(H:Hp):∃ H',Wz [x] H=some (.int .i64 (EG l),H'):=by
 rw[N6]
 unfold Bh EG
 have hlen:=h.len 264
 rw[List.length_map]at hlen
 simp only[go_sem,hlen]
 by_cases h24:24<l.length
 ·have c1:decide ((24:Int)<(l.length:Int))=true:=by simp;omega
  simp only[c1,go_sem,h24,if_true]
  exact⟨_,rfl⟩
 ·have c1:decide ((24:Int)<(l.length:Int))=false:=by simp;omega
  simp only[c1,go_sem,h24,if_false,Pv,hlen]
  have:=Zsw h (by omega) hok H H.length l.length 0 (H++[.map [] 0]) [] 0 (by omega) (by omega) (Xg H _) rfl
  rw[show ((0:Nat):Int)=0 from rfl,List.drop_zero,List.take_zero]at this
  exact this
theorem Zvx {x:AV}{l:List (List UInt8×List Int)}(h:Sl 5 x (l.map WT))(hl:l.length≤24)(H0 H:Hp){i:Nat}{n:List UInt8}{q:List Int}(hi:l[i]?=some (n,q)):∀ (k j:Nat),i-j=k→j≤i →
 Vt x (.int .i64 (i:Int)) (.int .i64 (j:Int)) H0 H=if (((l.take i).map Prod.fst).drop j).contains n then some (.int .i64 6,H) else QK x (.int .i64 (i:Int)) H0 H:=by
 intro k
 have hil:i<l.length:=by
  rcases Nat.lt_or_ge i l.length with h'|h'
  ·exact h'
  ·rw[List.getElem?_eq_none h']at hi;cases hi
 induction k with
 |zero =>
  intro j hk hj
  rw[KY]
  have hlt:decide ((j:Int)<(i:Int))=false:=by simp;omega
  have hd:((l.take i).map Prod.fst).drop j=[]:=List.drop_eq_nil_iff.2 (by simp;omega)
  simp only[go_sem,hlt,hd,List.contains_nil,Bool.false_eq_true,if_false]
 |succ k ih =>
  intro j hk hj
  rw[KY]
  have hjl:j<l.length:=by omega
  have hlt:decide ((j:Int)<(i:Int))=true:=by simp;omega
  have hw:IntKind.i64.wrap ((j:Int)+1)=((j+1:Nat):Int):=by rw[Zq (by omega) (by omega)];omega
  have hdj:((l.take i).map Prod.fst).drop j=l[j].1::((l.take i).map Prod.fst).drop (j+1):=by
   rw[List.drop_eq_getElem_cons (by simp;omega)]
   simp
  rw[hdj,List.contains_cons]
  simp only[go_sem,hlt,Ez,h.cls (List.getElem?_eq_getElem hjl),h.cls hi,Zw]
  have hs:Yq .eql (.str l[j].1) (.str n)=some (.bool (l[j].1==n)):=rfl
  have hsy:(n==l[j].1)=(l[j].1==n):=by rw[Bool.eq_iff_iff,beq_iff_eq,beq_iff_eq];exact eq_comm
  simp only[Do,Zw,hs,go_sem,hsy]
  cases hb:(l[j].1==n) with
  |true=>simp only[go_sem,Bool.true_or,if_true]
  |false =>
   simp only[go_sem,Bool.false_or,EA,hw]
   exact ih (j+1) (by omega) (by omega)
theorem Zrc {x:AV}{l:List (List UInt8×List Int)}(h:Sl 5 x (l.map WT))(hl:l.length≤24)(hok:Zbb l)(H0 H:Hp):∀ (k i:Nat),l.length-i=k→i≤l.length →
 Vs x (.int .i64 (i:Int)) H0 H=some (.int .i64 (Tr NR Prod.fst (l.drop i) ((l.take i).map Prod.fst)),H):=by
 have hlen:=h.len 264
 rw[List.length_map]at hlen
 intro k
 induction k with
 |zero =>
  intro i hk hi
  rw[KX]
  have hlt:decide ((i:Int)<(l.length:Int))=false:=by simp;omega
  have hd:l.drop i=[]:=List.drop_eq_nil_iff.2 (by omega)
  simp only[go_sem,hlen,hlt,Ev,hd]
  rfl
 |succ k ih =>
  intro i hk hi
  rw[KX]
  have hl1:i<l.length:=by omega
  have hlt:decide ((i:Int)<(l.length:Int))=true:=by simp;omega
  have hw:IntKind.i64.wrap ((i:Int)+1)=((i+1:Nat):Int):=by rw[Zq (by omega) (by omega)];omega
  obtain⟨h4,hnm⟩:=hok l[i] (List.getElem_mem hl1)
  simp only[go_sem,hlen,hlt,Ew,h.cls (List.getElem?_eq_getElem hl1),Do,Zw,ZgQ _ hnm]
  rw[List.drop_eq_getElem_cons hl1,Br]
  cases hb:WI l[i].1 with
  |false=>simp only[go_sem,Bool.not_false,NR,hb,Bool.false_eq_true,if_false]
  |true =>
   have hin:=Zvx h hl H0 H (List.getElem?_eq_getElem hl1) i 0 (by omega) (by omega)
   rw[List.drop_zero,show ((0:Nat):Int)=0 from rfl]at hin
   simp only[go_sem,Bool.not_true,NR,hb,if_true,Ey,hin]
   have ht:(l.take (i+1)).map Prod.fst=(l.take i).map Prod.fst++[l[i].1]:=by
    rw[List.take_add_one,List.getElem?_eq_getElem hl1,List.map_append];rfl
   cases hc:((l.take i).map Prod.fst).contains l[i].1 with
   |true=>simp only[if_true]
   |false =>
    simp only[Bool.false_eq_true,if_false,Ex,go_sem,hw]
    rw[ih (i+1) (by omega) (by omega),ht]
theorem Zrd {x:AV}{l:List (List UInt8×List Int)}(h:Sl 5 x (l.map WT))(hok:Zbb l)(H:Hp):VJ [x] H=some (.int .i64 (EG l),H):=by
 rw[S9]
 unfold Rx EG
 have hlen:=h.len 264
 rw[List.length_map]at hlen
 simp only[go_sem,hlen]
 by_cases h24:24<l.length
 ·have c1:decide ((24:Int)<(l.length:Int))=true:=by simp;omega
  simp only[c1,go_sem,h24,if_true]
 ·have c1:decide ((24:Int)<(l.length:Int))=false:=by simp;omega
  simp only[c1,go_sem,h24,if_false,Eu]
  have:=Zrc h (by omega) hok H H l.length 0 (by omega) (by omega)
  rw[show ((0:Nat):Int)=0 from rfl,List.drop_zero,List.take_zero]at this
  exact this
def Q6 (c:List UInt8×Int):AV:=.agg [.str c.1,.int .i64 c.2]
def CY (c:List UInt8×Int):Option Int:=if (c.1.length != 2 || (decide (c.2<0) || decide (65535<c.2)))=true then some 2 else none
def NW (l:List (List UInt8×Int)):Int:=if 64<l.length then 3 else Tr CY Prod.fst l []
def Zbc (l:List (List UInt8×Int)):Prop:=∀ c∈l,c.1.length≤4611686018427387904
theorem Sl.els {x:AV}{l:List (List UInt8×Int)}(h:Sl 2 x (l.map Q6)){i:Nat}{c:List UInt8×Int}(hi:l[i]?=some c):Zl 2 x (.int .i64 (i:Int))=some (.vp [.str c.1,.int .i64 c.2]):=h.idx (c:=Q6 c) (by simp[hi])
theorem ZfE (a:AV)(l:List AV):Z8 1 (.vp (a::l))=some (.vp l):=by simp[Z8]
theorem Zop (n:Int)(H:Hp):KQ [.int .i64 n] H=some (.bool (!(decide (n<0) || decide (65535<n))),H):=by
 rw[Zhg]
 unfold Zcj
 have e1:decide ((0:Int)≤n)=!decide (n<0):=by rw[Bool.eq_iff_iff];simp
 have e2:decide (n≤(65535:Int))=!decide (65535<n):=by rw[Bool.eq_iff_iff];simp
 simp only[go_sem,e1]
 cases h1:decide (n<0) with
 |true=>simp only[go_sem,Bool.not_true,Bool.true_or]
 |false=>simp only[go_sem,Bool.not_false,Bool.false_or,e2]
theorem Zgt (n:Int)(H:Hp):Zc KQ [.int .i64 n] H=some (.bool (!(decide (n<0) || decide (65535<n))),H):=YZ rfl (Zop n []) rfl
theorem ZsL {x:AV}{l:List (List UInt8×Int)}(h:Sl 2 x (l.map Q6))(hl:l.length≤64)(hok:Zbc l)(H0:Hp)(m:Nat):∀ (k i:Nat) (H:Hp) (es:List (AV×AV×Nat)) (c:Nat),l.length-i=k→i≤l.length →
 H[m]?=some (.map es c)→Et es ((l.take i).map Prod.fst) →
 ∃ H',W5 (.map m) x (.int .i64 (l.length:Int)) (.int .i64 (i:Int)) H0 H=some (.int .i64 (Tr CY Prod.fst (l.drop i) ((l.take i).map Prod.fst)),H'):=by
 intro k
 induction k with
 |zero =>
  intro i H es c hk hi hm hs
  rw[Qy]
  have hlt:decide ((i:Int)<(l.length:Int))=false:=by simp;omega
  have hd:l.drop i=[]:=List.drop_eq_nil_iff.2 (by omega)
  simp only[go_sem,hlt,Tv,hd]
  exact⟨_,rfl⟩
 |succ k ih =>
  intro i H es c hk hi hm hs
  rw[Qy]
  have hl1:i<l.length:=by omega
  have hlt:decide ((i:Int)<(l.length:Int))=true:=by simp;omega
  have hw:IntKind.i64.wrap ((i:Int)+1)=((i+1:Nat):Int):=by rw[Zq (by omega) (by omega)];omega
  have hnm:=hok l[i] (List.getElem_mem hl1)
  have hst:=NN H 2 [.str l[i].1,.int .i64 l[i].2] [.str [],.int .i64 0] rfl rfl
  simp only[go_sem,hlt,Tw,h.els (List.getElem?_eq_getElem hl1),Xy 2 [.str l[i].1,.int .i64 l[i].2] rfl,hst,Nat.zero_add,ZA,List.getElem?_cons_zero,List.getElem?_cons_succ,ZJ]
  rw[List.drop_eq_getElem_cons hl1,Br]
  have hmm:(H++[AObj.cells [AV.str l[i].1,AV.int .i64 l[i].2]])[m]?=some (.map es c):=Yy hm _
  have e2:((l[i].1.length:Int) != 2)=(l[i].1.length != 2):=by rw[Bool.eq_iff_iff];simp;omega
  rw[e2]
  unfold CY
  cases hb:(l[i].1.length != 2) with
  |true=>simp only[go_sem,Bool.true_or,if_true];exact⟨_,rfl⟩
  |false =>
  simp only[go_sem,Bool.false_or,Nat.zero_add,ZA,List.getElem?_cons_zero,List.getElem?_cons_succ]
  cases hb2:decide (l[i].2<0) with
  |true=>simp only[go_sem,Bool.true_or,if_true];exact⟨_,rfl⟩
  |false =>
  simp only[go_sem,Bool.false_or,Nat.zero_add,ZA,List.getElem?_cons_zero,List.getElem?_cons_succ]
  cases hb3:decide (65535<l[i].2) with
  |true=>simp only[go_sem,if_true];exact⟨_,rfl⟩
  |false =>
   simp only[go_sem,Bool.false_eq_true,if_false,Ty,Nat.zero_add,ZA,List.getElem?_cons_zero,ZiT hmm hs]
   cases hc:((l.take i).map Prod.fst).contains l[i].1 with
   |true =>
    simp only[go_sem,if_true]
    exact⟨_,rfl⟩
   |false =>
    obtain⟨q1,q2⟩:=Zlk hmm hs hc
    simp only[go_sem,Bool.false_eq_true,if_false,Tz,Nat.zero_add,ZA,List.getElem?_cons_zero,q1,Tx,hw]
    have ht:(l.take (i+1)).map Prod.fst=(l.take i).map Prod.fst++[l[i].1]:=by
     rw[List.take_add_one,List.getElem?_eq_getElem hl1,List.map_append];rfl
    rw[←ht]
    refine ih (i+1) _ _ _ (by omega) (by omega) (ZB _ hmm) ?_
    rw[ht];exact q2
theorem ZsM {x:AV}{l:List (List UInt8×Int)}(h:Sl 2 x (l.map Q6))(hok:Zbc l)(hl0:l.length≤4611686018427387904)(H:Hp):∃ H',Wl [x] H=some (.int .i64 (NW l),H'):=by
 rw[Pe]
 unfold KU NW
 have hlen:=h.len 210
 rw[List.length_map]at hlen
 simp only[go_sem,hlen]
 by_cases h64:64<l.length
 ·have c1:decide ((64:Int)<(l.length:Int))=true:=by simp;omega
  simp only[c1,go_sem,h64,if_true]
  exact⟨_,rfl⟩
 ·have c1:decide ((64:Int)<(l.length:Int))=false:=by simp;omega
  simp only[c1,go_sem,h64,if_false,Tu,hlen]
  have:=ZsL h (by omega) hok H H.length l.length 0 (H++[.map [] 0]) [] 0 (by omega) (by omega) (Xg H _) rfl
  rw[show ((0:Nat):Int)=0 from rfl,List.drop_zero,List.take_zero]at this
  exact this
theorem Zvz {x:AV}{l:List (List UInt8×Int)}(h:Sl 2 x (l.map Q6))(hl:l.length≤64)(H0 H:Hp){i:Nat}{n:List UInt8}{q:Int}(hi:l[i]?=some (n,q)):∀ (k j:Nat),i-j=k→j≤i →
 WS x (.int .i64 (i:Int)) (.int .i64 (j:Int)) H0 H=if (((l.take i).map Prod.fst).drop j).contains n then some (.int .i64 6,H) else Q1 x (.int .i64 (i:Int)) H0 H:=by
 intro k
 have hil:i<l.length:=by
  rcases Nat.lt_or_ge i l.length with h'|h'
  ·exact h'
  ·rw[List.getElem?_eq_none h']at hi;cases hi
 induction k with
 |zero =>
  intro j hk hj
  rw[Ka]
  have hlt:decide ((j:Int)<(i:Int))=false:=by simp;omega
  have hd:((l.take i).map Prod.fst).drop j=[]:=List.drop_eq_nil_iff.2 (by simp;omega)
  simp only[go_sem,hlt,hd,List.contains_nil,Bool.false_eq_true,if_false]
 |succ k ih =>
  intro j hk hj
  rw[Ka]
  have hjl:j<l.length:=by omega
  have hlt:decide ((j:Int)<(i:Int))=true:=by simp;omega
  have hw:IntKind.i64.wrap ((j:Int)+1)=((j+1:Nat):Int):=by rw[Zq (by omega) (by omega)];omega
  have hdj:((l.take i).map Prod.fst).drop j=l[j].1::((l.take i).map Prod.fst).drop (j+1):=by
   rw[List.drop_eq_getElem_cons (by simp;omega)]
   simp
  rw[hdj,List.contains_cons]
  simp only[go_sem,hlt,MS,h.els (List.getElem?_eq_getElem hjl),h.els hi,Zw]
  have hs:Yq .eql (.str l[j].1) (.str n)=some (.bool (l[j].1==n)):=rfl
  have hsy:(n==l[j].1)=(l[j].1==n):=by rw[Bool.eq_iff_iff,beq_iff_eq,beq_iff_eq];exact eq_comm
  simp only[Do,Zw,hs,go_sem,hsy]
  cases hb:(l[j].1==n) with
  |true=>simp only[go_sem,Bool.true_or,if_true]
  |false =>
   simp only[go_sem,Bool.false_or,MT,hw]
   exact ih (j+1) (by omega) (by omega)
theorem Zrg {x:AV}{l:List (List UInt8×Int)}(h:Sl 2 x (l.map Q6))(hl:l.length≤64)(hok:Zbc l)(H0 H:Hp):∀ (k i:Nat),l.length-i=k→i≤l.length →
 WR x (.int .i64 (i:Int)) H0 H=some (.int .i64 (Tr CY Prod.fst (l.drop i) ((l.take i).map Prod.fst)),H):=by
 have hlen:=h.len 210
 rw[List.length_map]at hlen
 intro k
 induction k with
 |zero =>
  intro i hk hi
  rw[K9]
  have hlt:decide ((i:Int)<(l.length:Int))=false:=by simp;omega
  have hd:l.drop i=[]:=List.drop_eq_nil_iff.2 (by omega)
  simp only[go_sem,hlen,hlt,MO,hd]
  rfl
 |succ k ih =>
  intro i hk hi
  rw[K9]
  have hl1:i<l.length:=by omega
  have hlt:decide ((i:Int)<(l.length:Int))=true:=by simp;omega
  have hw:IntKind.i64.wrap ((i:Int)+1)=((i+1:Nat):Int):=by rw[Zq (by omega) (by omega)];omega
  have hnm:=hok l[i] (List.getElem_mem hl1)
  simp only[go_sem,hlen,hlt,MP,h.els (List.getElem?_eq_getElem hl1),Do,Zw,ZJ]
  rw[List.drop_eq_getElem_cons hl1,Br]
  have e2:((l[i].1.length:Int) != 2)=(l[i].1.length != 2):=by rw[Bool.eq_iff_iff];simp;omega
  rw[e2]
  unfold CY
  cases hb:(l[i].1.length != 2) with
  |true=>simp only[go_sem,Bool.true_or,if_true]
  |false =>
  simp only[go_sem,Bool.false_or,h.els (List.getElem?_eq_getElem hl1),ZfE,Zw,Zgt,Bool.not_not]
  cases hb2:(decide (l[i].2<0) || decide (65535<l[i].2)) with
  |true=>simp only[go_sem,if_true]
  |false =>
   have hin:=Zvz h hl H0 H (List.getElem?_eq_getElem hl1) i 0 (by omega) (by omega)
   rw[List.drop_zero,show ((0:Nat):Int)=0 from rfl]at hin
   simp only[go_sem,Bool.false_eq_true,if_false,MR,hin]
   have ht:(l.take (i+1)).map Prod.fst=(l.take i).map Prod.fst++[l[i].1]:=by
    rw[List.take_add_one,List.getElem?_eq_getElem hl1,List.map_append];rfl
   cases hc:((l.take i).map Prod.fst).contains l[i].1 with
   |true=>simp only[if_true]
   |false =>
    simp only[Bool.false_eq_true,if_false,MQ,go_sem,hw]
    rw[ih (i+1) (by omega) (by omega),ht]
    rfl
theorem Zrh {x:AV}{l:List (List UInt8×Int)}(h:Sl 2 x (l.map Q6))(hok:Zbc l)(H:Hp):Vo [x] H=some (.int .i64 (NW l),H):=by
 rw[Ej]
 unfold F0 NW
 have hlen:=h.len 210
 rw[List.length_map]at hlen
 simp only[go_sem,hlen]
 by_cases h64:64<l.length
 ·have c1:decide ((64:Int)<(l.length:Int))=true:=by simp;omega
  simp only[c1,go_sem,h64,if_true]
 ·have c1:decide ((64:Int)<(l.length:Int))=false:=by simp;omega
  simp only[c1,go_sem,h64,if_false,MN]
  have:=Zrg h (by omega) hok H H l.length 0 (by omega) (by omega)
  rw[show ((0:Nat):Int)=0 from rfl,List.drop_zero,List.take_zero]at this
  exact this
structure Loc where
 name:List UInt8
 w:List Int
 lo:List UInt8
 up:List UInt8
 cls:List (List UInt8×List Int)
 els:List (List UInt8×Int)
def Loc.cells (x c e:AV)(L:Loc):List AV:=[.str L.name,x,.str L.lo,.str L.up,c,e]
def LocAV (a:AV)(L:Loc):Prop:=∃ x c e,a=.agg (L.cells x c e)∧Sl 1 x (L.w.map (AV.int .i64))∧Sl 5 c (L.cls.map WT)∧Sl 2 e (L.els.map Q6)
structure LocOk (L:Loc):Prop where
 name:L.name.length≤4611686018427387904
 w:L.w.length≤4611686018427387904
 lo:L.lo.length≤4611686018427387904
 up:L.up.length≤4611686018427387904
 cls:Zbb L.cls
 els:Zbc L.els
 ncls:L.cls.length≤4611686018427387904
 nels:L.els.length≤4611686018427387904
theorem LA (c:List UInt8×List Int)(H:Hp)(n f:Nat):Ze H n (f+2) (WT c)=some (WT c):=by
 have:(AV.str c.1::c.2.map (AV.int .u64)).mapM (Ze H n (f+1))=some (AV.str c.1::c.2.map (AV.int .u64)):=Zbq fun x hx=>by
  rcases List.mem_cons.1 hx with rfl|hx
  ·rfl
  ·obtain⟨m,_,rfl⟩:=List.mem_map.1 hx
   rfl
 rw[WT,G1,this]
theorem CZ (c:List UInt8×Int)(H:Hp)(n f:Nat):Ze H n (f+2) (Q6 c)=some (Q6 c):=(Eq.refl _).trans (Eq.refl _)
theorem LocAV.close {a:AV}{L:Loc}(h:LocAV a L)(H:Hp)(n f:Nat):∃ a',Ze H n (f+4) a=some a'∧LocAV a' L:=by
 obtain⟨x,c,e,rfl,hx,hc,he⟩:=h
 obtain⟨x',hx1,hx2⟩:=hx.close (H:=H) (n:=n) (f:=f+2) (fun y hy=>by obtain⟨m,_,rfl⟩:=List.mem_map.1 hy;rfl)
 obtain⟨c',hc1,hc2⟩:=hc.close (H:=H) (n:=n) (f:=f+2) (fun y hy=>by obtain⟨m,_,rfl⟩:=List.mem_map.1 hy;exact LA m H n f)
 obtain⟨e',he1,he2⟩:=he.close (H:=H) (n:=n) (f:=f+2) (fun y hy=>by obtain⟨m,_,rfl⟩:=List.mem_map.1 hy;exact CZ m H n f)
 refine⟨.agg (L.cells x' c' e'),?_,x',c',e',rfl,hx2,hc2,he2⟩
 have:(L.cells x c e).mapM (Ze H n (f+3))=some (L.cells x' c' e'):=by
  simp only[Loc.cells,List.mapM_cons,hx1,hc1,he1,List.mapM_nil]
  rfl
 rw[G1,this]
theorem Zke {x:AV}{l:List (List UInt8×List Int)}(h:Sl 5 x (l.map WT))(hok:Zbb l)(hl:l.length≤4611686018427387904)(H:Hp):Zc Wz [x] H=some (.int .i64 (EG l),H)∧Zc VJ [x] H=some (.int .i64 (EG l),H):=by
 obtain⟨x',h1,h2⟩:=h.close (H:=[]) (n:=0) (f:=5) (fun y hy=>by obtain⟨m,_,rfl⟩:=List.mem_map.1 hy;exact LA m [] 0 3)
 obtain⟨H',h3⟩:=Zsx h2 hok hl []
 exact⟨YZ h1 h3 rfl,YZ h1 (Zrd h2 hok []) rfl⟩
theorem Zkr {x:AV}{l:List (List UInt8×Int)}(h:Sl 2 x (l.map Q6))(hok:Zbc l)(hl:l.length≤4611686018427387904)(H:Hp):Zc Wl [x] H=some (.int .i64 (NW l),H)∧Zc Vo [x] H=some (.int .i64 (NW l),H):=by
 obtain⟨x',h1,h2⟩:=h.close (H:=[]) (n:=0) (f:=5) (fun y hy=>by obtain⟨m,_,rfl⟩:=List.mem_map.1 hy;exact CZ m [] 0 3)
 obtain⟨H',h3⟩:=ZsM h2 hok hl []
 exact⟨YZ h1 h3 rfl,YZ h1 (Zrh h2 hok []) rfl⟩
def Zep (n:Int):Bool:=decide (n<0) || decide (65535<n)
def HN (L:Loc):Int:=if (EG L.cls != 0)=true then EG L.cls else NW L.els
def XB (L:Loc):Int :=
 if WI L.name then (if (L.w.length != 256 || (L.lo.length != 256 || L.up.length != 256))=true then 2 else if L.w.any Zep then 2 else HN L) else 4
theorem Sl.ints {x:AV}{l:List Int}(h:Sl 1 x (l.map (AV.int .i64))){i:Nat}(hi:i<l.length):Zl 1 x (.int .i64 (i:Int))=some (.vp [.int .i64 l[i]]):=h.idx (c:=.int .i64 l[i]) (by simp[hi])
theorem SR (n:Nat):((n:Int) != 256)=(n != 256):=by rw[Bool.eq_iff_iff];simp;omega
theorem ZqD {x c e:AV}{L:Loc}(hx:Sl 1 x (L.w.map (AV.int .i64)))(hc:Sl 5 c (L.cls.map WT))(he:Sl 2 e (L.els.map Q6))(hok:LocOk L)(hlw:L.w.length=256)(H0 H:Hp){o:Nat}(ho:H[o]?=some (.cells (L.cells x c e))):∀ (k i:Nat),L.w.length-i=k→i≤L.w.length →
 QX (.ptr o 0) x (.int .i64 (L.w.length:Int)) (.int .i64 (i:Int)) H0 H=some (.int .i64 (if (L.w.drop i).any Zep then 2 else HN L),H):=by
 intro k
 induction k with
 |zero =>
  intro i hk hi
  rw[RO]
  have hlt:decide ((i:Int)<(L.w.length:Int))=false:=by simp;omega
  have hd:L.w.drop i=[]:=List.drop_eq_nil_iff.2 (by omega)
  simp only[go_sem,hlt,hd,List.any_nil,Bool.false_eq_true,if_false,ZaP,Nat.zero_add,ZF ho,Loc.cells,List.getElem?_cons_zero,List.getElem?_cons_succ,(Zke hc hok.cls hok.ncls H).1]
  unfold HN
  cases h1:(EG L.cls != 0) with
  |true=>simp only[go_sem,if_true]
  |false=>simp only[go_sem,Bool.false_eq_true,if_false,ZaQ,Nat.zero_add,ZF ho,Loc.cells,List.getElem?_cons_zero,List.getElem?_cons_succ,(Zkr he hok.els hok.nels H).1]
 |succ k ih =>
  intro i hk hi
  rw[RO]
  have hl1:i<L.w.length:=by omega
  have hlt:decide ((i:Int)<(L.w.length:Int))=true:=by simp;omega
  have hw:IntKind.i64.wrap ((i:Int)+1)=((i+1:Nat):Int):=by rw[Zq (by omega) (by omega)];omega
  simp only[go_sem,hlt,ZaR,hx.ints hl1,Zw]
  rw[List.drop_eq_getElem_cons hl1,List.any_cons]
  unfold Zep
  cases h1:decide (L.w[i]<0) with
  |true=>simp only[go_sem,Bool.true_or,if_true]
  |false =>
   simp only[go_sem,Bool.false_or]
   cases h2:decide (65535<L.w[i]) with
   |true=>simp only[go_sem,Bool.true_or,if_true]
   |false =>
    simp only[go_sem,Bool.false_or,ZaS,hw]
    exact ih (i+1) (by omega) (by omega)
theorem ZqE {a:AV}{L:Loc}(h:LocAV a L)(hok:LocOk L)(H:Hp):∃ H',JC [a] H=some (.int .i64 (XB L),H'):=by
 obtain⟨x,c,e,rfl,hx,hc,he⟩:=h
 rw[Zbz]
 unfold Sg XB
 have hlen:=hx.len 3
 rw[List.length_map]at hlen
 have hg:=Xg H (.cells (L.cells x c e))
 simp only[go_sem,Nat.zero_add,ZA,Loc.cells,List.getElem?_cons_zero,List.getElem?_cons_succ,ZiC L.name hok.name]
 cases hn:WI L.name with
 |false=>simp only[go_sem,Bool.not_false,Bool.false_eq_true,if_false];exact⟨_,rfl⟩
 |true =>
 simp only[go_sem,Bool.not_true,if_true,ZaN,Nat.zero_add,ZA,List.getElem?_cons_zero,List.getElem?_cons_succ,hlen,SR]
 cases h1:(L.w.length != 256) with
 |true=>simp only[go_sem,Bool.true_or,if_true];exact⟨_,rfl⟩
 |false =>
 simp only[go_sem,Bool.false_or,Nat.zero_add,ZA,List.getElem?_cons_zero,List.getElem?_cons_succ,ZJ,SR]
 cases h2:(L.lo.length != 256) with
 |true=>simp only[go_sem,Bool.true_or,if_true];exact⟨_,rfl⟩
 |false =>
 simp only[go_sem,Bool.false_or,Nat.zero_add,ZA,List.getElem?_cons_zero,List.getElem?_cons_succ,ZJ,SR]
 cases h3:(L.up.length != 256) with
 |true=>simp only[go_sem,if_true];exact⟨_,rfl⟩
 |false =>
 have hlw:L.w.length=256:=by simpa using h1
 have:=ZqD hx hc he hok hlw H (H++[.cells (L.cells x c e)]) hg L.w.length 0 (by omega) (by omega)
 rw[show ((0:Nat):Int)=0 from rfl,List.drop_zero]at this
 simp only[Loc.cells]at this
 simp only[go_sem,Bool.false_eq_true,if_false,ZaO,Nat.zero_add,ZA,List.getElem?_cons_zero,List.getElem?_cons_succ,hlen,this]
 exact⟨_,rfl⟩
theorem ZoT {x c e:AV}{L:Loc}(hx:Sl 1 x (L.w.map (AV.int .i64)))(hc:Sl 5 c (L.cls.map WT))(he:Sl 2 e (L.els.map Q6))(hok:LocOk L)(hlw:L.w.length=256)(H0 H:Hp){o:Nat}(ho:H[o]?=some (.cells (L.cells x c e))):∀ (k i:Nat),256-i=k→i≤256 →
 D2 (.ptr o 0) (.int .i64 (i:Int)) H0 H=some (.int .i64 (if (L.w.drop i).any Zep then 2 else if (L.lo.length != 256 || L.up.length != 256)=true then 2 else HN L),H):=by
 intro k
 induction k with
 |zero =>
  intro i hk hi
  rw[Ls]
  have hlt:decide ((i:Int)<256)=false:=by simp;omega
  have hd:L.w.drop i=[]:=List.drop_eq_nil_iff.2 (by omega)
  simp only[go_sem,hlt,hd,List.any_nil,Bool.false_eq_true,if_false,Zf3,Nat.zero_add,ZF ho,Loc.cells,List.getElem?_cons_zero,List.getElem?_cons_succ,ZJ,SR]
  cases h2:(L.lo.length != 256) with
  |true=>simp only[go_sem,Bool.true_or,if_true]
  |false =>
  simp only[go_sem,Bool.false_or,Nat.zero_add,ZF ho,Loc.cells,List.getElem?_cons_zero,List.getElem?_cons_succ,ZJ,SR]
  cases h3:(L.up.length != 256) with
  |true=>simp only[go_sem,if_true]
  |false =>
  simp only[go_sem,Bool.false_eq_true,if_false,Zf4,Nat.zero_add,ZF ho,Loc.cells,List.getElem?_cons_zero,List.getElem?_cons_succ,(Zke hc hok.cls hok.ncls H).2]
  unfold HN
  cases h1:(EG L.cls != 0) with
  |true=>simp only[go_sem,if_true]
  |false=>simp only[go_sem,Bool.false_eq_true,if_false,Zf5,Nat.zero_add,ZF ho,Loc.cells,List.getElem?_cons_zero,List.getElem?_cons_succ,(Zkr he hok.els hok.nels H).2]
 |succ k ih =>
  intro i hk hi
  rw[Ls]
  have hl1:i<L.w.length:=by omega
  have hlt:decide ((i:Int)<256)=true:=by simp;omega
  have hw:IntKind.i64.wrap ((i:Int)+1)=((i+1:Nat):Int):=by rw[Zq (by omega) (by omega)];omega
  simp only[go_sem,hlt,Zf6,Nat.zero_add,ZF ho,Loc.cells,List.getElem?_cons_zero,List.getElem?_cons_succ,hx.ints hl1,Zw,Zgt,Bool.not_not]
  rw[List.drop_eq_getElem_cons hl1,List.any_cons]
  have e:(decide (L.w[i]<0) || decide (65535<L.w[i]))=Zep L.w[i]:=rfl
  rw[e]
  cases h1:Zep L.w[i] with
  |true=>simp only[go_sem,Bool.true_or,if_true]
  |false =>
   simp only[go_sem,Bool.false_or,Zf7,hw]
   exact ih (i+1) (by omega) (by omega)
theorem ZoU {a:AV}{L:Loc}(h:LocAV a L)(hok:LocOk L)(H:Hp):∃ H',R6 [a] H=some (.int .i64 (XB L),H'):=by
 obtain⟨x,c,e,rfl,hx,hc,he⟩:=h
 rw[Zhe]
 unfold Zch XB
 have hlen:=hx.len 3
 rw[List.length_map]at hlen
 have hg:=Xg H (.cells (L.cells x c e))
 simp only[go_sem,Nat.zero_add,ZA,Loc.cells,List.getElem?_cons_zero,List.getElem?_cons_succ,ZgQ L.name hok.name]
 cases hn:WI L.name with
 |false=>simp only[go_sem,Bool.not_false,Bool.false_eq_true,if_false];exact⟨_,rfl⟩
 |true =>
 simp only[go_sem,Bool.not_true,if_true,Zf1,Nat.zero_add,ZA,List.getElem?_cons_zero,List.getElem?_cons_succ,hlen,SR]
 cases h1:(L.w.length != 256) with
 |true=>simp only[go_sem,Bool.true_or,if_true];exact⟨_,rfl⟩
 |false =>
 have hlw:L.w.length=256:=by simpa using h1
 have:=ZoT hx hc he hok hlw H (H++[.cells (L.cells x c e)]) hg 256 0 (by omega) (by omega)
 rw[show ((0:Nat):Int)=0 from rfl,List.drop_zero]at this
 simp only[Loc.cells]at this
 simp only[go_sem,Bool.false_or,Zf2,this]
 refine⟨_,congrArg some (Prod.ext (congrArg (AV.int .i64) ?_) rfl)⟩
 cases h2:(L.lo.length != 256 || L.up.length != 256) <;> cases h3:L.w.any Zep <;> simp
theorem Zix {a:AV}{L:Loc}(h:LocAV a L)(hok:LocOk L)(H:Hp):Zc JC [a] H=some (.int .i64 (XB L),H)∧Zc R6 [a] H=some (.int .i64 (XB L),H):=by
 obtain⟨a',h1,h2⟩:=h.close [] 0 2
 obtain⟨H',h3⟩:=ZqE h2 hok []
 obtain⟨H'',h4⟩:=ZoU h2 hok []
 exact⟨YZ h1 h3 rfl,YZ h1 h4 rfl⟩
end Go.Am
