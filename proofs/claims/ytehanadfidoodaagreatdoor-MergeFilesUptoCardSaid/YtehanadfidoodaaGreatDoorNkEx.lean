/-
  Bytes told apart; names; letters and digits alone.
-/
import Derived.Test.YtehanadfidoodaaGreatDoorNkSx
import Derived.Test.YtehanadfidoodaaGreatDoorNkGCx
namespace Go.Am
set_option linter.unusedSimpArgs false
set_option linter.unusedVariables false
set_option maxRecDepth 100000
theorem Rr {α β γ:Type}(x:Option α)(f:α→Option β)(g:β→Option γ):Z0 (Z0 x f) g=Z0 x fun a=>Z0 (f a) g:=by cases x <;> rfl
def Pe (t13_9 x8:AV):Option AV :=
 Z0 (Z5 .eql t13_9 (.int .u8 95)) fun t15_10 =>
 Z0 (Z7 t15_10 false (.tuple []) (some t13_9)) fun t17_11 =>
 Z0 (Z7 t15_10 false (.tuple []) (Z5 .geq t17_11 (.int .u8 97))) fun t18_12 =>
 Z0 (Z7 t15_10 false (.tuple []) (some t18_12)) fun t19_13 =>
 Z0 (Z7 t19_13 true (.tuple []) (some t13_9)) fun t20_14 =>
 Z0 (Z7 t19_13 true (.tuple []) (Z5 .leq t20_14 (.int .u8 122))) fun t21_15 =>
 Z0 (Z7 t15_10 false (.tuple []) (Zj t19_13 t21_15 (.bool false))) fun t22_16 =>
 Z0 (Zj t15_10 (.bool true) t22_16) fun t23_17 =>
 Z0 (Z7 t23_17 false (.tuple []) (some t13_9)) fun t25_18 =>
 Z0 (Z7 t23_17 false (.tuple []) (Z5 .geq t25_18 (.int .u8 65))) fun t26_19 =>
 Z0 (Z7 t23_17 false (.tuple []) (some t26_19)) fun t27_20 =>
 Z0 (Z7 t27_20 true (.tuple []) (some t13_9)) fun t28_21 =>
 Z0 (Z7 t27_20 true (.tuple []) (Z5 .leq t28_21 (.int .u8 90))) fun t29_22 =>
 Z0 (Z7 t23_17 false (.tuple []) (Zj t27_20 t29_22 (.bool false))) fun t30_23 =>
 Z0 (Zj t23_17 (.bool true) t30_23) fun t31_24 =>
 Z0 (XF .not t31_24) fun t33_25 =>
 Z0 (Z7 t33_25 true (.tuple []) (some x8)) fun t35_26 =>
 Z0 (Z7 t33_25 true (.tuple []) (Z5 .eql t35_26 (.int .i64 0))) fun t36_27 =>
 Z0 (Z7 t33_25 true (.tuple []) (some t36_27)) fun t37_28 =>
 Z0 (Z7 t37_28 false (.tuple []) (some t13_9)) fun t38_29 =>
 Z0 (Z7 t37_28 false (.tuple []) (Z5 .lss t38_29 (.int .u8 48))) fun t39_30 =>
 Z0 (Z7 t33_25 true (.tuple []) (Zj t37_28 (.bool true) t39_30)) fun t40_31 =>
 Z0 (Z7 t33_25 true (.tuple []) (some t40_31)) fun t41_32 =>
 Z0 (Z7 t41_32 false (.tuple []) (some t13_9)) fun t42_33 =>
 Z0 (Z7 t41_32 false (.tuple []) (Z5 .gtr t42_33 (.int .u8 57))) fun t43_34 =>
 Z0 (Z7 t33_25 true (.tuple []) (Zj t41_32 (.bool true) t43_34)) fun t44_35 =>
 Z0 (Zj t33_25 t44_35 (.bool false)) fun t45_36 =>
 some t45_36
theorem Fa (x0 x7 x8 x9:AV)(H0 H:Hp):FR x0 x7 x8 x9 H0 H =
 Z0 (Zw x0 x8) fun t13_9 =>
 Z0 (Pe t13_9 x8) fun t45_36 =>
 Zm t45_36 (some ((.bool false),H)) (FS x0 x7 x8 H0 H):=by
 rw[Zac];simp only[Pe,Rr,Uo]
def Zdw (t31_2:AV):Option AV :=
 Z0 (Z5 .geq t31_2 (.int .u8 97)) fun t33_3 =>
 Z0 (Z7 t33_3 true (.tuple []) (some t31_2)) fun t35_4 =>
 Z0 (Z7 t33_3 true (.tuple []) (Z5 .leq t35_4 (.int .u8 122))) fun t36_5 =>
 Z0 (Zj t33_3 t36_5 (.bool false)) fun t37_6 =>
 Z0 (Z7 t37_6 false (.tuple []) (some t31_2)) fun t39_7 =>
 Z0 (Z7 t37_6 false (.tuple []) (Z5 .geq t39_7 (.int .u8 65))) fun t40_8 =>
 Z0 (Z7 t37_6 false (.tuple []) (some t40_8)) fun t41_9 =>
 Z0 (Z7 t41_9 true (.tuple []) (some t31_2)) fun t42_10 =>
 Z0 (Z7 t41_9 true (.tuple []) (Z5 .leq t42_10 (.int .u8 90))) fun t43_11 =>
 Z0 (Z7 t37_6 false (.tuple []) (Zj t41_9 t43_11 (.bool false))) fun t44_12 =>
 Z0 (Zj t37_6 (.bool true) t44_12) fun t45_13 =>
 Z0 (Z7 t45_13 false (.tuple []) (some t31_2)) fun t47_14 =>
 Z0 (Z7 t45_13 false (.tuple []) (Z5 .geq t47_14 (.int .u8 48))) fun t48_15 =>
 Z0 (Z7 t45_13 false (.tuple []) (some t48_15)) fun t49_16 =>
 Z0 (Z7 t49_16 true (.tuple []) (some t31_2)) fun t50_17 =>
 Z0 (Z7 t49_16 true (.tuple []) (Z5 .leq t50_17 (.int .u8 57))) fun t51_18 =>
 Z0 (Z7 t45_13 false (.tuple []) (Zj t49_16 t51_18 (.bool false))) fun t52_19 =>
 Z0 (Zj t45_13 (.bool true) t52_19) fun t53_20 =>
 Z0 (Z7 t53_20 false (.tuple []) (some t31_2)) fun t55_21 =>
 Z0 (Z7 t53_20 false (.tuple []) (Z5 .eql t55_21 (.int .u8 95))) fun t56_22 =>
 Z0 (Zj t53_20 (.bool true) t56_22) fun t57_23 =>
 Z0 (XF .not t57_23) fun t58_24 =>
 some t58_24
theorem Ib (x0 x3:AV)(H0 H:Hp):RX x0 x3 H0 H =
 Z0 (Zw x0 x3) fun t31_2 =>
 Z0 (Zdw t31_2) fun t58_24 =>
 Zm t58_24 (some ((.bool false),H)) (RY x0 x3 H0 H):=by
 rw[Zb3];simp only[Zdw,Rr,Uo]
def ZnD (r16_4a t14_3:AV):Option AV :=
 Z0 (Z7 r16_4a false (.tuple []) (some t14_3)) fun t18_5 =>
 Z0 (Z7 r16_4a false (.tuple []) (Z5 .geq t18_5 (.int .u8 48))) fun t19_6 =>
 Z0 (Z7 r16_4a false (.tuple []) (some t19_6)) fun t20_7 =>
 Z0 (Z7 t20_7 true (.tuple []) (some t14_3)) fun t21_8 =>
 Z0 (Z7 t20_7 true (.tuple []) (Z5 .leq t21_8 (.int .u8 57))) fun t22_9 =>
 Z0 (Z7 r16_4a false (.tuple []) (Zj t20_7 t22_9 (.bool false))) fun t23_10 =>
 Z0 (Zj r16_4a (.bool true) t23_10) fun t24_11 =>
 Z0 (Z7 t24_11 false (.tuple []) (some t14_3)) fun t26_12 =>
 Z0 (Z7 t24_11 false (.tuple []) (Z5 .geq t26_12 (.int .u8 97))) fun t27_13 =>
 Z0 (Z7 t24_11 false (.tuple []) (some t27_13)) fun t28_14 =>
 Z0 (Z7 t28_14 true (.tuple []) (some t14_3)) fun t29_15 =>
 Z0 (Z7 t28_14 true (.tuple []) (Z5 .leq t29_15 (.int .u8 122))) fun t30_16 =>
 Z0 (Z7 t24_11 false (.tuple []) (Zj t28_14 t30_16 (.bool false))) fun t31_17 =>
 Z0 (Zj t24_11 (.bool true) t31_17) fun t32_18 =>
 Z0 (Z7 t32_18 false (.tuple []) (some t14_3)) fun t34_19 =>
 Z0 (Z7 t32_18 false (.tuple []) (Z5 .geq t34_19 (.int .u8 65))) fun t35_20 =>
 Z0 (Z7 t32_18 false (.tuple []) (some t35_20)) fun t36_21 =>
 Z0 (Z7 t36_21 true (.tuple []) (some t14_3)) fun t37_22 =>
 Z0 (Z7 t36_21 true (.tuple []) (Z5 .leq t37_22 (.int .u8 90))) fun t38_23 =>
 Z0 (Z7 t32_18 false (.tuple []) (Zj t36_21 t38_23 (.bool false))) fun t39_24 =>
 Z0 (Zj t32_18 (.bool true) t39_24) fun t40_25 =>
 some t40_25
def Zg5 (r15_7a t13_6:AV):Option AV :=
 Z0 (Z7 r15_7a false (.tuple []) (some t13_6)) fun t17_8 =>
 Z0 (Z7 r15_7a false (.tuple []) (Z5 .geq t17_8 (.int .u8 97))) fun t18_9 =>
 Z0 (Z7 r15_7a false (.tuple []) (some t18_9)) fun t19_10 =>
 Z0 (Z7 t19_10 true (.tuple []) (some t13_6)) fun t20_11 =>
 Z0 (Z7 t19_10 true (.tuple []) (Z5 .leq t20_11 (.int .u8 122))) fun t21_12 =>
 Z0 (Z7 r15_7a false (.tuple []) (Zj t19_10 t21_12 (.bool false))) fun t22_13 =>
 Z0 (Zj r15_7a (.bool true) t22_13) fun t23_14 =>
 Z0 (Z7 t23_14 false (.tuple []) (some t13_6)) fun t25_15 =>
 Z0 (Z7 t23_14 false (.tuple []) (Z5 .geq t25_15 (.int .u8 65))) fun t26_16 =>
 Z0 (Z7 t23_14 false (.tuple []) (some t26_16)) fun t27_17 =>
 Z0 (Z7 t27_17 true (.tuple []) (some t13_6)) fun t28_18 =>
 Z0 (Z7 t27_17 true (.tuple []) (Z5 .leq t28_18 (.int .u8 90))) fun t29_19 =>
 Z0 (Z7 t23_14 false (.tuple []) (Zj t27_17 t29_19 (.bool false))) fun t30_20 =>
 Z0 (Zj t23_14 (.bool true) t30_20) fun t31_21 =>
 Z0 (Z7 t31_21 false (.tuple []) (some t13_6)) fun t33_22 =>
 Z0 (Z7 t31_21 false (.tuple []) (Z5 .geq t33_22 (.int .u8 48))) fun t34_23 =>
 Z0 (Z7 t31_21 false (.tuple []) (some t34_23)) fun t35_24 =>
 Z0 (Z7 t35_24 true (.tuple []) (some t13_6)) fun t36_25 =>
 Z0 (Z7 t35_24 true (.tuple []) (Z5 .leq t36_25 (.int .u8 57))) fun t37_26 =>
 Z0 (Z7 t31_21 false (.tuple []) (Zj t35_24 t37_26 (.bool false))) fun t38_27 =>
 Z0 (Zj t31_21 (.bool true) t38_27) fun t39_28 =>
 some t39_28
theorem Cq (x0 x3 x7 x8 x9:AV)(H0 H:Hp):DO x0 x3 x7 x8 x9 H0 H =
 Z0 (Zw x0 x8) fun t13_6 =>
 Z0 (WG [t13_6] H) fun r15_7 =>
 Z0 (Zg5 r15_7.1 t13_6) fun t39_28 =>
 Zm t39_28 (Z0 (byteE.run [x3,t13_6] r15_7.2) fun r41_29=>Um x0 x3 x7 x8 H0 r41_29.2) (Um x0 x3 x7 x8 H0 r15_7.2):=by
 rw[Om];simp only[Zg5,Rr,Uo]
def Dl:Option AV→Option Bool
 |some (.bool b)=>some b
 |_=>none
theorem Up {x:Option AV}{b:Bool}(h:Dl x=some b):x=some (.bool b):=by
 unfold Dl at h
 split at h
 ·injection h with h;subst h;rfl
 ·cases h
def Zn7 (n:Nat):Bool:=(decide (97≤n)&&decide (n≤122)) || (decide (65≤n)&&decide (n≤90))
def R8 (n:Nat):Bool:=decide (48≤n)&&decide (n≤57)
def XZ (n:Nat):Bool:=n==95 || Zn7 n || R8 n
theorem Zf2:((List.range 256).all fun n=>(Dl (Pe (.int .u8 (n:Int)) (.int .i64 1))==some (!XZ n))&&(Dl (Pe (.int .u8 (n:Int)) (.int .i64 0))==some (!XZ n || R8 n)))=true:=by kernel_rfl
theorem Zlp:((List.range 256).all fun n=>(Dl (Zdw (.int .u8 (n:Int)))==some (!XZ n)))=true:=by kernel_rfl
theorem OM (b:UInt8):b.toNat<256:=b.toNat_lt
theorem ZaK (b:UInt8):Pe (.int .u8 b.toNat) (.int .i64 0)=some (.bool (!XZ b.toNat || R8 b.toNat)):=by
 have h:=UZ Zf2 (OM b)
 simp only[Bool.and_eq_true,beq_iff_eq]at h
 exact Up h.2
theorem Zdj (b:UInt8){i:Int}(hi:(i==0)=false):Pe (.int .u8 b.toNat) (.int .i64 i)=some (.bool (!XZ b.toNat)):=by
 have h:=UZ Zf2 (OM b)
 simp only[Bool.and_eq_true,beq_iff_eq]at h
 rw[←Up h.1]
 have e:Z5 .eql (.int .i64 i) (.int .i64 0)=Z5 .eql (.int .i64 1) (.int .i64 0):=by simp only[Z5,XE,XG,hi];rfl
 unfold Pe
 iterate 16 refine congrArg (Z0 _) (funext fun t=>?_)
 cases t with
 |bool b =>
  cases b
  ·rfl
  ·simp only[ZgX,Uo,e]
 |_=>rfl
theorem ZnP (b:UInt8):Zdw (.int .u8 b.toNat)=some (.bool (!XZ b.toNat)):=by
 have h:=UZ Zlp (OM b)
 simp only[beq_iff_eq]at h
 exact Up h
def WM (s:List UInt8):Bool :=
 match s with
 |[]=>false
 |b::_=>decide (s.length≤32)&&!R8 b.toNat&&s.all fun c=>XZ c.toNat
theorem Zjb (s:List UInt8)(hs:s.length≤4611686018427387904)(H0 H:Hp):FQ (.str s) H0 H=some (.bool (!s.isEmpty&&decide (s.length≤32)),H):=by
 rw[Zab]
 cases s with
 |nil=>simp[go_sem,Yx,GO]
 |cons b l =>
  simp only[Yx,GO,go_sem,Zk]
  have:(!((b::l)==([]:List UInt8)))=true:=rfl
  have c:decide (((b::l).length:Int)≤32)=decide ((b::l).length≤32):=by rw[Bool.eq_iff_iff];simp;omega
  simp only[this,go_sem,c,List.isEmpty_cons,Bool.not_false,Bool.true_and]
theorem Znh (s:List UInt8)(hs:s.length≤4611686018427387904)(H0 H:Hp):∀ (k i:Nat),s.length-i=k→0<i→i≤s.length →
 Ki (.str s) (.int .i64 s.length) (.int .i64 i) H0 H=some (.bool (((s.drop i).all fun c=>XZ c.toNat)&&(!s.isEmpty&&decide (s.length≤32))),H):=by
 intro k
 induction k with
 |zero =>
  intro i hk h0 hi
  rw[UG]
  have hlt:decide ((i:Int)<(s.length:Int))=false:=by simp;omega
  have hd:s.drop i=[]:=List.drop_eq_nil_iff.2 (by omega)
  simp only[go_sem,hlt,Zjb s hs,hd,List.all_nil,Bool.true_and]
 |succ k ih =>
  intro i hk h0 hi
  rw[UG]
  have hl:i<s.length:=by omega
  have hlt:decide ((i:Int)<(s.length:Int))=true:=by simp;omega
  have hw:IntKind.i64.wrap ((i:Int)+1)=((i+1:Nat):Int):=by rw[Zr (by omega) (by omega)];omega
  have h0':((i:Int)==0)=false:=by simp;omega
  simp only[go_sem,hlt,Fa,Y0 (List.getElem?_eq_getElem hl),Zdj _ h0']
  rw[List.drop_eq_getElem_cons hl,List.all_cons]
  cases hb:XZ s[i].toNat with
  |false=>simp only[go_sem,Bool.not_false,Bool.false_and]
  |true =>
   simp only[go_sem,Bool.not_true,Bool.true_and,TI,hw]
   exact ih (i+1) (by omega) (by omega) (by omega)
theorem Zni (s:List UInt8)(hs:s.length≤4611686018427387904)(H:Hp):QK [.str s] H=some (.bool (WM s),H):=by
 rw[ZaV]
 unfold CM
 simp only[go_sem,Zk]
 cases s with
 |nil=>rw[UG];simp[go_sem,Zjb [] (by simp),WM]
 |cons b l =>
  rw[UG]
  have hlt:decide ((0:Int)<((b::l).length:Int))=true:=by simp
  have hw:IntKind.i64.wrap ((0:Int)+1)=((0+1:Nat):Int):=by decide
  have hidx:Zw (.str (b::l)) (.int .i64 0)=some (.int .u8 b.toNat):=by simp[Zw]
  simp only[go_sem,hlt,Fa,hidx,ZaK]
  cases hb:(!XZ b.toNat || R8 b.toNat) with
  |true =>
   have:WM (b::l)=false:=by
    unfold WM
    simp only[Bool.or_eq_true,Bool.not_eq_true']at hb
    rcases hb with hb|hb <;> simp[hb]
   simp only[go_sem,this]
  |false =>
   simp only[Bool.or_eq_false_iff,Bool.not_eq_false']at hb
   simp only[go_sem,TI,hw]
   rw[Znh (b::l) hs H H l.length 1 (by simp) (by omega) (by simp)]
   have:WM (b::l)=(((b::l).drop 1).all (fun c=>XZ c.toNat)&&(!(b::l).isEmpty&&decide ((b::l).length≤32))):=by
    unfold WM
    simp only[hb.1,hb.2,List.all_cons,List.drop_one,List.tail_cons,List.isEmpty_cons,Bool.not_false,Bool.true_and,Bool.and_true]
    rw[Bool.and_comm]
   rw[this]
theorem Zlq (s:List UInt8)(hs:s.length≤4611686018427387904)(H0 H:Hp):∀ (k i:Nat),s.length-i=k→i≤s.length →
 B2 (.str s) (.int .i64 i) H0 H=some (.bool ((s.drop i).all fun c=>XZ c.toNat),H):=by
 intro k
 induction k with
 |zero =>
  intro i hk hi
  rw[PU]
  have hlt:decide ((i:Int)<(s.length:Int))=false:=by simp;omega
  have hd:s.drop i=[]:=List.drop_eq_nil_iff.2 (by omega)
  simp only[go_sem,Zk,hlt,Zb2,hd,List.all_nil]
 |succ k ih =>
  intro i hk hi
  rw[PU]
  have hl:i<s.length:=by omega
  have hlt:decide ((i:Int)<(s.length:Int))=true:=by simp;omega
  have hw:IntKind.i64.wrap ((i:Int)+1)=((i+1:Nat):Int):=by rw[Zr (by omega) (by omega)];omega
  simp only[go_sem,Zk,hlt,Ib,Y0 (List.getElem?_eq_getElem hl),ZnP]
  rw[List.drop_eq_getElem_cons hl,List.all_cons]
  cases hb:XZ s[i].toNat with
  |false=>simp only[go_sem,Bool.not_false,Bool.false_and]
  |true =>
   simp only[go_sem,Bool.not_true,Bool.true_and,Zb4,hw]
   exact ih (i+1) (by omega) (by omega)
theorem Zlr (s:List UInt8)(hs:s.length≤4611686018427387904)(H:Hp):Jr [.str s] H=some (.bool (WM s),H):=by
 rw[ZbW]
 unfold AF
 simp only[go_sem,Zk]
 cases s with
 |nil=>simp[go_sem,WM]
 |cons b l =>
  have h0:((((b::l).length:Nat):Int)==0)=false:=by simp;omega
  have hidx:Zw (.str (b::l)) (.int .i64 0)=some (.int .u8 b.toNat):=by simp[Zw]
  simp only[go_sem,h0]
  by_cases h32:32<(b::l).length
  ·have c1:decide ((32:Int)<((b::l).length:Int))=true:=by simp at h32 ⊢;omega
   have    : WM (b :: l) = false := by unfold WM; have : decide ((b :: l).length ≤ 32) = false := by simp at h32 ⊢; omega
                                       rw[this];rfl
   simp only[go_sem,c1,this]
  ·have c1:decide ((32:Int)<((b::l).length:Int))=false:=by simp at h32 ⊢;omega
   have c2:decide ((b::l).length≤32)=true:=by simp at h32 ⊢;omega
   have hl:=Zlq (b::l) hs H H (b::l).length 0 (by simp) (by omega)
   rw[show ((0:Nat):Int)=0 from rfl,List.drop_zero]at hl
   have hn:WM (b::l)=(!R8 b.toNat&&(b::l).all fun c=>XZ c.toNat):=by unfold WM;simp only[c2,Bool.true_and]
   simp only[go_sem,c1,hidx,Zb1,hl,hn]
   have e1:decide ((48:Int)≤(b.toNat:Int))=decide (48≤b.toNat):=by rw[Bool.eq_iff_iff];simp;omega
   have e2:decide ((b.toNat:Int)≤(57:Int))=decide (b.toNat≤57):=by rw[Bool.eq_iff_iff];simp;omega
   unfold R8
   simp only[e1,e2]
   cases h48:decide (48≤b.toNat) with
   |false=>simp only[go_sem,Bool.false_and,Bool.not_false,Bool.true_and]
   |true =>
    cases h57:decide (b.toNat≤57) with
    |false=>simp only[go_sem,hidx,e2,h57,Bool.true_and,Bool.not_false]
    |true=>simp only[go_sem,hidx,e2,h57,Bool.true_and,Bool.not_true,Bool.false_and]
theorem Zf3 (s:List UInt8)(hs:s.length≤4611686018427387904)(H:Hp):Ze QK [.str s] H=some (.bool (WM s),H):=XJ rfl (Zni s hs []) rfl
theorem Zdx (s:List UInt8)(hs:s.length≤4611686018427387904)(H:Hp):Ze Jr [.str s] H=some (.bool (WM s),H):=XJ rfl (Zlr s hs []) rfl
theorem ZD (a:AV)(l:List AV)(H:Hp):Z4 false 1 (.vp (a::l)) H=some a:=(Eq.refl _).trans (Eq.refl _)
theorem ZjP (a:AV)(l:List AV):YE false 1 (.vp (a::l))=some a:=(Eq.refl _).trans (Eq.refl _)
theorem Zpp (H:Hp)(l:List AV)(k:AV→Hp→Z3):YU (.ptr H.length 0) (H++[.cells l]) k=k (.vp l) (H++[.dead]):=by
 rw[Rx (Vt _ _),Zqe]
def T0 {α:Type}(bad:α→Option Int)(key:α→List UInt8):List α→List (List UInt8)→Int
 |[],_=>0
 |c::r,seen=>match bad c with
  |some e=>e
  |none=>if seen.contains (key c) then 6 else T0 bad key r (seen++[key c])
theorem BG {α:Type}(bad:α→Option Int)(key:α→List UInt8)(c:α)(r:List α)(seen:List (List UInt8)):T0 bad key (c::r) seen=match bad c with
 |some e=>e
 |none=>if seen.contains (key c) then 6 else T0 bad key r (seen++[key c]):=(Eq.refl _).trans (Eq.refl _)
def Lt (es:List (AV×AV×Nat))(seen:List (List UInt8)):Prop:=es.map (fun e=>(e.1,e.2.1))=seen.map fun s=>(AV.str s,AV.bool true)
theorem ZcW (k:List UInt8):∀ (es:List (AV×AV×Nat)) (seen:List (List UInt8)) (i:Nat),Lt es seen →
 if seen.contains k then ∃ j,YL (.str k) es i=some (some (j,.bool true)) else YL (.str k) es i=some none:=by
 intro es
 induction es with
 |nil =>
  intro seen i h
  cases seen with
  |nil=>simp[YL]
  |cons s r=>simp[Lt]at h
 |cons e es ih =>
  intro seen i h
  cases seen with
  |nil=>simp[Lt]at h
  |cons s r =>
   obtain⟨a,b,c⟩:=e
   simp only[Lt,List.map_cons,List.cons.injEq,Prod.mk.injEq]at h
   obtain⟨⟨rfl,rfl⟩,h2⟩:=h
   have:=ih r (i+1) h2
   simp only[YL,UT,List.contains_cons]
   cases hk:(k==s) with
   |true=>simp
   |false=>simpa using this
theorem Zfh {H:Hp}{m:Nat}{es:List (AV×AV×Nat)}{c:Nat}{seen:List (List UInt8)}(hm:H[m]?=some (.map es c))(hs:Lt es seen)(k:List UInt8) :
 Y8 .string (.bool false) false (.map m) (.str k) H=some (.bool (seen.contains k)):=by
 have h:=ZcW k es seen 0 hs
 unfold Y8
 simp only[Wc,if_true,YW,hm]
 cases hk:seen.contains k with
 |true =>
  rw[hk]at h
  obtain⟨j,hj⟩:=h
  simp[hj]
 |false =>
  rw[hk]at h
  simp at h
  simp[h]
theorem Zhz {H:Hp}{m:Nat}{es:List (AV×AV×Nat)}{c:Nat}{seen:List (List UInt8)}(hm:H[m]?=some (.map es c))(hs:Lt es seen){k:List UInt8}(hk:seen.contains k=false) :
 Xh .string (.map m) (.str k) (.bool true) H=some (.tuple [],H.set m (.map (es++[(.str k,.bool true,c)]) (c+1)))∧Lt (es++[(.str k,.bool true,c)]) (seen++[k]):=by
 have h:=ZcW k es seen 0 hs
 rw[hk]at h
 simp at h
 constructor
 ·unfold Xh
  simp only[hm,Wc,if_true,h]
 ·unfold Lt at hs ⊢
  simp[hs]
theorem TZ (l:List AV):Z8 0 (.vp l)=some (.vp l):=by simp[Z8]
def VI (c:List UInt8×List Int):AV:=.agg (.str c.1::c.2.map (.int .u64))
def N4 (c:List UInt8×List Int):Option Int:=if WM c.1 then none else some 4
def LE (l:List (List UInt8×List Int)):Int:=if 24<l.length then 3 else T0 N4 Prod.fst l []
def Ov (l:List (List UInt8×List Int)):Prop:=∀ c∈l,c.2.length=4∧c.1.length≤4611686018427387904
theorem Sl.cls {x:AV}{l:List (List UInt8×List Int)}(h:Sl 5 x (l.map VI)){i:Nat}{c:List UInt8×List Int}(hi:l[i]?=some c):Zl 5 x (.int .i64 (i:Int))=some (.vp (.str c.1::c.2.map (.int .u64))):=h.idx (c:=VI c) (by simp[hi])
theorem X2 (n:Nat)(l:List AV)(hl:l.length=n)(H:Hp):Z4 true n (.vp l) H=some (.agg l):=by
 subst hl
 simp[Z4,Go.Am.apart]
theorem PZ (H:Hp)(n:Nat)(l z:List AV)(hl:l.length=n)(hz:z.length=n):Zi n (.ptr H.length 0) (.agg l) (H++[.cells z])=some (.tuple [],H++[.cells l]):=by
 rw[U4 (sz:=n) (v:=.agg l) (Vt _ _) rfl hl (by omega)]
 simp[AV.cells,splice,hz,hl]
theorem ZoV {x:AV}{l:List (List UInt8×List Int)}(h:Sl 5 x (l.map VI))(hl:l.length≤24)(hok:Ov l)(H0:Hp)(m:Nat):∀ (k i:Nat) (H:Hp) (es:List (AV×AV×Nat)) (c:Nat),l.length-i=k→i≤l.length →
 H[m]?=some (.map es c)→Lt es ((l.take i).map Prod.fst) →
 ∃ H',Ws (.map m) x (.int .i64 (l.length:Int)) (.int .i64 (i:Int)) H0 H=some (.int .i64 (T0 N4 Prod.fst (l.drop i) ((l.take i).map Prod.fst)),H'):=by
 intro k
 induction k with
 |zero =>
  intro i H es c hk hi hm hs
  rw[Jg]
  have hlt:decide ((i:Int)<(l.length:Int))=false:=by simp;omega
  have hd:l.drop i=[]:=List.drop_eq_nil_iff.2 (by omega)
  simp only[go_sem,hlt,P8,hd]
  exact⟨_,rfl⟩
 |succ k ih =>
  intro i H es c hk hi hm hs
  rw[Jg]
  have hl1:i<l.length:=by omega
  have hlt:decide ((i:Int)<(l.length:Int))=true:=by simp;omega
  have hw:IntKind.i64.wrap ((i:Int)+1)=((i+1:Nat):Int):=by rw[Zr (by omega) (by omega)];omega
  obtain⟨h4,hnm⟩:=hok l[i] (List.getElem_mem hl1)
  have hlen5:(AV.str l[i].1::l[i].2.map (AV.int .u64)).length=5:=by simp[h4]
  have hst:=PZ H 5 _ [.str [],.int .u64 0,.int .u64 0,.int .u64 0,.int .u64 0] hlen5 rfl
  simp only[go_sem,hlt,P9,h.cls (List.getElem?_eq_getElem hl1),X2 5 _ hlen5,hst,Nat.zero_add,Zz,List.getElem?_cons_zero,Zf3 _ hnm]
  rw[List.drop_eq_getElem_cons hl1,BG]
  have hmm:(H++[AObj.cells (AV.str l[i].1::l[i].2.map (AV.int .u64))])[m]?=some (.map es c):=Yw hm _
  cases hb:WM l[i].1 with
  |false =>
   simp only[go_sem,Bool.not_false,N4,hb,Bool.false_eq_true,if_false]
   exact⟨_,rfl⟩
  |true =>
   simp only[go_sem,Bool.not_true,N4,hb,if_true,Pb,Nat.zero_add,Zz,List.getElem?_cons_zero,Zfh hmm hs]
   cases hc:((l.take i).map Prod.fst).contains l[i].1 with
   |true =>
    simp only[go_sem,if_true]
    exact⟨_,rfl⟩
   |false =>
    obtain⟨q1,q2⟩:=Zhz hmm hs hc
    simp only[go_sem,Bool.false_eq_true,if_false,Pc,Nat.zero_add,Zz,List.getElem?_cons_zero,q1,Pa,hw]
    have ht:(l.take (i+1)).map Prod.fst=(l.take i).map Prod.fst++[l[i].1]:=by
     rw[List.take_add_one,List.getElem?_eq_getElem hl1,List.map_append];rfl
    rw[←ht]
    refine ih (i+1) _ _ _ (by omega) (by omega) (ZF _ hmm) ?_
    rw[ht];exact q2
theorem ZoW {x:AV}{l:List (List UInt8×List Int)}(h:Sl 5 x (l.map VI))(hok:Ov l)(hl0:l.length≤4611686018427387904)(H:Hp):∃ H',WE [x] H=some (.int .i64 (LE l),H'):=by
 rw[PC]
 unfold Bx LE
 have hlen:=h.len 264
 rw[List.length_map]at hlen
 simp only[go_sem,hlen]
 by_cases h24:24<l.length
 ·have c1:decide ((24:Int)<(l.length:Int))=true:=by simp;omega
  simp only[c1,go_sem,h24,if_true]
  exact⟨_,rfl⟩
 ·have c1:decide ((24:Int)<(l.length:Int))=false:=by simp;omega
  simp only[c1,go_sem,h24,if_false,P7,hlen]
  have:=ZoV h (by omega) hok H H.length l.length 0 (H++[.map [] 0]) [] 0 (by omega) (by omega) (Vt H _) rfl
  rw[show ((0:Nat):Int)=0 from rfl,List.drop_zero,List.take_zero]at this
  exact this
theorem ZrO {x:AV}{l:List (List UInt8×List Int)}(h:Sl 5 x (l.map VI))(hl:l.length≤24)(H0 H:Hp){i:Nat}{n:List UInt8}{q:List Int}(hi:l[i]?=some (n,q)):∀ (k j:Nat),i-j=k→j≤i →
 VH x (.int .i64 (i:Int)) (.int .i64 (j:Int)) H0 H=if (((l.take i).map Prod.fst).drop j).contains n then some (.int .i64 6,H) else J1 x (.int .i64 (i:Int)) H0 H:=by
 intro k
 have hil:i<l.length:=by
  rcases Nat.lt_or_ge i l.length with h'|h'
  ·exact h'
  ·rw[List.getElem?_eq_none h']at hi;cases hi
 induction k with
 |zero =>
  intro j hk hj
  rw[Gv]
  have hlt:decide ((j:Int)<(i:Int))=false:=by simp;omega
  have hd:((l.take i).map Prod.fst).drop j=[]:=List.drop_eq_nil_iff.2 (by simp;omega)
  simp only[go_sem,hlt,hd,List.contains_nil,Bool.false_eq_true,if_false]
 |succ k ih =>
  intro j hk hj
  rw[Gv]
  have hjl:j<l.length:=by omega
  have hlt:decide ((j:Int)<(i:Int))=true:=by simp;omega
  have hw:IntKind.i64.wrap ((j:Int)+1)=((j+1:Nat):Int):=by rw[Zr (by omega) (by omega)];omega
  have hdj:((l.take i).map Prod.fst).drop j=l[j].1::((l.take i).map Prod.fst).drop (j+1):=by
   rw[List.drop_eq_getElem_cons (by simp;omega)]
   simp
  rw[hdj,List.contains_cons]
  simp only[go_sem,hlt,Lz,h.cls (List.getElem?_eq_getElem hjl),h.cls hi,ZD]
  have hs:Yx .eql (.str l[j].1) (.str n)=some (.bool (l[j].1==n)):=rfl
  have hsy:(n==l[j].1)=(l[j].1==n):=by rw[Bool.eq_iff_iff,beq_iff_eq,beq_iff_eq];exact eq_comm
  simp only[TZ,ZD,hs,go_sem,hsy]
  cases hb:(l[j].1==n) with
  |true=>simp only[go_sem,Bool.true_or,if_true]
  |false =>
   simp only[go_sem,Bool.false_or,LA,hw]
   exact ih (j+1) (by omega) (by omega)
theorem ZnA {x:AV}{l:List (List UInt8×List Int)}(h:Sl 5 x (l.map VI))(hl:l.length≤24)(hok:Ov l)(H0 H:Hp):∀ (k i:Nat),l.length-i=k→i≤l.length →
 VG x (.int .i64 (i:Int)) H0 H=some (.int .i64 (T0 N4 Prod.fst (l.drop i) ((l.take i).map Prod.fst)),H):=by
 have hlen:=h.len 264
 rw[List.length_map]at hlen
 intro k
 induction k with
 |zero =>
  intro i hk hi
  rw[Gu]
  have hlt:decide ((i:Int)<(l.length:Int))=false:=by simp;omega
  have hd:l.drop i=[]:=List.drop_eq_nil_iff.2 (by omega)
  simp only[go_sem,hlen,hlt,Lv,hd]
  rfl
 |succ k ih =>
  intro i hk hi
  rw[Gu]
  have hl1:i<l.length:=by omega
  have hlt:decide ((i:Int)<(l.length:Int))=true:=by simp;omega
  have hw:IntKind.i64.wrap ((i:Int)+1)=((i+1:Nat):Int):=by rw[Zr (by omega) (by omega)];omega
  obtain⟨h4,hnm⟩:=hok l[i] (List.getElem_mem hl1)
  simp only[go_sem,hlen,hlt,Lw,h.cls (List.getElem?_eq_getElem hl1),TZ,ZD,Zdx _ hnm]
  rw[List.drop_eq_getElem_cons hl1,BG]
  cases hb:WM l[i].1 with
  |false=>simp only[go_sem,Bool.not_false,N4,hb,Bool.false_eq_true,if_false]
  |true =>
   have hin:=ZrO h hl H0 H (List.getElem?_eq_getElem hl1) i 0 (by omega) (by omega)
   rw[List.drop_zero,show ((0:Nat):Int)=0 from rfl]at hin
   simp only[go_sem,Bool.not_true,N4,hb,if_true,Ly,hin]
   have ht:(l.take (i+1)).map Prod.fst=(l.take i).map Prod.fst++[l[i].1]:=by
    rw[List.take_add_one,List.getElem?_eq_getElem hl1,List.map_append];rfl
   cases hc:((l.take i).map Prod.fst).contains l[i].1 with
   |true=>simp only[if_true]
   |false =>
    simp only[Bool.false_eq_true,if_false,Lx,go_sem,hw]
    rw[ih (i+1) (by omega) (by omega),ht]
theorem ZnB {x:AV}{l:List (List UInt8×List Int)}(h:Sl 5 x (l.map VI))(hok:Ov l)(H:Hp):VZ [x] H=some (.int .i64 (LE l),H):=by
 rw[E4]
 unfold Rh LE
 have hlen:=h.len 264
 rw[List.length_map]at hlen
 simp only[go_sem,hlen]
 by_cases h24:24<l.length
 ·have c1:decide ((24:Int)<(l.length:Int))=true:=by simp;omega
  simp only[c1,go_sem,h24,if_true]
 ·have c1:decide ((24:Int)<(l.length:Int))=false:=by simp;omega
  simp only[c1,go_sem,h24,if_false,Lu]
  have:=ZnA h (by omega) hok H H l.length 0 (by omega) (by omega)
  rw[show ((0:Nat):Int)=0 from rfl,List.drop_zero,List.take_zero]at this
  exact this
def JH (c:List UInt8×Int):AV:=.agg [.str c.1,.int .i64 c.2]
def SO (c:List UInt8×Int):Option Int:=if (c.1.length != 2 || (decide (c.2<0) || decide (65535<c.2)))=true then some 2 else none
def N9 (l:List (List UInt8×Int)):Int:=if 64<l.length then 3 else T0 SO Prod.fst l []
def Ow (l:List (List UInt8×Int)):Prop:=∀ c∈l,c.1.length≤4611686018427387904
theorem Sl.els {x:AV}{l:List (List UInt8×Int)}(h:Sl 2 x (l.map JH)){i:Nat}{c:List UInt8×Int}(hi:l[i]?=some c):Zl 2 x (.int .i64 (i:Int))=some (.vp [.str c.1,.int .i64 c.2]):=h.idx (c:=JH c) (by simp[hi])
theorem ZjG (a:AV)(l:List AV):Z8 1 (.vp (a::l))=some (.vp l):=by simp[Z8]
theorem ZkT (n:Int)(H:Hp):Gn [.int .i64 n] H=some (.bool (!(decide (n<0) || decide (65535<n))),H):=by
 rw[ZdU]
 unfold Zaq
 have e1:decide ((0:Int)≤n)=!decide (n<0):=by rw[Bool.eq_iff_iff];simp
 have e2:decide (n≤(65535:Int))=!decide (65535<n):=by rw[Bool.eq_iff_iff];simp
 simp only[go_sem,e1]
 cases h1:decide (n<0) with
 |true=>simp only[go_sem,Bool.not_true,Bool.true_or]
 |false=>simp only[go_sem,Bool.not_false,Bool.false_or,e2]
theorem Zdd (n:Int)(H:Hp):Ze Gn [.int .i64 n] H=some (.bool (!(decide (n<0) || decide (65535<n))),H):=XJ rfl (ZkT n []) rfl
theorem Zpc {x:AV}{l:List (List UInt8×Int)}(h:Sl 2 x (l.map JH))(hl:l.length≤64)(hok:Ow l)(H0:Hp)(m:Nat):∀ (k i:Nat) (H:Hp) (es:List (AV×AV×Nat)) (c:Nat),l.length-i=k→i≤l.length →
 H[m]?=some (.map es c)→Lt es ((l.take i).map Prod.fst) →
 ∃ H',Wd (.map m) x (.int .i64 (l.length:Int)) (.int .i64 (i:Int)) H0 H=some (.int .i64 (T0 SO Prod.fst (l.drop i) ((l.take i).map Prod.fst)),H'):=by
 intro k
 induction k with
 |zero =>
  intro i H es c hk hi hm hs
  rw[QN]
  have hlt:decide ((i:Int)<(l.length:Int))=false:=by simp;omega
  have hd:l.drop i=[]:=List.drop_eq_nil_iff.2 (by omega)
  simp only[go_sem,hlt,T6,hd]
  exact⟨_,rfl⟩
 |succ k ih =>
  intro i H es c hk hi hm hs
  rw[QN]
  have hl1:i<l.length:=by omega
  have hlt:decide ((i:Int)<(l.length:Int))=true:=by simp;omega
  have hw:IntKind.i64.wrap ((i:Int)+1)=((i+1:Nat):Int):=by rw[Zr (by omega) (by omega)];omega
  have hnm:=hok l[i] (List.getElem_mem hl1)
  have hst:=PZ H 2 [.str l[i].1,.int .i64 l[i].2] [.str [],.int .i64 0] rfl rfl
  simp only[go_sem,hlt,T7,h.els (List.getElem?_eq_getElem hl1),X2 2 [.str l[i].1,.int .i64 l[i].2] rfl,hst,Nat.zero_add,Zz,List.getElem?_cons_zero,List.getElem?_cons_succ,Ym]
  rw[List.drop_eq_getElem_cons hl1,BG]
  have hmm:(H++[AObj.cells [AV.str l[i].1,AV.int .i64 l[i].2]])[m]?=some (.map es c):=Yw hm _
  have e2:((l[i].1.length:Int) != 2)=(l[i].1.length != 2):=by rw[Bool.eq_iff_iff];simp;omega
  rw[e2]
  unfold SO
  cases hb:(l[i].1.length != 2) with
  |true=>simp only[go_sem,Bool.true_or,if_true];exact⟨_,rfl⟩
  |false =>
  simp only[go_sem,Bool.false_or,Nat.zero_add,Zz,List.getElem?_cons_zero,List.getElem?_cons_succ]
  cases hb2:decide (l[i].2<0) with
  |true=>simp only[go_sem,Bool.true_or,if_true];exact⟨_,rfl⟩
  |false =>
  simp only[go_sem,Bool.false_or,Nat.zero_add,Zz,List.getElem?_cons_zero,List.getElem?_cons_succ]
  cases hb3:decide (65535<l[i].2) with
  |true=>simp only[go_sem,if_true];exact⟨_,rfl⟩
  |false =>
   simp only[go_sem,Bool.false_eq_true,if_false,T9,Nat.zero_add,Zz,List.getElem?_cons_zero,Zfh hmm hs]
   cases hc:((l.take i).map Prod.fst).contains l[i].1 with
   |true =>
    simp only[go_sem,if_true]
    exact⟨_,rfl⟩
   |false =>
    obtain⟨q1,q2⟩:=Zhz hmm hs hc
    simp only[go_sem,Bool.false_eq_true,if_false,Ta,Nat.zero_add,Zz,List.getElem?_cons_zero,q1,T8,hw]
    have ht:(l.take (i+1)).map Prod.fst=(l.take i).map Prod.fst++[l[i].1]:=by
     rw[List.take_add_one,List.getElem?_eq_getElem hl1,List.map_append];rfl
    rw[←ht]
    refine ih (i+1) _ _ _ (by omega) (by omega) (ZF _ hmm) ?_
    rw[ht];exact q2
theorem Zpd {x:AV}{l:List (List UInt8×Int)}(h:Sl 2 x (l.map JH))(hok:Ow l)(hl0:l.length≤4611686018427387904)(H:Hp):∃ H',Wr [x] H=some (.int .i64 (N9 l),H'):=by
 rw[TP]
 unfold Gq N9
 have hlen:=h.len 210
 rw[List.length_map]at hlen
 simp only[go_sem,hlen]
 by_cases h64:64<l.length
 ·have c1:decide ((64:Int)<(l.length:Int))=true:=by simp;omega
  simp only[c1,go_sem,h64,if_true]
  exact⟨_,rfl⟩
 ·have c1:decide ((64:Int)<(l.length:Int))=false:=by simp;omega
  simp only[c1,go_sem,h64,if_false,T5,hlen]
  have:=Zpc h (by omega) hok H H.length l.length 0 (H++[.map [] 0]) [] 0 (by omega) (by omega) (Vt H _) rfl
  rw[show ((0:Nat):Int)=0 from rfl,List.drop_zero,List.take_zero]at this
  exact this
theorem ZrQ {x:AV}{l:List (List UInt8×Int)}(h:Sl 2 x (l.map JH))(hl:l.length≤64)(H0 H:Hp){i:Nat}{n:List UInt8}{q:Int}(hi:l[i]?=some (n,q)):∀ (k j:Nat),i-j=k→j≤i →
 WX x (.int .i64 (i:Int)) (.int .i64 (j:Int)) H0 H=if (((l.take i).map Prod.fst).drop j).contains n then some (.int .i64 6,H) else Qb x (.int .i64 (i:Int)) H0 H:=by
 intro k
 have hil:i<l.length:=by
  rcases Nat.lt_or_ge i l.length with h'|h'
  ·exact h'
  ·rw[List.getElem?_eq_none h']at hi;cases hi
 induction k with
 |zero =>
  intro j hk hj
  rw[KD]
  have hlt:decide ((j:Int)<(i:Int))=false:=by simp;omega
  have hd:((l.take i).map Prod.fst).drop j=[]:=List.drop_eq_nil_iff.2 (by simp;omega)
  simp only[go_sem,hlt,hd,List.contains_nil,Bool.false_eq_true,if_false]
 |succ k ih =>
  intro j hk hj
  rw[KD]
  have hjl:j<l.length:=by omega
  have hlt:decide ((j:Int)<(i:Int))=true:=by simp;omega
  have hw:IntKind.i64.wrap ((j:Int)+1)=((j+1:Nat):Int):=by rw[Zr (by omega) (by omega)];omega
  have hdj:((l.take i).map Prod.fst).drop j=l[j].1::((l.take i).map Prod.fst).drop (j+1):=by
   rw[List.drop_eq_getElem_cons (by simp;omega)]
   simp
  rw[hdj,List.contains_cons]
  simp only[go_sem,hlt,Mb,h.els (List.getElem?_eq_getElem hjl),h.els hi,ZD]
  have hs:Yx .eql (.str l[j].1) (.str n)=some (.bool (l[j].1==n)):=rfl
  have hsy:(n==l[j].1)=(l[j].1==n):=by rw[Bool.eq_iff_iff,beq_iff_eq,beq_iff_eq];exact eq_comm
  simp only[TZ,ZD,hs,go_sem,hsy]
  cases hb:(l[j].1==n) with
  |true=>simp only[go_sem,Bool.true_or,if_true]
  |false =>
   simp only[go_sem,Bool.false_or,Mc,hw]
   exact ih (j+1) (by omega) (by omega)
theorem ZnF {x:AV}{l:List (List UInt8×Int)}(h:Sl 2 x (l.map JH))(hl:l.length≤64)(hok:Ow l)(H0 H:Hp):∀ (k i:Nat),l.length-i=k→i≤l.length →
 WW x (.int .i64 (i:Int)) H0 H=some (.int .i64 (T0 SO Prod.fst (l.drop i) ((l.take i).map Prod.fst)),H):=by
 have hlen:=h.len 210
 rw[List.length_map]at hlen
 intro k
 induction k with
 |zero =>
  intro i hk hi
  rw[KC]
  have hlt:decide ((i:Int)<(l.length:Int))=false:=by simp;omega
  have hd:l.drop i=[]:=List.drop_eq_nil_iff.2 (by omega)
  simp only[go_sem,hlen,hlt,M7,hd]
  rfl
 |succ k ih =>
  intro i hk hi
  rw[KC]
  have hl1:i<l.length:=by omega
  have hlt:decide ((i:Int)<(l.length:Int))=true:=by simp;omega
  have hw:IntKind.i64.wrap ((i:Int)+1)=((i+1:Nat):Int):=by rw[Zr (by omega) (by omega)];omega
  have hnm:=hok l[i] (List.getElem_mem hl1)
  simp only[go_sem,hlen,hlt,M8,h.els (List.getElem?_eq_getElem hl1),TZ,ZD,Ym]
  rw[List.drop_eq_getElem_cons hl1,BG]
  have e2:((l[i].1.length:Int) != 2)=(l[i].1.length != 2):=by rw[Bool.eq_iff_iff];simp;omega
  rw[e2]
  unfold SO
  cases hb:(l[i].1.length != 2) with
  |true=>simp only[go_sem,Bool.true_or,if_true]
  |false =>
  simp only[go_sem,Bool.false_or,h.els (List.getElem?_eq_getElem hl1),ZjG,ZD,Zdd,Bool.not_not]
  cases hb2:(decide (l[i].2<0) || decide (65535<l[i].2)) with
  |true=>simp only[go_sem,if_true]
  |false =>
   have hin:=ZrQ h hl H0 H (List.getElem?_eq_getElem hl1) i 0 (by omega) (by omega)
   rw[List.drop_zero,show ((0:Nat):Int)=0 from rfl]at hin
   simp only[go_sem,Bool.false_eq_true,if_false,Ma,hin]
   have ht:(l.take (i+1)).map Prod.fst=(l.take i).map Prod.fst++[l[i].1]:=by
    rw[List.take_add_one,List.getElem?_eq_getElem hl1,List.map_append];rfl
   cases hc:((l.take i).map Prod.fst).contains l[i].1 with
   |true=>simp only[if_true]
   |false =>
    simp only[Bool.false_eq_true,if_false,M9,go_sem,hw]
    rw[ih (i+1) (by omega) (by omega),ht]
    rfl
theorem ZnG {x:AV}{l:List (List UInt8×Int)}(h:Sl 2 x (l.map JH))(hok:Ow l)(H:Hp):VD [x] H=some (.int .i64 (N9 l),H):=by
 rw[Ll]
 unfold DU N9
 have hlen:=h.len 210
 rw[List.length_map]at hlen
 simp only[go_sem,hlen]
 by_cases h64:64<l.length
 ·have c1:decide ((64:Int)<(l.length:Int))=true:=by simp;omega
  simp only[c1,go_sem,h64,if_true]
 ·have c1:decide ((64:Int)<(l.length:Int))=false:=by simp;omega
  simp only[c1,go_sem,h64,if_false,M6]
  have:=ZnF h (by omega) hok H H l.length 0 (by omega) (by omega)
  rw[show ((0:Nat):Int)=0 from rfl,List.drop_zero,List.take_zero]at this
  exact this
structure Loc where
 name:List UInt8
 w:List Int
 lo:List UInt8
 up:List UInt8
 cls:List (List UInt8×List Int)
 els:List (List UInt8×Int)
def Loc.cells (x c e:AV)(L:Loc):List AV:=[.str L.name,x,.str L.lo,.str L.up,c,e]
def LocAV (a:AV)(L:Loc):Prop:=∃ x c e,a=.agg (L.cells x c e)∧Sl 1 x (L.w.map (AV.int .i64))∧Sl 5 c (L.cls.map VI)∧Sl 2 e (L.els.map JH)
structure LocOk (L:Loc):Prop where
 name:L.name.length≤4611686018427387904
 w:L.w.length≤4611686018427387904
 lo:L.lo.length≤4611686018427387904
 up:L.up.length≤4611686018427387904
 cls:Ov L.cls
 els:Ow L.els
 ncls:L.cls.length≤4611686018427387904
 nels:L.els.length≤4611686018427387904
theorem MC (c:List UInt8×List Int)(H:Hp)(n f:Nat):Z9 H n (f+2) (VI c)=some (VI c):=by
 have:(AV.str c.1::c.2.map (AV.int .u64)).mapM (Z9 H n (f+1))=some (AV.str c.1::c.2.map (AV.int .u64)):=OI fun x hx=>by
  rcases List.mem_cons.1 hx with rfl|hx
  ·rfl
  ·obtain⟨m,_,rfl⟩:=List.mem_map.1 hx
   rfl
 rw[VI,Gy,this]
theorem SP (c:List UInt8×Int)(H:Hp)(n f:Nat):Z9 H n (f+2) (JH c)=some (JH c):=(Eq.refl _).trans (Eq.refl _)
theorem LocAV.close {a:AV}{L:Loc}(h:LocAV a L)(H:Hp)(n f:Nat):∃ a',Z9 H n (f+4) a=some a'∧LocAV a' L:=by
 obtain⟨x,c,e,rfl,hx,hc,he⟩:=h
 obtain⟨x',hx1,hx2⟩:=hx.close (H:=H) (n:=n) (f:=f+2) (fun y hy=>by obtain⟨m,_,rfl⟩:=List.mem_map.1 hy;rfl)
 obtain⟨c',hc1,hc2⟩:=hc.close (H:=H) (n:=n) (f:=f+2) (fun y hy=>by obtain⟨m,_,rfl⟩:=List.mem_map.1 hy;exact MC m H n f)
 obtain⟨e',he1,he2⟩:=he.close (H:=H) (n:=n) (f:=f+2) (fun y hy=>by obtain⟨m,_,rfl⟩:=List.mem_map.1 hy;exact SP m H n f)
 refine⟨.agg (L.cells x' c' e'),?_,x',c',e',rfl,hx2,hc2,he2⟩
 have:(L.cells x c e).mapM (Z9 H n (f+3))=some (L.cells x' c' e'):=by
  simp only[Loc.cells,List.mapM_cons,hx1,hc1,he1,List.mapM_nil]
  rfl
 rw[Gy,this]
theorem Zgv {x:AV}{l:List (List UInt8×List Int)}(h:Sl 5 x (l.map VI))(hok:Ov l)(hl:l.length≤4611686018427387904)(H:Hp):Ze WE [x] H=some (.int .i64 (LE l),H)∧Ze VZ [x] H=some (.int .i64 (LE l),H):=by
 obtain⟨x',h1,h2⟩:=h.close (H:=[]) (n:=0) (f:=5) (fun y hy=>by obtain⟨m,_,rfl⟩:=List.mem_map.1 hy;exact MC m [] 0 3)
 obtain⟨H',h3⟩:=ZoW h2 hok hl []
 exact⟨XJ h1 h3 rfl,XJ h1 (ZnB h2 hok []) rfl⟩
theorem ZgK {x:AV}{l:List (List UInt8×Int)}(h:Sl 2 x (l.map JH))(hok:Ow l)(hl:l.length≤4611686018427387904)(H:Hp):Ze Wr [x] H=some (.int .i64 (N9 l),H)∧Ze VD [x] H=some (.int .i64 (N9 l),H):=by
 obtain⟨x',h1,h2⟩:=h.close (H:=[]) (n:=0) (f:=5) (fun y hy=>by obtain⟨m,_,rfl⟩:=List.mem_map.1 hy;exact SP m [] 0 3)
 obtain⟨H',h3⟩:=Zpd h2 hok hl []
 exact⟨XJ h1 h3 rfl,XJ h1 (ZnG h2 hok []) rfl⟩
def ZbU (n:Int):Bool:=decide (n<0) || decide (65535<n)
def Cz (L:Loc):Int:=if (LE L.cls != 0)=true then LE L.cls else N9 L.els
def XH (L:Loc):Int :=
 if WM L.name then (if (L.w.length != 256 || (L.lo.length != 256 || L.up.length != 256))=true then 2 else if L.w.any ZbU then 2 else Cz L) else 4
theorem Sl.ints {x:AV}{l:List Int}(h:Sl 1 x (l.map (AV.int .i64))){i:Nat}(hi:i<l.length):Zl 1 x (.int .i64 (i:Int))=some (.vp [.int .i64 l[i]]):=h.idx (c:=.int .i64 l[i]) (by simp[hi])
theorem Et (n:Nat):((n:Int) != 256)=(n != 256):=by rw[Bool.eq_iff_iff];simp;omega
theorem Zn3 {x c e:AV}{L:Loc}(hx:Sl 1 x (L.w.map (AV.int .i64)))(hc:Sl 5 c (L.cls.map VI))(he:Sl 2 e (L.els.map JH))(hok:LocOk L)(hlw:L.w.length=256)(H0 H:Hp){o:Nat}(ho:H[o]?=some (.cells (L.cells x c e))):∀ (k i:Nat),L.w.length-i=k→i≤L.w.length →
 Jf (.ptr o 0) x (.int .i64 (L.w.length:Int)) (.int .i64 (i:Int)) H0 H=some (.int .i64 (if (L.w.drop i).any ZbU then 2 else Cz L),H):=by
 intro k
 induction k with
 |zero =>
  intro i hk hi
  rw[RD]
  have hlt:decide ((i:Int)<(L.w.length:Int))=false:=by simp;omega
  have hd:L.w.drop i=[]:=List.drop_eq_nil_iff.2 (by omega)
  simp only[go_sem,hlt,hd,List.any_nil,Bool.false_eq_true,if_false,O5,Nat.zero_add,Y1 ho,Loc.cells,List.getElem?_cons_zero,List.getElem?_cons_succ,(Zgv hc hok.cls hok.ncls H).1]
  unfold Cz
  cases h1:(LE L.cls != 0) with
  |true=>simp only[go_sem,if_true]
  |false=>simp only[go_sem,Bool.false_eq_true,if_false,O6,Nat.zero_add,Y1 ho,Loc.cells,List.getElem?_cons_zero,List.getElem?_cons_succ,(ZgK he hok.els hok.nels H).1]
 |succ k ih =>
  intro i hk hi
  rw[RD]
  have hl1:i<L.w.length:=by omega
  have hlt:decide ((i:Int)<(L.w.length:Int))=true:=by simp;omega
  have hw:IntKind.i64.wrap ((i:Int)+1)=((i+1:Nat):Int):=by rw[Zr (by omega) (by omega)];omega
  simp only[go_sem,hlt,O7,hx.ints hl1,ZD]
  rw[List.drop_eq_getElem_cons hl1,List.any_cons]
  unfold ZbU
  cases h1:decide (L.w[i]<0) with
  |true=>simp only[go_sem,Bool.true_or,if_true]
  |false =>
   simp only[go_sem,Bool.false_or]
   cases h2:decide (65535<L.w[i]) with
   |true=>simp only[go_sem,Bool.true_or,if_true]
   |false =>
    simp only[go_sem,Bool.false_or,O8,hw]
    exact ih (i+1) (by omega) (by omega)
theorem Zn4 {a:AV}{L:Loc}(h:LocAV a L)(hok:LocOk L)(H:Hp):∃ H',JX [a] H=some (.int .i64 (XH L),H'):=by
 obtain⟨x,c,e,rfl,hx,hc,he⟩:=h
 rw[OP]
 unfold E9 XH
 have hlen:=hx.len 3
 rw[List.length_map]at hlen
 have hg:=Vt H (.cells (L.cells x c e))
 simp only[go_sem,Nat.zero_add,Zz,Loc.cells,List.getElem?_cons_zero,List.getElem?_cons_succ,Zf3 L.name hok.name]
 cases hn:WM L.name with
 |false=>simp only[go_sem,Bool.not_false,Bool.false_eq_true,if_false];exact⟨_,rfl⟩
 |true =>
 simp only[go_sem,Bool.not_true,if_true,O3,Nat.zero_add,Zz,List.getElem?_cons_zero,List.getElem?_cons_succ,hlen,Et]
 cases h1:(L.w.length != 256) with
 |true=>simp only[go_sem,Bool.true_or,if_true];exact⟨_,rfl⟩
 |false =>
 simp only[go_sem,Bool.false_or,Nat.zero_add,Zz,List.getElem?_cons_zero,List.getElem?_cons_succ,Ym,Et]
 cases h2:(L.lo.length != 256) with
 |true=>simp only[go_sem,Bool.true_or,if_true];exact⟨_,rfl⟩
 |false =>
 simp only[go_sem,Bool.false_or,Nat.zero_add,Zz,List.getElem?_cons_zero,List.getElem?_cons_succ,Ym,Et]
 cases h3:(L.up.length != 256) with
 |true=>simp only[go_sem,if_true];exact⟨_,rfl⟩
 |false =>
 have hlw:L.w.length=256:=by simpa using h1
 have:=Zn3 hx hc he hok hlw H (H++[.cells (L.cells x c e)]) hg L.w.length 0 (by omega) (by omega)
 rw[show ((0:Nat):Int)=0 from rfl,List.drop_zero]at this
 simp only[Loc.cells]at this
 simp only[go_sem,Bool.false_eq_true,if_false,O4,Nat.zero_add,Zz,List.getElem?_cons_zero,List.getElem?_cons_succ,hlen,this]
 exact⟨_,rfl⟩
theorem Zln {x c e:AV}{L:Loc}(hx:Sl 1 x (L.w.map (AV.int .i64)))(hc:Sl 5 c (L.cls.map VI))(he:Sl 2 e (L.els.map JH))(hok:LocOk L)(hlw:L.w.length=256)(H0 H:Hp){o:Nat}(ho:H[o]?=some (.cells (L.cells x c e))):∀ (k i:Nat),256-i=k→i≤256 →
 Dc (.ptr o 0) (.int .i64 (i:Int)) H0 H=some (.int .i64 (if (L.w.drop i).any ZbU then 2 else if (L.lo.length != 256 || L.up.length != 256)=true then 2 else Cz L),H):=by
 intro k
 induction k with
 |zero =>
  intro i hk hi
  rw[My]
  have hlt:decide ((i:Int)<256)=false:=by simp;omega
  have hd:L.w.drop i=[]:=List.drop_eq_nil_iff.2 (by omega)
  simp only[go_sem,hlt,hd,List.any_nil,Bool.false_eq_true,if_false,Zcm,Nat.zero_add,Y1 ho,Loc.cells,List.getElem?_cons_zero,List.getElem?_cons_succ,Ym,Et]
  cases h2:(L.lo.length != 256) with
  |true=>simp only[go_sem,Bool.true_or,if_true]
  |false =>
  simp only[go_sem,Bool.false_or,Nat.zero_add,Y1 ho,Loc.cells,List.getElem?_cons_zero,List.getElem?_cons_succ,Ym,Et]
  cases h3:(L.up.length != 256) with
  |true=>simp only[go_sem,if_true]
  |false =>
  simp only[go_sem,Bool.false_eq_true,if_false,Zcn,Nat.zero_add,Y1 ho,Loc.cells,List.getElem?_cons_zero,List.getElem?_cons_succ,(Zgv hc hok.cls hok.ncls H).2]
  unfold Cz
  cases h1:(LE L.cls != 0) with
  |true=>simp only[go_sem,if_true]
  |false=>simp only[go_sem,Bool.false_eq_true,if_false,Zco,Nat.zero_add,Y1 ho,Loc.cells,List.getElem?_cons_zero,List.getElem?_cons_succ,(ZgK he hok.els hok.nels H).2]
 |succ k ih =>
  intro i hk hi
  rw[My]
  have hl1:i<L.w.length:=by omega
  have hlt:decide ((i:Int)<256)=true:=by simp;omega
  have hw:IntKind.i64.wrap ((i:Int)+1)=((i+1:Nat):Int):=by rw[Zr (by omega) (by omega)];omega
  simp only[go_sem,hlt,Zcp,Nat.zero_add,Y1 ho,Loc.cells,List.getElem?_cons_zero,List.getElem?_cons_succ,hx.ints hl1,ZD,Zdd,Bool.not_not]
  rw[List.drop_eq_getElem_cons hl1,List.any_cons]
  have e:(decide (L.w[i]<0) || decide (65535<L.w[i]))=ZbU L.w[i]:=rfl
  rw[e]
  cases h1:ZbU L.w[i] with
  |true=>simp only[go_sem,Bool.true_or,if_true]
  |false =>
   simp only[go_sem,Bool.false_or,Zcq,hw]
   exact ih (i+1) (by omega) (by omega)
theorem Zlo {a:AV}{L:Loc}(h:LocAV a L)(hok:LocOk L)(H:Hp):∃ H',R2 [a] H=some (.int .i64 (XH L),H'):=by
 obtain⟨x,c,e,rfl,hx,hc,he⟩:=h
 rw[ZdS]
 unfold Zao XH
 have hlen:=hx.len 3
 rw[List.length_map]at hlen
 have hg:=Vt H (.cells (L.cells x c e))
 simp only[go_sem,Nat.zero_add,Zz,Loc.cells,List.getElem?_cons_zero,List.getElem?_cons_succ,Zdx L.name hok.name]
 cases hn:WM L.name with
 |false=>simp only[go_sem,Bool.not_false,Bool.false_eq_true,if_false];exact⟨_,rfl⟩
 |true =>
 simp only[go_sem,Bool.not_true,if_true,Zck,Nat.zero_add,Zz,List.getElem?_cons_zero,List.getElem?_cons_succ,hlen,Et]
 cases h1:(L.w.length != 256) with
 |true=>simp only[go_sem,Bool.true_or,if_true];exact⟨_,rfl⟩
 |false =>
 have hlw:L.w.length=256:=by simpa using h1
 have:=Zln hx hc he hok hlw H (H++[.cells (L.cells x c e)]) hg 256 0 (by omega) (by omega)
 rw[show ((0:Nat):Int)=0 from rfl,List.drop_zero]at this
 simp only[Loc.cells]at this
 simp only[go_sem,Bool.false_or,Zcl,this]
 refine⟨_,congrArg some (Prod.ext (congrArg (AV.int .i64) ?_) rfl)⟩
 cases h2:(L.lo.length != 256 || L.up.length != 256) <;> cases h3:L.w.any ZbU <;> simp
theorem ZeW {a:AV}{L:Loc}(h:LocAV a L)(hok:LocOk L)(H:Hp):Ze JX [a] H=some (.int .i64 (XH L),H)∧Ze R2 [a] H=some (.int .i64 (XH L),H):=by
 obtain⟨a',h1,h2⟩:=h.close [] 0 2
 obtain⟨H',h3⟩:=Zn4 h2 hok []
 obtain⟨H'',h4⟩:=Zlo h2 hok []
 exact⟨XJ h1 h3 rfl,XJ h1 h4 rfl⟩
end Go.Am
