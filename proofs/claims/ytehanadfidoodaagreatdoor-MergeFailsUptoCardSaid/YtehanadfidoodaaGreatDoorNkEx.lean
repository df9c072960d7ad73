/-
  Bytes told apart; names; letters and digits alone.
-/
import Derived.Test.YtehanadfidoodaaGreatDoorNkSx
import Derived.Test.YtehanadfidoodaaGreatDoorNkGCx
namespace Go.Am
set_option linter.unusedSimpArgs false
set_option linter.unusedVariables false
set_option maxRecDepth 100000
theorem FB {α β γ:Type}(x:Option α)(f:α→Option β)(g:β→Option γ):Z0 (Z0 x f) g=Z0 x fun a=>Z0 (f a) g:=by cases x <;> rfl
def Tt (t13_9 x8:AV):Option AV :=
 Z0 (Z5 .eql t13_9 (.int .u8 95)) fun t15_10 =>
 Z0 (Z6 t15_10 false (.tuple []) (some t13_9)) fun t17_11 =>
 Z0 (Z6 t15_10 false (.tuple []) (Z5 .geq t17_11 (.int .u8 97))) fun t18_12 =>
 Z0 (Z6 t15_10 false (.tuple []) (some t18_12)) fun t19_13 =>
 Z0 (Z6 t19_13 true (.tuple []) (some t13_9)) fun t20_14 =>
 Z0 (Z6 t19_13 true (.tuple []) (Z5 .leq t20_14 (.int .u8 122))) fun t21_15 =>
 Z0 (Z6 t15_10 false (.tuple []) (Zg t19_13 t21_15 (.bool false))) fun t22_16 =>
 Z0 (Zg t15_10 (.bool true) t22_16) fun t23_17 =>
 Z0 (Z6 t23_17 false (.tuple []) (some t13_9)) fun t25_18 =>
 Z0 (Z6 t23_17 false (.tuple []) (Z5 .geq t25_18 (.int .u8 65))) fun t26_19 =>
 Z0 (Z6 t23_17 false (.tuple []) (some t26_19)) fun t27_20 =>
 Z0 (Z6 t27_20 true (.tuple []) (some t13_9)) fun t28_21 =>
 Z0 (Z6 t27_20 true (.tuple []) (Z5 .leq t28_21 (.int .u8 90))) fun t29_22 =>
 Z0 (Z6 t23_17 false (.tuple []) (Zg t27_20 t29_22 (.bool false))) fun t30_23 =>
 Z0 (Zg t23_17 (.bool true) t30_23) fun t31_24 =>
 Z0 (Xa .not t31_24) fun t33_25 =>
 Z0 (Z6 t33_25 true (.tuple []) (some x8)) fun t35_26 =>
 Z0 (Z6 t33_25 true (.tuple []) (Z5 .eql t35_26 (.int .i64 0))) fun t36_27 =>
 Z0 (Z6 t33_25 true (.tuple []) (some t36_27)) fun t37_28 =>
 Z0 (Z6 t37_28 false (.tuple []) (some t13_9)) fun t38_29 =>
 Z0 (Z6 t37_28 false (.tuple []) (Z5 .lss t38_29 (.int .u8 48))) fun t39_30 =>
 Z0 (Z6 t33_25 true (.tuple []) (Zg t37_28 (.bool true) t39_30)) fun t40_31 =>
 Z0 (Z6 t33_25 true (.tuple []) (some t40_31)) fun t41_32 =>
 Z0 (Z6 t41_32 false (.tuple []) (some t13_9)) fun t42_33 =>
 Z0 (Z6 t41_32 false (.tuple []) (Z5 .gtr t42_33 (.int .u8 57))) fun t43_34 =>
 Z0 (Z6 t33_25 true (.tuple []) (Zg t41_32 (.bool true) t43_34)) fun t44_35 =>
 Z0 (Zg t33_25 t44_35 (.bool false)) fun t45_36 =>
 some t45_36
theorem Du (x0 x7 x8 x9:AV)(H0 H:Hp):F4 x0 x7 x8 x9 H0 H =
 Z0 (Zu x0 x8) fun t13_9 =>
 Z0 (Tt t13_9 x8) fun t45_36 =>
 Zl t45_36 (some ((.bool false),H)) (F5 x0 x7 x8 H0 H):=by
 rw[IH];simp only[Tt,FB,U8]
def ZbS (t31_2:AV):Option AV :=
 Z0 (Z5 .geq t31_2 (.int .u8 97)) fun t33_3 =>
 Z0 (Z6 t33_3 true (.tuple []) (some t31_2)) fun t35_4 =>
 Z0 (Z6 t33_3 true (.tuple []) (Z5 .leq t35_4 (.int .u8 122))) fun t36_5 =>
 Z0 (Zg t33_3 t36_5 (.bool false)) fun t37_6 =>
 Z0 (Z6 t37_6 false (.tuple []) (some t31_2)) fun t39_7 =>
 Z0 (Z6 t37_6 false (.tuple []) (Z5 .geq t39_7 (.int .u8 65))) fun t40_8 =>
 Z0 (Z6 t37_6 false (.tuple []) (some t40_8)) fun t41_9 =>
 Z0 (Z6 t41_9 true (.tuple []) (some t31_2)) fun t42_10 =>
 Z0 (Z6 t41_9 true (.tuple []) (Z5 .leq t42_10 (.int .u8 90))) fun t43_11 =>
 Z0 (Z6 t37_6 false (.tuple []) (Zg t41_9 t43_11 (.bool false))) fun t44_12 =>
 Z0 (Zg t37_6 (.bool true) t44_12) fun t45_13 =>
 Z0 (Z6 t45_13 false (.tuple []) (some t31_2)) fun t47_14 =>
 Z0 (Z6 t45_13 false (.tuple []) (Z5 .geq t47_14 (.int .u8 48))) fun t48_15 =>
 Z0 (Z6 t45_13 false (.tuple []) (some t48_15)) fun t49_16 =>
 Z0 (Z6 t49_16 true (.tuple []) (some t31_2)) fun t50_17 =>
 Z0 (Z6 t49_16 true (.tuple []) (Z5 .leq t50_17 (.int .u8 57))) fun t51_18 =>
 Z0 (Z6 t45_13 false (.tuple []) (Zg t49_16 t51_18 (.bool false))) fun t52_19 =>
 Z0 (Zg t45_13 (.bool true) t52_19) fun t53_20 =>
 Z0 (Z6 t53_20 false (.tuple []) (some t31_2)) fun t55_21 =>
 Z0 (Z6 t53_20 false (.tuple []) (Z5 .eql t55_21 (.int .u8 95))) fun t56_22 =>
 Z0 (Zg t53_20 (.bool true) t56_22) fun t57_23 =>
 Z0 (Xa .not t57_23) fun t58_24 =>
 some t58_24
theorem HE (x0 x3:AV)(H0 H:Hp):R9 x0 x3 H0 H =
 Z0 (Zu x0 x3) fun t31_2 =>
 Z0 (ZbS t31_2) fun t58_24 =>
 Zl t58_24 (some ((.bool false),H)) (Ra x0 x3 H0 H):=by
 rw[Ov];simp only[ZbS,FB,U8]
def ZlV (r16_4a t14_3:AV):Option AV :=
 Z0 (Z6 r16_4a false (.tuple []) (some t14_3)) fun t18_5 =>
 Z0 (Z6 r16_4a false (.tuple []) (Z5 .geq t18_5 (.int .u8 48))) fun t19_6 =>
 Z0 (Z6 r16_4a false (.tuple []) (some t19_6)) fun t20_7 =>
 Z0 (Z6 t20_7 true (.tuple []) (some t14_3)) fun t21_8 =>
 Z0 (Z6 t20_7 true (.tuple []) (Z5 .leq t21_8 (.int .u8 57))) fun t22_9 =>
 Z0 (Z6 r16_4a false (.tuple []) (Zg t20_7 t22_9 (.bool false))) fun t23_10 =>
 Z0 (Zg r16_4a (.bool true) t23_10) fun t24_11 =>
 Z0 (Z6 t24_11 false (.tuple []) (some t14_3)) fun t26_12 =>
 Z0 (Z6 t24_11 false (.tuple []) (Z5 .geq t26_12 (.int .u8 97))) fun t27_13 =>
 Z0 (Z6 t24_11 false (.tuple []) (some t27_13)) fun t28_14 =>
 Z0 (Z6 t28_14 true (.tuple []) (some t14_3)) fun t29_15 =>
 Z0 (Z6 t28_14 true (.tuple []) (Z5 .leq t29_15 (.int .u8 122))) fun t30_16 =>
 Z0 (Z6 t24_11 false (.tuple []) (Zg t28_14 t30_16 (.bool false))) fun t31_17 =>
 Z0 (Zg t24_11 (.bool true) t31_17) fun t32_18 =>
 Z0 (Z6 t32_18 false (.tuple []) (some t14_3)) fun t34_19 =>
 Z0 (Z6 t32_18 false (.tuple []) (Z5 .geq t34_19 (.int .u8 65))) fun t35_20 =>
 Z0 (Z6 t32_18 false (.tuple []) (some t35_20)) fun t36_21 =>
 Z0 (Z6 t36_21 true (.tuple []) (some t14_3)) fun t37_22 =>
 Z0 (Z6 t36_21 true (.tuple []) (Z5 .leq t37_22 (.int .u8 90))) fun t38_23 =>
 Z0 (Z6 t32_18 false (.tuple []) (Zg t36_21 t38_23 (.bool false))) fun t39_24 =>
 Z0 (Zg t32_18 (.bool true) t39_24) fun t40_25 =>
 some t40_25
def Zek (r15_7a t13_6:AV):Option AV :=
 Z0 (Z6 r15_7a false (.tuple []) (some t13_6)) fun t17_8 =>
 Z0 (Z6 r15_7a false (.tuple []) (Z5 .geq t17_8 (.int .u8 97))) fun t18_9 =>
 Z0 (Z6 r15_7a false (.tuple []) (some t18_9)) fun t19_10 =>
 Z0 (Z6 t19_10 true (.tuple []) (some t13_6)) fun t20_11 =>
 Z0 (Z6 t19_10 true (.tuple []) (Z5 .leq t20_11 (.int .u8 122))) fun t21_12 =>
 Z0 (Z6 r15_7a false (.tuple []) (Zg t19_10 t21_12 (.bool false))) fun t22_13 =>
 Z0 (Zg r15_7a (.bool true) t22_13) fun t23_14 =>
 Z0 (Z6 t23_14 false (.tuple []) (some t13_6)) fun t25_15 =>
 Z0 (Z6 t23_14 false (.tuple []) (Z5 .geq t25_15 (.int .u8 65))) fun t26_16 =>
 Z0 (Z6 t23_14 false (.tuple []) (some t26_16)) fun t27_17 =>
 Z0 (Z6 t27_17 true (.tuple []) (some t13_6)) fun t28_18 =>
 Z0 (Z6 t27_17 true (.tuple []) (Z5 .leq t28_18 (.int .u8 90))) fun t29_19 =>
 Z0 (Z6 t23_14 false (.tuple []) (Zg t27_17 t29_19 (.bool false))) fun t30_20 =>
 Z0 (Zg t23_14 (.bool true) t30_20) fun t31_21 =>
 Z0 (Z6 t31_21 false (.tuple []) (some t13_6)) fun t33_22 =>
 Z0 (Z6 t31_21 false (.tuple []) (Z5 .geq t33_22 (.int .u8 48))) fun t34_23 =>
 Z0 (Z6 t31_21 false (.tuple []) (some t34_23)) fun t35_24 =>
 Z0 (Z6 t35_24 true (.tuple []) (some t13_6)) fun t36_25 =>
 Z0 (Z6 t35_24 true (.tuple []) (Z5 .leq t36_25 (.int .u8 57))) fun t37_26 =>
 Z0 (Z6 t31_21 false (.tuple []) (Zg t35_24 t37_26 (.bool false))) fun t38_27 =>
 Z0 (Zg t31_21 (.bool true) t38_27) fun t39_28 =>
 some t39_28
theorem Sd (x0 x3 x7 x8 x9:AV)(H0 H:Hp):D9 x0 x3 x7 x8 x9 H0 H =
 Z0 (Zu x0 x8) fun t13_6 =>
 Z0 (Ws [t13_6] H) fun r15_7 =>
 Z0 (Zek r15_7.1 t13_6) fun t39_28 =>
 Zl t39_28 (Z0 (byteE.run [x3,t13_6] r15_7.2) fun r41_29=>U1 x0 x3 x7 x8 H0 r41_29.2) (U1 x0 x3 x7 x8 H0 r15_7.2):=by
 rw[AS];simp only[Zek,FB,U8]
def BF:Option AV→Option Bool
 |some (.bool b)=>some b
 |_=>none
theorem U9 {x:Option AV}{b:Bool}(h:BF x=some b):x=some (.bool b):=by
 unfold BF at h
 split at h
 ·injection h with h;subst h;rfl
 ·cases h
def Zll (n:Nat):Bool:=(decide (97≤n)&&decide (n≤122)) || (decide (65≤n)&&decide (n≤90))
def Fj (n:Nat):Bool:=decide (48≤n)&&decide (n≤57)
def XK (n:Nat):Bool:=n==95 || Zll n || Fj n
theorem Zdm:((List.range 256).all fun n=>(BF (Tt (.int .u8 (n:Int)) (.int .i64 1))==some (!XK n))&&(BF (Tt (.int .u8 (n:Int)) (.int .i64 0))==some (!XK n || Fj n)))=true:=by kernel_rfl
theorem Zjz:((List.range 256).all fun n=>(BF (ZbS (.int .u8 (n:Int)))==some (!XK n)))=true:=by kernel_rfl
theorem Ih (b:UInt8):b.toNat<256:=b.toNat_lt
theorem Oa (b:UInt8):Tt (.int .u8 b.toNat) (.int .i64 0)=some (.bool (!XK b.toNat || Fj b.toNat)):=by
 have h:=UJ Zdm (Ih b)
 simp only[Bool.and_eq_true,beq_iff_eq]at h
 exact U9 h.2
theorem ZbF (b:UInt8){i:Int}(hi:(i==0)=false):Tt (.int .u8 b.toNat) (.int .i64 i)=some (.bool (!XK b.toNat)):=by
 have h:=UJ Zdm (Ih b)
 simp only[Bool.and_eq_true,beq_iff_eq]at h
 rw[←U9 h.1]
 have e:Z5 .eql (.int .i64 i) (.int .i64 0)=Z5 .eql (.int .i64 1) (.int .i64 0):=by simp only[Z5,Xs,Xt,hi];rfl
 unfold Tt
 iterate 16 refine congrArg (Z0 _) (funext fun t=>?_)
 cases t with
 |bool b =>
  cases b
  ·rfl
  ·simp only[Zfa,U8,e]
 |_=>rfl
theorem Zm6 (b:UInt8):ZbS (.int .u8 b.toNat)=some (.bool (!XK b.toNat)):=by
 have h:=UJ Zjz (Ih b)
 simp only[beq_iff_eq]at h
 exact U9 h
def Wy (s:List UInt8):Bool :=
 match s with
 |[]=>false
 |b::_=>decide (s.length≤32)&&!Fj b.toNat&&s.all fun c=>XK c.toNat
theorem Zhq (s:List UInt8)(hs:s.length≤4611686018427387904)(H0 H:Hp):F3 (.str s) H0 H=some (.bool (!s.isEmpty&&decide (s.length≤32)),H):=by
 rw[IG]
 cases s with
 |nil=>simp[go_sem,Yh,Ge]
 |cons b l =>
  simp only[Yh,Ge,go_sem,Zk]
  have:(!((b::l)==([]:List UInt8)))=true:=rfl
  have c:decide (((b::l).length:Int)≤32)=decide ((b::l).length≤32):=by rw[Bool.eq_iff_iff];simp;omega
  simp only[this,go_sem,c,List.isEmpty_cons,Bool.not_false,Bool.true_and]
theorem Zlu (s:List UInt8)(hs:s.length≤4611686018427387904)(H0 H:Hp):∀ (k i:Nat),s.length-i=k→0<i→i≤s.length →
 JN (.str s) (.int .i64 s.length) (.int .i64 i) H0 H=some (.bool (((s.drop i).all fun c=>XK c.toNat)&&(!s.isEmpty&&decide (s.length≤32))),H):=by
 intro k
 induction k with
 |zero =>
  intro i hk h0 hi
  rw[Uo]
  have hlt:decide ((i:Int)<(s.length:Int))=false:=by simp;omega
  have hd:s.drop i=[]:=List.drop_eq_nil_iff.2 (by omega)
  simp only[go_sem,hlt,Zhq s hs,hd,List.all_nil,Bool.true_and]
 |succ k ih =>
  intro i hk h0 hi
  rw[Uo]
  have hl:i<s.length:=by omega
  have hlt:decide ((i:Int)<(s.length:Int))=true:=by simp;omega
  have hw:IntKind.i64.wrap ((i:Int)+1)=((i+1:Nat):Int):=by rw[Zr (by omega) (by omega)];omega
  have h0':((i:Int)==0)=false:=by simp;omega
  simp only[go_sem,hlt,Du,ZU (List.getElem?_eq_getElem hl),ZbF _ h0']
  rw[List.drop_eq_getElem_cons hl,List.all_cons]
  cases hb:XK s[i].toNat with
  |false=>simp only[go_sem,Bool.not_false,Bool.false_and]
  |true =>
   simp only[go_sem,Bool.not_true,Bool.true_and,RU,hw]
   exact ih (i+1) (by omega) (by omega) (by omega)
theorem Zlv (s:List UInt8)(hs:s.length≤4611686018427387904)(H:Hp):Qr [.str s] H=some (.bool (Wy s),H):=by
 rw[Om]
 unfold Sy
 simp only[go_sem,Zk]
 cases s with
 |nil=>rw[Uo];simp[go_sem,Zhq [] (by simp),Wy]
 |cons b l =>
  rw[Uo]
  have hlt:decide ((0:Int)<((b::l).length:Int))=true:=by simp
  have hw:IntKind.i64.wrap ((0:Int)+1)=((0+1:Nat):Int):=by decide
  have hidx:Zu (.str (b::l)) (.int .i64 0)=some (.int .u8 b.toNat):=by simp[Zu]
  simp only[go_sem,hlt,Du,hidx,Oa]
  cases hb:(!XK b.toNat || Fj b.toNat) with
  |true =>
   have:Wy (b::l)=false:=by
    unfold Wy
    simp only[Bool.or_eq_true,Bool.not_eq_true']at hb
    rcases hb with hb|hb <;> simp[hb]
   simp only[go_sem,this]
  |false =>
   simp only[Bool.or_eq_false_iff,Bool.not_eq_false']at hb
   simp only[go_sem,RU,hw]
   rw[Zlu (b::l) hs H H l.length 1 (by simp) (by omega) (by simp)]
   have:Wy (b::l)=(((b::l).drop 1).all (fun c=>XK c.toNat)&&(!(b::l).isEmpty&&decide ((b::l).length≤32))):=by
    unfold Wy
    simp only[hb.1,hb.2,List.all_cons,List.drop_one,List.tail_cons,List.isEmpty_cons,Bool.not_false,Bool.true_and,Bool.and_true]
    rw[Bool.and_comm]
   rw[this]
theorem ZjA (s:List UInt8)(hs:s.length≤4611686018427387904)(H0 H:Hp):∀ (k i:Nat),s.length-i=k→i≤s.length →
 Gt (.str s) (.int .i64 i) H0 H=some (.bool ((s.drop i).all fun c=>XK c.toNat),H):=by
 intro k
 induction k with
 |zero =>
  intro i hk hi
  rw[Pb]
  have hlt:decide ((i:Int)<(s.length:Int))=false:=by simp;omega
  have hd:s.drop i=[]:=List.drop_eq_nil_iff.2 (by omega)
  simp only[go_sem,Zk,hlt,Ou,hd,List.all_nil]
 |succ k ih =>
  intro i hk hi
  rw[Pb]
  have hl:i<s.length:=by omega
  have hlt:decide ((i:Int)<(s.length:Int))=true:=by simp;omega
  have hw:IntKind.i64.wrap ((i:Int)+1)=((i+1:Nat):Int):=by rw[Zr (by omega) (by omega)];omega
  simp only[go_sem,Zk,hlt,HE,ZU (List.getElem?_eq_getElem hl),Zm6]
  rw[List.drop_eq_getElem_cons hl,List.all_cons]
  cases hb:XK s[i].toNat with
  |false=>simp only[go_sem,Bool.not_false,Bool.false_and]
  |true =>
   simp only[go_sem,Bool.not_true,Bool.true_and,Ow,hw]
   exact ih (i+1) (by omega) (by omega)
theorem ZjB (s:List UInt8)(hs:s.length≤4611686018427387904)(H:Hp):J5 [.str s] H=some (.bool (Wy s),H):=by
 rw[Zai]
 unfold CZ
 simp only[go_sem,Zk]
 cases s with
 |nil=>simp[go_sem,Wy]
 |cons b l =>
  have h0:((((b::l).length:Nat):Int)==0)=false:=by simp;omega
  have hidx:Zu (.str (b::l)) (.int .i64 0)=some (.int .u8 b.toNat):=by simp[Zu]
  simp only[go_sem,h0]
  by_cases h32:32<(b::l).length
  ·have c1:decide ((32:Int)<((b::l).length:Int))=true:=by simp at h32 ⊢;omega
   have    : Wy (b :: l) = false := by unfold Wy; have : decide ((b :: l).length ≤ 32) = false := by simp at h32 ⊢; omega
                                       rw[this];rfl
   simp only[go_sem,c1,this]
  ·have c1:decide ((32:Int)<((b::l).length:Int))=false:=by simp at h32 ⊢;omega
   have c2:decide ((b::l).length≤32)=true:=by simp at h32 ⊢;omega
   have hl:=ZjA (b::l) hs H H (b::l).length 0 (by simp) (by omega)
   rw[show ((0:Nat):Int)=0 from rfl,List.drop_zero]at hl
   have hn:Wy (b::l)=(!Fj b.toNat&&(b::l).all fun c=>XK c.toNat):=by unfold Wy;simp only[c2,Bool.true_and]
   simp only[go_sem,c1,hidx,Ot,hl,hn]
   have e1:decide ((48:Int)≤(b.toNat:Int))=decide (48≤b.toNat):=by rw[Bool.eq_iff_iff];simp;omega
   have e2:decide ((b.toNat:Int)≤(57:Int))=decide (b.toNat≤57):=by rw[Bool.eq_iff_iff];simp;omega
   unfold Fj
   simp only[e1,e2]
   cases h48:decide (48≤b.toNat) with
   |false=>simp only[go_sem,Bool.false_and,Bool.not_false,Bool.true_and]
   |true =>
    cases h57:decide (b.toNat≤57) with
    |false=>simp only[go_sem,hidx,e2,h57,Bool.true_and,Bool.not_false]
    |true=>simp only[go_sem,hidx,e2,h57,Bool.true_and,Bool.not_true,Bool.false_and]
theorem Zdn (s:List UInt8)(hs:s.length≤4611686018427387904)(H:Hp):Ze Qr [.str s] H=some (.bool (Wy s),H):=Xx rfl (Zlv s hs []) rfl
theorem ZbT (s:List UInt8)(hs:s.length≤4611686018427387904)(H:Hp):Ze J5 [.str s] H=some (.bool (Wy s),H):=Xx rfl (ZjB s hs []) rfl
theorem ZG (a:AV)(l:List AV)(H:Hp):Z4 false 1 (.vp (a::l)) H=some a:=(Eq.refl _).trans (Eq.refl _)
theorem Zi6 (a:AV)(l:List AV):Yr false 1 (.vp (a::l))=some a:=(Eq.refl _).trans (Eq.refl _)
theorem ZnI (H:Hp)(l:List AV)(k:AV→Hp→Z3):X3 (.ptr H.length 0) (H++[.cells l]) k=k (.vp l) (H++[.dead]):=by
 rw[LA (V8 _ _),ZoB]
def Rc {α:Type}(bad:α→Option Int)(key:α→List UInt8):List α→List (List UInt8)→Int
 |[],_=>0
 |c::r,seen=>match bad c with
  |some e=>e
  |none=>if seen.contains (key c) then 6 else Rc bad key r (seen++[key c])
theorem B1 {α:Type}(bad:α→Option Int)(key:α→List UInt8)(c:α)(r:List α)(seen:List (List UInt8)):Rc bad key (c::r) seen=match bad c with
 |some e=>e
 |none=>if seen.contains (key c) then 6 else Rc bad key r (seen++[key c]):=(Eq.refl _).trans (Eq.refl _)
def Mr (es:List (AV×AV×Nat))(seen:List (List UInt8)):Prop:=es.map (fun e=>(e.1,e.2.1))=seen.map fun s=>(AV.str s,AV.bool true)
theorem Zbj (k:List UInt8):∀ (es:List (AV×AV×Nat)) (seen:List (List UInt8)) (i:Nat),Mr es seen →
 if seen.contains k then ∃ j,Yw (.str k) es i=some (some (j,.bool true)) else Yw (.str k) es i=some none:=by
 intro es
 induction es with
 |nil =>
  intro seen i h
  cases seen with
  |nil=>simp[Yw]
  |cons s r=>simp[Mr]at h
 |cons e es ih =>
  intro seen i h
  cases seen with
  |nil=>simp[Mr]at h
  |cons s r =>
   obtain⟨a,b,c⟩:=e
   simp only[Mr,List.map_cons,List.cons.injEq,Prod.mk.injEq]at h
   obtain⟨⟨rfl,rfl⟩,h2⟩:=h
   have:=ih r (i+1) h2
   simp only[Yw,UC,List.contains_cons]
   cases hk:(k==s) with
   |true=>simp
   |false=>simpa using this
theorem Zdx {H:Hp}{m:Nat}{es:List (AV×AV×Nat)}{c:Nat}{seen:List (List UInt8)}(hm:H[m]?=some (.map es c))(hs:Mr es seen)(k:List UInt8) :
 ZZ .string (.bool false) false (.map m) (.str k) H=some (.bool (seen.contains k)):=by
 have h:=Zbj k es seen 0 hs
 unfold ZZ
 simp only[Xy,if_true,YP,hm]
 cases hk:seen.contains k with
 |true =>
  rw[hk]at h
  obtain⟨j,hj⟩:=h
  simp[hj]
 |false =>
  rw[hk]at h
  simp at h
  simp[h]
theorem ZfN {H:Hp}{m:Nat}{es:List (AV×AV×Nat)}{c:Nat}{seen:List (List UInt8)}(hm:H[m]?=some (.map es c))(hs:Mr es seen){k:List UInt8}(hk:seen.contains k=false) :
 Xb .string (.map m) (.str k) (.bool true) H=some (.tuple [],H.set m (.map (es++[(.str k,.bool true,c)]) (c+1)))∧Mr (es++[(.str k,.bool true,c)]) (seen++[k]):=by
 have h:=Zbj k es seen 0 hs
 rw[hk]at h
 simp at h
 constructor
 ·unfold Xb
  simp only[hm,Xy,if_true,h]
 ·unfold Mr at hs ⊢
  simp[hs]
theorem Td (l:List AV):Z8 0 (.vp l)=some (.vp l):=by simp[Z8]
def Vm (c:List UInt8×List Int):AV:=.agg (.str c.1::c.2.map (.int .u64))
def Pl (c:List UInt8×List Int):Option Int:=if Wy c.1 then none else some 4
def MC (l:List (List UInt8×List Int)):Int:=if 24<l.length then 3 else Rc Pl Prod.fst l []
def AZ (l:List (List UInt8×List Int)):Prop:=∀ c∈l,c.2.length=4∧c.1.length≤4611686018427387904
theorem Sl.cls {x:AV}{l:List (List UInt8×List Int)}(h:Sl 5 x (l.map Vm)){i:Nat}{c:List UInt8×List Int}(hi:l[i]?=some c):Zn 5 x (.int .i64 (i:Int))=some (.vp (.str c.1::c.2.map (.int .u64))):=h.idx (c:=Vm c) (by simp[hi])
theorem Xr (n:Nat)(l:List AV)(hl:l.length=n)(H:Hp):Z4 true n (.vp l) H=some (.agg l):=by
 subst hl
 simp[Z4,Go.Am.apart]
theorem Pg (H:Hp)(n:Nat)(l z:List AV)(hl:l.length=n)(hz:z.length=n):Zh n (.ptr H.length 0) (.agg l) (H++[.cells z])=some (.tuple [],H++[.cells l]):=by
 rw[VK (sz:=n) (v:=.agg l) (V8 _ _) rfl hl (by omega)]
 simp[AV.cells,splice,hz,hl]
theorem Znb {x:AV}{l:List (List UInt8×List Int)}(h:Sl 5 x (l.map Vm))(hl:l.length≤24)(hok:AZ l)(H0:Hp)(m:Nat):∀ (k i:Nat) (H:Hp) (es:List (AV×AV×Nat)) (c:Nat),l.length-i=k→i≤l.length →
 H[m]?=some (.map es c)→Mr es ((l.take i).map Prod.fst) →
 ∃ H',Wi (.map m) x (.int .i64 (l.length:Int)) (.int .i64 (i:Int)) H0 H=some (.int .i64 (Rc Pl Prod.fst (l.drop i) ((l.take i).map Prod.fst)),H'):=by
 intro k
 induction k with
 |zero =>
  intro i H es c hk hi hm hs
  rw[QU]
  have hlt:decide ((i:Int)<(l.length:Int))=false:=by simp;omega
  have hd:l.drop i=[]:=List.drop_eq_nil_iff.2 (by omega)
  simp only[go_sem,hlt,Tn,hd]
  exact⟨_,rfl⟩
 |succ k ih =>
  intro i H es c hk hi hm hs
  rw[QU]
  have hl1:i<l.length:=by omega
  have hlt:decide ((i:Int)<(l.length:Int))=true:=by simp;omega
  have hw:IntKind.i64.wrap ((i:Int)+1)=((i+1:Nat):Int):=by rw[Zr (by omega) (by omega)];omega
  obtain⟨h4,hnm⟩:=hok l[i] (List.getElem_mem hl1)
  have hlen5:(AV.str l[i].1::l[i].2.map (AV.int .u64)).length=5:=by simp[h4]
  have hst:=Pg H 5 _ [.str [],.int .u64 0,.int .u64 0,.int .u64 0,.int .u64 0] hlen5 rfl
  simp only[go_sem,hlt,To,h.cls (List.getElem?_eq_getElem hl1),Xr 5 _ hlen5,hst,Nat.zero_add,Zx,List.getElem?_cons_zero,Zdn _ hnm]
  rw[List.drop_eq_getElem_cons hl1,B1]
  have hmm:(H++[AObj.cells (AV.str l[i].1::l[i].2.map (AV.int .u64))])[m]?=some (.map es c):=YB hm _
  cases hb:Wy l[i].1 with
  |false =>
   simp only[go_sem,Bool.not_false,Pl,hb,Bool.false_eq_true,if_false]
   exact⟨_,rfl⟩
  |true =>
   simp only[go_sem,Bool.not_true,Pl,hb,if_true,Tq,Nat.zero_add,Zx,List.getElem?_cons_zero,Zdx hmm hs]
   cases hc:((l.take i).map Prod.fst).contains l[i].1 with
   |true =>
    simp only[go_sem,if_true]
    exact⟨_,rfl⟩
   |false =>
    obtain⟨q1,q2⟩:=ZfN hmm hs hc
    simp only[go_sem,Bool.false_eq_true,if_false,Tr,Nat.zero_add,Zx,List.getElem?_cons_zero,q1,Tp,hw]
    have ht:(l.take (i+1)).map Prod.fst=(l.take i).map Prod.fst++[l[i].1]:=by
     rw[List.take_add_one,List.getElem?_eq_getElem hl1,List.map_append];rfl
    rw[←ht]
    refine ih (i+1) _ _ _ (by omega) (by omega) (Zv _ hmm) ?_
    rw[ht];exact q2
theorem Znc {x:AV}{l:List (List UInt8×List Int)}(h:Sl 5 x (l.map Vm))(hok:AZ l)(hl0:l.length≤4611686018427387904)(H:Hp):∃ H',Wq [x] H=some (.int .i64 (MC l),H'):=by
 rw[TS]
 unfold GU MC
 have hlen:=h.len 264
 rw[List.length_map]at hlen
 simp only[go_sem,hlen]
 by_cases h24:24<l.length
 ·have c1:decide ((24:Int)<(l.length:Int))=true:=by simp;omega
  simp only[c1,go_sem,h24,if_true]
  exact⟨_,rfl⟩
 ·have c1:decide ((24:Int)<(l.length:Int))=false:=by simp;omega
  simp only[c1,go_sem,h24,if_false,Tm,hlen]
  have:=Znb h (by omega) hok H H.length l.length 0 (H++[.map [] 0]) [] 0 (by omega) (by omega) (V8 H _) rfl
  rw[show ((0:Nat):Int)=0 from rfl,List.drop_zero,List.take_zero]at this
  exact this
theorem Zqe {x:AV}{l:List (List UInt8×List Int)}(h:Sl 5 x (l.map Vm))(hl:l.length≤24)(H0 H:Hp){i:Nat}{n:List UInt8}{q:List Int}(hi:l[i]?=some (n,q)):∀ (k j:Nat),i-j=k→j≤i →
 Vl x (.int .i64 (i:Int)) (.int .i64 (j:Int)) H0 H=if (((l.take i).map Prod.fst).drop j).contains n then some (.int .i64 6,H) else QJ x (.int .i64 (i:Int)) H0 H:=by
 intro k
 have hil:i<l.length:=by
  rcases Nat.lt_or_ge i l.length with h'|h'
  ·exact h'
  ·rw[List.getElem?_eq_none h']at hi;cases hi
 induction k with
 |zero =>
  intro j hk hj
  rw[KU]
  have hlt:decide ((j:Int)<(i:Int))=false:=by simp;omega
  have hd:((l.take i).map Prod.fst).drop j=[]:=List.drop_eq_nil_iff.2 (by simp;omega)
  simp only[go_sem,hlt,hd,List.contains_nil,Bool.false_eq_true,if_false]
 |succ k ih =>
  intro j hk hj
  rw[KU]
  have hjl:j<l.length:=by omega
  have hlt:decide ((j:Int)<(i:Int))=true:=by simp;omega
  have hw:IntKind.i64.wrap ((j:Int)+1)=((j+1:Nat):Int):=by rw[Zr (by omega) (by omega)];omega
  have hdj:((l.take i).map Prod.fst).drop j=l[j].1::((l.take i).map Prod.fst).drop (j+1):=by
   rw[List.drop_eq_getElem_cons (by simp;omega)]
   simp
  rw[hdj,List.contains_cons]
  simp only[go_sem,hlt,Mx,h.cls (List.getElem?_eq_getElem hjl),h.cls hi,ZG]
  have hs:Yh .eql (.str l[j].1) (.str n)=some (.bool (l[j].1==n)):=rfl
  have hsy:(n==l[j].1)=(l[j].1==n):=by rw[Bool.eq_iff_iff,beq_iff_eq,beq_iff_eq];exact eq_comm
  simp only[Td,ZG,hs,go_sem,hsy]
  cases hb:(l[j].1==n) with
  |true=>simp only[go_sem,Bool.true_or,if_true]
  |false =>
   simp only[go_sem,Bool.false_or,My,hw]
   exact ih (j+1) (by omega) (by omega)
theorem ZlS {x:AV}{l:List (List UInt8×List Int)}(h:Sl 5 x (l.map Vm))(hl:l.length≤24)(hok:AZ l)(H0 H:Hp):∀ (k i:Nat),l.length-i=k→i≤l.length →
 Vk x (.int .i64 (i:Int)) H0 H=some (.int .i64 (Rc Pl Prod.fst (l.drop i) ((l.take i).map Prod.fst)),H):=by
 have hlen:=h.len 264
 rw[List.length_map]at hlen
 intro k
 induction k with
 |zero =>
  intro i hk hi
  rw[KT]
  have hlt:decide ((i:Int)<(l.length:Int))=false:=by simp;omega
  have hd:l.drop i=[]:=List.drop_eq_nil_iff.2 (by omega)
  simp only[go_sem,hlen,hlt,Mt,hd]
  rfl
 |succ k ih =>
  intro i hk hi
  rw[KT]
  have hl1:i<l.length:=by omega
  have hlt:decide ((i:Int)<(l.length:Int))=true:=by simp;omega
  have hw:IntKind.i64.wrap ((i:Int)+1)=((i+1:Nat):Int):=by rw[Zr (by omega) (by omega)];omega
  obtain⟨h4,hnm⟩:=hok l[i] (List.getElem_mem hl1)
  simp only[go_sem,hlen,hlt,Mu,h.cls (List.getElem?_eq_getElem hl1),Td,ZG,ZbT _ hnm]
  rw[List.drop_eq_getElem_cons hl1,B1]
  cases hb:Wy l[i].1 with
  |false=>simp only[go_sem,Bool.not_false,Pl,hb,Bool.false_eq_true,if_false]
  |true =>
   have hin:=Zqe h hl H0 H (List.getElem?_eq_getElem hl1) i 0 (by omega) (by omega)
   rw[List.drop_zero,show ((0:Nat):Int)=0 from rfl]at hin
   simp only[go_sem,Bool.not_true,Pl,hb,if_true,Mw,hin]
   have ht:(l.take (i+1)).map Prod.fst=(l.take i).map Prod.fst++[l[i].1]:=by
    rw[List.take_add_one,List.getElem?_eq_getElem hl1,List.map_append];rfl
   cases hc:((l.take i).map Prod.fst).contains l[i].1 with
   |true=>simp only[if_true]
   |false =>
    simp only[Bool.false_eq_true,if_false,Mv,go_sem,hw]
    rw[ih (i+1) (by omega) (by omega),ht]
theorem ZlT {x:AV}{l:List (List UInt8×List Int)}(h:Sl 5 x (l.map Vm))(hok:AZ l)(H:Hp):VE [x] H=some (.int .i64 (MC l),H):=by
 rw[L8]
 unfold Fp MC
 have hlen:=h.len 264
 rw[List.length_map]at hlen
 simp only[go_sem,hlen]
 by_cases h24:24<l.length
 ·have c1:decide ((24:Int)<(l.length:Int))=true:=by simp;omega
  simp only[c1,go_sem,h24,if_true]
 ·have c1:decide ((24:Int)<(l.length:Int))=false:=by simp;omega
  simp only[c1,go_sem,h24,if_false,Ms]
  have:=ZlS h (by omega) hok H H l.length 0 (by omega) (by omega)
  rw[show ((0:Nat):Int)=0 from rfl,List.drop_zero,List.take_zero]at this
  exact this
def Jk (c:List UInt8×Int):AV:=.agg [.str c.1,.int .i64 c.2]
def ED (c:List UInt8×Int):Option Int:=if (c.1.length != 2 || (decide (c.2<0) || decide (65535<c.2)))=true then some 2 else none
def Pq (l:List (List UInt8×Int)):Int:=if 64<l.length then 3 else Rc ED Prod.fst l []
def I0 (l:List (List UInt8×Int)):Prop:=∀ c∈l,c.1.length≤4611686018427387904
theorem Sl.els {x:AV}{l:List (List UInt8×Int)}(h:Sl 2 x (l.map Jk)){i:Nat}{c:List UInt8×Int}(hi:l[i]?=some c):Zn 2 x (.int .i64 (i:Int))=some (.vp [.str c.1,.int .i64 c.2]):=h.idx (c:=Jk c) (by simp[hi])
theorem ZhX (a:AV)(l:List AV):Z8 1 (.vp (a::l))=some (.vp l):=by simp[Z8]
theorem Zj6 (n:Int)(H:Hp):KM [.int .i64 n] H=some (.bool (!(decide (n<0) || decide (65535<n))),H):=by
 rw[Zcg]
 unfold IP
 have e1:decide ((0:Int)≤n)=!decide (n<0):=by rw[Bool.eq_iff_iff];simp
 have e2:decide (n≤(65535:Int))=!decide (65535<n):=by rw[Bool.eq_iff_iff];simp
 simp only[go_sem,e1]
 cases h1:decide (n<0) with
 |true=>simp only[go_sem,Bool.not_true,Bool.true_or]
 |false=>simp only[go_sem,Bool.not_false,Bool.false_or,e2]
theorem ZbC (n:Int)(H:Hp):Ze KM [.int .i64 n] H=some (.bool (!(decide (n<0) || decide (65535<n))),H):=Xx rfl (Zj6 n []) rfl
theorem Znt {x:AV}{l:List (List UInt8×Int)}(h:Sl 2 x (l.map Jk))(hl:l.length≤64)(hok:I0 l)(H0:Hp)(m:Nat):∀ (k i:Nat) (H:Hp) (es:List (AV×AV×Nat)) (c:Nat),l.length-i=k→i≤l.length →
 H[m]?=some (.map es c)→Mr es ((l.take i).map Prod.fst) →
 ∃ H',XW (.map m) x (.int .i64 (l.length:Int)) (.int .i64 (i:Int)) H0 H=some (.int .i64 (Rc ED Prod.fst (l.drop i) ((l.take i).map Prod.fst)),H'):=by
 intro k
 induction k with
 |zero =>
  intro i H es c hk hi hm hs
  rw[Qv]
  have hlt:decide ((i:Int)<(l.length:Int))=false:=by simp;omega
  have hd:l.drop i=[]:=List.drop_eq_nil_iff.2 (by omega)
  simp only[go_sem,hlt,Rg,hd]
  exact⟨_,rfl⟩
 |succ k ih =>
  intro i H es c hk hi hm hs
  rw[Qv]
  have hl1:i<l.length:=by omega
  have hlt:decide ((i:Int)<(l.length:Int))=true:=by simp;omega
  have hw:IntKind.i64.wrap ((i:Int)+1)=((i+1:Nat):Int):=by rw[Zr (by omega) (by omega)];omega
  have hnm:=hok l[i] (List.getElem_mem hl1)
  have hst:=Pg H 2 [.str l[i].1,.int .i64 l[i].2] [.str [],.int .i64 0] rfl rfl
  simp only[go_sem,hlt,Rh,h.els (List.getElem?_eq_getElem hl1),Xr 2 [.str l[i].1,.int .i64 l[i].2] rfl,hst,Nat.zero_add,Zx,List.getElem?_cons_zero,List.getElem?_cons_succ,Ym]
  rw[List.drop_eq_getElem_cons hl1,B1]
  have hmm:(H++[AObj.cells [AV.str l[i].1,AV.int .i64 l[i].2]])[m]?=some (.map es c):=YB hm _
  have e2:((l[i].1.length:Int) != 2)=(l[i].1.length != 2):=by rw[Bool.eq_iff_iff];simp;omega
  rw[e2]
  unfold ED
  cases hb:(l[i].1.length != 2) with
  |true=>simp only[go_sem,Bool.true_or,if_true];exact⟨_,rfl⟩
  |false =>
  simp only[go_sem,Bool.false_or,Nat.zero_add,Zx,List.getElem?_cons_zero,List.getElem?_cons_succ]
  cases hb2:decide (l[i].2<0) with
  |true=>simp only[go_sem,Bool.true_or,if_true];exact⟨_,rfl⟩
  |false =>
  simp only[go_sem,Bool.false_or,Nat.zero_add,Zx,List.getElem?_cons_zero,List.getElem?_cons_succ]
  cases hb3:decide (65535<l[i].2) with
  |true=>simp only[go_sem,if_true];exact⟨_,rfl⟩
  |false =>
   simp only[go_sem,Bool.false_eq_true,if_false,Rj,Nat.zero_add,Zx,List.getElem?_cons_zero,Zdx hmm hs]
   cases hc:((l.take i).map Prod.fst).contains l[i].1 with
   |true =>
    simp only[go_sem,if_true]
    exact⟨_,rfl⟩
   |false =>
    obtain⟨q1,q2⟩:=ZfN hmm hs hc
    simp only[go_sem,Bool.false_eq_true,if_false,Rk,Nat.zero_add,Zx,List.getElem?_cons_zero,q1,Ri,hw]
    have ht:(l.take (i+1)).map Prod.fst=(l.take i).map Prod.fst++[l[i].1]:=by
     rw[List.take_add_one,List.getElem?_eq_getElem hl1,List.map_append];rfl
    rw[←ht]
    refine ih (i+1) _ _ _ (by omega) (by omega) (Zv _ hmm) ?_
    rw[ht];exact q2
theorem Znu {x:AV}{l:List (List UInt8×Int)}(h:Sl 2 x (l.map Jk))(hok:I0 l)(hl0:l.length≤4611686018427387904)(H:Hp):∃ H',Wf [x] H=some (.int .i64 (Pq l),H'):=by
 rw[RZ]
 unfold KO Pq
 have hlen:=h.len 210
 rw[List.length_map]at hlen
 simp only[go_sem,hlen]
 by_cases h64:64<l.length
 ·have c1:decide ((64:Int)<(l.length:Int))=true:=by simp;omega
  simp only[c1,go_sem,h64,if_true]
  exact⟨_,rfl⟩
 ·have c1:decide ((64:Int)<(l.length:Int))=false:=by simp;omega
  simp only[c1,go_sem,h64,if_false,Rf,hlen]
  have:=Znt h (by omega) hok H H.length l.length 0 (H++[.map [] 0]) [] 0 (by omega) (by omega) (V8 H _) rfl
  rw[show ((0:Nat):Int)=0 from rfl,List.drop_zero,List.take_zero]at this
  exact this
theorem Zqg {x:AV}{l:List (List UInt8×Int)}(h:Sl 2 x (l.map Jk))(hl:l.length≤64)(H0 H:Hp){i:Nat}{n:List UInt8}{q:Int}(hi:l[i]?=some (n,q)):∀ (k j:Nat),i-j=k→j≤i →
 WI x (.int .i64 (i:Int)) (.int .i64 (j:Int)) H0 H=if (((l.take i).map Prod.fst).drop j).contains n then some (.int .i64 6,H) else UZ x (.int .i64 (i:Int)) H0 H:=by
 intro k
 have hil:i<l.length:=by
  rcases Nat.lt_or_ge i l.length with h'|h'
  ·exact h'
  ·rw[List.getElem?_eq_none h']at hi;cases hi
 induction k with
 |zero =>
  intro j hk hj
  rw[K1]
  have hlt:decide ((j:Int)<(i:Int))=false:=by simp;omega
  have hd:((l.take i).map Prod.fst).drop j=[]:=List.drop_eq_nil_iff.2 (by simp;omega)
  simp only[go_sem,hlt,hd,List.contains_nil,Bool.false_eq_true,if_false]
 |succ k ih =>
  intro j hk hj
  rw[K1]
  have hjl:j<l.length:=by omega
  have hlt:decide ((j:Int)<(i:Int))=true:=by simp;omega
  have hw:IntKind.i64.wrap ((j:Int)+1)=((j+1:Nat):Int):=by rw[Zr (by omega) (by omega)];omega
  have hdj:((l.take i).map Prod.fst).drop j=l[j].1::((l.take i).map Prod.fst).drop (j+1):=by
   rw[List.drop_eq_getElem_cons (by simp;omega)]
   simp
  rw[hdj,List.contains_cons]
  simp only[go_sem,hlt,Nl,h.els (List.getElem?_eq_getElem hjl),h.els hi,ZG]
  have hs:Yh .eql (.str l[j].1) (.str n)=some (.bool (l[j].1==n)):=rfl
  have hsy:(n==l[j].1)=(l[j].1==n):=by rw[Bool.eq_iff_iff,beq_iff_eq,beq_iff_eq];exact eq_comm
  simp only[Td,ZG,hs,go_sem,hsy]
  cases hb:(l[j].1==n) with
  |true=>simp only[go_sem,Bool.true_or,if_true]
  |false =>
   simp only[go_sem,Bool.false_or,Nn,hw]
   exact ih (j+1) (by omega) (by omega)
theorem ZlW {x:AV}{l:List (List UInt8×Int)}(h:Sl 2 x (l.map Jk))(hl:l.length≤64)(hok:I0 l)(H0 H:Hp):∀ (k i:Nat),l.length-i=k→i≤l.length →
 WH x (.int .i64 (i:Int)) H0 H=some (.int .i64 (Rc ED Prod.fst (l.drop i) ((l.take i).map Prod.fst)),H):=by
 have hlen:=h.len 210
 rw[List.length_map]at hlen
 intro k
 induction k with
 |zero =>
  intro i hk hi
  rw[K0]
  have hlt:decide ((i:Int)<(l.length:Int))=false:=by simp;omega
  have hd:l.drop i=[]:=List.drop_eq_nil_iff.2 (by omega)
  simp only[go_sem,hlen,hlt,Nh,hd]
  rfl
 |succ k ih =>
  intro i hk hi
  rw[K0]
  have hl1:i<l.length:=by omega
  have hlt:decide ((i:Int)<(l.length:Int))=true:=by simp;omega
  have hw:IntKind.i64.wrap ((i:Int)+1)=((i+1:Nat):Int):=by rw[Zr (by omega) (by omega)];omega
  have hnm:=hok l[i] (List.getElem_mem hl1)
  simp only[go_sem,hlen,hlt,Ni,h.els (List.getElem?_eq_getElem hl1),Td,ZG,Ym]
  rw[List.drop_eq_getElem_cons hl1,B1]
  have e2:((l[i].1.length:Int) != 2)=(l[i].1.length != 2):=by rw[Bool.eq_iff_iff];simp;omega
  rw[e2]
  unfold ED
  cases hb:(l[i].1.length != 2) with
  |true=>simp only[go_sem,Bool.true_or,if_true]
  |false =>
  simp only[go_sem,Bool.false_or,h.els (List.getElem?_eq_getElem hl1),ZhX,ZG,ZbC,Bool.not_not]
  cases hb2:(decide (l[i].2<0) || decide (65535<l[i].2)) with
  |true=>simp only[go_sem,if_true]
  |false =>
   have hin:=Zqg h hl H0 H (List.getElem?_eq_getElem hl1) i 0 (by omega) (by omega)
   rw[List.drop_zero,show ((0:Nat):Int)=0 from rfl]at hin
   simp only[go_sem,Bool.false_eq_true,if_false,Nk,hin]
   have ht:(l.take (i+1)).map Prod.fst=(l.take i).map Prod.fst++[l[i].1]:=by
    rw[List.take_add_one,List.getElem?_eq_getElem hl1,List.map_append];rfl
   cases hc:((l.take i).map Prod.fst).contains l[i].1 with
   |true=>simp only[if_true]
   |false =>
    simp only[Bool.false_eq_true,if_false,Nj,go_sem,hw]
    rw[ih (i+1) (by omega) (by omega),ht]
    rfl
theorem ZlX {x:AV}{l:List (List UInt8×Int)}(h:Sl 2 x (l.map Jk))(hok:I0 l)(H:Hp):Vh [x] H=some (.int .i64 (Pq l),H):=by
 rw[Mm]
 unfold Dg Pq
 have hlen:=h.len 210
 rw[List.length_map]at hlen
 simp only[go_sem,hlen]
 by_cases h64:64<l.length
 ·have c1:decide ((64:Int)<(l.length:Int))=true:=by simp;omega
  simp only[c1,go_sem,h64,if_true]
 ·have c1:decide ((64:Int)<(l.length:Int))=false:=by simp;omega
  simp only[c1,go_sem,h64,if_false,Ng]
  have:=ZlW h (by omega) hok H H l.length 0 (by omega) (by omega)
  rw[show ((0:Nat):Int)=0 from rfl,List.drop_zero,List.take_zero]at this
  exact this
structure Loc where
 name:List UInt8
 w:List Int
 lo:List UInt8
 up:List UInt8
 cls:List (List UInt8×List Int)
 els:List (List UInt8×Int)
def Loc.cells (x c e:AV)(L:Loc):List AV:=[.str L.name,x,.str L.lo,.str L.up,c,e]
def LocAV (a:AV)(L:Loc):Prop:=∃ x c e,a=.agg (L.cells x c e)∧Sl 1 x (L.w.map (AV.int .i64))∧Sl 5 c (L.cls.map Vm)∧Sl 2 e (L.els.map Jk)
structure LocOk (L:Loc):Prop where
 name:L.name.length≤4611686018427387904
 w:L.w.length≤4611686018427387904
 lo:L.lo.length≤4611686018427387904
 up:L.up.length≤4611686018427387904
 cls:AZ L.cls
 els:I0 L.els
 ncls:L.cls.length≤4611686018427387904
 nels:L.els.length≤4611686018427387904
theorem NM (c:List UInt8×List Int)(H:Hp)(n f:Nat):Z9 H n (f+2) (Vm c)=some (Vm c):=by
 have:(AV.str c.1::c.2.map (AV.int .u64)).mapM (Z9 H n (f+1))=some (AV.str c.1::c.2.map (AV.int .u64)):=Ic fun x hx=>by
  rcases List.mem_cons.1 hx with rfl|hx
  ·rfl
  ·obtain⟨m,_,rfl⟩:=List.mem_map.1 hx
   rfl
 rw[Vm,KW,this]
theorem EF (c:List UInt8×Int)(H:Hp)(n f:Nat):Z9 H n (f+2) (Jk c)=some (Jk c):=(Eq.refl _).trans (Eq.refl _)
theorem LocAV.close {a:AV}{L:Loc}(h:LocAV a L)(H:Hp)(n f:Nat):∃ a',Z9 H n (f+4) a=some a'∧LocAV a' L:=by
 obtain⟨x,c,e,rfl,hx,hc,he⟩:=h
 obtain⟨x',hx1,hx2⟩:=hx.close (H:=H) (n:=n) (f:=f+2) (fun y hy=>by obtain⟨m,_,rfl⟩:=List.mem_map.1 hy;rfl)
 obtain⟨c',hc1,hc2⟩:=hc.close (H:=H) (n:=n) (f:=f+2) (fun y hy=>by obtain⟨m,_,rfl⟩:=List.mem_map.1 hy;exact NM m H n f)
 obtain⟨e',he1,he2⟩:=he.close (H:=H) (n:=n) (f:=f+2) (fun y hy=>by obtain⟨m,_,rfl⟩:=List.mem_map.1 hy;exact EF m H n f)
 refine⟨.agg (L.cells x' c' e'),?_,x',c',e',rfl,hx2,hc2,he2⟩
 have:(L.cells x c e).mapM (Z9 H n (f+3))=some (L.cells x' c' e'):=by
  simp only[Loc.cells,List.mapM_cons,hx1,hc1,he1,List.mapM_nil]
  rfl
 rw[KW,this]
theorem ZeJ {x:AV}{l:List (List UInt8×List Int)}(h:Sl 5 x (l.map Vm))(hok:AZ l)(hl:l.length≤4611686018427387904)(H:Hp):Ze Wq [x] H=some (.int .i64 (MC l),H)∧Ze VE [x] H=some (.int .i64 (MC l),H):=by
 obtain⟨x',h1,h2⟩:=h.close (H:=[]) (n:=0) (f:=5) (fun y hy=>by obtain⟨m,_,rfl⟩:=List.mem_map.1 hy;exact NM m [] 0 3)
 obtain⟨H',h3⟩:=Znc h2 hok hl []
 exact⟨Xx h1 h3 rfl,Xx h1 (ZlT h2 hok []) rfl⟩
theorem ZeY {x:AV}{l:List (List UInt8×Int)}(h:Sl 2 x (l.map Jk))(hok:I0 l)(hl:l.length≤4611686018427387904)(H:Hp):Ze Wf [x] H=some (.int .i64 (Pq l),H)∧Ze Vh [x] H=some (.int .i64 (Pq l),H):=by
 obtain⟨x',h1,h2⟩:=h.close (H:=[]) (n:=0) (f:=5) (fun y hy=>by obtain⟨m,_,rfl⟩:=List.mem_map.1 hy;exact EF m [] 0 3)
 obtain⟨H',h3⟩:=Znu h2 hok hl []
 exact⟨Xx h1 h3 rfl,Xx h1 (ZlX h2 hok []) rfl⟩
def Zag (n:Int):Bool:=decide (n<0) || decide (65535<n)
def Sm (L:Loc):Int:=if (MC L.cls != 0)=true then MC L.cls else Pq L.els
def Xu (L:Loc):Int :=
 if Wy L.name then (if (L.w.length != 256 || (L.lo.length != 256 || L.up.length != 256))=true then 2 else if L.w.any Zag then 2 else Sm L) else 4
theorem Sl.ints {x:AV}{l:List Int}(h:Sl 1 x (l.map (AV.int .i64))){i:Nat}(hi:i<l.length):Zn 1 x (.int .i64 (i:Int))=some (.vp [.int .i64 l[i]]):=h.idx (c:=.int .i64 l[i]) (by simp[hi])
theorem Lx (n:Nat):((n:Int) != 256)=(n != 256):=by rw[Bool.eq_iff_iff];simp;omega
theorem Zlh {x c e:AV}{L:Loc}(hx:Sl 1 x (L.w.map (AV.int .i64)))(hc:Sl 5 c (L.cls.map Vm))(he:Sl 2 e (L.els.map Jk))(hok:LocOk L)(hlw:L.w.length=256)(H0 H:Hp){o:Nat}(ho:H[o]?=some (.cells (L.cells x c e))):∀ (k i:Nat),L.w.length-i=k→i≤L.w.length →
 QT (.ptr o 0) x (.int .i64 (L.w.length:Int)) (.int .i64 (i:Int)) H0 H=some (.int .i64 (if (L.w.drop i).any Zag then 2 else Sm L),H):=by
 intro k
 induction k with
 |zero =>
  intro i hk hi
  rw[FN]
  have hlt:decide ((i:Int)<(L.w.length:Int))=false:=by simp;omega
  have hd:L.w.drop i=[]:=List.drop_eq_nil_iff.2 (by omega)
  simp only[go_sem,hlt,hd,List.any_nil,Bool.false_eq_true,if_false,AC,Nat.zero_add,ZV ho,Loc.cells,List.getElem?_cons_zero,List.getElem?_cons_succ,(ZeJ hc hok.cls hok.ncls H).1]
  unfold Sm
  cases h1:(MC L.cls != 0) with
  |true=>simp only[go_sem,if_true]
  |false=>simp only[go_sem,Bool.false_eq_true,if_false,AD,Nat.zero_add,ZV ho,Loc.cells,List.getElem?_cons_zero,List.getElem?_cons_succ,(ZeY he hok.els hok.nels H).1]
 |succ k ih =>
  intro i hk hi
  rw[FN]
  have hl1:i<L.w.length:=by omega
  have hlt:decide ((i:Int)<(L.w.length:Int))=true:=by simp;omega
  have hw:IntKind.i64.wrap ((i:Int)+1)=((i+1:Nat):Int):=by rw[Zr (by omega) (by omega)];omega
  simp only[go_sem,hlt,AE,hx.ints hl1,ZG]
  rw[List.drop_eq_getElem_cons hl1,List.any_cons]
  unfold Zag
  cases h1:decide (L.w[i]<0) with
  |true=>simp only[go_sem,Bool.true_or,if_true]
  |false =>
   simp only[go_sem,Bool.false_or]
   cases h2:decide (65535<L.w[i]) with
   |true=>simp only[go_sem,Bool.true_or,if_true]
   |false =>
    simp only[go_sem,Bool.false_or,AF,hw]
    exact ih (i+1) (by omega) (by omega)
theorem Zli {a:AV}{L:Loc}(h:LocAV a L)(hok:LocOk L)(H:Hp):∃ H',Ju [a] H=some (.int .i64 (Xu L),H'):=by
 obtain⟨x,c,e,rfl,hx,hc,he⟩:=h
 rw[Ik]
 unfold Ld Xu
 have hlen:=hx.len 3
 rw[List.length_map]at hlen
 have hg:=V8 H (.cells (L.cells x c e))
 simp only[go_sem,Nat.zero_add,Zx,Loc.cells,List.getElem?_cons_zero,List.getElem?_cons_succ,Zdn L.name hok.name]
 cases hn:Wy L.name with
 |false=>simp only[go_sem,Bool.not_false,Bool.false_eq_true,if_false];exact⟨_,rfl⟩
 |true =>
 simp only[go_sem,Bool.not_true,if_true,AA,Nat.zero_add,Zx,List.getElem?_cons_zero,List.getElem?_cons_succ,hlen,Lx]
 cases h1:(L.w.length != 256) with
 |true=>simp only[go_sem,Bool.true_or,if_true];exact⟨_,rfl⟩
 |false =>
 simp only[go_sem,Bool.false_or,Nat.zero_add,Zx,List.getElem?_cons_zero,List.getElem?_cons_succ,Ym,Lx]
 cases h2:(L.lo.length != 256) with
 |true=>simp only[go_sem,Bool.true_or,if_true];exact⟨_,rfl⟩
 |false =>
 simp only[go_sem,Bool.false_or,Nat.zero_add,Zx,List.getElem?_cons_zero,List.getElem?_cons_succ,Ym,Lx]
 cases h3:(L.up.length != 256) with
 |true=>simp only[go_sem,if_true];exact⟨_,rfl⟩
 |false =>
 have hlw:L.w.length=256:=by simpa using h1
 have:=Zlh hx hc he hok hlw H (H++[.cells (L.cells x c e)]) hg L.w.length 0 (by omega) (by omega)
 rw[show ((0:Nat):Int)=0 from rfl,List.drop_zero]at this
 simp only[Loc.cells]at this
 simp only[go_sem,Bool.false_eq_true,if_false,AB,Nat.zero_add,Zx,List.getElem?_cons_zero,List.getElem?_cons_succ,hlen,this]
 exact⟨_,rfl⟩
theorem Zjx {x c e:AV}{L:Loc}(hx:Sl 1 x (L.w.map (AV.int .i64)))(hc:Sl 5 c (L.cls.map Vm))(he:Sl 2 e (L.els.map Jk))(hok:LocOk L)(hlw:L.w.length=256)(H0 H:Hp){o:Nat}(ho:H[o]?=some (.cells (L.cells x c e))):∀ (k i:Nat),256-i=k→i≤256 →
 Bw (.ptr o 0) (.int .i64 (i:Int)) H0 H=some (.int .i64 (if (L.w.drop i).any Zag then 2 else if (L.lo.length != 256 || L.up.length != 256)=true then 2 else Sm L),H):=by
 intro k
 induction k with
 |zero =>
  intro i hk hi
  rw[NI]
  have hlt:decide ((i:Int)<256)=false:=by simp;omega
  have hd:L.w.drop i=[]:=List.drop_eq_nil_iff.2 (by omega)
  simp only[go_sem,hlt,hd,List.any_nil,Bool.false_eq_true,if_false,ZaJ,Nat.zero_add,ZV ho,Loc.cells,List.getElem?_cons_zero,List.getElem?_cons_succ,Ym,Lx]
  cases h2:(L.lo.length != 256) with
  |true=>simp only[go_sem,Bool.true_or,if_true]
  |false =>
  simp only[go_sem,Bool.false_or,Nat.zero_add,ZV ho,Loc.cells,List.getElem?_cons_zero,List.getElem?_cons_succ,Ym,Lx]
  cases h3:(L.up.length != 256) with
  |true=>simp only[go_sem,if_true]
  |false =>
  simp only[go_sem,Bool.false_eq_true,if_false,ZaK,Nat.zero_add,ZV ho,Loc.cells,List.getElem?_cons_zero,List.getElem?_cons_succ,(ZeJ hc hok.cls hok.ncls H).2]
  unfold Sm
  cases h1:(MC L.cls != 0) with
  |true=>simp only[go_sem,if_true]
  |false=>simp only[go_sem,Bool.false_eq_true,if_false,ZaL,Nat.zero_add,ZV ho,Loc.cells,List.getElem?_cons_zero,List.getElem?_cons_succ,(ZeY he hok.els hok.nels H).2]
 |succ k ih =>
  intro i hk hi
  rw[NI]
  have hl1:i<L.w.length:=by omega
  have hlt:decide ((i:Int)<256)=true:=by simp;omega
  have hw:IntKind.i64.wrap ((i:Int)+1)=((i+1:Nat):Int):=by rw[Zr (by omega) (by omega)];omega
  simp only[go_sem,hlt,ZaM,Nat.zero_add,ZV ho,Loc.cells,List.getElem?_cons_zero,List.getElem?_cons_succ,hx.ints hl1,ZG,ZbC,Bool.not_not]
  rw[List.drop_eq_getElem_cons hl1,List.any_cons]
  have e:(decide (L.w[i]<0) || decide (65535<L.w[i]))=Zag L.w[i]:=rfl
  rw[e]
  cases h1:Zag L.w[i] with
  |true=>simp only[go_sem,Bool.true_or,if_true]
  |false =>
   simp only[go_sem,Bool.false_or,ZaN,hw]
   exact ih (i+1) (by omega) (by omega)
theorem Zjy {a:AV}{L:Loc}(h:LocAV a L)(hok:LocOk L)(H:Hp):∃ H',Fe [a] H=some (.int .i64 (Xu L),H'):=by
 obtain⟨x,c,e,rfl,hx,hc,he⟩:=h
 rw[Zce]
 unfold IM Xu
 have hlen:=hx.len 3
 rw[List.length_map]at hlen
 have hg:=V8 H (.cells (L.cells x c e))
 simp only[go_sem,Nat.zero_add,Zx,Loc.cells,List.getElem?_cons_zero,List.getElem?_cons_succ,ZbT L.name hok.name]
 cases hn:Wy L.name with
 |false=>simp only[go_sem,Bool.not_false,Bool.false_eq_true,if_false];exact⟨_,rfl⟩
 |true =>
 simp only[go_sem,Bool.not_true,if_true,ZaH,Nat.zero_add,Zx,List.getElem?_cons_zero,List.getElem?_cons_succ,hlen,Lx]
 cases h1:(L.w.length != 256) with
 |true=>simp only[go_sem,Bool.true_or,if_true];exact⟨_,rfl⟩
 |false =>
 have hlw:L.w.length=256:=by simpa using h1
 have:=Zjx hx hc he hok hlw H (H++[.cells (L.cells x c e)]) hg 256 0 (by omega) (by omega)
 rw[show ((0:Nat):Int)=0 from rfl,List.drop_zero]at this
 simp only[Loc.cells]at this
 simp only[go_sem,Bool.false_or,ZaI,this]
 refine⟨_,congrArg some (Prod.ext (congrArg (AV.int .i64) ?_) rfl)⟩
 cases h2:(L.lo.length != 256 || L.up.length != 256) <;> cases h3:L.w.any Zag <;> simp
theorem Zdi {a:AV}{L:Loc}(h:LocAV a L)(hok:LocOk L)(H:Hp):Ze Ju [a] H=some (.int .i64 (Xu L),H)∧Ze Fe [a] H=some (.int .i64 (Xu L),H):=by
 obtain⟨a',h1,h2⟩:=h.close [] 0 2
 obtain⟨H',h3⟩:=Zli h2 hok []
 obtain⟨H'',h4⟩:=Zjy h2 hok []
 exact⟨Xx h1 h3 rfl,Xx h1 h4 rfl⟩
end Go.Am
