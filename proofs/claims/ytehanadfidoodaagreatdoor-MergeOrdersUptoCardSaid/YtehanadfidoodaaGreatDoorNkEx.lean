/-
  Bytes told apart; names; letters and digits alone.
-/
import Derived.Test.YtehanadfidoodaaGreatDoorNkSx
import Derived.Test.YtehanadfidoodaaGreatDoorNkGCx
namespace Go.Am
set_option linter.unusedSimpArgs false
set_option linter.unusedVariables false
set_option maxRecDepth 100000

theorem ZkH {α β γ:Type} (x:Option α) (f:α→Option β) (g:β→Option γ):bnd (bnd x f) g=bnd x fun a=>bnd (f a) g:=by cases x <;> rfl
def Zmg (t13_9 x8:AV):Option AV :=
 bnd (ibin .eql t13_9 (.int .u8 95)) fun t15_10 =>
 bnd (gdv t15_10 false (.tuple []) (some t13_9)) fun t17_11 =>
 bnd (gdv t15_10 false (.tuple []) (ibin .geq t17_11 (.int .u8 97))) fun t18_12 =>
 bnd (gdv t15_10 false (.tuple []) (some t18_12)) fun t19_13 =>
 bnd (gdv t19_13 true (.tuple []) (some t13_9)) fun t20_14 =>
 bnd (gdv t19_13 true (.tuple []) (ibin .leq t20_14 (.int .u8 122))) fun t21_15 =>
 bnd (gdv t15_10 false (.tuple []) (Zad t19_13 t21_15 (.bool false))) fun t22_16 =>
 bnd (Zad t15_10 (.bool true) t22_16) fun t23_17 =>
 bnd (gdv t23_17 false (.tuple []) (some t13_9)) fun t25_18 =>
 bnd (gdv t23_17 false (.tuple []) (ibin .geq t25_18 (.int .u8 65))) fun t26_19 =>
 bnd (gdv t23_17 false (.tuple []) (some t26_19)) fun t27_20 =>
 bnd (gdv t27_20 true (.tuple []) (some t13_9)) fun t28_21 =>
 bnd (gdv t27_20 true (.tuple []) (ibin .leq t28_21 (.int .u8 90))) fun t29_22 =>
 bnd (gdv t23_17 false (.tuple []) (Zad t27_20 t29_22 (.bool false))) fun t30_23 =>
 bnd (Zad t23_17 (.bool true) t30_23) fun t31_24 =>
 bnd (aun .not t31_24) fun t33_25 =>
 bnd (gdv t33_25 true (.tuple []) (some x8)) fun t35_26 =>
 bnd (gdv t33_25 true (.tuple []) (ibin .eql t35_26 (.int .i64 0))) fun t36_27 =>
 bnd (gdv t33_25 true (.tuple []) (some t36_27)) fun t37_28 =>
 bnd (gdv t37_28 false (.tuple []) (some t13_9)) fun t38_29 =>
 bnd (gdv t37_28 false (.tuple []) (ibin .lss t38_29 (.int .u8 48))) fun t39_30 =>
 bnd (gdv t33_25 true (.tuple []) (Zad t37_28 (.bool true) t39_30)) fun t40_31 =>
 bnd (gdv t33_25 true (.tuple []) (some t40_31)) fun t41_32 =>
 bnd (gdv t41_32 false (.tuple []) (some t13_9)) fun t42_33 =>
 bnd (gdv t41_32 false (.tuple []) (ibin .gtr t42_33 (.int .u8 57))) fun t43_34 =>
 bnd (gdv t33_25 true (.tuple []) (Zad t41_32 (.bool true) t43_34)) fun t44_35 =>
 bnd (Zad t33_25 t44_35 (.bool false)) fun t45_36 =>
 some t45_36
theorem ZjH (x0 x7 x8 x9 : AV) (H0 H : Hp) : Zkd x0 x7 x8 x9 H0 H =
    bnd (Zal x0 x8) fun t13_9 =>
    bnd (Zmg t13_9 x8) fun t45_36 =>
    cnd t45_36 (some ((.bool false),H)) (Zke x0 x7 x8 H0 H):=by
 rw [ZuZ];simp only [Zmg,ZkH,Ze9]
def ZxX (t31_2:AV):Option AV :=
 bnd (ibin .geq t31_2 (.int .u8 97)) fun t33_3 =>
 bnd (gdv t33_3 true (.tuple []) (some t31_2)) fun t35_4 =>
 bnd (gdv t33_3 true (.tuple []) (ibin .leq t35_4 (.int .u8 122))) fun t36_5 =>
 bnd (Zad t33_3 t36_5 (.bool false)) fun t37_6 =>
 bnd (gdv t37_6 false (.tuple []) (some t31_2)) fun t39_7 =>
 bnd (gdv t37_6 false (.tuple []) (ibin .geq t39_7 (.int .u8 65))) fun t40_8 =>
 bnd (gdv t37_6 false (.tuple []) (some t40_8)) fun t41_9 =>
 bnd (gdv t41_9 true (.tuple []) (some t31_2)) fun t42_10 =>
 bnd (gdv t41_9 true (.tuple []) (ibin .leq t42_10 (.int .u8 90))) fun t43_11 =>
 bnd (gdv t37_6 false (.tuple []) (Zad t41_9 t43_11 (.bool false))) fun t44_12 =>
 bnd (Zad t37_6 (.bool true) t44_12) fun t45_13 =>
 bnd (gdv t45_13 false (.tuple []) (some t31_2)) fun t47_14 =>
 bnd (gdv t45_13 false (.tuple []) (ibin .geq t47_14 (.int .u8 48))) fun t48_15 =>
 bnd (gdv t45_13 false (.tuple []) (some t48_15)) fun t49_16 =>
 bnd (gdv t49_16 true (.tuple []) (some t31_2)) fun t50_17 =>
 bnd (gdv t49_16 true (.tuple []) (ibin .leq t50_17 (.int .u8 57))) fun t51_18 =>
 bnd (gdv t45_13 false (.tuple []) (Zad t49_16 t51_18 (.bool false))) fun t52_19 =>
 bnd (Zad t45_13 (.bool true) t52_19) fun t53_20 =>
 bnd (gdv t53_20 false (.tuple []) (some t31_2)) fun t55_21 =>
 bnd (gdv t53_20 false (.tuple []) (ibin .eql t55_21 (.int .u8 95))) fun t56_22 =>
 bnd (Zad t53_20 (.bool true) t56_22) fun t57_23 =>
 bnd (aun .not t57_23) fun t58_24 =>
 some t58_24
theorem Ztl (x0 x3 : AV) (H0 H : Hp) : Zld x0 x3 H0 H =
    bnd (Zal x0 x3) fun t31_2 =>
    bnd (ZxX t31_2) fun t58_24 =>
    cnd t58_24 (some ((.bool false),H)) (Zle x0 x3 H0 H):=by
 rw [ZvE];simp only [ZxX,ZkH,Ze9]
def ZHc (r16_4a t14_3:AV):Option AV :=
 bnd (gdv r16_4a false (.tuple []) (some t14_3)) fun t18_5 =>
 bnd (gdv r16_4a false (.tuple []) (ibin .geq t18_5 (.int .u8 48))) fun t19_6 =>
 bnd (gdv r16_4a false (.tuple []) (some t19_6)) fun t20_7 =>
 bnd (gdv t20_7 true (.tuple []) (some t14_3)) fun t21_8 =>
 bnd (gdv t20_7 true (.tuple []) (ibin .leq t21_8 (.int .u8 57))) fun t22_9 =>
 bnd (gdv r16_4a false (.tuple []) (Zad t20_7 t22_9 (.bool false))) fun t23_10 =>
 bnd (Zad r16_4a (.bool true) t23_10) fun t24_11 =>
 bnd (gdv t24_11 false (.tuple []) (some t14_3)) fun t26_12 =>
 bnd (gdv t24_11 false (.tuple []) (ibin .geq t26_12 (.int .u8 97))) fun t27_13 =>
 bnd (gdv t24_11 false (.tuple []) (some t27_13)) fun t28_14 =>
 bnd (gdv t28_14 true (.tuple []) (some t14_3)) fun t29_15 =>
 bnd (gdv t28_14 true (.tuple []) (ibin .leq t29_15 (.int .u8 122))) fun t30_16 =>
 bnd (gdv t24_11 false (.tuple []) (Zad t28_14 t30_16 (.bool false))) fun t31_17 =>
 bnd (Zad t24_11 (.bool true) t31_17) fun t32_18 =>
 bnd (gdv t32_18 false (.tuple []) (some t14_3)) fun t34_19 =>
 bnd (gdv t32_18 false (.tuple []) (ibin .geq t34_19 (.int .u8 65))) fun t35_20 =>
 bnd (gdv t32_18 false (.tuple []) (some t35_20)) fun t36_21 =>
 bnd (gdv t36_21 true (.tuple []) (some t14_3)) fun t37_22 =>
 bnd (gdv t36_21 true (.tuple []) (ibin .leq t37_22 (.int .u8 90))) fun t38_23 =>
 bnd (gdv t32_18 false (.tuple []) (Zad t36_21 t38_23 (.bool false))) fun t39_24 =>
 bnd (Zad t32_18 (.bool true) t39_24) fun t40_25 =>
 some t40_25
def ZAd (r15_7a t13_6:AV):Option AV :=
 bnd (gdv r15_7a false (.tuple []) (some t13_6)) fun t17_8 =>
 bnd (gdv r15_7a false (.tuple []) (ibin .geq t17_8 (.int .u8 97))) fun t18_9 =>
 bnd (gdv r15_7a false (.tuple []) (some t18_9)) fun t19_10 =>
 bnd (gdv t19_10 true (.tuple []) (some t13_6)) fun t20_11 =>
 bnd (gdv t19_10 true (.tuple []) (ibin .leq t20_11 (.int .u8 122))) fun t21_12 =>
 bnd (gdv r15_7a false (.tuple []) (Zad t19_10 t21_12 (.bool false))) fun t22_13 =>
 bnd (Zad r15_7a (.bool true) t22_13) fun t23_14 =>
 bnd (gdv t23_14 false (.tuple []) (some t13_6)) fun t25_15 =>
 bnd (gdv t23_14 false (.tuple []) (ibin .geq t25_15 (.int .u8 65))) fun t26_16 =>
 bnd (gdv t23_14 false (.tuple []) (some t26_16)) fun t27_17 =>
 bnd (gdv t27_17 true (.tuple []) (some t13_6)) fun t28_18 =>
 bnd (gdv t27_17 true (.tuple []) (ibin .leq t28_18 (.int .u8 90))) fun t29_19 =>
 bnd (gdv t23_14 false (.tuple []) (Zad t27_17 t29_19 (.bool false))) fun t30_20 =>
 bnd (Zad t23_14 (.bool true) t30_20) fun t31_21 =>
 bnd (gdv t31_21 false (.tuple []) (some t13_6)) fun t33_22 =>
 bnd (gdv t31_21 false (.tuple []) (ibin .geq t33_22 (.int .u8 48))) fun t34_23 =>
 bnd (gdv t31_21 false (.tuple []) (some t34_23)) fun t35_24 =>
 bnd (gdv t35_24 true (.tuple []) (some t13_6)) fun t36_25 =>
 bnd (gdv t35_24 true (.tuple []) (ibin .leq t36_25 (.int .u8 57))) fun t37_26 =>
 bnd (gdv t31_21 false (.tuple []) (Zad t35_24 t37_26 (.bool false))) fun t38_27 =>
 bnd (Zad t31_21 (.bool true) t38_27) fun t39_28 =>
 some t39_28
theorem Zrh (x0 x3 x7 x8 x9 : AV) (H0 H : Hp) : Zjn x0 x3 x7 x8 x9 H0 H =
    bnd (Zal x0 x8) fun t13_6 =>
    bnd (ZcH [t13_6] H) fun r15_7 =>
    bnd (ZAd r15_7.1 t13_6) fun t39_28 =>
    cnd t39_28 (bnd (Zuo.run [x3,t13_6] r15_7.2) fun r41_29=>Ze7 x0 x3 x7 x8 H0 r41_29.2) (Ze7 x0 x3 x7 x8 H0 r15_7.2):=by
 rw [Zue];simp only [ZAd,ZkH,Ze9]

def ZiY:Option AV→Option Bool
 | some (.bool b)=>some b
 | _=>none
theorem Zea {x:Option AV} {b:Bool} (h:ZiY x=some b):x=some (.bool b):=by
 unfold ZiY at h
 split at h
 ·injection h with h;subst h;rfl
 ·cases h
def ZGB (n:Nat):Bool:=(decide (97≤n) && decide (n≤122)) || (decide (65≤n) && decide (n≤90))
def Zkq (n:Nat):Bool:=decide (48≤n) && decide (n≤57)
def Zc6 (n:Nat):Bool:=n == 95 || ZGB n || Zkq n
theorem Zzh:((List.range 256).all fun n=>(ZiY (Zmg (.int .u8 (n:Int)) (.int .i64 1)) == some (!Zc6 n)) && (ZiY (Zmg (.int .u8 (n:Int)) (.int .i64 0)) == some (!Zc6 n || Zkq n)))=true:=by kernel_rfl
theorem ZET:((List.range 256).all fun n=>(ZiY (ZxX (.int .u8 (n:Int))) == some (!Zc6 n)))=true:=by kernel_rfl
theorem ZuB (b:UInt8):b.toNat < 256:=b.toNat_lt
theorem Zvn (b:UInt8):Zmg (.int .u8 b.toNat) (.int .i64 0)=some (.bool (!Zc6 b.toNat || Zkq b.toNat)):=by
 have h:=ZeE Zzh (ZuB b)
 simp only [Bool.and_eq_true,beq_iff_eq] at h
 exact Zea h.2
theorem ZxI (b:UInt8) {i:Int} (hi:(i == 0)=false):Zmg (.int .u8 b.toNat) (.int .i64 i)=some (.bool (!Zc6 b.toNat)):=by
 have h:=ZeE Zzh (ZuB b)
 simp only [Bool.and_eq_true,beq_iff_eq] at h
 rw [← Zea h.1]
 have e:ibin .eql (.int .i64 i) (.int .i64 0)=ibin .eql (.int .i64 1) (.int .i64 0):=by simp only [ibin,ZbR,ZbS,hi];rfl
 unfold Zmg
 iterate 16 refine congrArg (bnd _) (funext fun t=>?_)
 cases t with
 | bool b =>
  cases b
  ·rfl
  ·simp only [ZAW,Ze9,e]
 | _=>rfl
theorem ZHn (b:UInt8):ZxX (.int .u8 b.toNat)=some (.bool (!Zc6 b.toNat)):=by
 have h:=ZeE ZET (ZuB b)
 simp only [beq_iff_eq] at h
 exact Zea h

def ZcO (s:List UInt8):Bool :=
 match s with
 | []=>false
 | b :: _=>decide (s.length≤32) && !Zkq b.toNat && s.all fun c=>Zc6 c.toNat
theorem ZD2 (s:List UInt8) (hs:s.length≤4611686018427387904) (H0 H:Hp):Zkc (.str s) H0 H=some (.bool (!s.isEmpty && decide (s.length≤32)),H):=by
 rw [ZuY]
 cases s with
 | nil=>simp [go_sem,sbin,ZhI]
 | cons b l =>
  simp only [sbin,ZhI,go_sem,Zae]
  have:(!((b :: l) == ([]:List UInt8)))=true:=rfl
  have c:decide (((b :: l).length:Int)≤32)=decide ((b :: l).length≤32):=by rw [Bool.eq_iff_iff];simp;omega
  simp only [this,go_sem,c,List.isEmpty_cons,Bool.not_false,Bool.true_and]
theorem ZGK (s : List UInt8) (hs : s.length ≤ 4611686018427387904) (H0 H : Hp) : ∀ (k i : Nat), s.length - i = k → 0 < i → i ≤ s.length →
    Zgu (.str s) (.int .i64 s.length) (.int .i64 i) H0 H=some (.bool (((s.drop i).all fun c=>Zc6 c.toNat) && (!s.isEmpty && decide (s.length≤32))),H):=by
 intro k
 induction k with
 | zero =>
  intro i hk h0 hi
  rw [Zem]
  have hlt:decide ((i:Int) < (s.length:Int))=false:=by simp;omega
  have hd:s.drop i=[]:=List.drop_eq_nil_iff.2 (by omega)
  simp only [go_sem,hlt,ZD2 s hs,hd,List.all_nil,Bool.true_and]
 | succ k ih =>
  intro i hk h0 hi
  rw [Zem]
  have hl:i < s.length:=by omega
  have hlt:decide ((i:Int) < (s.length:Int))=true:=by simp;omega
  have hw:IntKind.i64.wrap ((i:Int)+1)=((i+1:Nat):Int):=by rw [Zaj (by omega) (by omega)];omega
  have h0':((i:Int) == 0)=false:=by simp;omega
  simp only [go_sem,hlt,ZjH,ZaE (List.getElem?_eq_getElem hl),ZxI _ h0']
  rw [List.drop_eq_getElem_cons hl,List.all_cons]
  cases hb:Zc6 s[i].toNat with
  | false=>simp only [go_sem,Bool.not_false,Bool.false_and]
  | true =>
   simp only [go_sem,Bool.not_true,Bool.true_and,ZlN,hw]
   exact ih (i+1) (by omega) (by omega) (by omega)
theorem ZGL (s:List UInt8) (hs:s.length≤4611686018427387904) (H:Hp):Zfg [.str s] H=some (.bool (ZcO s),H):=by
 rw [Zvy]
 unfold Zrz
 simp only [go_sem,Zae]
 cases s with
 | nil=>rw [Zem];simp [go_sem,ZD2 [] (by simp),ZcO]
 | cons b l =>
  rw [Zem]
  have hlt:decide ((0:Int) < ((b :: l).length:Int))=true:=by simp
  have hw:IntKind.i64.wrap ((0:Int)+1)=((0+1:Nat):Int):=by decide
  have hidx:Zal (.str (b :: l)) (.int .i64 0)=some (.int .u8 b.toNat):=by simp [Zal]
  simp only [go_sem,hlt,ZjH,hidx,Zvn]
  cases hb:(!Zc6 b.toNat || Zkq b.toNat) with
  | true =>
   have:ZcO (b :: l)=false:=by
    unfold ZcO
    simp only [Bool.or_eq_true,Bool.not_eq_true'] at hb
    rcases hb with hb | hb <;> simp [hb]
   simp only [go_sem,this]
  | false =>
   simp only [Bool.or_eq_false_iff,Bool.not_eq_false'] at hb
   simp only [go_sem,ZlN,hw]
   rw [ZGK (b :: l) hs H H l.length 1 (by simp) (by omega) (by simp)]
   have:ZcO (b :: l)=(((b :: l).drop 1).all (fun c=>Zc6 c.toNat) && (!(b :: l).isEmpty && decide ((b :: l).length≤32))):=by
    unfold ZcO
    simp only [hb.1,hb.2,List.all_cons,List.drop_one,List.tail_cons,List.isEmpty_cons,Bool.not_false,Bool.true_and,Bool.and_true]
    rw [Bool.and_comm]
   rw [this]
theorem ZEU (s : List UInt8) (hs : s.length ≤ 4611686018427387904) (H0 H : Hp) : ∀ (k i : Nat), s.length - i = k → i ≤ s.length →
    ZhU (.str s) (.int .i64 i) H0 H=some (.bool ((s.drop i).all fun c=>Zc6 c.toNat),H):=by
 intro k
 induction k with
 | zero =>
  intro i hk hi
  rw [ZmS]
  have hlt:decide ((i:Int) < (s.length:Int))=false:=by simp;omega
  have hd:s.drop i=[]:=List.drop_eq_nil_iff.2 (by omega)
  simp only [go_sem,Zae,hlt,ZvD,hd,List.all_nil]
 | succ k ih =>
  intro i hk hi
  rw [ZmS]
  have hl:i < s.length:=by omega
  have hlt:decide ((i:Int) < (s.length:Int))=true:=by simp;omega
  have hw:IntKind.i64.wrap ((i:Int)+1)=((i+1:Nat):Int):=by rw [Zaj (by omega) (by omega)];omega
  simp only [go_sem,Zae,hlt,Ztl,ZaE (List.getElem?_eq_getElem hl),ZHn]
  rw [List.drop_eq_getElem_cons hl,List.all_cons]
  cases hb:Zc6 s[i].toNat with
  | false=>simp only [go_sem,Bool.not_false,Bool.false_and]
  | true =>
   simp only [go_sem,Bool.not_true,Bool.true_and,ZvF,hw]
   exact ih (i+1) (by omega) (by omega)
theorem ZEV (s:List UInt8) (hs:s.length≤4611686018427387904) (H:Hp):ZfP [.str s] H=some (.bool (ZcO s),H):=by
 rw [Zwl]
 unfold ZsT
 simp only [go_sem,Zae]
 cases s with
 | nil=>simp [go_sem,ZcO]
 | cons b l =>
  have h0:((((b :: l).length:Nat):Int) == 0)=false:=by simp;omega
  have hidx:Zal (.str (b :: l)) (.int .i64 0)=some (.int .u8 b.toNat):=by simp [Zal]
  simp only [go_sem,h0]
  by_cases h32:32 < (b :: l).length
  ·have c1:decide ((32:Int) < ((b :: l).length:Int))=true:=by simp at h32 ⊢;omega
   have   : ZcO (b :: l) = false := by unfold ZcO; have : decide ((b :: l).length ≤ 32) = false := by simp at h32 ⊢; omega
                                       rw [this];rfl
   simp only [go_sem,c1,this]
  ·have c1:decide ((32:Int) < ((b :: l).length:Int))=false:=by simp at h32 ⊢;omega
   have c2:decide ((b :: l).length≤32)=true:=by simp at h32 ⊢;omega
   have hl:=ZEU (b :: l) hs H H (b :: l).length 0 (by simp) (by omega)
   rw [show ((0:Nat):Int)=0 from rfl,List.drop_zero] at hl
   have hn:ZcO (b :: l)=(!Zkq b.toNat && (b :: l).all fun c=>Zc6 c.toNat):=by unfold ZcO;simp only [c2,Bool.true_and]
   simp only [go_sem,c1,hidx,ZvC,hl,hn]
   have e1:decide ((48:Int)≤(b.toNat:Int))=decide (48≤b.toNat):=by rw [Bool.eq_iff_iff];simp;omega
   have e2:decide ((b.toNat:Int)≤(57:Int))=decide (b.toNat≤57):=by rw [Bool.eq_iff_iff];simp;omega
   unfold Zkq
   simp only [e1,e2]
   cases h48:decide (48≤b.toNat) with
   | false=>simp only [go_sem,Bool.false_and,Bool.not_false,Bool.true_and]
   | true =>
    cases h57:decide (b.toNat≤57) with
    | false=>simp only [go_sem,hidx,e2,h57,Bool.true_and,Bool.not_false]
    | true=>simp only [go_sem,hidx,e2,h57,Bool.true_and,Bool.not_true,Bool.false_and]
theorem Zzi (s:List UInt8) (hs:s.length≤4611686018427387904) (H:Hp):Zaa Zfg [.str s] H=some (.bool (ZcO s),H):=ZbV rfl (ZGL s hs []) rfl
theorem ZxY (s:List UInt8) (hs:s.length≤4611686018427387904) (H:Hp):Zaa ZfP [.str s] H=some (.bool (ZcO s),H):=ZbV rfl (ZEV s hs []) rfl
end Go.Am
namespace Go.Am
set_option linter.unusedSimpArgs false
set_option linter.unusedVariables false

theorem Zav (a:AV) (l:List AV) (H:Hp):Za2 false 1 (.vp (a :: l)) H=some a:=(Eq.refl _).trans (Eq.refl _)
theorem ZDE (a:AV) (l:List AV):Zbj false 1 (.vp (a :: l))=some a:=(Eq.refl _).trans (Eq.refl _)
theorem ZIO (H:Hp) (l:List AV) (k:AV→Hp→Res):frzK (.ptr H.length 0) (H++[.cells l]) k=k (.vp l) (H++[.dead]):=by
 rw [Zq1 (Zdh _ _),ZJC]
end Go.Am
namespace Go.Am
set_option linter.unusedSimpArgs false
set_option linter.unusedVariables false
set_option maxRecDepth 100000

def chkL {α:Type} (bad:α→Option Int) (key:α→List UInt8):List α→List (List UInt8)→Int
 | [],_=>0
 | c :: r,seen=>match bad c with
  | some e=>e
  | none=>if seen.contains (key c) then 6 else chkL bad key r (seen++[key c])
theorem Zim {α : Type} (bad : α → Option Int) (key : α → List UInt8) (c : α) (r : List α) (seen : List (List UInt8)) : chkL bad key (c :: r) seen = match bad c with
    | some e=>e
    | none=>if seen.contains (key c) then 6 else chkL bad key r (seen++[key c]):=(Eq.refl _).trans (Eq.refl _)

def MapS (es:List (AV × AV × Nat)) (seen:List (List UInt8)):Prop:=es.map (fun e=>(e.1,e.2.1))=seen.map fun s=>(AV.str s,AV.bool true)
theorem Zxl (k : List UInt8) : ∀ (es : List (AV × AV × Nat)) (seen : List (List UInt8)) (i : Nat), MapS es seen →
    if seen.contains k then ∃ j,Zbd (.str k) es i=some (some (j,.bool true)) else Zbd (.str k) es i=some none:=by
 intro es
 induction es with
 | nil =>
  intro seen i h
  cases seen with
  | nil=>simp [Zbd]
  | cons s r=>simp [MapS] at h
 | cons e es ih =>
  intro seen i h
  cases seen with
  | nil=>simp [MapS] at h
  | cons s r =>
   obtain ⟨a,b,c⟩:=e
   simp only [MapS,List.map_cons,List.cons.injEq,Prod.mk.injEq] at h
   obtain ⟨⟨rfl,rfl⟩,h2⟩:=h
   have:=ih r (i+1) h2
   simp only [Zbd,Zey,List.contains_cons]
   cases hk:(k == s) with
   | true=>simp
   | false=>simpa using this
theorem Zzp {H : Hp} {m : Nat} {es : List (AV × AV × Nat)} {c : Nat} {seen : List (List UInt8)} (hm : H[m]? = some (.map es c)) (hs : MapS es seen) (k : List UInt8) :
    ZaK .string (.bool false) false (.map m) (.str k) H=some (.bool (seen.contains k)):=by
 have h:=Zxl k es seen 0 hs
 unfold ZaK
 simp only [Zch,if_true,Zbn,hm]
 cases hk:seen.contains k with
 | true =>
  rw [hk] at h
  obtain ⟨j,hj⟩:=h
  simp [hj]
 | false =>
  rw [hk] at h
  simp at h
  simp [h]
theorem ZBw {H : Hp} {m : Nat} {es : List (AV × AV × Nat)} {c : Nat} {seen : List (List UInt8)} (hm : H[m]? = some (.map es c)) (hs : MapS es seen) {k : List UInt8} (hk : seen.contains k = false) :
    ZbD .string (.map m) (.str k) (.bool true) H=some (.tuple [],H.set m (.map (es++[(.str k,.bool true,c)]) (c+1)))∧MapS (es++[(.str k,.bool true,c)]) (seen++[k]):=by
 have h:=Zxl k es seen 0 hs
 rw [hk] at h
 simp at h
 constructor
 ·unfold ZbD
  simp only [hm,Zch,if_true,h]
 ·unfold MapS at hs ⊢
  simp [hs]

theorem Zm1 (l:List AV):Za5 0 (.vp l)=some (.vp l):=by simp [Za5]
def Zdx (c:List UInt8 × List Int):AV:=.agg (.str c.1 :: c.2.map (.int .u64))
def Zn2 (c:List UInt8 × List Int):Option Int:=if ZcO c.1 then none else some 4
def clsS (l:List (List UInt8 × List Int)):Int:=if 24 < l.length then 3 else chkL Zn2 Prod.fst l []
def Zuj (l:List (List UInt8 × List Int)):Prop:=∀ c ∈ l,c.2.length=4∧c.1.length≤4611686018427387904
theorem Sl.cls {x:AV} {l:List (List UInt8 × List Int)} (h:Sl 5 x (l.map Zdx)) {i:Nat} {c:List UInt8 × List Int} (hi:l[i]?=some c):Zaf 5 x (.int .i64 (i:Int))=some (.vp (.str c.1 :: c.2.map (.int .u64))):=h.idx (c:=Zdx c) (by simp [hi])
theorem ZbQ (n:Nat) (l:List AV) (hl:l.length=n) (H:Hp):Za2 true n (.vp l) H=some (.agg l):=by
 subst hl
 simp [Za2,Go.Am.apart]
theorem ZmY (H:Hp) (n:Nat) (l z:List AV) (hl:l.length=n) (hz:z.length=n):Zab n (.ptr H.length 0) (.agg l) (H++[.cells z])=some (.tuple [],H++[.cells l]):=by
 rw [ZdR (sz:=n) (v:=.agg l) (Zdh _ _) rfl hl (by omega)]
 simp [AV.cells,splice,hz,hl]
theorem ZIk {x : AV} {l : List (List UInt8 × List Int)} (h : Sl 5 x (l.map Zdx)) (hl : l.length ≤ 24) (hok : Zuj l) (H0 : Hp) (m : Nat) : ∀ (k i : Nat) (H : Hp) (es : List (AV × AV × Nat)) (c : Nat), l.length - i = k → i ≤ l.length →
    H[m]?=some (.map es c)→MapS es ((l.take i).map Prod.fst) →
    ∃ H',Zcz (.map m) x (.int .i64 (l.length:Int)) (.int .i64 (i:Int)) H0 H=some (.int .i64 (chkL Zn2 Prod.fst (l.drop i) ((l.take i).map Prod.fst)),H'):=by
 intro k
 induction k with
 | zero =>
  intro i H es c hk hi hm hs
  rw [ZfF]
  have hlt:decide ((i:Int) < (l.length:Int))=false:=by simp;omega
  have hd:l.drop i=[]:=List.drop_eq_nil_iff.2 (by omega)
  simp only [go_sem,hlt,Zma,hd]
  exact ⟨_,rfl⟩
 | succ k ih =>
  intro i H es c hk hi hm hs
  rw [ZfF]
  have hl1:i < l.length:=by omega
  have hlt:decide ((i:Int) < (l.length:Int))=true:=by simp;omega
  have hw:IntKind.i64.wrap ((i:Int)+1)=((i+1:Nat):Int):=by rw [Zaj (by omega) (by omega)];omega
  obtain ⟨h4,hnm⟩:=hok l[i] (List.getElem_mem hl1)
  have hlen5:(AV.str l[i].1 :: l[i].2.map (AV.int .u64)).length=5:=by simp [h4]
  have hst:=ZmY H 5 _ [.str [],.int .u64 0,.int .u64 0,.int .u64 0,.int .u64 0] hlen5 rfl
  simp only [go_sem,hlt,Zmb,h.cls (List.getElem?_eq_getElem hl1),ZbQ 5 _ hlen5,hst,Nat.zero_add,Zao,List.getElem?_cons_zero,Zzi _ hnm]
  rw [List.drop_eq_getElem_cons hl1,Zim]
  have hmm:(H++[AObj.cells (AV.str l[i].1 :: l[i].2.map (AV.int .u64))])[m]?=some (.map es c):=ZaS hm _
  cases hb:ZcO l[i].1 with
  | false =>
   simp only [go_sem,Bool.not_false,Zn2,hb,Bool.false_eq_true,if_false]
   exact ⟨_,rfl⟩
  | true =>
   simp only [go_sem,Bool.not_true,Zn2,hb,if_true,Zmd,Nat.zero_add,Zao,List.getElem?_cons_zero,Zzp hmm hs]
   cases hc:((l.take i).map Prod.fst).contains l[i].1 with
   | true =>
    simp only [go_sem,if_true]
    exact ⟨_,rfl⟩
   | false =>
    obtain ⟨q1,q2⟩:=ZBw hmm hs hc
    simp only [go_sem,Bool.false_eq_true,if_false,Zme,Nat.zero_add,Zao,List.getElem?_cons_zero,q1,Zmc,hw]
    have ht:(l.take (i+1)).map Prod.fst=(l.take i).map Prod.fst++[l[i].1]:=by
     rw [List.take_add_one,List.getElem?_eq_getElem hl1,List.map_append];rfl
    rw [← ht]
    refine ih (i+1) _ _ _ (by omega) (by omega) (Zam _ hmm) ?_
    rw [ht];exact q2
theorem ZIl {x:AV} {l:List (List UInt8 × List Int)} (h:Sl 5 x (l.map Zdx)) (hok:Zuj l) (hl0:l.length≤4611686018427387904) (H:Hp):∃ H',ZcF [x] H=some (.int .i64 (clsS l),H'):=by
 rw [ZmD]
 unfold Zig clsS
 have hlen:=h.len 264
 rw [List.length_map] at hlen
 simp only [go_sem,hlen]
 by_cases h24:24 < l.length
 ·have c1:decide ((24:Int) < (l.length:Int))=true:=by simp;omega
  simp only [c1,go_sem,h24,if_true]
  exact ⟨_,rfl⟩
 ·have c1:decide ((24:Int) < (l.length:Int))=false:=by simp;omega
  simp only [c1,go_sem,h24,if_false,Zm9,hlen]
  have:=ZIk h (by omega) hok H H.length l.length 0 (H++[.map [] 0]) [] 0 (by omega) (by omega) (Zdh H _) rfl
  rw [show ((0:Nat):Int)=0 from rfl,List.drop_zero,List.take_zero] at this
  exact this
theorem ZLf {x : AV} {l : List (List UInt8 × List Int)} (h : Sl 5 x (l.map Zdx)) (hl : l.length ≤ 24) (H0 H : Hp) {i : Nat} {n : List UInt8} {q : List Int} (hi : l[i]? = some (n, q)) : ∀ (k j : Nat), i - j = k → j ≤ i →
    Zdw x (.int .i64 (i:Int)) (.int .i64 (j:Int)) H0 H=if (((l.take i).map Prod.fst).drop j).contains n then some (.int .i64 6,H) else Zft x (.int .i64 (i:Int)) H0 H:=by
 intro k
 have hil:i < l.length:=by
  rcases Nat.lt_or_ge i l.length with h' | h'
  ·exact h'
  ·rw [List.getElem?_eq_none h'] at hi;cases hi
 induction k with
 | zero =>
  intro j hk hj
  rw [Zhr]
  have hlt:decide ((j:Int) < (i:Int))=false:=by simp;omega
  have hd:((l.take i).map Prod.fst).drop j=[]:=List.drop_eq_nil_iff.2 (by simp;omega)
  simp only [go_sem,hlt,hd,List.contains_nil,Bool.false_eq_true,if_false]
 | succ k ih =>
  intro j hk hj
  rw [Zhr]
  have hjl:j < l.length:=by omega
  have hlt:decide ((j:Int) < (i:Int))=true:=by simp;omega
  have hw:IntKind.i64.wrap ((j:Int)+1)=((j+1:Nat):Int):=by rw [Zaj (by omega) (by omega)];omega
  have hdj:((l.take i).map Prod.fst).drop j=l[j].1 :: ((l.take i).map Prod.fst).drop (j+1):=by
   rw [List.drop_eq_getElem_cons (by simp;omega)]
   simp
  rw [hdj,List.contains_cons]
  simp only [go_sem,hlt,Zpa,h.cls (List.getElem?_eq_getElem hjl),h.cls hi,Zav]
  have hs:sbin .eql (.str l[j].1) (.str n)=some (.bool (l[j].1 == n)):=rfl
  have hsy:(n == l[j].1)=(l[j].1 == n):=by rw [Bool.eq_iff_iff,beq_iff_eq,beq_iff_eq];exact eq_comm
  simp only [Zm1,Zav,hs,go_sem,hsy]
  cases hb:(l[j].1 == n) with
  | true=>simp only [go_sem,Bool.true_or,if_true]
  | false =>
   simp only [go_sem,Bool.false_or,Zpb,hw]
   exact ih (j+1) (by omega) (by omega)
theorem ZH9 {x : AV} {l : List (List UInt8 × List Int)} (h : Sl 5 x (l.map Zdx)) (hl : l.length ≤ 24) (hok : Zuj l) (H0 H : Hp) : ∀ (k i : Nat), l.length - i = k → i ≤ l.length →
    Zdv x (.int .i64 (i:Int)) H0 H=some (.int .i64 (chkL Zn2 Prod.fst (l.drop i) ((l.take i).map Prod.fst)),H):=by
 have hlen:=h.len 264
 rw [List.length_map] at hlen
 intro k
 induction k with
 | zero =>
  intro i hk hi
  rw [Zhq]
  have hlt:decide ((i:Int) < (l.length:Int))=false:=by simp;omega
  have hd:l.drop i=[]:=List.drop_eq_nil_iff.2 (by omega)
  simp only [go_sem,hlen,hlt,Zp6,hd]
  rfl
 | succ k ih =>
  intro i hk hi
  rw [Zhq]
  have hl1:i < l.length:=by omega
  have hlt:decide ((i:Int) < (l.length:Int))=true:=by simp;omega
  have hw:IntKind.i64.wrap ((i:Int)+1)=((i+1:Nat):Int):=by rw [Zaj (by omega) (by omega)];omega
  obtain ⟨h4,hnm⟩:=hok l[i] (List.getElem_mem hl1)
  simp only [go_sem,hlen,hlt,Zp7,h.cls (List.getElem?_eq_getElem hl1),Zm1,Zav,ZxY _ hnm]
  rw [List.drop_eq_getElem_cons hl1,Zim]
  cases hb:ZcO l[i].1 with
  | false=>simp only [go_sem,Bool.not_false,Zn2,hb,Bool.false_eq_true,if_false]
  | true =>
   have hin:=ZLf h hl H0 H (List.getElem?_eq_getElem hl1) i 0 (by omega) (by omega)
   rw [List.drop_zero,show ((0:Nat):Int)=0 from rfl] at hin
   simp only [go_sem,Bool.not_true,Zn2,hb,if_true,Zp9,hin]
   have ht:(l.take (i+1)).map Prod.fst=(l.take i).map Prod.fst++[l[i].1]:=by
    rw [List.take_add_one,List.getElem?_eq_getElem hl1,List.map_append];rfl
   cases hc:((l.take i).map Prod.fst).contains l[i].1 with
   | true=>simp only [if_true]
   | false =>
    simp only [Bool.false_eq_true,if_false,Zp8,go_sem,hw]
    rw [ih (i+1) (by omega) (by omega),ht]
theorem ZHa {x:AV} {l:List (List UInt8 × List Int)} (h:Sl 5 x (l.map Zdx)) (hok:Zuj l) (H:Hp):ZdL [x] H=some (.int .i64 (clsS l),H):=by
 rw [Zpz]
 unfold Zkw clsS
 have hlen:=h.len 264
 rw [List.length_map] at hlen
 simp only [go_sem,hlen]
 by_cases h24:24 < l.length
 ·have c1:decide ((24:Int) < (l.length:Int))=true:=by simp;omega
  simp only [c1,go_sem,h24,if_true]
 ·have c1:decide ((24:Int) < (l.length:Int))=false:=by simp;omega
  simp only [c1,go_sem,h24,if_false,Zp5]
  have:=ZH9 h (by omega) hok H H l.length 0 (by omega) (by omega)
  rw [show ((0:Nat):Int)=0 from rfl,List.drop_zero,List.take_zero] at this
  exact this
end Go.Am
namespace Go.Am
set_option linter.unusedSimpArgs false
set_option linter.unusedVariables false
set_option maxRecDepth 100000

def elAV (c:List UInt8 × Int):AV:=.agg [.str c.1,.int .i64 c.2]
def ZqU (c:List UInt8 × Int):Option Int:=if (c.1.length != 2 || (decide (c.2 < 0) || decide (65535 < c.2)))=true then some 2 else none
def elsS (l:List (List UInt8 × Int)):Int:=if 64 < l.length then 3 else chkL ZqU Prod.fst l []
def Zuk (l:List (List UInt8 × Int)):Prop:=∀ c ∈ l,c.1.length≤4611686018427387904
theorem Sl.els {x:AV} {l:List (List UInt8 × Int)} (h:Sl 2 x (l.map elAV)) {i:Nat} {c:List UInt8 × Int} (hi:l[i]?=some c):Zaf 2 x (.int .i64 (i:Int))=some (.vp [.str c.1,.int .i64 c.2]):=h.idx (c:=elAV c) (by simp [hi])
theorem ZDv (a:AV) (l:List AV):Za5 1 (.vp (a :: l))=some (.vp l):=by simp [Za5]
theorem ZEy (n:Int) (H:Hp):Zhk [.int .i64 n] H=some (.bool (!(decide (n < 0) || decide (65535 < n))),H):=by
 rw [Zyj]
 unfold Zv5
 have e1:decide ((0:Int)≤n)=!decide (n < 0):=by rw [Bool.eq_iff_iff];simp
 have e2:decide (n≤(65535:Int))=!decide (65535 < n):=by rw [Bool.eq_iff_iff];simp
 simp only [go_sem,e1]
 cases h1:decide (n < 0) with
 | true=>simp only [go_sem,Bool.not_true,Bool.true_or]
 | false=>simp only [go_sem,Bool.not_false,Bool.false_or,e2]
theorem ZxD (n:Int) (H:Hp):Zaa Zhk [.int .i64 n] H=some (.bool (!(decide (n < 0) || decide (65535 < n))),H):=ZbV rfl (ZEy n []) rfl
theorem ZIz {x : AV} {l : List (List UInt8 × Int)} (h : Sl 2 x (l.map elAV)) (hl : l.length ≤ 64) (hok : Zuk l) (H0 : Hp) (m : Nat) : ∀ (k i : Nat) (H : Hp) (es : List (AV × AV × Nat)) (c : Nat), l.length - i = k → i ≤ l.length →
    H[m]?=some (.map es c)→MapS es ((l.take i).map Prod.fst) →
    ∃ H',Zci (.map m) x (.int .i64 (l.length:Int)) (.int .i64 (i:Int)) H0 H=some (.int .i64 (chkL ZqU Prod.fst (l.drop i) ((l.take i).map Prod.fst)),H'):=by
 intro k
 induction k with
 | zero =>
  intro i H es c hk hi hm hs
  rw [Zfj]
  have hlt:decide ((i:Int) < (l.length:Int))=false:=by simp;omega
  have hd:l.drop i=[]:=List.drop_eq_nil_iff.2 (by omega)
  simp only [go_sem,hlt,Zlh,hd]
  exact ⟨_,rfl⟩
 | succ k ih =>
  intro i H es c hk hi hm hs
  rw [Zfj]
  have hl1:i < l.length:=by omega
  have hlt:decide ((i:Int) < (l.length:Int))=true:=by simp;omega
  have hw:IntKind.i64.wrap ((i:Int)+1)=((i+1:Nat):Int):=by rw [Zaj (by omega) (by omega)];omega
  have hnm:=hok l[i] (List.getElem_mem hl1)
  have hst:=ZmY H 2 [.str l[i].1,.int .i64 l[i].2] [.str [],.int .i64 0] rfl rfl
  simp only [go_sem,hlt,Zli,h.els (List.getElem?_eq_getElem hl1),ZbQ 2 [.str l[i].1,.int .i64 l[i].2] rfl,hst,Nat.zero_add,Zao,List.getElem?_cons_zero,List.getElem?_cons_succ,ZaZ]
  rw [List.drop_eq_getElem_cons hl1,Zim]
  have hmm:(H++[AObj.cells [AV.str l[i].1,AV.int .i64 l[i].2]])[m]?=some (.map es c):=ZaS hm _
  have e2:((l[i].1.length:Int) != 2)=(l[i].1.length != 2):=by rw [Bool.eq_iff_iff];simp;omega
  rw [e2]
  unfold ZqU
  cases hb:(l[i].1.length != 2) with
  | true=>simp only [go_sem,Bool.true_or,if_true];exact ⟨_,rfl⟩
  | false =>
  simp only [go_sem,Bool.false_or,Nat.zero_add,Zao,List.getElem?_cons_zero,List.getElem?_cons_succ]
  cases hb2:decide (l[i].2 < 0) with
  | true=>simp only [go_sem,Bool.true_or,if_true];exact ⟨_,rfl⟩
  | false =>
  simp only [go_sem,Bool.false_or,Nat.zero_add,Zao,List.getElem?_cons_zero,List.getElem?_cons_succ]
  cases hb3:decide (65535 < l[i].2) with
  | true=>simp only [go_sem,if_true];exact ⟨_,rfl⟩
  | false =>
   simp only [go_sem,Bool.false_eq_true,if_false,Zlk,Nat.zero_add,Zao,List.getElem?_cons_zero,Zzp hmm hs]
   cases hc:((l.take i).map Prod.fst).contains l[i].1 with
   | true =>
    simp only [go_sem,if_true]
    exact ⟨_,rfl⟩
   | false =>
    obtain ⟨q1,q2⟩:=ZBw hmm hs hc
    simp only [go_sem,Bool.false_eq_true,if_false,Zll,Nat.zero_add,Zao,List.getElem?_cons_zero,q1,Zlj,hw]
    have ht:(l.take (i+1)).map Prod.fst=(l.take i).map Prod.fst++[l[i].1]:=by
     rw [List.take_add_one,List.getElem?_eq_getElem hl1,List.map_append];rfl
    rw [← ht]
    refine ih (i+1) _ _ _ (by omega) (by omega) (Zam _ hmm) ?_
    rw [ht];exact q2
theorem ZIA {x:AV} {l:List (List UInt8 × Int)} (h:Sl 2 x (l.map elAV)) (hok:Zuk l) (hl0:l.length≤4611686018427387904) (H:Hp):∃ H',Zcw [x] H=some (.int .i64 (elsS l),H'):=by
 rw [ZlS]
 unfold Zhn elsS
 have hlen:=h.len 210
 rw [List.length_map] at hlen
 simp only [go_sem,hlen]
 by_cases h64:64 < l.length
 ·have c1:decide ((64:Int) < (l.length:Int))=true:=by simp;omega
  simp only [c1,go_sem,h64,if_true]
  exact ⟨_,rfl⟩
 ·have c1:decide ((64:Int) < (l.length:Int))=false:=by simp;omega
  simp only [c1,go_sem,h64,if_false,Zlg,hlen]
  have:=ZIz h (by omega) hok H H.length l.length 0 (H++[.map [] 0]) [] 0 (by omega) (by omega) (Zdh H _) rfl
  rw [show ((0:Nat):Int)=0 from rfl,List.drop_zero,List.take_zero] at this
  exact this
theorem ZLh {x : AV} {l : List (List UInt8 × Int)} (h : Sl 2 x (l.map elAV)) (hl : l.length ≤ 64) (H0 H : Hp) {i : Nat} {n : List UInt8} {q : Int} (hi : l[i]? = some (n, q)) : ∀ (k j : Nat), i - j = k → j ≤ i →
    ZcW x (.int .i64 (i:Int)) (.int .i64 (j:Int)) H0 H=if (((l.take i).map Prod.fst).drop j).contains n then some (.int .i64 6,H) else ZeR x (.int .i64 (i:Int)) H0 H:=by
 intro k
 have hil:i < l.length:=by
  rcases Nat.lt_or_ge i l.length with h' | h'
  ·exact h'
  ·rw [List.getElem?_eq_none h'] at hi;cases hi
 induction k with
 | zero =>
  intro j hk hj
  rw [ZgJ]
  have hlt:decide ((j:Int) < (i:Int))=false:=by simp;omega
  have hd:((l.take i).map Prod.fst).drop j=[]:=List.drop_eq_nil_iff.2 (by simp;omega)
  simp only [go_sem,hlt,hd,List.contains_nil,Bool.false_eq_true,if_false]
 | succ k ih =>
  intro j hk hj
  rw [ZgJ]
  have hjl:j < l.length:=by omega
  have hlt:decide ((j:Int) < (i:Int))=true:=by simp;omega
  have hw:IntKind.i64.wrap ((j:Int)+1)=((j+1:Nat):Int):=by rw [Zaj (by omega) (by omega)];omega
  have hdj:((l.take i).map Prod.fst).drop j=l[j].1 :: ((l.take i).map Prod.fst).drop (j+1):=by
   rw [List.drop_eq_getElem_cons (by simp;omega)]
   simp
  rw [hdj,List.contains_cons]
  simp only [go_sem,hlt,ZnX,h.els (List.getElem?_eq_getElem hjl),h.els hi,Zav]
  have hs:sbin .eql (.str l[j].1) (.str n)=some (.bool (l[j].1 == n)):=rfl
  have hsy:(n == l[j].1)=(l[j].1 == n):=by rw [Bool.eq_iff_iff,beq_iff_eq,beq_iff_eq];exact eq_comm
  simp only [Zm1,Zav,hs,go_sem,hsy]
  cases hb:(l[j].1 == n) with
  | true=>simp only [go_sem,Bool.true_or,if_true]
  | false =>
   simp only [go_sem,Bool.false_or,ZnY,hw]
   exact ih (j+1) (by omega) (by omega)
theorem ZHd {x : AV} {l : List (List UInt8 × Int)} (h : Sl 2 x (l.map elAV)) (hl : l.length ≤ 64) (hok : Zuk l) (H0 H : Hp) : ∀ (k i : Nat), l.length - i = k → i ≤ l.length →
    ZcV x (.int .i64 (i:Int)) H0 H=some (.int .i64 (chkL ZqU Prod.fst (l.drop i) ((l.take i).map Prod.fst)),H):=by
 have hlen:=h.len 210
 rw [List.length_map] at hlen
 intro k
 induction k with
 | zero =>
  intro i hk hi
  rw [ZgI]
  have hlt:decide ((i:Int) < (l.length:Int))=false:=by simp;omega
  have hd:l.drop i=[]:=List.drop_eq_nil_iff.2 (by omega)
  simp only [go_sem,hlen,hlt,ZnT,hd]
  rfl
 | succ k ih =>
  intro i hk hi
  rw [ZgI]
  have hl1:i < l.length:=by omega
  have hlt:decide ((i:Int) < (l.length:Int))=true:=by simp;omega
  have hw:IntKind.i64.wrap ((i:Int)+1)=((i+1:Nat):Int):=by rw [Zaj (by omega) (by omega)];omega
  have hnm:=hok l[i] (List.getElem_mem hl1)
  simp only [go_sem,hlen,hlt,ZnU,h.els (List.getElem?_eq_getElem hl1),Zm1,Zav,ZaZ]
  rw [List.drop_eq_getElem_cons hl1,Zim]
  have e2:((l[i].1.length:Int) != 2)=(l[i].1.length != 2):=by rw [Bool.eq_iff_iff];simp;omega
  rw [e2]
  unfold ZqU
  cases hb:(l[i].1.length != 2) with
  | true=>simp only [go_sem,Bool.true_or,if_true]
  | false =>
  simp only [go_sem,Bool.false_or,h.els (List.getElem?_eq_getElem hl1),ZDv,Zav,ZxD,Bool.not_not]
  cases hb2:(decide (l[i].2 < 0) || decide (65535 < l[i].2)) with
  | true=>simp only [go_sem,if_true]
  | false =>
   have hin:=ZLh h hl H0 H (List.getElem?_eq_getElem hl1) i 0 (by omega) (by omega)
   rw [List.drop_zero,show ((0:Nat):Int)=0 from rfl] at hin
   simp only [go_sem,Bool.false_eq_true,if_false,ZnW,hin]
   have ht:(l.take (i+1)).map Prod.fst=(l.take i).map Prod.fst++[l[i].1]:=by
    rw [List.take_add_one,List.getElem?_eq_getElem hl1,List.map_append];rfl
   cases hc:((l.take i).map Prod.fst).contains l[i].1 with
   | true=>simp only [if_true]
   | false =>
    simp only [Bool.false_eq_true,if_false,ZnV,go_sem,hw]
    rw [ih (i+1) (by omega) (by omega),ht]
    rfl
theorem ZHe {x:AV} {l:List (List UInt8 × Int)} (h:Sl 2 x (l.map elAV)) (hok:Zuk l) (H:Hp):Zdr [x] H=some (.int .i64 (elsS l),H):=by
 rw [ZoZ]
 unfold Zjr elsS
 have hlen:=h.len 210
 rw [List.length_map] at hlen
 simp only [go_sem,hlen]
 by_cases h64:64 < l.length
 ·have c1:decide ((64:Int) < (l.length:Int))=true:=by simp;omega
  simp only [c1,go_sem,h64,if_true]
 ·have c1:decide ((64:Int) < (l.length:Int))=false:=by simp;omega
  simp only [c1,go_sem,h64,if_false,ZnS]
  have:=ZHd h (by omega) hok H H l.length 0 (by omega) (by omega)
  rw [show ((0:Nat):Int)=0 from rfl,List.drop_zero,List.take_zero] at this
  exact this
end Go.Am
namespace Go.Am
set_option linter.unusedSimpArgs false
set_option linter.unusedVariables false
set_option maxRecDepth 100000

structure Loc where
 name:List UInt8
 w:List Int
 lo:List UInt8
 up:List UInt8
 cls:List (List UInt8 × List Int)
 els:List (List UInt8 × Int)
def Loc.cells (x c e:AV) (L:Loc):List AV:=[.str L.name,x,.str L.lo,.str L.up,c,e]
def ZaU (a:AV) (L:Loc):Prop:=∃ x c e,a=.agg (L.cells x c e)∧Sl 1 x (L.w.map (AV.int .i64))∧Sl 5 c (L.cls.map Zdx)∧Sl 2 e (L.els.map elAV)
structure LocOk (L:Loc):Prop where
 name:L.name.length≤4611686018427387904
 w:L.w.length≤4611686018427387904
 lo:L.lo.length≤4611686018427387904
 up:L.up.length≤4611686018427387904
 cls:Zuj L.cls
 els:Zuk L.els
 ncls:L.cls.length≤4611686018427387904
 nels:L.els.length≤4611686018427387904
theorem Zoq (c:List UInt8 × List Int) (H:Hp) (n f:Nat):Za6 H n (f+2) (Zdx c)=some (Zdx c):=by
 have:(AV.str c.1 :: c.2.map (AV.int .u64)).mapM (Za6 H n (f+1))=some (AV.str c.1 :: c.2.map (AV.int .u64)):=Zux fun x hx=>by
  rcases List.mem_cons.1 hx with rfl | hx
  ·rfl
  ·obtain ⟨m,_,rfl⟩:=List.mem_map.1 hx
   rfl
 rw [Zdx,Zht,this]
theorem ZqV (c:List UInt8 × Int) (H:Hp) (n f:Nat):Za6 H n (f+2) (elAV c)=some (elAV c):=(Eq.refl _).trans (Eq.refl _)
theorem ZaU.close {a:AV} {L:Loc} (h:ZaU a L) (H:Hp) (n f:Nat):∃ a',Za6 H n (f+4) a=some a'∧ZaU a' L:=by
 obtain ⟨x,c,e,rfl,hx,hc,he⟩:=h
 obtain ⟨x',hx1,hx2⟩:=hx.close (H:=H) (n:=n) (f:=f+2) (fun y hy=>by obtain ⟨m,_,rfl⟩:=List.mem_map.1 hy;rfl)
 obtain ⟨c',hc1,hc2⟩:=hc.close (H:=H) (n:=n) (f:=f+2) (fun y hy=>by obtain ⟨m,_,rfl⟩:=List.mem_map.1 hy;exact Zoq m H n f)
 obtain ⟨e',he1,he2⟩:=he.close (H:=H) (n:=n) (f:=f+2) (fun y hy=>by obtain ⟨m,_,rfl⟩:=List.mem_map.1 hy;exact ZqV m H n f)
 refine ⟨.agg (L.cells x' c' e'),?_,x',c',e',rfl,hx2,hc2,he2⟩
 have:(L.cells x c e).mapM (Za6 H n (f+3))=some (L.cells x' c' e'):=by
  simp only [Loc.cells,List.mapM_cons,hx1,hc1,he1,List.mapM_nil]
  rfl
 rw [Zht,this]

theorem ZAy {x:AV} {l:List (List UInt8 × List Int)} (h:Sl 5 x (l.map Zdx)) (hok:Zuj l) (hl:l.length≤4611686018427387904) (H:Hp):Zaa ZcF [x] H=some (.int .i64 (clsS l),H)∧Zaa ZdL [x] H=some (.int .i64 (clsS l),H):=by
 obtain ⟨x',h1,h2⟩:=h.close (H:=[]) (n:=0) (f:=5) (fun y hy=>by obtain ⟨m,_,rfl⟩:=List.mem_map.1 hy;exact Zoq m [] 0 3)
 obtain ⟨H',h3⟩:=ZIl h2 hok hl []
 exact ⟨ZbV h1 h3 rfl,ZbV h1 (ZHa h2 hok []) rfl⟩
theorem ZAL {x:AV} {l:List (List UInt8 × Int)} (h:Sl 2 x (l.map elAV)) (hok:Zuk l) (hl:l.length≤4611686018427387904) (H:Hp):Zaa Zcw [x] H=some (.int .i64 (elsS l),H)∧Zaa Zdr [x] H=some (.int .i64 (elsS l),H):=by
 obtain ⟨x',h1,h2⟩:=h.close (H:=[]) (n:=0) (f:=5) (fun y hy=>by obtain ⟨m,_,rfl⟩:=List.mem_map.1 hy;exact ZqV m [] 0 3)
 obtain ⟨H',h3⟩:=ZIA h2 hok hl []
 exact ⟨ZbV h1 h3 rfl,ZbV h1 (ZHe h2 hok []) rfl⟩

def wBad (n:Int):Bool:=decide (n < 0) || decide (65535 < n)
def Zro (L:Loc):Int:=if (clsS L.cls != 0)=true then clsS L.cls else elsS L.els
def ZbT (L:Loc):Int :=
 if ZcO L.name then (if (L.w.length != 256 || (L.lo.length != 256 || L.up.length != 256))=true then 2 else if L.w.any wBad then 2 else Zro L) else 4
theorem Sl.ints {x:AV} {l:List Int} (h:Sl 1 x (l.map (AV.int .i64))) {i:Nat} (hi:i < l.length):Zaf 1 x (.int .i64 (i:Int))=some (.vp [.int .i64 l[i]]):=h.idx (c:=.int .i64 l[i]) (by simp [hi])
theorem ZpY (n:Nat):((n:Int) != 256)=(n != 256):=by rw [Bool.eq_iff_iff];simp;omega
theorem ZGx {x c e : AV} {L : Loc} (hx : Sl 1 x (L.w.map (AV.int .i64))) (hc : Sl 5 c (L.cls.map Zdx)) (he : Sl 2 e (L.els.map elAV)) (hok : LocOk L) (hlw : L.w.length = 256) (H0 H : Hp) {o : Nat} (ho : H[o]? = some (.cells (L.cells x c e))) : ∀ (k i : Nat), L.w.length - i = k → i ≤ L.w.length →
    ZfE (.ptr o 0) x (.int .i64 (L.w.length:Int)) (.int .i64 (i:Int)) H0 H=some (.int .i64 (if (L.w.drop i).any wBad then 2 else Zro L),H):=by
 intro k
 induction k with
 | zero =>
  intro i hk hi
  rw [ZkT]
  have hlt:decide ((i:Int) < (L.w.length:Int))=false:=by simp;omega
  have hd:L.w.drop i=[]:=List.drop_eq_nil_iff.2 (by omega)
  simp only [go_sem,hlt,hd,List.any_nil,Bool.false_eq_true,if_false,ZtZ,Nat.zero_add,ZaF ho,Loc.cells,List.getElem?_cons_zero,List.getElem?_cons_succ,(ZAy hc hok.cls hok.ncls H).1]
  unfold Zro
  cases h1:(clsS L.cls != 0) with
  | true=>simp only [go_sem,if_true]
  | false=>simp only [go_sem,Bool.false_eq_true,if_false,Zu0,Nat.zero_add,ZaF ho,Loc.cells,List.getElem?_cons_zero,List.getElem?_cons_succ,(ZAL he hok.els hok.nels H).1]
 | succ k ih =>
  intro i hk hi
  rw [ZkT]
  have hl1:i < L.w.length:=by omega
  have hlt:decide ((i:Int) < (L.w.length:Int))=true:=by simp;omega
  have hw:IntKind.i64.wrap ((i:Int)+1)=((i+1:Nat):Int):=by rw [Zaj (by omega) (by omega)];omega
  simp only [go_sem,hlt,Zu1,hx.ints hl1,Zav]
  rw [List.drop_eq_getElem_cons hl1,List.any_cons]
  unfold wBad
  cases h1:decide (L.w[i] < 0) with
  | true=>simp only [go_sem,Bool.true_or,if_true]
  | false =>
   simp only [go_sem,Bool.false_or]
   cases h2:decide (65535 < L.w[i]) with
   | true=>simp only [go_sem,Bool.true_or,if_true]
   | false =>
    simp only [go_sem,Bool.false_or,Zu2,hw]
    exact ih (i+1) (by omega) (by omega)
theorem ZGy {a:AV} {L:Loc} (h:ZaU a L) (hok:LocOk L) (H:Hp):∃ H',Zgc [a] H=some (.int .i64 (ZbT L),H'):=by
 obtain ⟨x,c,e,rfl,hx,hc,he⟩:=h
 rw [ZuE]
 unfold ZpE ZbT
 have hlen:=hx.len 3
 rw [List.length_map] at hlen
 have hg:=Zdh H (.cells (L.cells x c e))
 simp only [go_sem,Nat.zero_add,Zao,Loc.cells,List.getElem?_cons_zero,List.getElem?_cons_succ,Zzi L.name hok.name]
 cases hn:ZcO L.name with
 | false=>simp only [go_sem,Bool.not_false,Bool.false_eq_true,if_false];exact ⟨_,rfl⟩
 | true =>
 simp only [go_sem,Bool.not_true,if_true,ZtX,Nat.zero_add,Zao,List.getElem?_cons_zero,List.getElem?_cons_succ,hlen,ZpY]
 cases h1:(L.w.length != 256) with
 | true=>simp only [go_sem,Bool.true_or,if_true];exact ⟨_,rfl⟩
 | false =>
 simp only [go_sem,Bool.false_or,Nat.zero_add,Zao,List.getElem?_cons_zero,List.getElem?_cons_succ,ZaZ,ZpY]
 cases h2:(L.lo.length != 256) with
 | true=>simp only [go_sem,Bool.true_or,if_true];exact ⟨_,rfl⟩
 | false =>
 simp only [go_sem,Bool.false_or,Nat.zero_add,Zao,List.getElem?_cons_zero,List.getElem?_cons_succ,ZaZ,ZpY]
 cases h3:(L.up.length != 256) with
 | true=>simp only [go_sem,if_true];exact ⟨_,rfl⟩
 | false =>
 have hlw:L.w.length=256:=by simpa using h1
 have:=ZGx hx hc he hok hlw H (H++[.cells (L.cells x c e)]) hg L.w.length 0 (by omega) (by omega)
 rw [show ((0:Nat):Int)=0 from rfl,List.drop_zero] at this
 simp only [Loc.cells] at this
 simp only [go_sem,Bool.false_eq_true,if_false,ZtY,Nat.zero_add,Zao,List.getElem?_cons_zero,List.getElem?_cons_succ,hlen,this]
 exact ⟨_,rfl⟩
theorem ZER {x c e : AV} {L : Loc} (hx : Sl 1 x (L.w.map (AV.int .i64))) (hc : Sl 5 c (L.cls.map Zdx)) (he : Sl 2 e (L.els.map elAV)) (hok : LocOk L) (hlw : L.w.length = 256) (H0 H : Hp) {o : Nat} (ho : H[o]? = some (.cells (L.cells x c e))) : ∀ (k i : Nat), 256 - i = k → i ≤ 256 →
    ZiO (.ptr o 0) (.int .i64 (i:Int)) H0 H=some (.int .i64 (if (L.w.drop i).any wBad then 2 else if (L.lo.length != 256 || L.up.length != 256)=true then 2 else Zro L),H):=by
 intro k
 induction k with
 | zero =>
  intro i hk hi
  rw [Zok]
  have hlt:decide ((i:Int) < 256)=false:=by simp;omega
  have hd:L.w.drop i=[]:=List.drop_eq_nil_iff.2 (by omega)
  simp only [go_sem,hlt,hd,List.any_nil,Bool.false_eq_true,if_false,ZwL,Nat.zero_add,ZaF ho,Loc.cells,List.getElem?_cons_zero,List.getElem?_cons_succ,ZaZ,ZpY]
  cases h2:(L.lo.length != 256) with
  | true=>simp only [go_sem,Bool.true_or,if_true]
  | false =>
  simp only [go_sem,Bool.false_or,Nat.zero_add,ZaF ho,Loc.cells,List.getElem?_cons_zero,List.getElem?_cons_succ,ZaZ,ZpY]
  cases h3:(L.up.length != 256) with
  | true=>simp only [go_sem,if_true]
  | false =>
  simp only [go_sem,Bool.false_eq_true,if_false,ZwM,Nat.zero_add,ZaF ho,Loc.cells,List.getElem?_cons_zero,List.getElem?_cons_succ,(ZAy hc hok.cls hok.ncls H).2]
  unfold Zro
  cases h1:(clsS L.cls != 0) with
  | true=>simp only [go_sem,if_true]
  | false=>simp only [go_sem,Bool.false_eq_true,if_false,ZwN,Nat.zero_add,ZaF ho,Loc.cells,List.getElem?_cons_zero,List.getElem?_cons_succ,(ZAL he hok.els hok.nels H).2]
 | succ k ih =>
  intro i hk hi
  rw [Zok]
  have hl1:i < L.w.length:=by omega
  have hlt:decide ((i:Int) < 256)=true:=by simp;omega
  have hw:IntKind.i64.wrap ((i:Int)+1)=((i+1:Nat):Int):=by rw [Zaj (by omega) (by omega)];omega
  simp only [go_sem,hlt,ZwO,Nat.zero_add,ZaF ho,Loc.cells,List.getElem?_cons_zero,List.getElem?_cons_succ,hx.ints hl1,Zav,ZxD,Bool.not_not]
  rw [List.drop_eq_getElem_cons hl1,List.any_cons]
  have e:(decide (L.w[i] < 0) || decide (65535 < L.w[i]))=wBad L.w[i]:=rfl
  rw [e]
  cases h1:wBad L.w[i] with
  | true=>simp only [go_sem,Bool.true_or,if_true]
  | false =>
   simp only [go_sem,Bool.false_or,ZwP,hw]
   exact ih (i+1) (by omega) (by omega)
theorem ZES {a:AV} {L:Loc} (h:ZaU a L) (hok:LocOk L) (H:Hp):∃ H',Zkm [a] H=some (.int .i64 (ZbT L),H'):=by
 obtain ⟨x,c,e,rfl,hx,hc,he⟩:=h
 rw [Zyh]
 unfold Zv3 ZbT
 have hlen:=hx.len 3
 rw [List.length_map] at hlen
 have hg:=Zdh H (.cells (L.cells x c e))
 simp only [go_sem,Nat.zero_add,Zao,Loc.cells,List.getElem?_cons_zero,List.getElem?_cons_succ,ZxY L.name hok.name]
 cases hn:ZcO L.name with
 | false=>simp only [go_sem,Bool.not_false,Bool.false_eq_true,if_false];exact ⟨_,rfl⟩
 | true =>
 simp only [go_sem,Bool.not_true,if_true,ZwJ,Nat.zero_add,Zao,List.getElem?_cons_zero,List.getElem?_cons_succ,hlen,ZpY]
 cases h1:(L.w.length != 256) with
 | true=>simp only [go_sem,Bool.true_or,if_true];exact ⟨_,rfl⟩
 | false =>
 have hlw:L.w.length=256:=by simpa using h1
 have:=ZER hx hc he hok hlw H (H++[.cells (L.cells x c e)]) hg 256 0 (by omega) (by omega)
 rw [show ((0:Nat):Int)=0 from rfl,List.drop_zero] at this
 simp only [Loc.cells] at this
 simp only [go_sem,Bool.false_or,ZwK,this]
 refine ⟨_,congrArg some (Prod.ext (congrArg (AV.int .i64) ?_) rfl)⟩
 cases h2:(L.lo.length != 256 || L.up.length != 256) <;> cases h3:L.w.any wBad <;> simp
theorem Zzd {a:AV} {L:Loc} (h:ZaU a L) (hok:LocOk L) (H:Hp):Zaa Zgc [a] H=some (.int .i64 (ZbT L),H)∧Zaa Zkm [a] H=some (.int .i64 (ZbT L),H):=by
 obtain ⟨a',h1,h2⟩:=h.close [] 0 2
 obtain ⟨H',h3⟩:=ZGy h2 hok []
 obtain ⟨H'',h4⟩:=ZES h2 hok []
 exact ⟨ZbV h1 h3 rfl,ZbV h1 h4 rfl⟩
end Go.Am
