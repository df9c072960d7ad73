/-
  Bytes told apart; names; letters and digits alone.
-/
import Derived.Test.YtehanadfidoodaaGreatDoorNkSx
import Derived.Test.YtehanadfidoodaaGreatDoorNkGCx
import Derived.Test.YtehanadfidoodaaGreatDoorNkQbx
namespace Go.Am
set_option linter.unusedSimpArgs false
set_option linter.unusedVariables false
set_option maxRecDepth 100000

theorem bnd_assoc {α β γ:Type} (x:Option α) (f:α → Option β) (g:β → Option γ):bnd (bnd x f) g = bnd x fun a=>bnd (f a) g:=by cases x <;> rfl
def nameD (t13_9 x8:AV):Option AV :=
  bnd (ibin .eql t13_9 (.int .u8 95)) fun t15_10 =>
  bnd (gdv t15_10 false (.tuple []) (some t13_9)) fun t17_11 =>
  bnd (gdv t15_10 false (.tuple []) (ibin .geq t17_11 (.int .u8 97))) fun t18_12 =>
  bnd (gdv t15_10 false (.tuple []) (some t18_12)) fun t19_13 =>
  bnd (gdv t19_13 true (.tuple []) (some t13_9)) fun t20_14 =>
  bnd (gdv t19_13 true (.tuple []) (ibin .leq t20_14 (.int .u8 122))) fun t21_15 =>
  bnd (gdv t15_10 false (.tuple []) (apick t19_13 t21_15 (.bool false))) fun t22_16 =>
  bnd (apick t15_10 (.bool true) t22_16) fun t23_17 =>
  bnd (gdv t23_17 false (.tuple []) (some t13_9)) fun t25_18 =>
  bnd (gdv t23_17 false (.tuple []) (ibin .geq t25_18 (.int .u8 65))) fun t26_19 =>
  bnd (gdv t23_17 false (.tuple []) (some t26_19)) fun t27_20 =>
  bnd (gdv t27_20 true (.tuple []) (some t13_9)) fun t28_21 =>
  bnd (gdv t27_20 true (.tuple []) (ibin .leq t28_21 (.int .u8 90))) fun t29_22 =>
  bnd (gdv t23_17 false (.tuple []) (apick t27_20 t29_22 (.bool false))) fun t30_23 =>
  bnd (apick t23_17 (.bool true) t30_23) fun t31_24 =>
  bnd (aun .not t31_24) fun t33_25 =>
  bnd (gdv t33_25 true (.tuple []) (some x8)) fun t35_26 =>
  bnd (gdv t33_25 true (.tuple []) (ibin .eql t35_26 (.int .i64 0))) fun t36_27 =>
  bnd (gdv t33_25 true (.tuple []) (some t36_27)) fun t37_28 =>
  bnd (gdv t37_28 false (.tuple []) (some t13_9)) fun t38_29 =>
  bnd (gdv t37_28 false (.tuple []) (ibin .lss t38_29 (.int .u8 48))) fun t39_30 =>
  bnd (gdv t33_25 true (.tuple []) (apick t37_28 (.bool true) t39_30)) fun t40_31 =>
  bnd (gdv t33_25 true (.tuple []) (some t40_31)) fun t41_32 =>
  bnd (gdv t41_32 false (.tuple []) (some t13_9)) fun t42_33 =>
  bnd (gdv t41_32 false (.tuple []) (ibin .gtr t42_33 (.int .u8 57))) fun t43_34 =>
  bnd (gdv t33_25 true (.tuple []) (apick t41_32 (.bool true) t43_34)) fun t44_35 =>
  bnd (apick t33_25 t44_35 (.bool false)) fun t45_36 =>
  some t45_36
theorem locale_name_J2_D_eq (x0 x7 x8 x9 : AV) (H0 H : Hp) : locale_name_J2 x0 x7 x8 x9 H0 H =
    bnd (aindexStr x0 x8) fun t13_9 =>
    bnd (nameD t13_9 x8) fun t45_36 =>
    cnd t45_36 (some ((.bool false),H)) (locale_name_J3 x0 x7 x8 H0 H):=by
  rw [locale_name_J2_eq]; simp only [nameD,bnd_assoc,bnd_some]
def rnameD (t31_2:AV):Option AV :=
  bnd (ibin .geq t31_2 (.int .u8 97)) fun t33_3 =>
  bnd (gdv t33_3 true (.tuple []) (some t31_2)) fun t35_4 =>
  bnd (gdv t33_3 true (.tuple []) (ibin .leq t35_4 (.int .u8 122))) fun t36_5 =>
  bnd (apick t33_3 t36_5 (.bool false)) fun t37_6 =>
  bnd (gdv t37_6 false (.tuple []) (some t31_2)) fun t39_7 =>
  bnd (gdv t37_6 false (.tuple []) (ibin .geq t39_7 (.int .u8 65))) fun t40_8 =>
  bnd (gdv t37_6 false (.tuple []) (some t40_8)) fun t41_9 =>
  bnd (gdv t41_9 true (.tuple []) (some t31_2)) fun t42_10 =>
  bnd (gdv t41_9 true (.tuple []) (ibin .leq t42_10 (.int .u8 90))) fun t43_11 =>
  bnd (gdv t37_6 false (.tuple []) (apick t41_9 t43_11 (.bool false))) fun t44_12 =>
  bnd (apick t37_6 (.bool true) t44_12) fun t45_13 =>
  bnd (gdv t45_13 false (.tuple []) (some t31_2)) fun t47_14 =>
  bnd (gdv t45_13 false (.tuple []) (ibin .geq t47_14 (.int .u8 48))) fun t48_15 =>
  bnd (gdv t45_13 false (.tuple []) (some t48_15)) fun t49_16 =>
  bnd (gdv t49_16 true (.tuple []) (some t31_2)) fun t50_17 =>
  bnd (gdv t49_16 true (.tuple []) (ibin .leq t50_17 (.int .u8 57))) fun t51_18 =>
  bnd (gdv t45_13 false (.tuple []) (apick t49_16 t51_18 (.bool false))) fun t52_19 =>
  bnd (apick t45_13 (.bool true) t52_19) fun t53_20 =>
  bnd (gdv t53_20 false (.tuple []) (some t31_2)) fun t55_21 =>
  bnd (gdv t53_20 false (.tuple []) (ibin .eql t55_21 (.int .u8 95))) fun t56_22 =>
  bnd (apick t53_20 (.bool true) t56_22) fun t57_23 =>
  bnd (aun .not t57_23) fun t58_24 =>
  some t58_24
theorem R05_IsName_J3_D_eq (x0 x3 : AV) (H0 H : Hp) : R05_IsName_J3 x0 x3 H0 H =
    bnd (aindexStr x0 x3) fun t31_2 =>
    bnd (rnameD t31_2) fun t58_24 =>
    cnd t58_24 (some ((.bool false),H)) (R05_IsName_J4 x0 x3 H0 H):=by
  rw [R05_IsName_J3_eq]; simp only [rnameD,bnd_assoc,bnd_some]
def rdictD (r16_4a t14_3:AV):Option AV :=
  bnd (gdv r16_4a false (.tuple []) (some t14_3)) fun t18_5 =>
  bnd (gdv r16_4a false (.tuple []) (ibin .geq t18_5 (.int .u8 48))) fun t19_6 =>
  bnd (gdv r16_4a false (.tuple []) (some t19_6)) fun t20_7 =>
  bnd (gdv t20_7 true (.tuple []) (some t14_3)) fun t21_8 =>
  bnd (gdv t20_7 true (.tuple []) (ibin .leq t21_8 (.int .u8 57))) fun t22_9 =>
  bnd (gdv r16_4a false (.tuple []) (apick t20_7 t22_9 (.bool false))) fun t23_10 =>
  bnd (apick r16_4a (.bool true) t23_10) fun t24_11 =>
  bnd (gdv t24_11 false (.tuple []) (some t14_3)) fun t26_12 =>
  bnd (gdv t24_11 false (.tuple []) (ibin .geq t26_12 (.int .u8 97))) fun t27_13 =>
  bnd (gdv t24_11 false (.tuple []) (some t27_13)) fun t28_14 =>
  bnd (gdv t28_14 true (.tuple []) (some t14_3)) fun t29_15 =>
  bnd (gdv t28_14 true (.tuple []) (ibin .leq t29_15 (.int .u8 122))) fun t30_16 =>
  bnd (gdv t24_11 false (.tuple []) (apick t28_14 t30_16 (.bool false))) fun t31_17 =>
  bnd (apick t24_11 (.bool true) t31_17) fun t32_18 =>
  bnd (gdv t32_18 false (.tuple []) (some t14_3)) fun t34_19 =>
  bnd (gdv t32_18 false (.tuple []) (ibin .geq t34_19 (.int .u8 65))) fun t35_20 =>
  bnd (gdv t32_18 false (.tuple []) (some t35_20)) fun t36_21 =>
  bnd (gdv t36_21 true (.tuple []) (some t14_3)) fun t37_22 =>
  bnd (gdv t36_21 true (.tuple []) (ibin .leq t37_22 (.int .u8 90))) fun t38_23 =>
  bnd (gdv t32_18 false (.tuple []) (apick t36_21 t38_23 (.bool false))) fun t39_24 =>
  bnd (apick t32_18 (.bool true) t39_24) fun t40_25 =>
  some t40_25
def dictD (r15_7a t13_6:AV):Option AV :=
  bnd (gdv r15_7a false (.tuple []) (some t13_6)) fun t17_8 =>
  bnd (gdv r15_7a false (.tuple []) (ibin .geq t17_8 (.int .u8 97))) fun t18_9 =>
  bnd (gdv r15_7a false (.tuple []) (some t18_9)) fun t19_10 =>
  bnd (gdv t19_10 true (.tuple []) (some t13_6)) fun t20_11 =>
  bnd (gdv t19_10 true (.tuple []) (ibin .leq t20_11 (.int .u8 122))) fun t21_12 =>
  bnd (gdv r15_7a false (.tuple []) (apick t19_10 t21_12 (.bool false))) fun t22_13 =>
  bnd (apick r15_7a (.bool true) t22_13) fun t23_14 =>
  bnd (gdv t23_14 false (.tuple []) (some t13_6)) fun t25_15 =>
  bnd (gdv t23_14 false (.tuple []) (ibin .geq t25_15 (.int .u8 65))) fun t26_16 =>
  bnd (gdv t23_14 false (.tuple []) (some t26_16)) fun t27_17 =>
  bnd (gdv t27_17 true (.tuple []) (some t13_6)) fun t28_18 =>
  bnd (gdv t27_17 true (.tuple []) (ibin .leq t28_18 (.int .u8 90))) fun t29_19 =>
  bnd (gdv t23_14 false (.tuple []) (apick t27_17 t29_19 (.bool false))) fun t30_20 =>
  bnd (apick t23_14 (.bool true) t30_20) fun t31_21 =>
  bnd (gdv t31_21 false (.tuple []) (some t13_6)) fun t33_22 =>
  bnd (gdv t31_21 false (.tuple []) (ibin .geq t33_22 (.int .u8 48))) fun t34_23 =>
  bnd (gdv t31_21 false (.tuple []) (some t34_23)) fun t35_24 =>
  bnd (gdv t35_24 true (.tuple []) (some t13_6)) fun t36_25 =>
  bnd (gdv t35_24 true (.tuple []) (ibin .leq t36_25 (.int .u8 57))) fun t37_26 =>
  bnd (gdv t31_21 false (.tuple []) (apick t35_24 t37_26 (.bool false))) fun t38_27 =>
  bnd (apick t31_21 (.bool true) t38_27) fun t39_28 =>
  some t39_28
theorem sortkey_dict_J2_D_eq (x0 x3 x7 x8 x9 : AV) (H0 H : Hp) : sortkey_dict_J2 x0 x3 x7 x8 x9 H0 H =
    bnd (aindexStr x0 x8) fun t13_6 =>
    bnd (C_sortkey_blank [t13_6] H) fun r15_7 =>
    bnd (dictD r15_7.1 t13_6) fun t39_28 =>
    cnd t39_28 (bnd (byteE.run [x3,t13_6] r15_7.2) fun r41_29=>sortkey_dict_J3 x0 x3 x7 x8 H0 r41_29.2) (sortkey_dict_J3 x0 x3 x7 x8 H0 r15_7.2):=by
  rw [sortkey_dict_J2_eq]; simp only [dictD,bnd_assoc,bnd_some]

def boolOf:Option AV → Option Bool
  | some (.bool b)=>some b
  | _=>none
theorem boolOf_some {x:Option AV} {b:Bool} (h:boolOf x = some b):x = some (.bool b):=by
  unfold boolOf at h
  split at h
  · injection h with h; subst h; rfl
  · cases h
def letter (n:Nat):Bool:=(decide (97 ≤ n) && decide (n ≤ 122)) || (decide (65 ≤ n) && decide (n ≤ 90))
def digit (n:Nat):Bool:=decide (48 ≤ n) && decide (n ≤ 57)
def inName (n:Nat):Bool:=n == 95 || letter n || digit n
theorem nameD_all:((List.range 256).all fun n=>(boolOf (nameD (.int .u8 (n:Int)) (.int .i64 1)) == some (!inName n)) && (boolOf (nameD (.int .u8 (n:Int)) (.int .i64 0)) == some (!inName n || digit n))) = true:=by kernel_rfl
theorem rnameD_all:((List.range 256).all fun n=>(boolOf (rnameD (.int .u8 (n:Int))) == some (!inName n))) = true:=by kernel_rfl
theorem u8_lt (b:UInt8):b.toNat < 256:=b.toNat_lt
theorem nameD_first (b:UInt8):nameD (.int .u8 b.toNat) (.int .i64 0) = some (.bool (!inName b.toNat || digit b.toNat)):=by
  have h:=all_range nameD_all (u8_lt b)
  simp only [Bool.and_eq_true,beq_iff_eq] at h
  exact boolOf_some h.2
theorem nameD_next (b:UInt8) {i:Int} (hi:(i == 0) = false):nameD (.int .u8 b.toNat) (.int .i64 i) = some (.bool (!inName b.toNat)):=by
  have h:=all_range nameD_all (u8_lt b)
  simp only [Bool.and_eq_true,beq_iff_eq] at h
  rw [← boolOf_some h.1]
  have e:ibin .eql (.int .i64 i) (.int .i64 0) = ibin .eql (.int .i64 1) (.int .i64 0):=by simp only [ibin,ashift,intbin,hi]; rfl
  unfold nameD
  iterate 16 refine congrArg (bnd _) (funext fun t=>?_)
  cases t with
  | bool b =>
    cases b
    · rfl
    · simp only [gdv_tt,bnd_some,e]
  | _=>rfl
theorem rnameD_ok (b:UInt8):rnameD (.int .u8 b.toNat) = some (.bool (!inName b.toNat)):=by
  have h:=all_range rnameD_all (u8_lt b)
  simp only [beq_iff_eq] at h
  exact boolOf_some h

def nameS (s:List UInt8):Bool :=
  match s with
  | []=>false
  | b :: _=>decide (s.length ≤ 32) && !digit b.toNat && s.all fun c=>inName c.toNat
theorem name_J1 (s:List UInt8) (hs:s.length ≤ 4611686018427387904) (H0 H:Hp):locale_name_J1 (.str s) H0 H = some (.bool (!s.isEmpty && decide (s.length ≤ 32)),H):=by
  rw [locale_name_J1_eq]
  cases s with
  | nil=>simp [go_sem,sbin,strbin]
  | cons b l =>
    simp only [sbin,strbin,go_sem,alenD]
    have:(!((b :: l) == ([]:List UInt8))) = true:=rfl
    have c:decide (((b :: l).length:Int) ≤ 32) = decide ((b :: l).length ≤ 32):=by rw [Bool.eq_iff_iff]; simp; omega
    simp only [this,go_sem,c,List.isEmpty_cons,Bool.not_false,Bool.true_and]
theorem name_loop (s : List UInt8) (hs : s.length ≤ 4611686018427387904) (H0 H : Hp) : ∀ (k i : Nat), s.length - i = k → 0 < i → i ≤ s.length →
    locale_name_L1 (.str s) (.int .i64 s.length) (.int .i64 i) H0 H = some (.bool (((s.drop i).all fun c=>inName c.toNat) && (!s.isEmpty && decide (s.length ≤ 32))),H):=by
  intro k
  induction k with
  | zero =>
    intro i hk h0 hi
    rw [locale_name_L1_eq]
    have hlt:decide ((i:Int) < (s.length:Int)) = false:=by simp; omega
    have hd:s.drop i = []:=List.drop_eq_nil_iff.2 (by omega)
    simp only [go_sem,hlt,name_J1 s hs,hd,List.all_nil,Bool.true_and]
  | succ k ih =>
    intro i hk h0 hi
    rw [locale_name_L1_eq]
    have hl:i < s.length:=by omega
    have hlt:decide ((i:Int) < (s.length:Int)) = true:=by simp; omega
    have hw:IntKind.i64.wrap ((i:Int) + 1) = ((i + 1:Nat):Int):=by rw [wrap64 (by omega) (by omega)]; omega
    have h0':((i:Int) == 0) = false:=by simp; omega
    simp only [go_sem,hlt,locale_name_J2_D_eq,aindexStr_of (List.getElem?_eq_getElem hl),nameD_next _ h0']
    rw [List.drop_eq_getElem_cons hl,List.all_cons]
    cases hb:inName s[i].toNat with
    | false=>simp only [go_sem,Bool.not_false,Bool.false_and]
    | true =>
      simp only [go_sem,Bool.not_true,Bool.true_and,locale_name_J3_eq,hw]
      exact ih (i + 1) (by omega) (by omega) (by omega)
theorem name_spec (s:List UInt8) (hs:s.length ≤ 4611686018427387904) (H:Hp):C_locale_name [.str s] H = some (.bool (nameS s),H):=by
  rw [F_locale_name_eq]
  unfold F_locale_name
  simp only [go_sem,alenD]
  cases s with
  | nil=>rw [locale_name_L1_eq]; simp [go_sem,name_J1 [] (by simp),nameS]
  | cons b l =>
    rw [locale_name_L1_eq]
    have hlt:decide ((0:Int) < ((b :: l).length:Int)) = true:=by simp
    have hw:IntKind.i64.wrap ((0:Int) + 1) = ((0 + 1:Nat):Int):=by decide
    have hidx:aindexStr (.str (b :: l)) (.int .i64 0) = some (.int .u8 b.toNat):=by simp [aindexStr]
    simp only [go_sem,hlt,locale_name_J2_D_eq,hidx,nameD_first]
    cases hb:(!inName b.toNat || digit b.toNat) with
    | true =>
      have:nameS (b :: l) = false:=by
        unfold nameS
        simp only [Bool.or_eq_true,Bool.not_eq_true'] at hb
        rcases hb with hb | hb <;> simp [hb]
      simp only [go_sem,this]
    | false =>
      simp only [Bool.or_eq_false_iff,Bool.not_eq_false'] at hb
      simp only [go_sem,locale_name_J3_eq,hw]
      rw [name_loop (b :: l) hs H H l.length 1 (by simp) (by omega) (by simp)]
      have:nameS (b :: l) = (((b :: l).drop 1).all (fun c=>inName c.toNat) && (!(b :: l).isEmpty && decide ((b :: l).length ≤ 32))):=by
        unfold nameS
        simp only [hb.1,hb.2,List.all_cons,List.drop_one,List.tail_cons,List.isEmpty_cons,Bool.not_false,Bool.true_and,Bool.and_true]
        rw [Bool.and_comm]
      rw [this]
theorem rname_loop (s : List UInt8) (hs : s.length ≤ 4611686018427387904) (H0 H : Hp) : ∀ (k i : Nat), s.length - i = k → i ≤ s.length →
    R05_IsName_L1 (.str s) (.int .i64 i) H0 H = some (.bool ((s.drop i).all fun c=>inName c.toNat),H):=by
  intro k
  induction k with
  | zero =>
    intro i hk hi
    rw [R05_IsName_L1_eq]
    have hlt:decide ((i:Int) < (s.length:Int)) = false:=by simp; omega
    have hd:s.drop i = []:=List.drop_eq_nil_iff.2 (by omega)
    simp only [go_sem,alenD,hlt,R05_IsName_J2_eq,hd,List.all_nil]
  | succ k ih =>
    intro i hk hi
    rw [R05_IsName_L1_eq]
    have hl:i < s.length:=by omega
    have hlt:decide ((i:Int) < (s.length:Int)) = true:=by simp; omega
    have hw:IntKind.i64.wrap ((i:Int) + 1) = ((i + 1:Nat):Int):=by rw [wrap64 (by omega) (by omega)]; omega
    simp only [go_sem,alenD,hlt,R05_IsName_J3_D_eq,aindexStr_of (List.getElem?_eq_getElem hl),rnameD_ok]
    rw [List.drop_eq_getElem_cons hl,List.all_cons]
    cases hb:inName s[i].toNat with
    | false=>simp only [go_sem,Bool.not_false,Bool.false_and]
    | true =>
      simp only [go_sem,Bool.not_true,Bool.true_and,R05_IsName_J4_eq,hw]
      exact ih (i + 1) (by omega) (by omega)
theorem rname_spec (s:List UInt8) (hs:s.length ≤ 4611686018427387904) (H:Hp):C_R05_IsName [.str s] H = some (.bool (nameS s),H):=by
  rw [F_R05_IsName_eq]
  unfold F_R05_IsName
  simp only [go_sem,alenD]
  cases s with
  | nil=>simp [go_sem,nameS]
  | cons b l =>
    have h0:((((b :: l).length:Nat):Int) == 0) = false:=by simp; omega
    have hidx:aindexStr (.str (b :: l)) (.int .i64 0) = some (.int .u8 b.toNat):=by simp [aindexStr]
    simp only [go_sem,h0]
    by_cases h32:32 < (b :: l).length
    · have c1:decide ((32:Int) < ((b :: l).length:Int)) = true:=by simp at h32 ⊢; omega
      have : nameS (b :: l) = false := by unfold nameS; have : decide ((b :: l).length ≤ 32) = false := by simp at h32 ⊢; omega
                                          rw [this]; rfl
      simp only [go_sem,c1,this]
    · have c1:decide ((32:Int) < ((b :: l).length:Int)) = false:=by simp at h32 ⊢; omega
      have c2:decide ((b :: l).length ≤ 32) = true:=by simp at h32 ⊢; omega
      have hl:=rname_loop (b :: l) hs H H (b :: l).length 0 (by simp) (by omega)
      rw [show ((0:Nat):Int) = 0 from rfl,List.drop_zero] at hl
      have hn:nameS (b :: l) = (!digit b.toNat && (b :: l).all fun c=>inName c.toNat):=by unfold nameS; simp only [c2,Bool.true_and]
      simp only [go_sem,c1,hidx,R05_IsName_J1_eq,hl,hn]
      have e1:decide ((48:Int) ≤ (b.toNat:Int)) = decide (48 ≤ b.toNat):=by rw [Bool.eq_iff_iff]; simp; omega
      have e2:decide ((b.toNat:Int) ≤ (57:Int)) = decide (b.toNat ≤ 57):=by rw [Bool.eq_iff_iff]; simp; omega
      unfold digit
      simp only [e1,e2]
      cases h48:decide (48 ≤ b.toNat) with
      | false=>simp only [go_sem,Bool.false_and,Bool.not_false,Bool.true_and]
      | true =>
        cases h57:decide (b.toNat ≤ 57) with
        | false=>simp only [go_sem,hidx,e2,h57,Bool.true_and,Bool.not_false]
        | true=>simp only [go_sem,hidx,e2,h57,Bool.true_and,Bool.not_true,Bool.false_and]
theorem name_flat (s:List UInt8) (hs:s.length ≤ 4611686018427387904) (H:Hp):flatC C_locale_name [.str s] H = some (.bool (nameS s),H):=flat1 rfl (name_spec s hs []) rfl
theorem rname_flat (s:List UInt8) (hs:s.length ≤ 4611686018427387904) (H:Hp):flatC C_R05_IsName [.str s] H = some (.bool (nameS s),H):=flat1 rfl (rname_spec s hs []) rfl
end Go.Am
namespace Go.Am
set_option linter.unusedSimpArgs false
set_option linter.unusedVariables false
set_option linter.unusedSectionVars false
set_option maxRecDepth 100000

theorem Read_run {H : Hp} {o : Nat} {s : Sto} {A : List Nat} (h : StoreAt H o s A) (hk : StoOk s) (n : Txt) (i k : Int) (hi : -9223372036854775808 ≤ i ∧ i ≤ 9223372036854775807) :
    ∃ H',C_store_Store_Read [.ptr o 0,.str n,.int .i64 i,.int .i64 k] H = some (.tuple [.str (s.read n i k).1,.int .i64 (s.read n i k).2],H') ∧ StoRes H H' o s.tick A A:=by
  obtain ⟨m,clk,ds,h,rfl⟩:=h
  obtain ⟨p,e,H1,q1,q2,q3,q4⟩:=open_run h hk.count n
  rw [F_store_Store_Read_eq]
  unfold F_store_Store_Read Sto.read
  rcases q4 with ⟨c1,rfl⟩ | ⟨c1,c2,rfl⟩ | ⟨c1,rfl,a,d,b,rfl,c3,c4,c5,rfl⟩
  · have e1:((19:Int) != 0) = true:=rfl
    rw [if_pos c1]
    exact ⟨H1,by simp only [q1,go_sem,List.getElem?_cons_zero,List.getElem?_cons_succ,e1],q2.res q3⟩
  · have e1:((5:Int) != 0) = true:=rfl
    rw [if_neg (by simp [c1]),c2]
    exact ⟨H1,by simp only [q1,go_sem,List.getElem?_cons_zero,List.getElem?_cons_succ,e1],q2.res q3⟩
  · have e1:((0:Int) != 0) = false:=rfl
    rw [if_neg (by simp [c1]),c5]
    obtain ⟨k1,hd,k3,k4⟩:=q2.mid
    have m0:=ld hd.cells 0 (v:=d.tx) rfl
    have hlen:=hd.text.len 5
    have hfile:usedL s.files = usedL (a.map FD.fil) + (d.fil.text.length + usedL (b.map FD.fil)):=by
      rw [← h.files,List.map_append,List.map_cons,usedL_mid]
    have hused:=hk.used
    have hlim:=hk.limit
    refine ⟨H1,?_,q2.res q3⟩
    simp only [q1,go_sem,List.getElem?_cons_zero,List.getElem?_cons_succ,e1,store_Store_Read_J1_eq]
    by_cases hi0:i < 0
    · simp only [decide_eq_true hi0,go_sem,if_pos (show i < 0 ∨ (d.fil.text.length:Int) < i ∨ k < 0 from .inl hi0)]
    by_cases hi1:(d.fil.text.length:Int) < i
    · simp only [decide_eq_false hi0,go_sem,m0,hlen,decide_eq_true hi1,if_pos (show i < 0 ∨ (d.fil.text.length:Int) < i ∨ k < 0 from .inr (.inl hi1))]
    by_cases hk0:k < 0
    · simp only [decide_eq_false hi0,go_sem,m0,hlen,decide_eq_false hi1,decide_eq_true hk0,if_pos (show i < 0 ∨ (d.fil.text.length:Int) < i ∨ k < 0 from .inr (.inr hk0))]
    have hno:¬ (i < 0 ∨ (d.fil.text.length:Int) < i ∨ k < 0):=by omega
    have hw1:IntKind.i64.wrap ((d.fil.text.length:Int) - i) = (d.fil.text.length:Int) - i:=wrap64 (by omega) (by omega)
    have hw2:IntKind.i64.wrap (i + min k ((d.fil.text.length:Int) - i)) = ((i.toNat + min k.toNat (d.fil.text.length - i.toNat):Nat):Int):=by rw [wrap64 (by omega) (by omega)]; omega
    obtain ⟨y,p1,p2⟩:=hd.text.part (i:=i.toNat) (j:=i.toNat + min k.toNat (d.fil.text.length - i.toNat)) (by omega) (by omega) H1
    have hii:((i.toNat:Nat):Int) = i:=by omega
    rw [hii] at p1
    have htx:(d.fil.text.take (i.toNat + min k.toNat (d.fil.text.length - i.toNat))).drop i.toNat = (d.fil.text.drop i.toNat).take k.toNat:=by
      rw [List.drop_take,Nat.add_sub_cancel_left]
      by_cases hlt:k.toNat ≤ d.fil.text.length - i.toNat
      · rw [Nat.min_eq_left hlt]
      · rw [Nat.min_eq_right (by omega),List.take_of_length_le (by simp),List.take_of_length_le (by simp; omega)]
    rw [htx] at p2
    simp only [decide_eq_false hi0,go_sem,m0,hlen,decide_eq_false hi1,decide_eq_false hk0,store_Store_Read_J2_eq,hw1,hw2,p1,p2,if_neg hno]

def fnameD (t13_9 x8 : AV) : Option AV :=
    bnd (ibin .geq t13_9 (.int .u8 97)) fun t15_10 =>
    bnd (gdv t15_10 true (.tuple []) (some t13_9)) fun t17_11 =>
    bnd (gdv t15_10 true (.tuple []) (ibin .leq t17_11 (.int .u8 122))) fun t18_12 =>
    bnd (apick t15_10 t18_12 (.bool false)) fun t19_13 =>
    bnd (gdv t19_13 false (.tuple []) (some t13_9)) fun t21_14 =>
    bnd (gdv t19_13 false (.tuple []) (ibin .geq t21_14 (.int .u8 65))) fun t22_15 =>
    bnd (gdv t19_13 false (.tuple []) (some t22_15)) fun t23_16 =>
    bnd (gdv t23_16 true (.tuple []) (some t13_9)) fun t24_17 =>
    bnd (gdv t23_16 true (.tuple []) (ibin .leq t24_17 (.int .u8 90))) fun t25_18 =>
    bnd (gdv t19_13 false (.tuple []) (apick t23_16 t25_18 (.bool false))) fun t26_19 =>
    bnd (apick t19_13 (.bool true) t26_19) fun t27_20 =>
    bnd (gdv t27_20 false (.tuple []) (some t13_9)) fun t29_21 =>
    bnd (gdv t27_20 false (.tuple []) (ibin .eql t29_21 (.int .u8 95))) fun t30_22 =>
    bnd (apick t27_20 (.bool true) t30_22) fun t31_23 =>
    bnd (gdv t31_23 false (.tuple []) (some t13_9)) fun t33_24 =>
    bnd (gdv t31_23 false (.tuple []) (ibin .eql t33_24 (.int .u8 46))) fun t34_25 =>
    bnd (apick t31_23 (.bool true) t34_25) fun t35_26 =>
    bnd (aun .not t35_26) fun t37_27 =>
    bnd (gdv t37_27 true (.tuple []) (some x8)) fun t39_28 =>
    bnd (gdv t37_27 true (.tuple []) (ibin .eql t39_28 (.int .i64 0))) fun t40_29 =>
    bnd (gdv t37_27 true (.tuple []) (some t40_29)) fun t41_30 =>
    bnd (gdv t41_30 false (.tuple []) (some t13_9)) fun t42_31 =>
    bnd (gdv t41_30 false (.tuple []) (ibin .lss t42_31 (.int .u8 48))) fun t43_32 =>
    bnd (gdv t37_27 true (.tuple []) (apick t41_30 (.bool true) t43_32)) fun t44_33 =>
    bnd (gdv t37_27 true (.tuple []) (some t44_33)) fun t45_34 =>
    bnd (gdv t45_34 false (.tuple []) (some t13_9)) fun t46_35 =>
    bnd (gdv t45_34 false (.tuple []) (ibin .gtr t46_35 (.int .u8 57))) fun t47_36 =>
    bnd (gdv t37_27 true (.tuple []) (apick t45_34 (.bool true) t47_36)) fun t48_37 =>
    bnd (apick t37_27 t48_37 (.bool false)) fun t49_38 =>
    some t49_38
theorem fname_J2_eq (x0 x7 x8 x9 : AV) (H0 H : Hp) : store_fileName_J2 x0 x7 x8 x9 H0 H =
    bnd (aindexStr x0 x8) fun t13_9 =>
    bnd (fnameD t13_9 x8) fun t49_38 =>
    cnd t49_38 (some ((.bool false),H)) (store_fileName_J3 x0 x7 x8 H0 H):=by
  rw [store_fileName_J2_eq]; simp only [fnameD,bnd_assoc,bnd_some]
theorem fnameD_all:((List.range 256).all fun n=>(boolOf (fnameD (.int .u8 (n:Int)) (.int .i64 1)) == some (!(letB (UInt8.ofNat n) || digB (UInt8.ofNat n)))) && (boolOf (fnameD (.int .u8 (n:Int)) (.int .i64 0)) == some (!letB (UInt8.ofNat n)))) = true:=by kernel_rfl
theorem fnameD_first (b:UInt8):fnameD (.int .u8 b.toNat) (.int .i64 0) = some (.bool (!letB b)):=by
  have h:=all_range fnameD_all (u8_lt b)
  simp only [Bool.and_eq_true,beq_iff_eq,UInt8.ofNat_toNat] at h
  exact boolOf_some h.2
theorem fnameD_next (b:UInt8) {i:Int} (hi:(i == 0) = false):fnameD (.int .u8 b.toNat) (.int .i64 i) = some (.bool (!(letB b || digB b))):=by
  have h:=all_range fnameD_all (u8_lt b)
  simp only [Bool.and_eq_true,beq_iff_eq,UInt8.ofNat_toNat] at h
  rw [← boolOf_some h.1]
  have e:ibin .eql (.int .i64 i) (.int .i64 0) = ibin .eql (.int .i64 1) (.int .i64 0):=by simp only [ibin,ashift,intbin,hi]; rfl
  unfold fnameD
  iterate 18 refine congrArg (bnd _) (funext fun t=>?_)
  cases t with
  | bool b =>
    cases b
    · rfl
    · simp only [gdv_tt,bnd_some,e]
  | _=>rfl
theorem fname_J1 (s:Txt) (H0 H:Hp):store_fileName_J1 (.str s) H0 H = some (.bool (!s.isEmpty && decide (s.length ≤ 32)),H):=by
  rw [store_fileName_J1_eq]
  cases s with
  | nil=>simp [go_sem,sbin,strbin]
  | cons b l =>
    simp only [sbin,strbin,go_sem,alenD]
    have:(!((b :: l) == ([]:Txt))) = true:=rfl
    have c:decide (((b :: l).length:Int) ≤ 32) = decide ((b :: l).length ≤ 32):=by rw [Bool.eq_iff_iff]; simp; omega
    simp only [this,go_sem,c,List.isEmpty_cons,Bool.not_false,Bool.true_and]
theorem fname_loop (s : Txt) (hs : s.length ≤ 1048576) (H0 H : Hp) : ∀ (k i : Nat), s.length - i = k → 0 < i → i ≤ s.length →
    store_fileName_L1 (.str s) (.int .i64 s.length) (.int .i64 i) H0 H = some (.bool (((s.drop i).all fun c=>letB c || digB c) && (!s.isEmpty && decide (s.length ≤ 32))),H):=by
  intro k
  induction k with
  | zero =>
    intro i hk h0 hi
    rw [store_fileName_L1_eq]
    have hlt:decide ((i:Int) < (s.length:Int)) = false:=by simp; omega
    have hd:s.drop i = []:=List.drop_eq_nil_iff.2 (by omega)
    simp only [go_sem,hlt,fname_J1 s,hd,List.all_nil,Bool.true_and]
  | succ k ih =>
    intro i hk h0 hi
    rw [store_fileName_L1_eq]
    have hl:i < s.length:=by omega
    have hlt:decide ((i:Int) < (s.length:Int)) = true:=by simp; omega
    have hw:IntKind.i64.wrap ((i:Int) + 1) = ((i + 1:Nat):Int):=by rw [wrap64 (by omega) (by omega)]; omega
    have h0':((i:Int) == 0) = false:=by simp; omega
    simp only [go_sem,hlt,fname_J2_eq,aindexStr_of (List.getElem?_eq_getElem hl),fnameD_next _ h0']
    rw [List.drop_eq_getElem_cons hl,List.all_cons]
    cases hb:(letB s[i] || digB s[i]) with
    | false=>simp only [go_sem,Bool.not_false,Bool.false_and]
    | true =>
      simp only [go_sem,Bool.not_true,Bool.true_and,store_fileName_J3_eq,hw]
      exact ih (i + 1) (by omega) (by omega) (by omega)
theorem fname_flat (s:Txt) (hs:s.length ≤ 1048576) (H:Hp):flatC C_store_fileName [.str s] H = some (.bool (nameB s),H):=by
  refine flat1 (a':=.str s) rfl (H1:=[]) ?_ rfl
  rw [F_store_fileName_eq]
  unfold F_store_fileName
  simp only [go_sem,alenD]
  cases s with
  | nil=>rw [store_fileName_L1_eq]; simp [go_sem,fname_J1 [],nameB]
  | cons b l =>
    rw [store_fileName_L1_eq]
    have hlt:decide ((0:Int) < ((b :: l).length:Int)) = true:=by simp
    have hw:IntKind.i64.wrap ((0:Int) + 1) = ((0 + 1:Nat):Int):=by decide
    have hidx:aindexStr (.str (b :: l)) (.int .i64 0) = some (.int .u8 b.toNat):=by simp [aindexStr]
    simp only [go_sem,hlt,fname_J2_eq,hidx,fnameD_first]
    unfold nameB
    cases hb:letB b with
    | false=>simp only [go_sem,Bool.not_false,hb,Bool.false_and]
    | true =>
      have:=fname_loop (b :: l) hs [] [] l.length 1 (by simp) (by omega) (by simp)
      rw [show ((1:Nat):Int) = ((0 + 1:Nat):Int) from rfl] at this
      simp only [go_sem,Bool.not_true,store_fileName_J3_eq,hw,this]
      simp only [List.drop_one,List.tail_cons,List.isEmpty_cons,Bool.not_false,Bool.true_and,hb]
theorem len_map {H:Hp} {m clk:Nat} {es:List (AV × AV × Nat)} (h:H[m]? = some (.map es clk)):alenM (.map m) H = some (.int .i64 (es.length:Int)):=by
  unfold alenM entries
  dsimp only
  rw [h]
theorem Create_run {H : Hp} {o : Nat} {s : Sto} {A : List Nat} (h : StoreAt H o s A) (hk : StoOk s) (n : Txt) (hn : n.length ≤ 1048576) :
    ∃ H' A',C_store_Store_Create [.ptr o 0,.str n] H = some (.int .i64 (s.create n).1,H') ∧ StoRes H H' o (s.create n).2 A A':=by
  obtain ⟨m,clk,ds,h,rfl⟩:=h
  obtain ⟨H1,q1,q2,q3⟩:=begin_run h hk.count
  have hfn:=fname_flat n hn H1
  have hc:H1[o]? = some (.cells (stC m s.tick)):=q2.cells
  have l3:=ld hc 3 (v:=.map m) rfl
  have hlk:=q2.look n
  rw [tick_files] at hlk
  have hlm:=len_map q2.map
  have hdl:(ds.map FD.ent).length = s.files.length:=by rw [List.length_map,← h.files,List.length_map]
  rw [hdl] at hlm
  rw [F_store_Store_Create_eq]
  unfold F_store_Store_Create Sto.create
  cases hcr:s.tick.crashed with
  | true =>
    rw [hcr] at q1
    rw [if_pos rfl]
    exact ⟨H1,_,by simp only [go_sem,q1],q2.res q3⟩
  | false =>
    rw [hcr] at q1
    rw [if_neg (by simp)]
    cases hnb:nameB n with
    | false =>
      rw [hnb] at hfn
      rw [if_pos rfl]
      exact ⟨H1,_,by simp only [go_sem,q1,hfn,Bool.not_false],q2.res q3⟩
    | true =>
      rw [hnb] at hfn
      rw [if_neg (by simp)]
      rcases hlk with ⟨k1,k2⟩ | ⟨a,d,b,k1,k2,k3,k4,k5⟩
      · rw [k1]
        by_cases h64:64 ≤ s.files.length
        · have e1:decide ((64:Int) ≤ (s.files.length:Int)) = true:=by rw [decide_eq_true_eq]; omega
          simp only [if_pos h64]
          exact ⟨H1,_,by simp only [go_sem,q1,hfn,Bool.not_true,l3,k2,hlm,e1],q2.res q3⟩
        · have e1:decide ((64:Int) ≤ (s.files.length:Int)) = false:=by simp; omega
          have e2:ebin (.map 9 129) .eql (.map m) .nilm = some (.bool false):=rfl
          have hbx:abox (.agg [.nils,.int .i64 0]) H1 = some (.ptr H1.length 0,H1 ++ [.cells [.nils,.int .i64 0]]):=rfl
          have hm2:(H1 ++ [AObj.cells [.nils,.int .i64 0]])[m]? = some (.map (ds.map FD.ent) clk):=get_push q2.map _
          have hset:amapSet .string (.map m) (.str n) (.ptr H1.length 0) (H1 ++ [AObj.cells [.nils,.int .i64 0]]) = some (.tuple [],(H1 ++ [AObj.cells [.nils,.int .i64 0]]).set m (.map (ds.map FD.ent ++ [(.str n,.ptr H1.length 0,clk)]) (clk + 1))):=by
            have hkk:keyOk .string (.str n) = true:=rfl
            unfold amapSet
            dsimp only
            rw [hm2]
            dsimp only
            rw [if_pos hkk,findK_none ds n 0 (by rw [h.files]; exact k1)]
          simp only [if_neg h64]
          have hmlt:=lt_of_get q2.map
          have holt:=lt_of_get hc
          have hS:Stp [o,m] H1 ((H1 ++ [AObj.cells [.nils,.int .i64 0]]).set m (.map (ds.map FD.ent ++ [(.str n,.ptr H1.length 0,clk)]) (clk + 1))) :=
            (Stp.push (A:=[o,m]) H1 _).trans (Stp.set _ _ (by simp)) (fun _ h=>h) fun _ h=>.inl h
          have hfile:∀ d ∈ ds,FileAt ((H1 ++ [AObj.cells [.nils,.int .i64 0]]).set m (.map (ds.map FD.ent ++ [(.str n,.ptr H1.length 0,clk)]) (clk + 1))) d:=fun d hd=>(q2.file d hd).frame fun y hy=>by
            have:=q2.own_lt hd hy
            exact hS.at' y ((q2.file d hd).lt y hy) (by simp [this.1,this.2])
          have hlt:=q2.lt
          have hrun:=ld (get_push hc [AObj.cells [.nils,.int .i64 0]]) 3 (show (stC m s.tick)[3]? = some (.map m) from rfl)
          refine ⟨(H1 ++ [AObj.cells [.nils,.int .i64 0]]).set m (.map (ds.map FD.ent ++ [(.str n,.ptr H1.length 0,clk)]) (clk + 1)),o :: m :: (ds ++ [FD.mk ⟨n,[],0⟩ H1.length .nils clk]).flatMap FD.own,?_,⟨⟨m,clk + 1,ds ++ [⟨⟨n,[],0⟩,H1.length,.nils,clk⟩],⟨?_,?_,?_,?_,?_,?_⟩,rfl⟩,?_,?_⟩⟩
          · simp only [go_sem,q1,hfn,Bool.not_true,l3,k2,hlm,e1,store_Store_Create_J1_eq,e2,store_Store_Create_J2_eq,hbx,hset]
          · show _ = s.files ++ [_]
            rw [List.map_append,h.files]; rfl
          · rw [get_set_ne _ h.om.symm (get_push hc _)]
            simp only [stC,usedL_app,usedL,tick_files]
            rfl
          · rw [get_set_eq _ hm2]; simp [FD.ent]
          · intro d hd
            rcases List.mem_append.1 hd with hd | hd
            · exact hfile d hd
            · rw [List.mem_singleton.1 hd]
              exact ⟨get_set_ne _ (by show m ≠ H1.length; omega) (by simp),.inl ⟨rfl,rfl⟩⟩
          · rw [List.flatMap_append]
            have h0:=h.nd
            have hx:(o :: m :: ds.flatMap FD.own) ++ [H1.length] = o :: m :: (ds.flatMap FD.own ++ [FD.mk ⟨n,[],0⟩ H1.length .nils clk].flatMap FD.own):=by simp [FD.own,tokA]
            rw [← hx,List.nodup_append]
            refine ⟨h0,by simp,fun x hx y hy=>?_⟩
            rw [List.mem_singleton.1 hy]
            have:=hlt x hx
            omega
          · obtain ⟨b1,b2⟩:=h.born
            refine ⟨?_,fun d hd=>?_⟩
            · rw [List.map_append,List.nodup_append]
              refine ⟨b1,by simp,fun x hx y hy=>?_⟩
              obtain ⟨d,hd,rfl⟩:=List.mem_map.1 hx
              have:=b2 d hd
              simp at hy
              omega
            · rcases List.mem_append.1 hd with hd | hd
              · have:=b2 d hd; omega
              · rw [List.mem_singleton.1 hd]; simp
          · refine (q3.trans hS (C:=o :: m :: ds.flatMap FD.own) (fun x hx=>by rw [List.mem_singleton.1 hx]; simp) fun x hx=>.inl ?_)
            simp at hx
            rcases hx with e | e <;> subst e <;> simp
          · intro x hx
            rcases List.mem_cons.1 hx with e | hx
            · subst e; exact .inl (by simp)
            rcases List.mem_cons.1 hx with e | hx
            · subst e; exact .inl (by simp)
            rw [List.flatMap_append] at hx
            rcases List.mem_append.1 hx with hx | hx
            · exact .inl (by simp [hx])
            · have hx2:x = H1.length:=by simpa [FD.own,tokA] using hx
              rw [hx2]
              exact .inr q3.len
      · rw [k4]
        exact ⟨H1,_,by simp only [go_sem,q1,hfn,Bool.not_true,l3,k5],q2.res q3⟩
end Go.Am
namespace Go.Am
set_option linter.unusedSimpArgs false
set_option linter.unusedVariables false
set_option linter.unusedSectionVars false
set_option maxRecDepth 100000

def listF (l:List Fil):List Fil:=(sortK (l.map Fil.name)).filterMap (getF l)
def filAV (f:Fil):AV:=.agg [.str f.name,.int .i64 (f.text.length:Int),.int .i64 (f.syn:Int)]
theorem strKs_ent:∀ ds:List FD,strKs (ds.map FD.ent) = some (ds.map fun d=>d.fil.name):=by
  intro ds
  induction ds with
  | nil=>rfl
  | cons d ds ih=>rw [List.map_cons,FD.ent,strKs,ih]; rfl
theorem freshB_of:∀ l:List Txt,l.Nodup → freshB l = true:=by
  intro l
  induction l with
  | nil=>intro _; rfl
  | cons s r ih =>
    intro h
    obtain ⟨h1,h2⟩:=List.nodup_cons.1 h
    simp only [freshB,Bool.and_eq_true,List.all_eq_true]
    refine ⟨fun t ht=>?_,ih h2⟩
    have:t ≠ s:=fun e=>h1 (e ▸ ht)
    simp [this]
theorem bornB_of (c:Nat):∀ l:List Nat,l.Nodup → (∀ n ∈ l,n < c) → bornB c l = true:=by
  intro l
  induction l with
  | nil=>intro _ _; rfl
  | cons s r ih =>
    intro h hc
    obtain ⟨h1,h2⟩:=List.nodup_cons.1 h
    simp only [bornB,Bool.and_eq_true,List.all_eq_true,decide_eq_true_eq]
    refine ⟨hc s (by simp),fun t ht=>?_,ih h2 fun n hn=>hc n (by simp [hn])⟩
    have:t ≠ s:=fun e=>h1 (e ▸ ht)
    simp [this]
theorem name_len {n:Txt} (h:nameB n = true):n.length ≤ 32:=by
  unfold nameB at h
  rw [Bool.and_eq_true,decide_eq_true_eq] at h
  exact h.2
theorem names_run {H:Hp} {o m clk:Nat} {ds:List FD} {s:Sto} (h:StAt H o m clk ds s) (hk:StoOk s):∃ x,namesE.run [.ptr o 0] H = some (x,H) ∧ SS x (sortK (s.files.map Fil.name)):=by
  have hnm:ds.map (fun d=>d.fil.name) = s.files.map Fil.name:=by rw [← h.files,List.map_map]; rfl
  have hv:namesOf H o = some (namesV (s.files.map Fil.name)):=by
    unfold namesOf
    rw [h.cells]
    dsimp only
    rw [show ([AV.int .i64 (s.limit:Int),.int .i64 (usedL s.files:Int),.int .i64 (s.peak:Int),.map m,.bool s.crashed,.int .i64 (s.count:Int)])[3]? = some (.map m) from rfl]
    dsimp only
    rw [h.map]
    dsimp only
    rw [strKs_ent,hnm]
    dsimp only
    rw [if_pos]
    have hb:=bornB_of clk _ h.born.1 fun n hn=>by
      obtain ⟨d,hd,rfl⟩:=List.mem_map.1 hn
      exact h.born.2 d hd
    have he:(ds.map FD.ent).map (·.2.2) = ds.map FD.born:=by rw [List.map_map]; rfl
    rw [he,hb,freshB_of _ hk.nd]
    simp only [Bool.true_and,Bool.and_eq_true,List.all_eq_true,decide_eq_true_eq,List.length_map]
    refine ⟨fun t ht=>?_,by have:=hk.len; omega⟩
    obtain ⟨f,hf,rfl⟩:=List.mem_map.1 ht
    have:=name_len (hk.name f hf)
    omega
  refine ⟨namesV (s.files.map Fil.name),?_,?_⟩
  · show (namesOf H o).map (·,H) = _
    rw [hv]; rfl
  · unfold namesV
    split
    · rename_i hn; exact .inl ⟨rfl,by rw [hn]; rfl⟩
    · rename_i s0 r hn; exact .inr ⟨.no,by rw [hn]⟩
theorem Keep.stp {H H':Hp} (h:Keep H.length H H') (hl:H.length ≤ H'.length) (A:List Nat):Stp A H H':=⟨hl,fun a ha _=>h a ha⟩
theorem list_loop {H0 : Hp} {o m clk : Nat} {ds : List FD} {s : Sto} (h : StAt H0 o m clk ds s) (hk : StoOk s) {x : AV} {ns : List Txt} (hx : SS x ns) (hns : ∀ n ∈ ns, ∃ f, getF s.files n = some f) (hl : ns.length ≤ 64) (HB : Hp) : ∀ (r d : List Txt) (x3 : AV) (H : Hp), ns = d ++ r →
    RowN H0.length H 3 x3 ((d.filterMap (getF s.files)).map filAV) → Keep H0.length H0 H → H0.length ≤ H.length →
    ∃ y H',store_Store_List_L1 (.ptr o 0) x3 x (.int .i64 (ns.length:Int)) (.int .i64 (d.length:Int)) HB H = some (y,H') ∧ RowN H0.length H' 3 y ((ns.filterMap (getF s.files)).map filAV) ∧ Keep H0.length H0 H' ∧ H0.length ≤ H'.length:=by
  intro r
  induction r with
  | nil =>
    intro d x3 H hd h3 hK hlen
    rw [List.append_nil] at hd
    subst hd
    have hlt:decide ((ns.length:Int) < (ns.length:Int)) = false:=by simp
    rw [store_Store_List_L1_eq]
    simp only [go_sem,hlt,store_Store_List_J2_eq]
    exact ⟨_,_,rfl,h3,hK,hlen⟩
  | cons n r ih =>
    intro d x3 H hd h3 hK hlen
    have hlen2:ns.length = d.length + (r.length + 1):=by rw [hd]; simp
    have hlt:decide ((d.length:Int) < (ns.length:Int)) = true:=by simp; omega
    have hw1:IntKind.i64.wrap ((d.length:Int) + 1) = ((d.length + 1:Nat):Int):=by rw [wrap64 (by omega) (by omega)]; omega
    have hin:ns[d.length]? = some n:=by rw [hd,List.getElem?_append_right (Nat.le_refl _)]; simp
    have hidx:=SS.idx hx hin
    have hat:StAt H o m clk ds s:=h.frame fun a ha=>hK a (h.lt a ha)
    obtain ⟨f,hf⟩:=hns n (by rw [hd]; simp)
    have l3:=ld hat.cells 3 (v:=.map m) rfl
    rcases hat.look n with ⟨k,_⟩ | ⟨a',d',b',k5,k6,k7,k8,k9⟩
    · rw [hf] at k; cases k
    · have hfd:=hat.file d' (by rw [k5]; simp)
      have hfe:f = d'.fil:=by rw [hf] at k8; injection k8
      have m0:=ld hfd.cells 0 (v:=d'.tx) rfl
      have m1:=ld hfd.cells 1 (v:=.int .i64 (d'.fil.syn:Int)) rfl
      have hlen3:=hfd.text.len 5
      have hfill:(afill [(0,1,.str n),(1,1,.int .i64 (d'.fil.text.length:Int)),(2,1,.int .i64 (d'.fil.syn:Int))] [(.str []),(.int .i64 0),(.int .i64 0)]).map AV.agg = some (filAV d'.fil):=by rw [← k6]; rfl
      have hone:(setElems 3 [(0,filAV d'.fil)] [(.agg [(.str []),(.int .i64 0),(.int .i64 0)])]).map (AV.vs 3 .clip) = some (.vs 3 .clip [filAV d'.fil]):=rfl
      have hdl:(d.filterMap (getF s.files)).length ≤ d.length:=List.length_filterMap_le _ _
      obtain ⟨x',H1,q1,q2,q3,q4,_⟩:=h3.app hlen 32 (.vs 3 .clip [filAV d'.fil]) [filAV d'.fil] rfl (by simp; omega)
      obtain ⟨y,H',p1,p2,p3,p4⟩:=ih (d ++ [n]) x' H1 (by rw [hd]; simp) (by rw [List.filterMap_append,List.map_append]; simpa [hf,hfe] using q2) (hK.trans q4) q3
      rw [List.length_append,List.length_singleton] at p1
      refine ⟨y,H',?_,p2,p3,p4⟩
      rw [store_Store_List_L1_eq]
      simp only [go_sem,hlt,store_Store_List_J3_eq,hidx,aload_vpc,l3,k9,m0,m1,hlen3,hfill,hone,q1,store_Store_List_J4_eq,hw1]
      exact p1
theorem sortK_mem (l:List Txt) (n:Txt):n ∈ sortK l ↔ n ∈ l:=(sortK_perm l).mem_iff
theorem getF_mem {l:List Fil} {n:Txt} (h:n ∈ l.map Fil.name):∃ f,getF l n = some f:=by
  cases hg:getF l n with
  | some f=>exact ⟨f,rfl⟩
  | none =>
    obtain ⟨f,hf,rfl⟩:=List.mem_map.1 h
    exact absurd rfl (getF_none.1 hg f hf)
theorem closeV_filAV (H:Hp) (n f:Nat) (x:Fil):closeV H n (f + 2) (filAV x) = some (filAV x):=rfl
theorem mapM_fil (H:Hp) (n f:Nat):∀ l:List Fil,(l.map filAV).mapM (closeV H n (f + 2)) = some (l.map filAV):=by
  intro l
  induction l with
  | nil=>rfl
  | cons a l ih=>rw [List.map_cons,List.mapM_cons,closeV_filAV,ih]; rfl
theorem roC_of {f:List AV → Hp → Res} {args:List AV} {H H1:Hp} {v v':AV} (hc:f args H = some (v,H1)) (hK:Keep H.length H H1) (hl:H.length ≤ H1.length) (hv:closeV H1 H.length 6 v = some v'):roC f args H = some (v',H):=by
  have ht:H1.take H.length = H:=by
    apply List.ext_getElem?
    intro i
    by_cases hi:i < H.length
    · rw [List.getElem?_take_of_lt hi,hK i hi]
    · rw [List.getElem?_eq_none (by simp; omega),List.getElem?_eq_none (by omega)]
  unfold roC
  rw [hc]
  dsimp only
  rw [ht,if_pos (eqbH_refl _),hv]
theorem List_ro {H:Hp} {o:Nat} {s:Sto} {A:List Nat} (h:StoreAt H o s A) (hk:StoOk s):∃ x,roC C_store_Store_List [.ptr o 0] H = some (x,H) ∧ Sl 3 x ((listF s.files).map filAV):=by
  obtain ⟨m,clk,ds,h,rfl⟩:=h
  obtain ⟨x,q1,q2⟩:=names_run h hk
  have hnl:(sortK (s.files.map Fil.name)).length ≤ 64:=by rw [(sortK_perm _).length_eq,List.length_map]; exact hk.len
  obtain ⟨y,H1,p1,p2,p3,p4⟩:=list_loop h hk q2 (fun n hn=>getF_mem ((sortK_mem _ _).1 hn)) hnl H _ [] .nils H rfl (.inl ⟨rfl,rfl⟩) (Keep.refl _ _) (Nat.le_refl _)
  have hrun:C_store_Store_List [.ptr o 0] H = some (y,H1):=by
    rw [F_store_Store_List_eq]
    unfold F_store_Store_List
    simp only [go_sem,store_Store_List_J1_eq,q1,SS.len q2 9]
    exact p1
  rcases p2 with ⟨rfl,hn⟩ | ⟨t,e,rfl,ht,hnt⟩
  · exact ⟨.nils,roC_of hrun p3 p4 rfl,.inl ⟨rfl,hn⟩⟩
  · refine ⟨.vs 3 (if t < H.length then .own t e else .no) ((listF s.files).map filAV),roC_of hrun p3 p4 (by rw [closeV_vs',mapM_fil]; rfl),.inr ⟨_,rfl⟩⟩
theorem New_run (n:Int) (hn:-9223372036854775808 ≤ n ∧ n ≤ 9223372036854775807) (H:Hp):∃ H',C_store_New [.int .i64 n] H = some (.ptr (H.length + 1) 0,H') ∧ StoreAt H' (H.length + 1) ⟨(min (max n 0) 262144).toNat,0,[],false,0⟩ [H.length + 1,H.length] ∧ H' = H ++ [.map [] 0,.cells [.int .i64 (min (max n 0) 262144),.int .i64 0,.int .i64 0,.map H.length,.bool false,.int .i64 0]]:=by
  have hf:(afill [(0,1,.int .i64 (min (max n 0) 262144)),(3,1,.map H.length)] [(.int .i64 0),(.int .i64 0),(.int .i64 0),.nilm,(.bool false),(.int .i64 0)]).map AV.agg = some (.agg [.int .i64 (min (max n 0) 262144),.int .i64 0,.int .i64 0,.map H.length,.bool false,.int .i64 0]):=rfl
  have hb:∀ l:List AV,abox (.agg l) (H ++ [.map [] 0]) = some (.ptr (H.length + 1) 0,H ++ [.map [] 0] ++ [.cells l]):=fun l=>by rw [abox_of rfl]; simp [AV.cells]
  refine ⟨_,?_,⟨H.length,0,[],⟨rfl,?_,?_,by simp,by simp,by simp,by simp⟩,rfl⟩,rfl⟩
  · rw [F_store_New_eq]
    unfold F_store_New
    simp only [go_sem,hf,hb,List.append_assoc,List.cons_append,List.nil_append]
  · have:((min (max n 0) 262144).toNat:Int) = min (max n 0) 262144:=by omega
    simp [usedL,this]
  · simp
end Go.Am
namespace Go.Am
set_option linter.unusedSimpArgs false
set_option linter.unusedVariables false
set_option maxRecDepth 100000

def chkL {α:Type} (bad:α → Option Int) (key:α → List UInt8):List α → List (List UInt8) → Int
  | [],_=>0
  | c :: r,seen=>match bad c with
    | some e=>e
    | none=>if seen.contains (key c) then 6 else chkL bad key r (seen ++ [key c])
theorem chkL_cons {α : Type} (bad : α → Option Int) (key : α → List UInt8) (c : α) (r : List α) (seen : List (List UInt8)) : chkL bad key (c :: r) seen = match bad c with
    | some e=>e
    | none=>if seen.contains (key c) then 6 else chkL bad key r (seen ++ [key c]):=(Eq.refl _).trans (Eq.refl _)

def MapS (es:List (AV × AV × Nat)) (seen:List (List UInt8)):Prop:=es.map (fun e=>(e.1,e.2.1)) = seen.map fun s=>(AV.str s,AV.bool true)
theorem findK_seen (k : List UInt8) : ∀ (es : List (AV × AV × Nat)) (seen : List (List UInt8)) (i : Nat), MapS es seen →
    if seen.contains k then ∃ j,findK (.str k) es i = some (some (j,.bool true)) else findK (.str k) es i = some none:=by
  intro es
  induction es with
  | nil =>
    intro seen i h
    cases seen with
    | nil=>simp [findK]
    | cons s r=>simp [MapS] at h
  | cons e es ih =>
    intro seen i h
    cases seen with
    | nil=>simp [MapS] at h
    | cons s r =>
      obtain ⟨a,b,c⟩:=e
      simp only [MapS,List.map_cons,List.cons.injEq,Prod.mk.injEq] at h
      obtain ⟨⟨rfl,rfl⟩,h2⟩:=h
      have:=ih r (i + 1) h2
      simp only [findK,keySame,List.contains_cons]
      cases hk:(k == s) with
      | true=>simp
      | false=>simpa using this
theorem seen_look {H : Hp} {m : Nat} {es : List (AV × AV × Nat)} {c : Nat} {seen : List (List UInt8)} (hm : H[m]? = some (.map es c)) (hs : MapS es seen) (k : List UInt8) :
    alookup .string (.bool false) false (.map m) (.str k) H = some (.bool (seen.contains k)):=by
  have h:=findK_seen k es seen 0 hs
  unfold alookup
  simp only [keyOk,if_true,entries,hm]
  cases hk:seen.contains k with
  | true =>
    rw [hk] at h
    obtain ⟨j,hj⟩:=h
    simp [hj]
  | false =>
    rw [hk] at h
    simp at h
    simp [h]
theorem seen_set {H : Hp} {m : Nat} {es : List (AV × AV × Nat)} {c : Nat} {seen : List (List UInt8)} (hm : H[m]? = some (.map es c)) (hs : MapS es seen) {k : List UInt8} (hk : seen.contains k = false) :
    amapSet .string (.map m) (.str k) (.bool true) H = some (.tuple [],H.set m (.map (es ++ [(.str k,.bool true,c)]) (c + 1))) ∧ MapS (es ++ [(.str k,.bool true,c)]) (seen ++ [k]):=by
  have h:=findK_seen k es seen 0 hs
  rw [hk] at h
  simp at h
  constructor
  · unfold amapSet
    simp only [hm,keyOk,if_true,h]
  · unfold MapS at hs ⊢
    simp [hs]

theorem afield_vpz (l:List AV):afield 0 (.vp l) = some (.vp l):=by simp [afield]
def clsAV (c:List UInt8 × List Int):AV:=.agg (.str c.1 :: c.2.map (.int .u64))
def clsBad (c:List UInt8 × List Int):Option Int:=if nameS c.1 then none else some 4
def clsS (l:List (List UInt8 × List Int)):Int:=if 24 < l.length then 3 else chkL clsBad Prod.fst l []
def ClsOk (l:List (List UInt8 × List Int)):Prop:=∀ c ∈ l,c.2.length = 4 ∧ c.1.length ≤ 4611686018427387904
theorem Sl.cls {x:AV} {l:List (List UInt8 × List Int)} (h:Sl 5 x (l.map clsAV)) {i:Nat} {c:List UInt8 × List Int} (hi:l[i]? = some c):aindexS 5 x (.int .i64 (i:Int)) = some (.vp (.str c.1 :: c.2.map (.int .u64))):=h.idx (c:=clsAV c) (by simp [hi])
theorem aload_vpn (n:Nat) (l:List AV) (hl:l.length = n) (H:Hp):aload true n (.vp l) H = some (.agg l):=by
  subst hl
  simp [aload,Go.Am.apart]
theorem astore_lastn (H:Hp) (n:Nat) (l z:List AV) (hl:l.length = n) (hz:z.length = n):astoreU n (.ptr H.length 0) (.agg l) (H ++ [.cells z]) = some (.tuple [],H ++ [.cells l]):=by
  rw [astore_of (sz:=n) (v:=.agg l) (get_last _ _) rfl hl (by omega)]
  simp [AV.cells,splice,hz,hl]
theorem cls_loop {x : AV} {l : List (List UInt8 × List Int)} (h : Sl 5 x (l.map clsAV)) (hl : l.length ≤ 24) (hok : ClsOk l) (H0 : Hp) (m : Nat) : ∀ (k i : Nat) (H : Hp) (es : List (AV × AV × Nat)) (c : Nat), l.length - i = k → i ≤ l.length →
    H[m]? = some (.map es c) → MapS es ((l.take i).map Prod.fst) →
    ∃ H',locale_checkClasses_L1 (.map m) x (.int .i64 (l.length:Int)) (.int .i64 (i:Int)) H0 H = some (.int .i64 (chkL clsBad Prod.fst (l.drop i) ((l.take i).map Prod.fst)),H'):=by
  intro k
  induction k with
  | zero =>
    intro i H es c hk hi hm hs
    rw [locale_checkClasses_L1_eq]
    have hlt:decide ((i:Int) < (l.length:Int)) = false:=by simp; omega
    have hd:l.drop i = []:=List.drop_eq_nil_iff.2 (by omega)
    simp only [go_sem,hlt,locale_checkClasses_J2_eq,hd]
    exact ⟨_,rfl⟩
  | succ k ih =>
    intro i H es c hk hi hm hs
    rw [locale_checkClasses_L1_eq]
    have hl1:i < l.length:=by omega
    have hlt:decide ((i:Int) < (l.length:Int)) = true:=by simp; omega
    have hw:IntKind.i64.wrap ((i:Int) + 1) = ((i + 1:Nat):Int):=by rw [wrap64 (by omega) (by omega)]; omega
    obtain ⟨h4,hnm⟩:=hok l[i] (List.getElem_mem hl1)
    have hlen5:(AV.str l[i].1 :: l[i].2.map (AV.int .u64)).length = 5:=by simp [h4]
    have hst:=astore_lastn H 5 _ [.str [],.int .u64 0,.int .u64 0,.int .u64 0,.int .u64 0] hlen5 rfl
    simp only [go_sem,hlt,locale_checkClasses_J3_eq,h.cls (List.getElem?_eq_getElem hl1),aload_vpn 5 _ hlen5,hst,Nat.zero_add,aload_lastf,List.getElem?_cons_zero,name_flat _ hnm]
    rw [List.drop_eq_getElem_cons hl1,chkL_cons]
    have hmm:(H ++ [AObj.cells (AV.str l[i].1 :: l[i].2.map (AV.int .u64))])[m]? = some (.map es c):=get_push hm _
    cases hb:nameS l[i].1 with
    | false =>
      simp only [go_sem,Bool.not_false,clsBad,hb,Bool.false_eq_true,if_false]
      exact ⟨_,rfl⟩
    | true =>
      simp only [go_sem,Bool.not_true,clsBad,hb,if_true,locale_checkClasses_J5_eq,Nat.zero_add,aload_lastf,List.getElem?_cons_zero,seen_look hmm hs]
      cases hc:((l.take i).map Prod.fst).contains l[i].1 with
      | true =>
        simp only [go_sem,if_true]
        exact ⟨_,rfl⟩
      | false =>
        obtain ⟨q1,q2⟩:=seen_set hmm hs hc
        simp only [go_sem,Bool.false_eq_true,if_false,locale_checkClasses_J6_eq,Nat.zero_add,aload_lastf,List.getElem?_cons_zero,q1,locale_checkClasses_J4_eq,hw]
        have ht:(l.take (i + 1)).map Prod.fst = (l.take i).map Prod.fst ++ [l[i].1]:=by
          rw [List.take_add_one,List.getElem?_eq_getElem hl1,List.map_append]; rfl
        rw [← ht]
        refine ih (i + 1) _ _ _ (by omega) (by omega) (get_set_eq _ hmm) ?_
        rw [ht]; exact q2
theorem cls_spec {x:AV} {l:List (List UInt8 × List Int)} (h:Sl 5 x (l.map clsAV)) (hok:ClsOk l) (hl0:l.length ≤ 4611686018427387904) (H:Hp):∃ H',C_locale_checkClasses [x] H = some (.int .i64 (clsS l),H'):=by
  rw [F_locale_checkClasses_eq]
  unfold F_locale_checkClasses clsS
  have hlen:=h.len 264
  rw [List.length_map] at hlen
  simp only [go_sem,hlen]
  by_cases h24:24 < l.length
  · have c1:decide ((24:Int) < (l.length:Int)) = true:=by simp; omega
    simp only [c1,go_sem,h24,if_true]
    exact ⟨_,rfl⟩
  · have c1:decide ((24:Int) < (l.length:Int)) = false:=by simp; omega
    simp only [c1,go_sem,h24,if_false,locale_checkClasses_J1_eq,hlen]
    have:=cls_loop h (by omega) hok H H.length l.length 0 (H ++ [.map [] 0]) [] 0 (by omega) (by omega) (get_last H _) rfl
    rw [show ((0:Nat):Int) = 0 from rfl,List.drop_zero,List.take_zero] at this
    exact this
theorem rcls_in {x : AV} {l : List (List UInt8 × List Int)} (h : Sl 5 x (l.map clsAV)) (hl : l.length ≤ 24) (H0 H : Hp) {i : Nat} {n : List UInt8} {q : List Int} (hi : l[i]? = some (n, q)) : ∀ (k j : Nat), i - j = k → j ≤ i →
    R05_checkClasses_L2 x (.int .i64 (i:Int)) (.int .i64 (j:Int)) H0 H = if (((l.take i).map Prod.fst).drop j).contains n then some (.int .i64 6,H) else R05_checkClasses_J4 x (.int .i64 (i:Int)) H0 H:=by
  intro k
  have hil:i < l.length:=by
    rcases Nat.lt_or_ge i l.length with h' | h'
    · exact h'
    · rw [List.getElem?_eq_none h'] at hi; cases hi
  induction k with
  | zero =>
    intro j hk hj
    rw [R05_checkClasses_L2_eq]
    have hlt:decide ((j:Int) < (i:Int)) = false:=by simp; omega
    have hd:((l.take i).map Prod.fst).drop j = []:=List.drop_eq_nil_iff.2 (by simp; omega)
    simp only [go_sem,hlt,hd,List.contains_nil,Bool.false_eq_true,if_false]
  | succ k ih =>
    intro j hk hj
    rw [R05_checkClasses_L2_eq]
    have hjl:j < l.length:=by omega
    have hlt:decide ((j:Int) < (i:Int)) = true:=by simp; omega
    have hw:IntKind.i64.wrap ((j:Int) + 1) = ((j + 1:Nat):Int):=by rw [wrap64 (by omega) (by omega)]; omega
    have hdj:((l.take i).map Prod.fst).drop j = l[j].1 :: ((l.take i).map Prod.fst).drop (j + 1):=by
      rw [List.drop_eq_getElem_cons (by simp; omega)]
      simp
    rw [hdj,List.contains_cons]
    simp only [go_sem,hlt,R05_checkClasses_J6_eq,h.cls (List.getElem?_eq_getElem hjl),h.cls hi,aload_vpc]
    have hs:sbin .eql (.str l[j].1) (.str n) = some (.bool (l[j].1 == n)):=rfl
    have hsy:(n == l[j].1) = (l[j].1 == n):=by rw [Bool.eq_iff_iff,beq_iff_eq,beq_iff_eq]; exact eq_comm
    simp only [afield_vpz,aload_vpc,hs,go_sem,hsy]
    cases hb:(l[j].1 == n) with
    | true=>simp only [go_sem,Bool.true_or,if_true]
    | false =>
      simp only [go_sem,Bool.false_or,R05_checkClasses_J7_eq,hw]
      exact ih (j + 1) (by omega) (by omega)
theorem rcls_loop {x : AV} {l : List (List UInt8 × List Int)} (h : Sl 5 x (l.map clsAV)) (hl : l.length ≤ 24) (hok : ClsOk l) (H0 H : Hp) : ∀ (k i : Nat), l.length - i = k → i ≤ l.length →
    R05_checkClasses_L1 x (.int .i64 (i:Int)) H0 H = some (.int .i64 (chkL clsBad Prod.fst (l.drop i) ((l.take i).map Prod.fst)),H):=by
  have hlen:=h.len 264
  rw [List.length_map] at hlen
  intro k
  induction k with
  | zero =>
    intro i hk hi
    rw [R05_checkClasses_L1_eq]
    have hlt:decide ((i:Int) < (l.length:Int)) = false:=by simp; omega
    have hd:l.drop i = []:=List.drop_eq_nil_iff.2 (by omega)
    simp only [go_sem,hlen,hlt,R05_checkClasses_J2_eq,hd]
    rfl
  | succ k ih =>
    intro i hk hi
    rw [R05_checkClasses_L1_eq]
    have hl1:i < l.length:=by omega
    have hlt:decide ((i:Int) < (l.length:Int)) = true:=by simp; omega
    have hw:IntKind.i64.wrap ((i:Int) + 1) = ((i + 1:Nat):Int):=by rw [wrap64 (by omega) (by omega)]; omega
    obtain ⟨h4,hnm⟩:=hok l[i] (List.getElem_mem hl1)
    simp only [go_sem,hlen,hlt,R05_checkClasses_J3_eq,h.cls (List.getElem?_eq_getElem hl1),afield_vpz,aload_vpc,rname_flat _ hnm]
    rw [List.drop_eq_getElem_cons hl1,chkL_cons]
    cases hb:nameS l[i].1 with
    | false=>simp only [go_sem,Bool.not_false,clsBad,hb,Bool.false_eq_true,if_false]
    | true =>
      have hin:=rcls_in h hl H0 H (List.getElem?_eq_getElem hl1) i 0 (by omega) (by omega)
      rw [List.drop_zero,show ((0:Nat):Int) = 0 from rfl] at hin
      simp only [go_sem,Bool.not_true,clsBad,hb,if_true,R05_checkClasses_J5_eq,hin]
      have ht:(l.take (i + 1)).map Prod.fst = (l.take i).map Prod.fst ++ [l[i].1]:=by
        rw [List.take_add_one,List.getElem?_eq_getElem hl1,List.map_append]; rfl
      cases hc:((l.take i).map Prod.fst).contains l[i].1 with
      | true=>simp only [if_true]
      | false =>
        simp only [Bool.false_eq_true,if_false,R05_checkClasses_J4_eq,go_sem,hw]
        rw [ih (i + 1) (by omega) (by omega),ht]
theorem rcls_spec {x:AV} {l:List (List UInt8 × List Int)} (h:Sl 5 x (l.map clsAV)) (hok:ClsOk l) (H:Hp):C_R05_checkClasses [x] H = some (.int .i64 (clsS l),H):=by
  rw [F_R05_checkClasses_eq]
  unfold F_R05_checkClasses clsS
  have hlen:=h.len 264
  rw [List.length_map] at hlen
  simp only [go_sem,hlen]
  by_cases h24:24 < l.length
  · have c1:decide ((24:Int) < (l.length:Int)) = true:=by simp; omega
    simp only [c1,go_sem,h24,if_true]
  · have c1:decide ((24:Int) < (l.length:Int)) = false:=by simp; omega
    simp only [c1,go_sem,h24,if_false,R05_checkClasses_J1_eq]
    have:=rcls_loop h (by omega) hok H H l.length 0 (by omega) (by omega)
    rw [show ((0:Nat):Int) = 0 from rfl,List.drop_zero,List.take_zero] at this
    exact this
end Go.Am
namespace Go.Am
set_option linter.unusedSimpArgs false
set_option linter.unusedVariables false
set_option maxRecDepth 100000

def elAV (c:List UInt8 × Int):AV:=.agg [.str c.1,.int .i64 c.2]
def elBad (c:List UInt8 × Int):Option Int:=if (c.1.length != 2 || (decide (c.2 < 0) || decide (65535 < c.2))) = true then some 2 else none
def elsS (l:List (List UInt8 × Int)):Int:=if 64 < l.length then 3 else chkL elBad Prod.fst l []
def ElsOk (l:List (List UInt8 × Int)):Prop:=∀ c ∈ l,c.1.length ≤ 4611686018427387904
theorem Sl.els {x:AV} {l:List (List UInt8 × Int)} (h:Sl 2 x (l.map elAV)) {i:Nat} {c:List UInt8 × Int} (hi:l[i]? = some c):aindexS 2 x (.int .i64 (i:Int)) = some (.vp [.str c.1,.int .i64 c.2]):=h.idx (c:=elAV c) (by simp [hi])
theorem afield_vp1 (a:AV) (l:List AV):afield 1 (.vp (a :: l)) = some (.vp l):=by simp [afield]
theorem light_spec (n:Int) (H:Hp):C_R05_light [.int .i64 n] H = some (.bool (!(decide (n < 0) || decide (65535 < n))),H):=by
  rw [F_R05_light_eq]
  unfold F_R05_light
  have e1:decide ((0:Int) ≤ n) = !decide (n < 0):=by rw [Bool.eq_iff_iff]; simp
  have e2:decide (n ≤ (65535:Int)) = !decide (65535 < n):=by rw [Bool.eq_iff_iff]; simp
  simp only [go_sem,e1]
  cases h1:decide (n < 0) with
  | true=>simp only [go_sem,Bool.not_true,Bool.true_or]
  | false=>simp only [go_sem,Bool.not_false,Bool.false_or,e2]
theorem light_flat (n:Int) (H:Hp):flatC C_R05_light [.int .i64 n] H = some (.bool (!(decide (n < 0) || decide (65535 < n))),H):=flat1 rfl (light_spec n []) rfl
theorem els_loop {x : AV} {l : List (List UInt8 × Int)} (h : Sl 2 x (l.map elAV)) (hl : l.length ≤ 64) (hok : ElsOk l) (H0 : Hp) (m : Nat) : ∀ (k i : Nat) (H : Hp) (es : List (AV × AV × Nat)) (c : Nat), l.length - i = k → i ≤ l.length →
    H[m]? = some (.map es c) → MapS es ((l.take i).map Prod.fst) →
    ∃ H',locale_checkElements_L1 (.map m) x (.int .i64 (l.length:Int)) (.int .i64 (i:Int)) H0 H = some (.int .i64 (chkL elBad Prod.fst (l.drop i) ((l.take i).map Prod.fst)),H'):=by
  intro k
  induction k with
  | zero =>
    intro i H es c hk hi hm hs
    rw [locale_checkElements_L1_eq]
    have hlt:decide ((i:Int) < (l.length:Int)) = false:=by simp; omega
    have hd:l.drop i = []:=List.drop_eq_nil_iff.2 (by omega)
    simp only [go_sem,hlt,locale_checkElements_J2_eq,hd]
    exact ⟨_,rfl⟩
  | succ k ih =>
    intro i H es c hk hi hm hs
    rw [locale_checkElements_L1_eq]
    have hl1:i < l.length:=by omega
    have hlt:decide ((i:Int) < (l.length:Int)) = true:=by simp; omega
    have hw:IntKind.i64.wrap ((i:Int) + 1) = ((i + 1:Nat):Int):=by rw [wrap64 (by omega) (by omega)]; omega
    have hnm:=hok l[i] (List.getElem_mem hl1)
    have hst:=astore_lastn H 2 [.str l[i].1,.int .i64 l[i].2] [.str [],.int .i64 0] rfl rfl
    simp only [go_sem,hlt,locale_checkElements_J3_eq,h.els (List.getElem?_eq_getElem hl1),aload_vpn 2 [.str l[i].1,.int .i64 l[i].2] rfl,hst,Nat.zero_add,aload_lastf,List.getElem?_cons_zero,List.getElem?_cons_succ,alen_str]
    rw [List.drop_eq_getElem_cons hl1,chkL_cons]
    have hmm:(H ++ [AObj.cells [AV.str l[i].1,AV.int .i64 l[i].2]])[m]? = some (.map es c):=get_push hm _
    have e2:((l[i].1.length:Int) != 2) = (l[i].1.length != 2):=by rw [Bool.eq_iff_iff]; simp; omega
    rw [e2]
    unfold elBad
    cases hb:(l[i].1.length != 2) with
    | true=>simp only [go_sem,Bool.true_or,if_true]; exact ⟨_,rfl⟩
    | false =>
    simp only [go_sem,Bool.false_or,Nat.zero_add,aload_lastf,List.getElem?_cons_zero,List.getElem?_cons_succ]
    cases hb2:decide (l[i].2 < 0) with
    | true=>simp only [go_sem,Bool.true_or,if_true]; exact ⟨_,rfl⟩
    | false =>
    simp only [go_sem,Bool.false_or,Nat.zero_add,aload_lastf,List.getElem?_cons_zero,List.getElem?_cons_succ]
    cases hb3:decide (65535 < l[i].2) with
    | true=>simp only [go_sem,if_true]; exact ⟨_,rfl⟩
    | false =>
      simp only [go_sem,Bool.false_eq_true,if_false,locale_checkElements_J5_eq,Nat.zero_add,aload_lastf,List.getElem?_cons_zero,seen_look hmm hs]
      cases hc:((l.take i).map Prod.fst).contains l[i].1 with
      | true =>
        simp only [go_sem,if_true]
        exact ⟨_,rfl⟩
      | false =>
        obtain ⟨q1,q2⟩:=seen_set hmm hs hc
        simp only [go_sem,Bool.false_eq_true,if_false,locale_checkElements_J6_eq,Nat.zero_add,aload_lastf,List.getElem?_cons_zero,q1,locale_checkElements_J4_eq,hw]
        have ht:(l.take (i + 1)).map Prod.fst = (l.take i).map Prod.fst ++ [l[i].1]:=by
          rw [List.take_add_one,List.getElem?_eq_getElem hl1,List.map_append]; rfl
        rw [← ht]
        refine ih (i + 1) _ _ _ (by omega) (by omega) (get_set_eq _ hmm) ?_
        rw [ht]; exact q2
theorem els_spec {x:AV} {l:List (List UInt8 × Int)} (h:Sl 2 x (l.map elAV)) (hok:ElsOk l) (hl0:l.length ≤ 4611686018427387904) (H:Hp):∃ H',C_locale_checkElements [x] H = some (.int .i64 (elsS l),H'):=by
  rw [F_locale_checkElements_eq]
  unfold F_locale_checkElements elsS
  have hlen:=h.len 210
  rw [List.length_map] at hlen
  simp only [go_sem,hlen]
  by_cases h64:64 < l.length
  · have c1:decide ((64:Int) < (l.length:Int)) = true:=by simp; omega
    simp only [c1,go_sem,h64,if_true]
    exact ⟨_,rfl⟩
  · have c1:decide ((64:Int) < (l.length:Int)) = false:=by simp; omega
    simp only [c1,go_sem,h64,if_false,locale_checkElements_J1_eq,hlen]
    have:=els_loop h (by omega) hok H H.length l.length 0 (H ++ [.map [] 0]) [] 0 (by omega) (by omega) (get_last H _) rfl
    rw [show ((0:Nat):Int) = 0 from rfl,List.drop_zero,List.take_zero] at this
    exact this
theorem rels_in {x : AV} {l : List (List UInt8 × Int)} (h : Sl 2 x (l.map elAV)) (hl : l.length ≤ 64) (H0 H : Hp) {i : Nat} {n : List UInt8} {q : Int} (hi : l[i]? = some (n, q)) : ∀ (k j : Nat), i - j = k → j ≤ i →
    R05_checkElements_L2 x (.int .i64 (i:Int)) (.int .i64 (j:Int)) H0 H = if (((l.take i).map Prod.fst).drop j).contains n then some (.int .i64 6,H) else R05_checkElements_J4 x (.int .i64 (i:Int)) H0 H:=by
  intro k
  have hil:i < l.length:=by
    rcases Nat.lt_or_ge i l.length with h' | h'
    · exact h'
    · rw [List.getElem?_eq_none h'] at hi; cases hi
  induction k with
  | zero =>
    intro j hk hj
    rw [R05_checkElements_L2_eq]
    have hlt:decide ((j:Int) < (i:Int)) = false:=by simp; omega
    have hd:((l.take i).map Prod.fst).drop j = []:=List.drop_eq_nil_iff.2 (by simp; omega)
    simp only [go_sem,hlt,hd,List.contains_nil,Bool.false_eq_true,if_false]
  | succ k ih =>
    intro j hk hj
    rw [R05_checkElements_L2_eq]
    have hjl:j < l.length:=by omega
    have hlt:decide ((j:Int) < (i:Int)) = true:=by simp; omega
    have hw:IntKind.i64.wrap ((j:Int) + 1) = ((j + 1:Nat):Int):=by rw [wrap64 (by omega) (by omega)]; omega
    have hdj:((l.take i).map Prod.fst).drop j = l[j].1 :: ((l.take i).map Prod.fst).drop (j + 1):=by
      rw [List.drop_eq_getElem_cons (by simp; omega)]
      simp
    rw [hdj,List.contains_cons]
    simp only [go_sem,hlt,R05_checkElements_J6_eq,h.els (List.getElem?_eq_getElem hjl),h.els hi,aload_vpc]
    have hs:sbin .eql (.str l[j].1) (.str n) = some (.bool (l[j].1 == n)):=rfl
    have hsy:(n == l[j].1) = (l[j].1 == n):=by rw [Bool.eq_iff_iff,beq_iff_eq,beq_iff_eq]; exact eq_comm
    simp only [afield_vpz,aload_vpc,hs,go_sem,hsy]
    cases hb:(l[j].1 == n) with
    | true=>simp only [go_sem,Bool.true_or,if_true]
    | false =>
      simp only [go_sem,Bool.false_or,R05_checkElements_J7_eq,hw]
      exact ih (j + 1) (by omega) (by omega)
theorem rels_loop {x : AV} {l : List (List UInt8 × Int)} (h : Sl 2 x (l.map elAV)) (hl : l.length ≤ 64) (hok : ElsOk l) (H0 H : Hp) : ∀ (k i : Nat), l.length - i = k → i ≤ l.length →
    R05_checkElements_L1 x (.int .i64 (i:Int)) H0 H = some (.int .i64 (chkL elBad Prod.fst (l.drop i) ((l.take i).map Prod.fst)),H):=by
  have hlen:=h.len 210
  rw [List.length_map] at hlen
  intro k
  induction k with
  | zero =>
    intro i hk hi
    rw [R05_checkElements_L1_eq]
    have hlt:decide ((i:Int) < (l.length:Int)) = false:=by simp; omega
    have hd:l.drop i = []:=List.drop_eq_nil_iff.2 (by omega)
    simp only [go_sem,hlen,hlt,R05_checkElements_J2_eq,hd]
    rfl
  | succ k ih =>
    intro i hk hi
    rw [R05_checkElements_L1_eq]
    have hl1:i < l.length:=by omega
    have hlt:decide ((i:Int) < (l.length:Int)) = true:=by simp; omega
    have hw:IntKind.i64.wrap ((i:Int) + 1) = ((i + 1:Nat):Int):=by rw [wrap64 (by omega) (by omega)]; omega
    have hnm:=hok l[i] (List.getElem_mem hl1)
    simp only [go_sem,hlen,hlt,R05_checkElements_J3_eq,h.els (List.getElem?_eq_getElem hl1),afield_vpz,aload_vpc,alen_str]
    rw [List.drop_eq_getElem_cons hl1,chkL_cons]
    have e2:((l[i].1.length:Int) != 2) = (l[i].1.length != 2):=by rw [Bool.eq_iff_iff]; simp; omega
    rw [e2]
    unfold elBad
    cases hb:(l[i].1.length != 2) with
    | true=>simp only [go_sem,Bool.true_or,if_true]
    | false =>
    simp only [go_sem,Bool.false_or,h.els (List.getElem?_eq_getElem hl1),afield_vp1,aload_vpc,light_flat,Bool.not_not]
    cases hb2:(decide (l[i].2 < 0) || decide (65535 < l[i].2)) with
    | true=>simp only [go_sem,if_true]
    | false =>
      have hin:=rels_in h hl H0 H (List.getElem?_eq_getElem hl1) i 0 (by omega) (by omega)
      rw [List.drop_zero,show ((0:Nat):Int) = 0 from rfl] at hin
      simp only [go_sem,Bool.false_eq_true,if_false,R05_checkElements_J5_eq,hin]
      have ht:(l.take (i + 1)).map Prod.fst = (l.take i).map Prod.fst ++ [l[i].1]:=by
        rw [List.take_add_one,List.getElem?_eq_getElem hl1,List.map_append]; rfl
      cases hc:((l.take i).map Prod.fst).contains l[i].1 with
      | true=>simp only [if_true]
      | false =>
        simp only [Bool.false_eq_true,if_false,R05_checkElements_J4_eq,go_sem,hw]
        rw [ih (i + 1) (by omega) (by omega),ht]
        rfl
theorem rels_spec {x:AV} {l:List (List UInt8 × Int)} (h:Sl 2 x (l.map elAV)) (hok:ElsOk l) (H:Hp):C_R05_checkElements [x] H = some (.int .i64 (elsS l),H):=by
  rw [F_R05_checkElements_eq]
  unfold F_R05_checkElements elsS
  have hlen:=h.len 210
  rw [List.length_map] at hlen
  simp only [go_sem,hlen]
  by_cases h64:64 < l.length
  · have c1:decide ((64:Int) < (l.length:Int)) = true:=by simp; omega
    simp only [c1,go_sem,h64,if_true]
  · have c1:decide ((64:Int) < (l.length:Int)) = false:=by simp; omega
    simp only [c1,go_sem,h64,if_false,R05_checkElements_J1_eq]
    have:=rels_loop h (by omega) hok H H l.length 0 (by omega) (by omega)
    rw [show ((0:Nat):Int) = 0 from rfl,List.drop_zero,List.take_zero] at this
    exact this
end Go.Am
namespace Go.Am
set_option linter.unusedSimpArgs false
set_option linter.unusedVariables false
set_option maxRecDepth 100000

structure Loc where
  name:List UInt8
  w:List Int
  lo:List UInt8
  up:List UInt8
  cls:List (List UInt8 × List Int)
  els:List (List UInt8 × Int)
def Loc.cells (x c e:AV) (L:Loc):List AV:=[.str L.name,x,.str L.lo,.str L.up,c,e]
def LocAV (a:AV) (L:Loc):Prop:=∃ x c e,a = .agg (L.cells x c e) ∧ Sl 1 x (L.w.map (AV.int .i64)) ∧ Sl 5 c (L.cls.map clsAV) ∧ Sl 2 e (L.els.map elAV)
structure LocOk (L:Loc):Prop where
  name:L.name.length ≤ 4611686018427387904
  w:L.w.length ≤ 4611686018427387904
  lo:L.lo.length ≤ 4611686018427387904
  up:L.up.length ≤ 4611686018427387904
  cls:ClsOk L.cls
  els:ElsOk L.els
  ncls:L.cls.length ≤ 4611686018427387904
  nels:L.els.length ≤ 4611686018427387904
theorem cls_close (c:List UInt8 × List Int) (H:Hp) (n f:Nat):closeV H n (f + 2) (clsAV c) = some (clsAV c):=by
  have:(AV.str c.1 :: c.2.map (AV.int .u64)).mapM (closeV H n (f + 1)) = some (AV.str c.1 :: c.2.map (AV.int .u64)):=mapM_id fun x hx=>by
    rcases List.mem_cons.1 hx with rfl | hx
    · rfl
    · obtain ⟨m,_,rfl⟩:=List.mem_map.1 hx
      rfl
  rw [clsAV,closeV_aggl,this]
theorem el_close (c:List UInt8 × Int) (H:Hp) (n f:Nat):closeV H n (f + 2) (elAV c) = some (elAV c):=(Eq.refl _).trans (Eq.refl _)
theorem LocAV.close {a:AV} {L:Loc} (h:LocAV a L) (H:Hp) (n f:Nat):∃ a',closeV H n (f + 4) a = some a' ∧ LocAV a' L:=by
  obtain ⟨x,c,e,rfl,hx,hc,he⟩:=h
  obtain ⟨x',hx1,hx2⟩:=hx.close (H:=H) (n:=n) (f:=f + 2) (fun y hy=>by obtain ⟨m,_,rfl⟩:=List.mem_map.1 hy; rfl)
  obtain ⟨c',hc1,hc2⟩:=hc.close (H:=H) (n:=n) (f:=f + 2) (fun y hy=>by obtain ⟨m,_,rfl⟩:=List.mem_map.1 hy; exact cls_close m H n f)
  obtain ⟨e',he1,he2⟩:=he.close (H:=H) (n:=n) (f:=f + 2) (fun y hy=>by obtain ⟨m,_,rfl⟩:=List.mem_map.1 hy; exact el_close m H n f)
  refine ⟨.agg (L.cells x' c' e'),?_,x',c',e',rfl,hx2,hc2,he2⟩
  have:(L.cells x c e).mapM (closeV H n (f + 3)) = some (L.cells x' c' e'):=by
    simp only [Loc.cells,List.mapM_cons,hx1,hc1,he1,List.mapM_nil]
    rfl
  rw [closeV_aggl,this]

theorem cls_flat {x:AV} {l:List (List UInt8 × List Int)} (h:Sl 5 x (l.map clsAV)) (hok:ClsOk l) (hl:l.length ≤ 4611686018427387904) (H:Hp):flatC C_locale_checkClasses [x] H = some (.int .i64 (clsS l),H) ∧ flatC C_R05_checkClasses [x] H = some (.int .i64 (clsS l),H):=by
  obtain ⟨x',h1,h2⟩:=h.close (H:=[]) (n:=0) (f:=5) (fun y hy=>by obtain ⟨m,_,rfl⟩:=List.mem_map.1 hy; exact cls_close m [] 0 3)
  obtain ⟨H',h3⟩:=cls_spec h2 hok hl []
  exact ⟨flat1 h1 h3 rfl,flat1 h1 (rcls_spec h2 hok []) rfl⟩
theorem els_flat {x:AV} {l:List (List UInt8 × Int)} (h:Sl 2 x (l.map elAV)) (hok:ElsOk l) (hl:l.length ≤ 4611686018427387904) (H:Hp):flatC C_locale_checkElements [x] H = some (.int .i64 (elsS l),H) ∧ flatC C_R05_checkElements [x] H = some (.int .i64 (elsS l),H):=by
  obtain ⟨x',h1,h2⟩:=h.close (H:=[]) (n:=0) (f:=5) (fun y hy=>by obtain ⟨m,_,rfl⟩:=List.mem_map.1 hy; exact el_close m [] 0 3)
  obtain ⟨H',h3⟩:=els_spec h2 hok hl []
  exact ⟨flat1 h1 h3 rfl,flat1 h1 (rels_spec h2 hok []) rfl⟩

def wBad (n:Int):Bool:=decide (n < 0) || decide (65535 < n)
def tailS (L:Loc):Int:=if (clsS L.cls != 0) = true then clsS L.cls else elsS L.els
def lcheckS (L:Loc):Int :=
  if nameS L.name then (if (L.w.length != 256 || (L.lo.length != 256 || L.up.length != 256)) = true then 2 else if L.w.any wBad then 2 else tailS L) else 4
theorem Sl.ints {x:AV} {l:List Int} (h:Sl 1 x (l.map (AV.int .i64))) {i:Nat} (hi:i < l.length):aindexS 1 x (.int .i64 (i:Int)) = some (.vp [.int .i64 l[i]]):=h.idx (c:=.int .i64 l[i]) (by simp [hi])
theorem beq256 (n:Nat):((n:Int) != 256) = (n != 256):=by rw [Bool.eq_iff_iff]; simp; omega
theorem lchk_loop {x c e : AV} {L : Loc} (hx : Sl 1 x (L.w.map (AV.int .i64))) (hc : Sl 5 c (L.cls.map clsAV)) (he : Sl 2 e (L.els.map elAV)) (hok : LocOk L) (hlw : L.w.length = 256) (H0 H : Hp) {o : Nat} (ho : H[o]? = some (.cells (L.cells x c e))) : ∀ (k i : Nat), L.w.length - i = k → i ≤ L.w.length →
    locale_Check_L1 (.ptr o 0) x (.int .i64 (L.w.length:Int)) (.int .i64 (i:Int)) H0 H = some (.int .i64 (if (L.w.drop i).any wBad then 2 else tailS L),H):=by
  intro k
  induction k with
  | zero =>
    intro i hk hi
    rw [locale_Check_L1_eq]
    have hlt:decide ((i:Int) < (L.w.length:Int)) = false:=by simp; omega
    have hd:L.w.drop i = []:=List.drop_eq_nil_iff.2 (by omega)
    simp only [go_sem,hlt,hd,List.any_nil,Bool.false_eq_true,if_false,locale_Check_J3_eq,Nat.zero_add,aload_f1 ho,Loc.cells,List.getElem?_cons_zero,List.getElem?_cons_succ,(cls_flat hc hok.cls hok.ncls H).1]
    unfold tailS
    cases h1:(clsS L.cls != 0) with
    | true=>simp only [go_sem,if_true]
    | false=>simp only [go_sem,Bool.false_eq_true,if_false,locale_Check_J4_eq,Nat.zero_add,aload_f1 ho,Loc.cells,List.getElem?_cons_zero,List.getElem?_cons_succ,(els_flat he hok.els hok.nels H).1]
  | succ k ih =>
    intro i hk hi
    rw [locale_Check_L1_eq]
    have hl1:i < L.w.length:=by omega
    have hlt:decide ((i:Int) < (L.w.length:Int)) = true:=by simp; omega
    have hw:IntKind.i64.wrap ((i:Int) + 1) = ((i + 1:Nat):Int):=by rw [wrap64 (by omega) (by omega)]; omega
    simp only [go_sem,hlt,locale_Check_J5_eq,hx.ints hl1,aload_vpc]
    rw [List.drop_eq_getElem_cons hl1,List.any_cons]
    unfold wBad
    cases h1:decide (L.w[i] < 0) with
    | true=>simp only [go_sem,Bool.true_or,if_true]
    | false =>
      simp only [go_sem,Bool.false_or]
      cases h2:decide (65535 < L.w[i]) with
      | true=>simp only [go_sem,Bool.true_or,if_true]
      | false =>
        simp only [go_sem,Bool.false_or,locale_Check_J6_eq,hw]
        exact ih (i + 1) (by omega) (by omega)
theorem lchk_spec {a:AV} {L:Loc} (h:LocAV a L) (hok:LocOk L) (H:Hp):∃ H',C_locale_Check [a] H = some (.int .i64 (lcheckS L),H'):=by
  obtain ⟨x,c,e,rfl,hx,hc,he⟩:=h
  rw [F_locale_Check_eq]
  unfold F_locale_Check lcheckS
  have hlen:=hx.len 3
  rw [List.length_map] at hlen
  have hg:=get_last H (.cells (L.cells x c e))
  simp only [go_sem,Nat.zero_add,aload_lastf,Loc.cells,List.getElem?_cons_zero,List.getElem?_cons_succ,name_flat L.name hok.name]
  cases hn:nameS L.name with
  | false=>simp only [go_sem,Bool.not_false,Bool.false_eq_true,if_false]; exact ⟨_,rfl⟩
  | true =>
  simp only [go_sem,Bool.not_true,if_true,locale_Check_J1_eq,Nat.zero_add,aload_lastf,List.getElem?_cons_zero,List.getElem?_cons_succ,hlen,beq256]
  cases h1:(L.w.length != 256) with
  | true=>simp only [go_sem,Bool.true_or,if_true]; exact ⟨_,rfl⟩
  | false =>
  simp only [go_sem,Bool.false_or,Nat.zero_add,aload_lastf,List.getElem?_cons_zero,List.getElem?_cons_succ,alen_str,beq256]
  cases h2:(L.lo.length != 256) with
  | true=>simp only [go_sem,Bool.true_or,if_true]; exact ⟨_,rfl⟩
  | false =>
  simp only [go_sem,Bool.false_or,Nat.zero_add,aload_lastf,List.getElem?_cons_zero,List.getElem?_cons_succ,alen_str,beq256]
  cases h3:(L.up.length != 256) with
  | true=>simp only [go_sem,if_true]; exact ⟨_,rfl⟩
  | false =>
  have hlw:L.w.length = 256:=by simpa using h1
  have:=lchk_loop hx hc he hok hlw H (H ++ [.cells (L.cells x c e)]) hg L.w.length 0 (by omega) (by omega)
  rw [show ((0:Nat):Int) = 0 from rfl,List.drop_zero] at this
  simp only [Loc.cells] at this
  simp only [go_sem,Bool.false_eq_true,if_false,locale_Check_J2_eq,Nat.zero_add,aload_lastf,List.getElem?_cons_zero,List.getElem?_cons_succ,hlen,this]
  exact ⟨_,rfl⟩
theorem rlchk_loop {x c e : AV} {L : Loc} (hx : Sl 1 x (L.w.map (AV.int .i64))) (hc : Sl 5 c (L.cls.map clsAV)) (he : Sl 2 e (L.els.map elAV)) (hok : LocOk L) (hlw : L.w.length = 256) (H0 H : Hp) {o : Nat} (ho : H[o]? = some (.cells (L.cells x c e))) : ∀ (k i : Nat), 256 - i = k → i ≤ 256 →
    R05_Check_L1 (.ptr o 0) (.int .i64 (i:Int)) H0 H = some (.int .i64 (if (L.w.drop i).any wBad then 2 else if (L.lo.length != 256 || L.up.length != 256) = true then 2 else tailS L),H):=by
  intro k
  induction k with
  | zero =>
    intro i hk hi
    rw [R05_Check_L1_eq]
    have hlt:decide ((i:Int) < 256) = false:=by simp; omega
    have hd:L.w.drop i = []:=List.drop_eq_nil_iff.2 (by omega)
    simp only [go_sem,hlt,hd,List.any_nil,Bool.false_eq_true,if_false,R05_Check_J3_eq,Nat.zero_add,aload_f1 ho,Loc.cells,List.getElem?_cons_zero,List.getElem?_cons_succ,alen_str,beq256]
    cases h2:(L.lo.length != 256) with
    | true=>simp only [go_sem,Bool.true_or,if_true]
    | false =>
    simp only [go_sem,Bool.false_or,Nat.zero_add,aload_f1 ho,Loc.cells,List.getElem?_cons_zero,List.getElem?_cons_succ,alen_str,beq256]
    cases h3:(L.up.length != 256) with
    | true=>simp only [go_sem,if_true]
    | false =>
    simp only [go_sem,Bool.false_eq_true,if_false,R05_Check_J4_eq,Nat.zero_add,aload_f1 ho,Loc.cells,List.getElem?_cons_zero,List.getElem?_cons_succ,(cls_flat hc hok.cls hok.ncls H).2]
    unfold tailS
    cases h1:(clsS L.cls != 0) with
    | true=>simp only [go_sem,if_true]
    | false=>simp only [go_sem,Bool.false_eq_true,if_false,R05_Check_J5_eq,Nat.zero_add,aload_f1 ho,Loc.cells,List.getElem?_cons_zero,List.getElem?_cons_succ,(els_flat he hok.els hok.nels H).2]
  | succ k ih =>
    intro i hk hi
    rw [R05_Check_L1_eq]
    have hl1:i < L.w.length:=by omega
    have hlt:decide ((i:Int) < 256) = true:=by simp; omega
    have hw:IntKind.i64.wrap ((i:Int) + 1) = ((i + 1:Nat):Int):=by rw [wrap64 (by omega) (by omega)]; omega
    simp only [go_sem,hlt,R05_Check_J6_eq,Nat.zero_add,aload_f1 ho,Loc.cells,List.getElem?_cons_zero,List.getElem?_cons_succ,hx.ints hl1,aload_vpc,light_flat,Bool.not_not]
    rw [List.drop_eq_getElem_cons hl1,List.any_cons]
    have e:(decide (L.w[i] < 0) || decide (65535 < L.w[i])) = wBad L.w[i]:=rfl
    rw [e]
    cases h1:wBad L.w[i] with
    | true=>simp only [go_sem,Bool.true_or,if_true]
    | false =>
      simp only [go_sem,Bool.false_or,R05_Check_J7_eq,hw]
      exact ih (i + 1) (by omega) (by omega)
theorem rlchk_spec {a:AV} {L:Loc} (h:LocAV a L) (hok:LocOk L) (H:Hp):∃ H',C_R05_Check [a] H = some (.int .i64 (lcheckS L),H'):=by
  obtain ⟨x,c,e,rfl,hx,hc,he⟩:=h
  rw [F_R05_Check_eq]
  unfold F_R05_Check lcheckS
  have hlen:=hx.len 3
  rw [List.length_map] at hlen
  have hg:=get_last H (.cells (L.cells x c e))
  simp only [go_sem,Nat.zero_add,aload_lastf,Loc.cells,List.getElem?_cons_zero,List.getElem?_cons_succ,rname_flat L.name hok.name]
  cases hn:nameS L.name with
  | false=>simp only [go_sem,Bool.not_false,Bool.false_eq_true,if_false]; exact ⟨_,rfl⟩
  | true =>
  simp only [go_sem,Bool.not_true,if_true,R05_Check_J1_eq,Nat.zero_add,aload_lastf,List.getElem?_cons_zero,List.getElem?_cons_succ,hlen,beq256]
  cases h1:(L.w.length != 256) with
  | true=>simp only [go_sem,Bool.true_or,if_true]; exact ⟨_,rfl⟩
  | false =>
  have hlw:L.w.length = 256:=by simpa using h1
  have:=rlchk_loop hx hc he hok hlw H (H ++ [.cells (L.cells x c e)]) hg 256 0 (by omega) (by omega)
  rw [show ((0:Nat):Int) = 0 from rfl,List.drop_zero] at this
  simp only [Loc.cells] at this
  simp only [go_sem,Bool.false_or,R05_Check_J2_eq,this]
  refine ⟨_,congrArg some (Prod.ext (congrArg (AV.int .i64) ?_) rfl)⟩
  cases h2:(L.lo.length != 256 || L.up.length != 256) <;> cases h3:L.w.any wBad <;> simp
theorem lchk_flat {a:AV} {L:Loc} (h:LocAV a L) (hok:LocOk L) (H:Hp):flatC C_locale_Check [a] H = some (.int .i64 (lcheckS L),H) ∧ flatC C_R05_Check [a] H = some (.int .i64 (lcheckS L),H):=by
  obtain ⟨a',h1,h2⟩:=h.close [] 0 2
  obtain ⟨H',h3⟩:=lchk_spec h2 hok []
  obtain ⟨H'',h4⟩:=rlchk_spec h2 hok []
  exact ⟨flat1 h1 h3 rfl,flat1 h1 h4 rfl⟩
end Go.Am
