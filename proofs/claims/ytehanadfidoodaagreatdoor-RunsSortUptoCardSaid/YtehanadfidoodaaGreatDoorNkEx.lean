/-
  Bytes told apart; names; letters and digits alone.
-/
import Derived.Test.YtehanadfidoodaaGreatDoorNkSx
import Derived.Test.YtehanadfidoodaaGreatDoorNkGCx
namespace Go.Am
set_option linter.unusedSimpArgs false
set_option linter.unusedVariables false
set_option maxRecDepth 100000

theorem bnd_assoc {α β γ:Type} (x:Option α) (f:α → Option β) (g:β → Option γ):bnd (bnd x f) g = bnd x fun a=>bnd (f a) g:=by cases x <;> rfl
def nameD (t13_9 x8:AV):Option AV :=
  bnd (ibin .eql t13_9 (.int .u8 95)) fun t15_10 =>
  bnd (gdv t15_10 false (.tuple []) (some t13_9)) fun t17_11 =>
  bnd (gdv t15_10 false (.tuple []) (ibin .geq t17_11 (.int .u8 97))) fun t18_12 =>
  bnd (gdv t15_10 false (.tuple []) (some t18_12)) fun t19_13 =>
  bnd (gdv t19_13 true (.tuple []) (some t13_9)) fun t20_14 =>
  bnd (gdv t19_13 true (.tuple []) (ibin .leq t20_14 (.int .u8 122))) fun t21_15 =>
  bnd (gdv t15_10 false (.tuple []) (apick t19_13 t21_15 (.bool false))) fun t22_16 =>
  bnd (apick t15_10 (.bool true) t22_16) fun t23_17 =>
  bnd (gdv t23_17 false (.tuple []) (some t13_9)) fun t25_18 =>
  bnd (gdv t23_17 false (.tuple []) (ibin .geq t25_18 (.int .u8 65))) fun t26_19 =>
  bnd (gdv t23_17 false (.tuple []) (some t26_19)) fun t27_20 =>
  bnd (gdv t27_20 true (.tuple []) (some t13_9)) fun t28_21 =>
  bnd (gdv t27_20 true (.tuple []) (ibin .leq t28_21 (.int .u8 90))) fun t29_22 =>
  bnd (gdv t23_17 false (.tuple []) (apick t27_20 t29_22 (.bool false))) fun t30_23 =>
  bnd (apick t23_17 (.bool true) t30_23) fun t31_24 =>
  bnd (aun .not t31_24) fun t33_25 =>
  bnd (gdv t33_25 true (.tuple []) (some x8)) fun t35_26 =>
  bnd (gdv t33_25 true (.tuple []) (ibin .eql t35_26 (.int .i64 0))) fun t36_27 =>
  bnd (gdv t33_25 true (.tuple []) (some t36_27)) fun t37_28 =>
  bnd (gdv t37_28 false (.tuple []) (some t13_9)) fun t38_29 =>
  bnd (gdv t37_28 false (.tuple []) (ibin .lss t38_29 (.int .u8 48))) fun t39_30 =>
  bnd (gdv t33_25 true (.tuple []) (apick t37_28 (.bool true) t39_30)) fun t40_31 =>
  bnd (gdv t33_25 true (.tuple []) (some t40_31)) fun t41_32 =>
  bnd (gdv t41_32 false (.tuple []) (some t13_9)) fun t42_33 =>
  bnd (gdv t41_32 false (.tuple []) (ibin .gtr t42_33 (.int .u8 57))) fun t43_34 =>
  bnd (gdv t33_25 true (.tuple []) (apick t41_32 (.bool true) t43_34)) fun t44_35 =>
  bnd (apick t33_25 t44_35 (.bool false)) fun t45_36 =>
  some t45_36
theorem locale_name_J2_D_eq (x0 x7 x8 x9 : AV) (H0 H : Hp) : locale_name_J2 x0 x7 x8 x9 H0 H =
    bnd (aindexStr x0 x8) fun t13_9 =>
    bnd (nameD t13_9 x8) fun t45_36 =>
    cnd t45_36 (some ((.bool false),H)) (locale_name_J3 x0 x7 x8 H0 H):=by
  rw [locale_name_J2_eq]; simp only [nameD,bnd_assoc,bnd_some]
def rnameD (t31_2:AV):Option AV :=
  bnd (ibin .geq t31_2 (.int .u8 97)) fun t33_3 =>
  bnd (gdv t33_3 true (.tuple []) (some t31_2)) fun t35_4 =>
  bnd (gdv t33_3 true (.tuple []) (ibin .leq t35_4 (.int .u8 122))) fun t36_5 =>
  bnd (apick t33_3 t36_5 (.bool false)) fun t37_6 =>
  bnd (gdv t37_6 false (.tuple []) (some t31_2)) fun t39_7 =>
  bnd (gdv t37_6 false (.tuple []) (ibin .geq t39_7 (.int .u8 65))) fun t40_8 =>
  bnd (gdv t37_6 false (.tuple []) (some t40_8)) fun t41_9 =>
  bnd (gdv t41_9 true (.tuple []) (some t31_2)) fun t42_10 =>
  bnd (gdv t41_9 true (.tuple []) (ibin .leq t42_10 (.int .u8 90))) fun t43_11 =>
  bnd (gdv t37_6 false (.tuple []) (apick t41_9 t43_11 (.bool false))) fun t44_12 =>
  bnd (apick t37_6 (.bool true) t44_12) fun t45_13 =>
  bnd (gdv t45_13 false (.tuple []) (some t31_2)) fun t47_14 =>
  bnd (gdv t45_13 false (.tuple []) (ibin .geq t47_14 (.int .u8 48))) fun t48_15 =>
  bnd (gdv t45_13 false (.tuple []) (some t48_15)) fun t49_16 =>
  bnd (gdv t49_16 true (.tuple []) (some t31_2)) fun t50_17 =>
  bnd (gdv t49_16 true (.tuple []) (ibin .leq t50_17 (.int .u8 57))) fun t51_18 =>
  bnd (gdv t45_13 false (.tuple []) (apick t49_16 t51_18 (.bool false))) fun t52_19 =>
  bnd (apick t45_13 (.bool true) t52_19) fun t53_20 =>
  bnd (gdv t53_20 false (.tuple []) (some t31_2)) fun t55_21 =>
  bnd (gdv t53_20 false (.tuple []) (ibin .eql t55_21 (.int .u8 95))) fun t56_22 =>
  bnd (apick t53_20 (.bool true) t56_22) fun t57_23 =>
  bnd (aun .not t57_23) fun t58_24 =>
  some t58_24
theorem R05_IsName_J3_D_eq (x0 x3 : AV) (H0 H : Hp) : R05_IsName_J3 x0 x3 H0 H =
    bnd (aindexStr x0 x3) fun t31_2 =>
    bnd (rnameD t31_2) fun t58_24 =>
    cnd t58_24 (some ((.bool false),H)) (R05_IsName_J4 x0 x3 H0 H):=by
  rw [R05_IsName_J3_eq]; simp only [rnameD,bnd_assoc,bnd_some]
def rdictD (r16_4a t14_3:AV):Option AV :=
  bnd (gdv r16_4a false (.tuple []) (some t14_3)) fun t18_5 =>
  bnd (gdv r16_4a false (.tuple []) (ibin .geq t18_5 (.int .u8 48))) fun t19_6 =>
  bnd (gdv r16_4a false (.tuple []) (some t19_6)) fun t20_7 =>
  bnd (gdv t20_7 true (.tuple []) (some t14_3)) fun t21_8 =>
  bnd (gdv t20_7 true (.tuple []) (ibin .leq t21_8 (.int .u8 57))) fun t22_9 =>
  bnd (gdv r16_4a false (.tuple []) (apick t20_7 t22_9 (.bool false))) fun t23_10 =>
  bnd (apick r16_4a (.bool true) t23_10) fun t24_11 =>
  bnd (gdv t24_11 false (.tuple []) (some t14_3)) fun t26_12 =>
  bnd (gdv t24_11 false (.tuple []) (ibin .geq t26_12 (.int .u8 97))) fun t27_13 =>
  bnd (gdv t24_11 false (.tuple []) (some t27_13)) fun t28_14 =>
  bnd (gdv t28_14 true (.tuple []) (some t14_3)) fun t29_15 =>
  bnd (gdv t28_14 true (.tuple []) (ibin .leq t29_15 (.int .u8 122))) fun t30_16 =>
  bnd (gdv t24_11 false (.tuple []) (apick t28_14 t30_16 (.bool false))) fun t31_17 =>
  bnd (apick t24_11 (.bool true) t31_17) fun t32_18 =>
  bnd (gdv t32_18 false (.tuple []) (some t14_3)) fun t34_19 =>
  bnd (gdv t32_18 false (.tuple []) (ibin .geq t34_19 (.int .u8 65))) fun t35_20 =>
  bnd (gdv t32_18 false (.tuple []) (some t35_20)) fun t36_21 =>
  bnd (gdv t36_21 true (.tuple []) (some t14_3)) fun t37_22 =>
  bnd (gdv t36_21 true (.tuple []) (ibin .leq t37_22 (.int .u8 90))) fun t38_23 =>
  bnd (gdv t32_18 false (.tuple []) (apick t36_21 t38_23 (.bool false))) fun t39_24 =>
  bnd (apick t32_18 (.bool true) t39_24) fun t40_25 =>
  some t40_25
def dictD (r15_7a t13_6:AV):Option AV :=
  bnd (gdv r15_7a false (.tuple []) (some t13_6)) fun t17_8 =>
  bnd (gdv r15_7a false (.tuple []) (ibin .geq t17_8 (.int .u8 97))) fun t18_9 =>
  bnd (gdv r15_7a false (.tuple []) (some t18_9)) fun t19_10 =>
  bnd (gdv t19_10 true (.tuple []) (some t13_6)) fun t20_11 =>
  bnd (gdv t19_10 true (.tuple []) (ibin .leq t20_11 (.int .u8 122))) fun t21_12 =>
  bnd (gdv r15_7a false (.tuple []) (apick t19_10 t21_12 (.bool false))) fun t22_13 =>
  bnd (apick r15_7a (.bool true) t22_13) fun t23_14 =>
  bnd (gdv t23_14 false (.tuple []) (some t13_6)) fun t25_15 =>
  bnd (gdv t23_14 false (.tuple []) (ibin .geq t25_15 (.int .u8 65))) fun t26_16 =>
  bnd (gdv t23_14 false (.tuple []) (some t26_16)) fun t27_17 =>
  bnd (gdv t27_17 true (.tuple []) (some t13_6)) fun t28_18 =>
  bnd (gdv t27_17 true (.tuple []) (ibin .leq t28_18 (.int .u8 90))) fun t29_19 =>
  bnd (gdv t23_14 false (.tuple []) (apick t27_17 t29_19 (.bool false))) fun t30_20 =>
  bnd (apick t23_14 (.bool true) t30_20) fun t31_21 =>
  bnd (gdv t31_21 false (.tuple []) (some t13_6)) fun t33_22 =>
  bnd (gdv t31_21 false (.tuple []) (ibin .geq t33_22 (.int .u8 48))) fun t34_23 =>
  bnd (gdv t31_21 false (.tuple []) (some t34_23)) fun t35_24 =>
  bnd (gdv t35_24 true (.tuple []) (some t13_6)) fun t36_25 =>
  bnd (gdv t35_24 true (.tuple []) (ibin .leq t36_25 (.int .u8 57))) fun t37_26 =>
  bnd (gdv t31_21 false (.tuple []) (apick t35_24 t37_26 (.bool false))) fun t38_27 =>
  bnd (apick t31_21 (.bool true) t38_27) fun t39_28 =>
  some t39_28
theorem sortkey_dict_J2_D_eq (x0 x3 x7 x8 x9 : AV) (H0 H : Hp) : sortkey_dict_J2 x0 x3 x7 x8 x9 H0 H =
    bnd (aindexStr x0 x8) fun t13_6 =>
    bnd (C_sortkey_blank [t13_6] H) fun r15_7 =>
    bnd (dictD r15_7.1 t13_6) fun t39_28 =>
    cnd t39_28 (bnd (byteE.run [x3,t13_6] r15_7.2) fun r41_29=>sortkey_dict_J3 x0 x3 x7 x8 H0 r41_29.2) (sortkey_dict_J3 x0 x3 x7 x8 H0 r15_7.2):=by
  rw [sortkey_dict_J2_eq]; simp only [dictD,bnd_assoc,bnd_some]

def boolOf:Option AV → Option Bool
  | some (.bool b)=>some b
  | _=>none
theorem boolOf_some {x:Option AV} {b:Bool} (h:boolOf x = some b):x = some (.bool b):=by
  unfold boolOf at h
  split at h
  · injection h with h; subst h; rfl
  · cases h
def letter (n:Nat):Bool:=(decide (97 ≤ n) && decide (n ≤ 122)) || (decide (65 ≤ n) && decide (n ≤ 90))
def digit (n:Nat):Bool:=decide (48 ≤ n) && decide (n ≤ 57)
def inName (n:Nat):Bool:=n == 95 || letter n || digit n
theorem nameD_all:((List.range 256).all fun n=>(boolOf (nameD (.int .u8 (n:Int)) (.int .i64 1)) == some (!inName n)) && (boolOf (nameD (.int .u8 (n:Int)) (.int .i64 0)) == some (!inName n || digit n))) = true:=by kernel_rfl
theorem rnameD_all:((List.range 256).all fun n=>(boolOf (rnameD (.int .u8 (n:Int))) == some (!inName n))) = true:=by kernel_rfl
theorem u8_lt (b:UInt8):b.toNat < 256:=b.toNat_lt
theorem nameD_first (b:UInt8):nameD (.int .u8 b.toNat) (.int .i64 0) = some (.bool (!inName b.toNat || digit b.toNat)):=by
  have h:=all_range nameD_all (u8_lt b)
  simp only [Bool.and_eq_true,beq_iff_eq] at h
  exact boolOf_some h.2
theorem nameD_next (b:UInt8) {i:Int} (hi:(i == 0) = false):nameD (.int .u8 b.toNat) (.int .i64 i) = some (.bool (!inName b.toNat)):=by
  have h:=all_range nameD_all (u8_lt b)
  simp only [Bool.and_eq_true,beq_iff_eq] at h
  rw [← boolOf_some h.1]
  have e:ibin .eql (.int .i64 i) (.int .i64 0) = ibin .eql (.int .i64 1) (.int .i64 0):=by simp only [ibin,ashift,intbin,hi]; rfl
  unfold nameD
  iterate 16 refine congrArg (bnd _) (funext fun t=>?_)
  cases t with
  | bool b =>
    cases b
    · rfl
    · simp only [gdv_tt,bnd_some,e]
  | _=>rfl
theorem rnameD_ok (b:UInt8):rnameD (.int .u8 b.toNat) = some (.bool (!inName b.toNat)):=by
  have h:=all_range rnameD_all (u8_lt b)
  simp only [beq_iff_eq] at h
  exact boolOf_some h

def nameS (s:List UInt8):Bool :=
  match s with
  | []=>false
  | b :: _=>decide (s.length ≤ 32) && !digit b.toNat && s.all fun c=>inName c.toNat
theorem name_J1 (s:List UInt8) (hs:s.length ≤ 4611686018427387904) (H0 H:Hp):locale_name_J1 (.str s) H0 H = some (.bool (!s.isEmpty && decide (s.length ≤ 32)),H):=by
  rw [locale_name_J1_eq]
  cases s with
  | nil=>simp [go_sem,sbin,strbin]
  | cons b l =>
    simp only [sbin,strbin,go_sem,alenD]
    have:(!((b :: l) == ([]:List UInt8))) = true:=rfl
    have c:decide (((b :: l).length:Int) ≤ 32) = decide ((b :: l).length ≤ 32):=by rw [Bool.eq_iff_iff]; simp; omega
    simp only [this,go_sem,c,List.isEmpty_cons,Bool.not_false,Bool.true_and]
theorem name_loop (s : List UInt8) (hs : s.length ≤ 4611686018427387904) (H0 H : Hp) : ∀ (k i : Nat), s.length - i = k → 0 < i → i ≤ s.length →
    locale_name_L1 (.str s) (.int .i64 s.length) (.int .i64 i) H0 H = some (.bool (((s.drop i).all fun c=>inName c.toNat) && (!s.isEmpty && decide (s.length ≤ 32))),H):=by
  intro k
  induction k with
  | zero =>
    intro i hk h0 hi
    rw [locale_name_L1_eq]
    have hlt:decide ((i:Int) < (s.length:Int)) = false:=by simp; omega
    have hd:s.drop i = []:=List.drop_eq_nil_iff.2 (by omega)
    simp only [go_sem,hlt,name_J1 s hs,hd,List.all_nil,Bool.true_and]
  | succ k ih =>
    intro i hk h0 hi
    rw [locale_name_L1_eq]
    have hl:i < s.length:=by omega
    have hlt:decide ((i:Int) < (s.length:Int)) = true:=by simp; omega
    have hw:IntKind.i64.wrap ((i:Int) + 1) = ((i + 1:Nat):Int):=by rw [wrap64 (by omega) (by omega)]; omega
    have h0':((i:Int) == 0) = false:=by simp; omega
    simp only [go_sem,hlt,locale_name_J2_D_eq,aindexStr_of (List.getElem?_eq_getElem hl),nameD_next _ h0']
    rw [List.drop_eq_getElem_cons hl,List.all_cons]
    cases hb:inName s[i].toNat with
    | false=>simp only [go_sem,Bool.not_false,Bool.false_and]
    | true =>
      simp only [go_sem,Bool.not_true,Bool.true_and,locale_name_J3_eq,hw]
      exact ih (i + 1) (by omega) (by omega) (by omega)
theorem name_spec (s:List UInt8) (hs:s.length ≤ 4611686018427387904) (H:Hp):C_locale_name [.str s] H = some (.bool (nameS s),H):=by
  rw [F_locale_name_eq]
  unfold F_locale_name
  simp only [go_sem,alenD]
  cases s with
  | nil=>rw [locale_name_L1_eq]; simp [go_sem,name_J1 [] (by simp),nameS]
  | cons b l =>
    rw [locale_name_L1_eq]
    have hlt:decide ((0:Int) < ((b :: l).length:Int)) = true:=by simp
    have hw:IntKind.i64.wrap ((0:Int) + 1) = ((0 + 1:Nat):Int):=by decide
    have hidx:aindexStr (.str (b :: l)) (.int .i64 0) = some (.int .u8 b.toNat):=by simp [aindexStr]
    simp only [go_sem,hlt,locale_name_J2_D_eq,hidx,nameD_first]
    cases hb:(!inName b.toNat || digit b.toNat) with
    | true =>
      have:nameS (b :: l) = false:=by
        unfold nameS
        simp only [Bool.or_eq_true,Bool.not_eq_true'] at hb
        rcases hb with hb | hb <;> simp [hb]
      simp only [go_sem,this]
    | false =>
      simp only [Bool.or_eq_false_iff,Bool.not_eq_false'] at hb
      simp only [go_sem,locale_name_J3_eq,hw]
      rw [name_loop (b :: l) hs H H l.length 1 (by simp) (by omega) (by simp)]
      have:nameS (b :: l) = (((b :: l).drop 1).all (fun c=>inName c.toNat) && (!(b :: l).isEmpty && decide ((b :: l).length ≤ 32))):=by
        unfold nameS
        simp only [hb.1,hb.2,List.all_cons,List.drop_one,List.tail_cons,List.isEmpty_cons,Bool.not_false,Bool.true_and,Bool.and_true]
        rw [Bool.and_comm]
      rw [this]
theorem rname_loop (s : List UInt8) (hs : s.length ≤ 4611686018427387904) (H0 H : Hp) : ∀ (k i : Nat), s.length - i = k → i ≤ s.length →
    R05_IsName_L1 (.str s) (.int .i64 i) H0 H = some (.bool ((s.drop i).all fun c=>inName c.toNat),H):=by
  intro k
  induction k with
  | zero =>
    intro i hk hi
    rw [R05_IsName_L1_eq]
    have hlt:decide ((i:Int) < (s.length:Int)) = false:=by simp; omega
    have hd:s.drop i = []:=List.drop_eq_nil_iff.2 (by omega)
    simp only [go_sem,alenD,hlt,R05_IsName_J2_eq,hd,List.all_nil]
  | succ k ih =>
    intro i hk hi
    rw [R05_IsName_L1_eq]
    have hl:i < s.length:=by omega
    have hlt:decide ((i:Int) < (s.length:Int)) = true:=by simp; omega
    have hw:IntKind.i64.wrap ((i:Int) + 1) = ((i + 1:Nat):Int):=by rw [wrap64 (by omega) (by omega)]; omega
    simp only [go_sem,alenD,hlt,R05_IsName_J3_D_eq,aindexStr_of (List.getElem?_eq_getElem hl),rnameD_ok]
    rw [List.drop_eq_getElem_cons hl,List.all_cons]
    cases hb:inName s[i].toNat with
    | false=>simp only [go_sem,Bool.not_false,Bool.false_and]
    | true =>
      simp only [go_sem,Bool.not_true,Bool.true_and,R05_IsName_J4_eq,hw]
      exact ih (i + 1) (by omega) (by omega)
theorem rname_spec (s:List UInt8) (hs:s.length ≤ 4611686018427387904) (H:Hp):C_R05_IsName [.str s] H = some (.bool (nameS s),H):=by
  rw [F_R05_IsName_eq]
  unfold F_R05_IsName
  simp only [go_sem,alenD]
  cases s with
  | nil=>simp [go_sem,nameS]
  | cons b l =>
    have h0:((((b :: l).length:Nat):Int) == 0) = false:=by simp; omega
    have hidx:aindexStr (.str (b :: l)) (.int .i64 0) = some (.int .u8 b.toNat):=by simp [aindexStr]
    simp only [go_sem,h0]
    by_cases h32:32 < (b :: l).length
    · have c1:decide ((32:Int) < ((b :: l).length:Int)) = true:=by simp at h32 ⊢; omega
      have : nameS (b :: l) = false := by unfold nameS; have : decide ((b :: l).length ≤ 32) = false := by simp at h32 ⊢; omega
                                          rw [this]; rfl
      simp only [go_sem,c1,this]
    · have c1:decide ((32:Int) < ((b :: l).length:Int)) = false:=by simp at h32 ⊢; omega
      have c2:decide ((b :: l).length ≤ 32) = true:=by simp at h32 ⊢; omega
      have hl:=rname_loop (b :: l) hs H H (b :: l).length 0 (by simp) (by omega)
      rw [show ((0:Nat):Int) = 0 from rfl,List.drop_zero] at hl
      have hn:nameS (b :: l) = (!digit b.toNat && (b :: l).all fun c=>inName c.toNat):=by unfold nameS; simp only [c2,Bool.true_and]
      simp only [go_sem,c1,hidx,R05_IsName_J1_eq,hl,hn]
      have e1:decide ((48:Int) ≤ (b.toNat:Int)) = decide (48 ≤ b.toNat):=by rw [Bool.eq_iff_iff]; simp; omega
      have e2:decide ((b.toNat:Int) ≤ (57:Int)) = decide (b.toNat ≤ 57):=by rw [Bool.eq_iff_iff]; simp; omega
      unfold digit
      simp only [e1,e2]
      cases h48:decide (48 ≤ b.toNat) with
      | false=>simp only [go_sem,Bool.false_and,Bool.not_false,Bool.true_and]
      | true =>
        cases h57:decide (b.toNat ≤ 57) with
        | false=>simp only [go_sem,hidx,e2,h57,Bool.true_and,Bool.not_false]
        | true=>simp only [go_sem,hidx,e2,h57,Bool.true_and,Bool.not_true,Bool.false_and]
theorem name_flat (s:List UInt8) (hs:s.length ≤ 4611686018427387904) (H:Hp):flatC C_locale_name [.str s] H = some (.bool (nameS s),H):=flat1 rfl (name_spec s hs []) rfl
theorem rname_flat (s:List UInt8) (hs:s.length ≤ 4611686018427387904) (H:Hp):flatC C_R05_IsName [.str s] H = some (.bool (nameS s),H):=flat1 rfl (rname_spec s hs []) rfl
end Go.Am
namespace Go.Am
set_option linter.unusedSimpArgs false
set_option linter.unusedVariables false

theorem aload_vpc (a:AV) (l:List AV) (H:Hp):aload false 1 (.vp (a :: l)) H = some a:=(Eq.refl _).trans (Eq.refl _)
theorem aloadv_vpc (a:AV) (l:List AV):aloadv false 1 (.vp (a :: l)) = some a:=(Eq.refl _).trans (Eq.refl _)
theorem frz_last (H:Hp) (l:List AV) (k:AV → Hp → Res):frzK (.ptr H.length 0) (H ++ [.cells l]) k = k (.vp l) (H ++ [.dead]):=by
  rw [frz_of (get_last _ _),set_push]
end Go.Am
namespace Go.Am
set_option linter.unusedSimpArgs false
set_option linter.unusedVariables false
set_option maxRecDepth 100000

def chkL {α:Type} (bad:α → Option Int) (key:α → List UInt8):List α → List (List UInt8) → Int
  | [],_=>0
  | c :: r,seen=>match bad c with
    | some e=>e
    | none=>if seen.contains (key c) then 6 else chkL bad key r (seen ++ [key c])
theorem chkL_cons {α : Type} (bad : α → Option Int) (key : α → List UInt8) (c : α) (r : List α) (seen : List (List UInt8)) : chkL bad key (c :: r) seen = match bad c with
    | some e=>e
    | none=>if seen.contains (key c) then 6 else chkL bad key r (seen ++ [key c]):=(Eq.refl _).trans (Eq.refl _)

def MapS (es:List (AV × AV × Nat)) (seen:List (List UInt8)):Prop:=es.map (fun e=>(e.1,e.2.1)) = seen.map fun s=>(AV.str s,AV.bool true)
theorem findK_seen (k : List UInt8) : ∀ (es : List (AV × AV × Nat)) (seen : List (List UInt8)) (i : Nat), MapS es seen →
    if seen.contains k then ∃ j,findK (.str k) es i = some (some (j,.bool true)) else findK (.str k) es i = some none:=by
  intro es
  induction es with
  | nil =>
    intro seen i h
    cases seen with
    | nil=>simp [findK]
    | cons s r=>simp [MapS] at h
  | cons e es ih =>
    intro seen i h
    cases seen with
    | nil=>simp [MapS] at h
    | cons s r =>
      obtain ⟨a,b,c⟩:=e
      simp only [MapS,List.map_cons,List.cons.injEq,Prod.mk.injEq] at h
      obtain ⟨⟨rfl,rfl⟩,h2⟩:=h
      have:=ih r (i + 1) h2
      simp only [findK,keySame,List.contains_cons]
      cases hk:(k == s) with
      | true=>simp
      | false=>simpa using this
theorem seen_look {H : Hp} {m : Nat} {es : List (AV × AV × Nat)} {c : Nat} {seen : List (List UInt8)} (hm : H[m]? = some (.map es c)) (hs : MapS es seen) (k : List UInt8) :
    alookup .string (.bool false) false (.map m) (.str k) H = some (.bool (seen.contains k)):=by
  have h:=findK_seen k es seen 0 hs
  unfold alookup
  simp only [keyOk,if_true,entries,hm]
  cases hk:seen.contains k with
  | true =>
    rw [hk] at h
    obtain ⟨j,hj⟩:=h
    simp [hj]
  | false =>
    rw [hk] at h
    simp at h
    simp [h]
theorem seen_set {H : Hp} {m : Nat} {es : List (AV × AV × Nat)} {c : Nat} {seen : List (List UInt8)} (hm : H[m]? = some (.map es c)) (hs : MapS es seen) {k : List UInt8} (hk : seen.contains k = false) :
    amapSet .string (.map m) (.str k) (.bool true) H = some (.tuple [],H.set m (.map (es ++ [(.str k,.bool true,c)]) (c + 1))) ∧ MapS (es ++ [(.str k,.bool true,c)]) (seen ++ [k]):=by
  have h:=findK_seen k es seen 0 hs
  rw [hk] at h
  simp at h
  constructor
  · unfold amapSet
    simp only [hm,keyOk,if_true,h]
  · unfold MapS at hs ⊢
    simp [hs]

theorem afield_vpz (l:List AV):afield 0 (.vp l) = some (.vp l):=by simp [afield]
def clsAV (c:List UInt8 × List Int):AV:=.agg (.str c.1 :: c.2.map (.int .u64))
def clsBad (c:List UInt8 × List Int):Option Int:=if nameS c.1 then none else some 4
def clsS (l:List (List UInt8 × List Int)):Int:=if 24 < l.length then 3 else chkL clsBad Prod.fst l []
def ClsOk (l:List (List UInt8 × List Int)):Prop:=∀ c ∈ l,c.2.length = 4 ∧ c.1.length ≤ 4611686018427387904
theorem Sl.cls {x:AV} {l:List (List UInt8 × List Int)} (h:Sl 5 x (l.map clsAV)) {i:Nat} {c:List UInt8 × List Int} (hi:l[i]? = some c):aindexS 5 x (.int .i64 (i:Int)) = some (.vp (.str c.1 :: c.2.map (.int .u64))):=h.idx (c:=clsAV c) (by simp [hi])
theorem aload_vpn (n:Nat) (l:List AV) (hl:l.length = n) (H:Hp):aload true n (.vp l) H = some (.agg l):=by
  subst hl
  simp [aload,Go.Am.apart]
theorem astore_lastn (H:Hp) (n:Nat) (l z:List AV) (hl:l.length = n) (hz:z.length = n):astoreU n (.ptr H.length 0) (.agg l) (H ++ [.cells z]) = some (.tuple [],H ++ [.cells l]):=by
  rw [astore_of (sz:=n) (v:=.agg l) (get_last _ _) rfl hl (by omega)]
  simp [AV.cells,splice,hz,hl]
theorem cls_loop {x : AV} {l : List (List UInt8 × List Int)} (h : Sl 5 x (l.map clsAV)) (hl : l.length ≤ 24) (hok : ClsOk l) (H0 : Hp) (m : Nat) : ∀ (k i : Nat) (H : Hp) (es : List (AV × AV × Nat)) (c : Nat), l.length - i = k → i ≤ l.length →
    H[m]? = some (.map es c) → MapS es ((l.take i).map Prod.fst) →
    ∃ H',locale_checkClasses_L1 (.map m) x (.int .i64 (l.length:Int)) (.int .i64 (i:Int)) H0 H = some (.int .i64 (chkL clsBad Prod.fst (l.drop i) ((l.take i).map Prod.fst)),H'):=by
  intro k
  induction k with
  | zero =>
    intro i H es c hk hi hm hs
    rw [locale_checkClasses_L1_eq]
    have hlt:decide ((i:Int) < (l.length:Int)) = false:=by simp; omega
    have hd:l.drop i = []:=List.drop_eq_nil_iff.2 (by omega)
    simp only [go_sem,hlt,locale_checkClasses_J2_eq,hd]
    exact ⟨_,rfl⟩
  | succ k ih =>
    intro i H es c hk hi hm hs
    rw [locale_checkClasses_L1_eq]
    have hl1:i < l.length:=by omega
    have hlt:decide ((i:Int) < (l.length:Int)) = true:=by simp; omega
    have hw:IntKind.i64.wrap ((i:Int) + 1) = ((i + 1:Nat):Int):=by rw [wrap64 (by omega) (by omega)]; omega
    obtain ⟨h4,hnm⟩:=hok l[i] (List.getElem_mem hl1)
    have hlen5:(AV.str l[i].1 :: l[i].2.map (AV.int .u64)).length = 5:=by simp [h4]
    have hst:=astore_lastn H 5 _ [.str [],.int .u64 0,.int .u64 0,.int .u64 0,.int .u64 0] hlen5 rfl
    simp only [go_sem,hlt,locale_checkClasses_J3_eq,h.cls (List.getElem?_eq_getElem hl1),aload_vpn 5 _ hlen5,hst,Nat.zero_add,aload_lastf,List.getElem?_cons_zero,name_flat _ hnm]
    rw [List.drop_eq_getElem_cons hl1,chkL_cons]
    have hmm:(H ++ [AObj.cells (AV.str l[i].1 :: l[i].2.map (AV.int .u64))])[m]? = some (.map es c):=get_push hm _
    cases hb:nameS l[i].1 with
    | false =>
      simp only [go_sem,Bool.not_false,clsBad,hb,Bool.false_eq_true,if_false]
      exact ⟨_,rfl⟩
    | true =>
      simp only [go_sem,Bool.not_true,clsBad,hb,if_true,locale_checkClasses_J5_eq,Nat.zero_add,aload_lastf,List.getElem?_cons_zero,seen_look hmm hs]
      cases hc:((l.take i).map Prod.fst).contains l[i].1 with
      | true =>
        simp only [go_sem,if_true]
        exact ⟨_,rfl⟩
      | false =>
        obtain ⟨q1,q2⟩:=seen_set hmm hs hc
        simp only [go_sem,Bool.false_eq_true,if_false,locale_checkClasses_J6_eq,Nat.zero_add,aload_lastf,List.getElem?_cons_zero,q1,locale_checkClasses_J4_eq,hw]
        have ht:(l.take (i + 1)).map Prod.fst = (l.take i).map Prod.fst ++ [l[i].1]:=by
          rw [List.take_add_one,List.getElem?_eq_getElem hl1,List.map_append]; rfl
        rw [← ht]
        refine ih (i + 1) _ _ _ (by omega) (by omega) (get_set_eq _ hmm) ?_
        rw [ht]; exact q2
theorem cls_spec {x:AV} {l:List (List UInt8 × List Int)} (h:Sl 5 x (l.map clsAV)) (hok:ClsOk l) (hl0:l.length ≤ 4611686018427387904) (H:Hp):∃ H',C_locale_checkClasses [x] H = some (.int .i64 (clsS l),H'):=by
  rw [F_locale_checkClasses_eq]
  unfold F_locale_checkClasses clsS
  have hlen:=h.len 264
  rw [List.length_map] at hlen
  simp only [go_sem,hlen]
  by_cases h24:24 < l.length
  · have c1:decide ((24:Int) < (l.length:Int)) = true:=by simp; omega
    simp only [c1,go_sem,h24,if_true]
    exact ⟨_,rfl⟩
  · have c1:decide ((24:Int) < (l.length:Int)) = false:=by simp; omega
    simp only [c1,go_sem,h24,if_false,locale_checkClasses_J1_eq,hlen]
    have:=cls_loop h (by omega) hok H H.length l.length 0 (H ++ [.map [] 0]) [] 0 (by omega) (by omega) (get_last H _) rfl
    rw [show ((0:Nat):Int) = 0 from rfl,List.drop_zero,List.take_zero] at this
    exact this
theorem rcls_in {x : AV} {l : List (List UInt8 × List Int)} (h : Sl 5 x (l.map clsAV)) (hl : l.length ≤ 24) (H0 H : Hp) {i : Nat} {n : List UInt8} {q : List Int} (hi : l[i]? = some (n, q)) : ∀ (k j : Nat), i - j = k → j ≤ i →
    R05_checkClasses_L2 x (.int .i64 (i:Int)) (.int .i64 (j:Int)) H0 H = if (((l.take i).map Prod.fst).drop j).contains n then some (.int .i64 6,H) else R05_checkClasses_J4 x (.int .i64 (i:Int)) H0 H:=by
  intro k
  have hil:i < l.length:=by
    rcases Nat.lt_or_ge i l.length with h' | h'
    · exact h'
    · rw [List.getElem?_eq_none h'] at hi; cases hi
  induction k with
  | zero =>
    intro j hk hj
    rw [R05_checkClasses_L2_eq]
    have hlt:decide ((j:Int) < (i:Int)) = false:=by simp; omega
    have hd:((l.take i).map Prod.fst).drop j = []:=List.drop_eq_nil_iff.2 (by simp; omega)
    simp only [go_sem,hlt,hd,List.contains_nil,Bool.false_eq_true,if_false]
  | succ k ih =>
    intro j hk hj
    rw [R05_checkClasses_L2_eq]
    have hjl:j < l.length:=by omega
    have hlt:decide ((j:Int) < (i:Int)) = true:=by simp; omega
    have hw:IntKind.i64.wrap ((j:Int) + 1) = ((j + 1:Nat):Int):=by rw [wrap64 (by omega) (by omega)]; omega
    have hdj:((l.take i).map Prod.fst).drop j = l[j].1 :: ((l.take i).map Prod.fst).drop (j + 1):=by
      rw [List.drop_eq_getElem_cons (by simp; omega)]
      simp
    rw [hdj,List.contains_cons]
    simp only [go_sem,hlt,R05_checkClasses_J6_eq,h.cls (List.getElem?_eq_getElem hjl),h.cls hi,aload_vpc]
    have hs:sbin .eql (.str l[j].1) (.str n) = some (.bool (l[j].1 == n)):=rfl
    have hsy:(n == l[j].1) = (l[j].1 == n):=by rw [Bool.eq_iff_iff,beq_iff_eq,beq_iff_eq]; exact eq_comm
    simp only [afield_vpz,aload_vpc,hs,go_sem,hsy]
    cases hb:(l[j].1 == n) with
    | true=>simp only [go_sem,Bool.true_or,if_true]
    | false =>
      simp only [go_sem,Bool.false_or,R05_checkClasses_J7_eq,hw]
      exact ih (j + 1) (by omega) (by omega)
theorem rcls_loop {x : AV} {l : List (List UInt8 × List Int)} (h : Sl 5 x (l.map clsAV)) (hl : l.length ≤ 24) (hok : ClsOk l) (H0 H : Hp) : ∀ (k i : Nat), l.length - i = k → i ≤ l.length →
    R05_checkClasses_L1 x (.int .i64 (i:Int)) H0 H = some (.int .i64 (chkL clsBad Prod.fst (l.drop i) ((l.take i).map Prod.fst)),H):=by
  have hlen:=h.len 264
  rw [List.length_map] at hlen
  intro k
  induction k with
  | zero =>
    intro i hk hi
    rw [R05_checkClasses_L1_eq]
    have hlt:decide ((i:Int) < (l.length:Int)) = false:=by simp; omega
    have hd:l.drop i = []:=List.drop_eq_nil_iff.2 (by omega)
    simp only [go_sem,hlen,hlt,R05_checkClasses_J2_eq,hd]
    rfl
  | succ k ih =>
    intro i hk hi
    rw [R05_checkClasses_L1_eq]
    have hl1:i < l.length:=by omega
    have hlt:decide ((i:Int) < (l.length:Int)) = true:=by simp; omega
    have hw:IntKind.i64.wrap ((i:Int) + 1) = ((i + 1:Nat):Int):=by rw [wrap64 (by omega) (by omega)]; omega
    obtain ⟨h4,hnm⟩:=hok l[i] (List.getElem_mem hl1)
    simp only [go_sem,hlen,hlt,R05_checkClasses_J3_eq,h.cls (List.getElem?_eq_getElem hl1),afield_vpz,aload_vpc,rname_flat _ hnm]
    rw [List.drop_eq_getElem_cons hl1,chkL_cons]
    cases hb:nameS l[i].1 with
    | false=>simp only [go_sem,Bool.not_false,clsBad,hb,Bool.false_eq_true,if_false]
    | true =>
      have hin:=rcls_in h hl H0 H (List.getElem?_eq_getElem hl1) i 0 (by omega) (by omega)
      rw [List.drop_zero,show ((0:Nat):Int) = 0 from rfl] at hin
      simp only [go_sem,Bool.not_true,clsBad,hb,if_true,R05_checkClasses_J5_eq,hin]
      have ht:(l.take (i + 1)).map Prod.fst = (l.take i).map Prod.fst ++ [l[i].1]:=by
        rw [List.take_add_one,List.getElem?_eq_getElem hl1,List.map_append]; rfl
      cases hc:((l.take i).map Prod.fst).contains l[i].1 with
      | true=>simp only [if_true]
      | false =>
        simp only [Bool.false_eq_true,if_false,R05_checkClasses_J4_eq,go_sem,hw]
        rw [ih (i + 1) (by omega) (by omega),ht]
theorem rcls_spec {x:AV} {l:List (List UInt8 × List Int)} (h:Sl 5 x (l.map clsAV)) (hok:ClsOk l) (H:Hp):C_R05_checkClasses [x] H = some (.int .i64 (clsS l),H):=by
  rw [F_R05_checkClasses_eq]
  unfold F_R05_checkClasses clsS
  have hlen:=h.len 264
  rw [List.length_map] at hlen
  simp only [go_sem,hlen]
  by_cases h24:24 < l.length
  · have c1:decide ((24:Int) < (l.length:Int)) = true:=by simp; omega
    simp only [c1,go_sem,h24,if_true]
  · have c1:decide ((24:Int) < (l.length:Int)) = false:=by simp; omega
    simp only [c1,go_sem,h24,if_false,R05_checkClasses_J1_eq]
    have:=rcls_loop h (by omega) hok H H l.length 0 (by omega) (by omega)
    rw [show ((0:Nat):Int) = 0 from rfl,List.drop_zero,List.take_zero] at this
    exact this
end Go.Am
namespace Go.Am
set_option linter.unusedSimpArgs false
set_option linter.unusedVariables false
set_option maxRecDepth 100000

def elAV (c:List UInt8 × Int):AV:=.agg [.str c.1,.int .i64 c.2]
def elBad (c:List UInt8 × Int):Option Int:=if (c.1.length != 2 || (decide (c.2 < 0) || decide (65535 < c.2))) = true then some 2 else none
def elsS (l:List (List UInt8 × Int)):Int:=if 64 < l.length then 3 else chkL elBad Prod.fst l []
def ElsOk (l:List (List UInt8 × Int)):Prop:=∀ c ∈ l,c.1.length ≤ 4611686018427387904
theorem Sl.els {x:AV} {l:List (List UInt8 × Int)} (h:Sl 2 x (l.map elAV)) {i:Nat} {c:List UInt8 × Int} (hi:l[i]? = some c):aindexS 2 x (.int .i64 (i:Int)) = some (.vp [.str c.1,.int .i64 c.2]):=h.idx (c:=elAV c) (by simp [hi])
theorem afield_vp1 (a:AV) (l:List AV):afield 1 (.vp (a :: l)) = some (.vp l):=by simp [afield]
theorem light_spec (n:Int) (H:Hp):C_R05_light [.int .i64 n] H = some (.bool (!(decide (n < 0) || decide (65535 < n))),H):=by
  rw [F_R05_light_eq]
  unfold F_R05_light
  have e1:decide ((0:Int) ≤ n) = !decide (n < 0):=by rw [Bool.eq_iff_iff]; simp
  have e2:decide (n ≤ (65535:Int)) = !decide (65535 < n):=by rw [Bool.eq_iff_iff]; simp
  simp only [go_sem,e1]
  cases h1:decide (n < 0) with
  | true=>simp only [go_sem,Bool.not_true,Bool.true_or]
  | false=>simp only [go_sem,Bool.not_false,Bool.false_or,e2]
theorem light_flat (n:Int) (H:Hp):flatC C_R05_light [.int .i64 n] H = some (.bool (!(decide (n < 0) || decide (65535 < n))),H):=flat1 rfl (light_spec n []) rfl
theorem els_loop {x : AV} {l : List (List UInt8 × Int)} (h : Sl 2 x (l.map elAV)) (hl : l.length ≤ 64) (hok : ElsOk l) (H0 : Hp) (m : Nat) : ∀ (k i : Nat) (H : Hp) (es : List (AV × AV × Nat)) (c : Nat), l.length - i = k → i ≤ l.length →
    H[m]? = some (.map es c) → MapS es ((l.take i).map Prod.fst) →
    ∃ H',locale_checkElements_L1 (.map m) x (.int .i64 (l.length:Int)) (.int .i64 (i:Int)) H0 H = some (.int .i64 (chkL elBad Prod.fst (l.drop i) ((l.take i).map Prod.fst)),H'):=by
  intro k
  induction k with
  | zero =>
    intro i H es c hk hi hm hs
    rw [locale_checkElements_L1_eq]
    have hlt:decide ((i:Int) < (l.length:Int)) = false:=by simp; omega
    have hd:l.drop i = []:=List.drop_eq_nil_iff.2 (by omega)
    simp only [go_sem,hlt,locale_checkElements_J2_eq,hd]
    exact ⟨_,rfl⟩
  | succ k ih =>
    intro i H es c hk hi hm hs
    rw [locale_checkElements_L1_eq]
    have hl1:i < l.length:=by omega
    have hlt:decide ((i:Int) < (l.length:Int)) = true:=by simp; omega
    have hw:IntKind.i64.wrap ((i:Int) + 1) = ((i + 1:Nat):Int):=by rw [wrap64 (by omega) (by omega)]; omega
    have hnm:=hok l[i] (List.getElem_mem hl1)
    have hst:=astore_lastn H 2 [.str l[i].1,.int .i64 l[i].2] [.str [],.int .i64 0] rfl rfl
    simp only [go_sem,hlt,locale_checkElements_J3_eq,h.els (List.getElem?_eq_getElem hl1),aload_vpn 2 [.str l[i].1,.int .i64 l[i].2] rfl,hst,Nat.zero_add,aload_lastf,List.getElem?_cons_zero,List.getElem?_cons_succ,alen_str]
    rw [List.drop_eq_getElem_cons hl1,chkL_cons]
    have hmm:(H ++ [AObj.cells [AV.str l[i].1,AV.int .i64 l[i].2]])[m]? = some (.map es c):=get_push hm _
    have e2:((l[i].1.length:Int) != 2) = (l[i].1.length != 2):=by rw [Bool.eq_iff_iff]; simp; omega
    rw [e2]
    unfold elBad
    cases hb:(l[i].1.length != 2) with
    | true=>simp only [go_sem,Bool.true_or,if_true]; exact ⟨_,rfl⟩
    | false =>
    simp only [go_sem,Bool.false_or,Nat.zero_add,aload_lastf,List.getElem?_cons_zero,List.getElem?_cons_succ]
    cases hb2:decide (l[i].2 < 0) with
    | true=>simp only [go_sem,Bool.true_or,if_true]; exact ⟨_,rfl⟩
    | false =>
    simp only [go_sem,Bool.false_or,Nat.zero_add,aload_lastf,List.getElem?_cons_zero,List.getElem?_cons_succ]
    cases hb3:decide (65535 < l[i].2) with
    | true=>simp only [go_sem,if_true]; exact ⟨_,rfl⟩
    | false =>
      simp only [go_sem,Bool.false_eq_true,if_false,locale_checkElements_J5_eq,Nat.zero_add,aload_lastf,List.getElem?_cons_zero,seen_look hmm hs]
      cases hc:((l.take i).map Prod.fst).contains l[i].1 with
      | true =>
        simp only [go_sem,if_true]
        exact ⟨_,rfl⟩
      | false =>
        obtain ⟨q1,q2⟩:=seen_set hmm hs hc
        simp only [go_sem,Bool.false_eq_true,if_false,locale_checkElements_J6_eq,Nat.zero_add,aload_lastf,List.getElem?_cons_zero,q1,locale_checkElements_J4_eq,hw]
        have ht:(l.take (i + 1)).map Prod.fst = (l.take i).map Prod.fst ++ [l[i].1]:=by
          rw [List.take_add_one,List.getElem?_eq_getElem hl1,List.map_append]; rfl
        rw [← ht]
        refine ih (i + 1) _ _ _ (by omega) (by omega) (get_set_eq _ hmm) ?_
        rw [ht]; exact q2
theorem els_spec {x:AV} {l:List (List UInt8 × Int)} (h:Sl 2 x (l.map elAV)) (hok:ElsOk l) (hl0:l.length ≤ 4611686018427387904) (H:Hp):∃ H',C_locale_checkElements [x] H = some (.int .i64 (elsS l),H'):=by
  rw [F_locale_checkElements_eq]
  unfold F_locale_checkElements elsS
  have hlen:=h.len 210
  rw [List.length_map] at hlen
  simp only [go_sem,hlen]
  by_cases h64:64 < l.length
  · have c1:decide ((64:Int) < (l.length:Int)) = true:=by simp; omega
    simp only [c1,go_sem,h64,if_true]
    exact ⟨_,rfl⟩
  · have c1:decide ((64:Int) < (l.length:Int)) = false:=by simp; omega
    simp only [c1,go_sem,h64,if_false,locale_checkElements_J1_eq,hlen]
    have:=els_loop h (by omega) hok H H.length l.length 0 (H ++ [.map [] 0]) [] 0 (by omega) (by omega) (get_last H _) rfl
    rw [show ((0:Nat):Int) = 0 from rfl,List.drop_zero,List.take_zero] at this
    exact this
theorem rels_in {x : AV} {l : List (List UInt8 × Int)} (h : Sl 2 x (l.map elAV)) (hl : l.length ≤ 64) (H0 H : Hp) {i : Nat} {n : List UInt8} {q : Int} (hi : l[i]? = some (n, q)) : ∀ (k j : Nat), i - j = k → j ≤ i →
    R05_checkElements_L2 x (.int .i64 (i:Int)) (.int .i64 (j:Int)) H0 H = if (((l.take i).map Prod.fst).drop j).contains n then some (.int .i64 6,H) else R05_checkElements_J4 x (.int .i64 (i:Int)) H0 H:=by
  intro k
  have hil:i < l.length:=by
    rcases Nat.lt_or_ge i l.length with h' | h'
    · exact h'
    · rw [List.getElem?_eq_none h'] at hi; cases hi
  induction k with
  | zero =>
    intro j hk hj
    rw [R05_checkElements_L2_eq]
    have hlt:decide ((j:Int) < (i:Int)) = false:=by simp; omega
    have hd:((l.take i).map Prod.fst).drop j = []:=List.drop_eq_nil_iff.2 (by simp; omega)
    simp only [go_sem,hlt,hd,List.contains_nil,Bool.false_eq_true,if_false]
  | succ k ih =>
    intro j hk hj
    rw [R05_checkElements_L2_eq]
    have hjl:j < l.length:=by omega
    have hlt:decide ((j:Int) < (i:Int)) = true:=by simp; omega
    have hw:IntKind.i64.wrap ((j:Int) + 1) = ((j + 1:Nat):Int):=by rw [wrap64 (by omega) (by omega)]; omega
    have hdj:((l.take i).map Prod.fst).drop j = l[j].1 :: ((l.take i).map Prod.fst).drop (j + 1):=by
      rw [List.drop_eq_getElem_cons (by simp; omega)]
      simp
    rw [hdj,List.contains_cons]
    simp only [go_sem,hlt,R05_checkElements_J6_eq,h.els (List.getElem?_eq_getElem hjl),h.els hi,aload_vpc]
    have hs:sbin .eql (.str l[j].1) (.str n) = some (.bool (l[j].1 == n)):=rfl
    have hsy:(n == l[j].1) = (l[j].1 == n):=by rw [Bool.eq_iff_iff,beq_iff_eq,beq_iff_eq]; exact eq_comm
    simp only [afield_vpz,aload_vpc,hs,go_sem,hsy]
    cases hb:(l[j].1 == n) with
    | true=>simp only [go_sem,Bool.true_or,if_true]
    | false =>
      simp only [go_sem,Bool.false_or,R05_checkElements_J7_eq,hw]
      exact ih (j + 1) (by omega) (by omega)
theorem rels_loop {x : AV} {l : List (List UInt8 × Int)} (h : Sl 2 x (l.map elAV)) (hl : l.length ≤ 64) (hok : ElsOk l) (H0 H : Hp) : ∀ (k i : Nat), l.length - i = k → i ≤ l.length →
    R05_checkElements_L1 x (.int .i64 (i:Int)) H0 H = some (.int .i64 (chkL elBad Prod.fst (l.drop i) ((l.take i).map Prod.fst)),H):=by
  have hlen:=h.len 210
  rw [List.length_map] at hlen
  intro k
  induction k with
  | zero =>
    intro i hk hi
    rw [R05_checkElements_L1_eq]
    have hlt:decide ((i:Int) < (l.length:Int)) = false:=by simp; omega
    have hd:l.drop i = []:=List.drop_eq_nil_iff.2 (by omega)
    simp only [go_sem,hlen,hlt,R05_checkElements_J2_eq,hd]
    rfl
  | succ k ih =>
    intro i hk hi
    rw [R05_checkElements_L1_eq]
    have hl1:i < l.length:=by omega
    have hlt:decide ((i:Int) < (l.length:Int)) = true:=by simp; omega
    have hw:IntKind.i64.wrap ((i:Int) + 1) = ((i + 1:Nat):Int):=by rw [wrap64 (by omega) (by omega)]; omega
    have hnm:=hok l[i] (List.getElem_mem hl1)
    simp only [go_sem,hlen,hlt,R05_checkElements_J3_eq,h.els (List.getElem?_eq_getElem hl1),afield_vpz,aload_vpc,alen_str]
    rw [List.drop_eq_getElem_cons hl1,chkL_cons]
    have e2:((l[i].1.length:Int) != 2) = (l[i].1.length != 2):=by rw [Bool.eq_iff_iff]; simp; omega
    rw [e2]
    unfold elBad
    cases hb:(l[i].1.length != 2) with
    | true=>simp only [go_sem,Bool.true_or,if_true]
    | false =>
    simp only [go_sem,Bool.false_or,h.els (List.getElem?_eq_getElem hl1),afield_vp1,aload_vpc,light_flat,Bool.not_not]
    cases hb2:(decide (l[i].2 < 0) || decide (65535 < l[i].2)) with
    | true=>simp only [go_sem,if_true]
    | false =>
      have hin:=rels_in h hl H0 H (List.getElem?_eq_getElem hl1) i 0 (by omega) (by omega)
      rw [List.drop_zero,show ((0:Nat):Int) = 0 from rfl] at hin
      simp only [go_sem,Bool.false_eq_true,if_false,R05_checkElements_J5_eq,hin]
      have ht:(l.take (i + 1)).map Prod.fst = (l.take i).map Prod.fst ++ [l[i].1]:=by
        rw [List.take_add_one,List.getElem?_eq_getElem hl1,List.map_append]; rfl
      cases hc:((l.take i).map Prod.fst).contains l[i].1 with
      | true=>simp only [if_true]
      | false =>
        simp only [Bool.false_eq_true,if_false,R05_checkElements_J4_eq,go_sem,hw]
        rw [ih (i + 1) (by omega) (by omega),ht]
        rfl
theorem rels_spec {x:AV} {l:List (List UInt8 × Int)} (h:Sl 2 x (l.map elAV)) (hok:ElsOk l) (H:Hp):C_R05_checkElements [x] H = some (.int .i64 (elsS l),H):=by
  rw [F_R05_checkElements_eq]
  unfold F_R05_checkElements elsS
  have hlen:=h.len 210
  rw [List.length_map] at hlen
  simp only [go_sem,hlen]
  by_cases h64:64 < l.length
  · have c1:decide ((64:Int) < (l.length:Int)) = true:=by simp; omega
    simp only [c1,go_sem,h64,if_true]
  · have c1:decide ((64:Int) < (l.length:Int)) = false:=by simp; omega
    simp only [c1,go_sem,h64,if_false,R05_checkElements_J1_eq]
    have:=rels_loop h (by omega) hok H H l.length 0 (by omega) (by omega)
    rw [show ((0:Nat):Int) = 0 from rfl,List.drop_zero,List.take_zero] at this
    exact this
end Go.Am
namespace Go.Am
set_option linter.unusedSimpArgs false
set_option linter.unusedVariables false
set_option maxRecDepth 100000

structure Loc where
  name:List UInt8
  w:List Int
  lo:List UInt8
  up:List UInt8
  cls:List (List UInt8 × List Int)
  els:List (List UInt8 × Int)
def Loc.cells (x c e:AV) (L:Loc):List AV:=[.str L.name,x,.str L.lo,.str L.up,c,e]
def LocAV (a:AV) (L:Loc):Prop:=∃ x c e,a = .agg (L.cells x c e) ∧ Sl 1 x (L.w.map (AV.int .i64)) ∧ Sl 5 c (L.cls.map clsAV) ∧ Sl 2 e (L.els.map elAV)
structure LocOk (L:Loc):Prop where
  name:L.name.length ≤ 4611686018427387904
  w:L.w.length ≤ 4611686018427387904
  lo:L.lo.length ≤ 4611686018427387904
  up:L.up.length ≤ 4611686018427387904
  cls:ClsOk L.cls
  els:ElsOk L.els
  ncls:L.cls.length ≤ 4611686018427387904
  nels:L.els.length ≤ 4611686018427387904
theorem cls_close (c:List UInt8 × List Int) (H:Hp) (n f:Nat):closeV H n (f + 2) (clsAV c) = some (clsAV c):=by
  have:(AV.str c.1 :: c.2.map (AV.int .u64)).mapM (closeV H n (f + 1)) = some (AV.str c.1 :: c.2.map (AV.int .u64)):=mapM_id fun x hx=>by
    rcases List.mem_cons.1 hx with rfl | hx
    · rfl
    · obtain ⟨m,_,rfl⟩:=List.mem_map.1 hx
      rfl
  rw [clsAV,closeV_aggl,this]
theorem el_close (c:List UInt8 × Int) (H:Hp) (n f:Nat):closeV H n (f + 2) (elAV c) = some (elAV c):=(Eq.refl _).trans (Eq.refl _)
theorem LocAV.close {a:AV} {L:Loc} (h:LocAV a L) (H:Hp) (n f:Nat):∃ a',closeV H n (f + 4) a = some a' ∧ LocAV a' L:=by
  obtain ⟨x,c,e,rfl,hx,hc,he⟩:=h
  obtain ⟨x',hx1,hx2⟩:=hx.close (H:=H) (n:=n) (f:=f + 2) (fun y hy=>by obtain ⟨m,_,rfl⟩:=List.mem_map.1 hy; rfl)
  obtain ⟨c',hc1,hc2⟩:=hc.close (H:=H) (n:=n) (f:=f + 2) (fun y hy=>by obtain ⟨m,_,rfl⟩:=List.mem_map.1 hy; exact cls_close m H n f)
  obtain ⟨e',he1,he2⟩:=he.close (H:=H) (n:=n) (f:=f + 2) (fun y hy=>by obtain ⟨m,_,rfl⟩:=List.mem_map.1 hy; exact el_close m H n f)
  refine ⟨.agg (L.cells x' c' e'),?_,x',c',e',rfl,hx2,hc2,he2⟩
  have:(L.cells x c e).mapM (closeV H n (f + 3)) = some (L.cells x' c' e'):=by
    simp only [Loc.cells,List.mapM_cons,hx1,hc1,he1,List.mapM_nil]
    rfl
  rw [closeV_aggl,this]

theorem cls_flat {x:AV} {l:List (List UInt8 × List Int)} (h:Sl 5 x (l.map clsAV)) (hok:ClsOk l) (hl:l.length ≤ 4611686018427387904) (H:Hp):flatC C_locale_checkClasses [x] H = some (.int .i64 (clsS l),H) ∧ flatC C_R05_checkClasses [x] H = some (.int .i64 (clsS l),H):=by
  obtain ⟨x',h1,h2⟩:=h.close (H:=[]) (n:=0) (f:=5) (fun y hy=>by obtain ⟨m,_,rfl⟩:=List.mem_map.1 hy; exact cls_close m [] 0 3)
  obtain ⟨H',h3⟩:=cls_spec h2 hok hl []
  exact ⟨flat1 h1 h3 rfl,flat1 h1 (rcls_spec h2 hok []) rfl⟩
theorem els_flat {x:AV} {l:List (List UInt8 × Int)} (h:Sl 2 x (l.map elAV)) (hok:ElsOk l) (hl:l.length ≤ 4611686018427387904) (H:Hp):flatC C_locale_checkElements [x] H = some (.int .i64 (elsS l),H) ∧ flatC C_R05_checkElements [x] H = some (.int .i64 (elsS l),H):=by
  obtain ⟨x',h1,h2⟩:=h.close (H:=[]) (n:=0) (f:=5) (fun y hy=>by obtain ⟨m,_,rfl⟩:=List.mem_map.1 hy; exact el_close m [] 0 3)
  obtain ⟨H',h3⟩:=els_spec h2 hok hl []
  exact ⟨flat1 h1 h3 rfl,flat1 h1 (rels_spec h2 hok []) rfl⟩

def wBad (n:Int):Bool:=decide (n < 0) || decide (65535 < n)
def tailS (L:Loc):Int:=if (clsS L.cls != 0) = true then clsS L.cls else elsS L.els
def lcheckS (L:Loc):Int :=
  if nameS L.name then (if (L.w.length != 256 || (L.lo.length != 256 || L.up.length != 256)) = true then 2 else if L.w.any wBad then 2 else tailS L) else 4
theorem Sl.ints {x:AV} {l:List Int} (h:Sl 1 x (l.map (AV.int .i64))) {i:Nat} (hi:i < l.length):aindexS 1 x (.int .i64 (i:Int)) = some (.vp [.int .i64 l[i]]):=h.idx (c:=.int .i64 l[i]) (by simp [hi])
theorem beq256 (n:Nat):((n:Int) != 256) = (n != 256):=by rw [Bool.eq_iff_iff]; simp; omega
theorem lchk_loop {x c e : AV} {L : Loc} (hx : Sl 1 x (L.w.map (AV.int .i64))) (hc : Sl 5 c (L.cls.map clsAV)) (he : Sl 2 e (L.els.map elAV)) (hok : LocOk L) (hlw : L.w.length = 256) (H0 H : Hp) {o : Nat} (ho : H[o]? = some (.cells (L.cells x c e))) : ∀ (k i : Nat), L.w.length - i = k → i ≤ L.w.length →
    locale_Check_L1 (.ptr o 0) x (.int .i64 (L.w.length:Int)) (.int .i64 (i:Int)) H0 H = some (.int .i64 (if (L.w.drop i).any wBad then 2 else tailS L),H):=by
  intro k
  induction k with
  | zero =>
    intro i hk hi
    rw [locale_Check_L1_eq]
    have hlt:decide ((i:Int) < (L.w.length:Int)) = false:=by simp; omega
    have hd:L.w.drop i = []:=List.drop_eq_nil_iff.2 (by omega)
    simp only [go_sem,hlt,hd,List.any_nil,Bool.false_eq_true,if_false,locale_Check_J3_eq,Nat.zero_add,aload_f1 ho,Loc.cells,List.getElem?_cons_zero,List.getElem?_cons_succ,(cls_flat hc hok.cls hok.ncls H).1]
    unfold tailS
    cases h1:(clsS L.cls != 0) with
    | true=>simp only [go_sem,if_true]
    | false=>simp only [go_sem,Bool.false_eq_true,if_false,locale_Check_J4_eq,Nat.zero_add,aload_f1 ho,Loc.cells,List.getElem?_cons_zero,List.getElem?_cons_succ,(els_flat he hok.els hok.nels H).1]
  | succ k ih =>
    intro i hk hi
    rw [locale_Check_L1_eq]
    have hl1:i < L.w.length:=by omega
    have hlt:decide ((i:Int) < (L.w.length:Int)) = true:=by simp; omega
    have hw:IntKind.i64.wrap ((i:Int) + 1) = ((i + 1:Nat):Int):=by rw [wrap64 (by omega) (by omega)]; omega
    simp only [go_sem,hlt,locale_Check_J5_eq,hx.ints hl1,aload_vpc]
    rw [List.drop_eq_getElem_cons hl1,List.any_cons]
    unfold wBad
    cases h1:decide (L.w[i] < 0) with
    | true=>simp only [go_sem,Bool.true_or,if_true]
    | false =>
      simp only [go_sem,Bool.false_or]
      cases h2:decide (65535 < L.w[i]) with
      | true=>simp only [go_sem,Bool.true_or,if_true]
      | false =>
        simp only [go_sem,Bool.false_or,locale_Check_J6_eq,hw]
        exact ih (i + 1) (by omega) (by omega)
theorem lchk_spec {a:AV} {L:Loc} (h:LocAV a L) (hok:LocOk L) (H:Hp):∃ H',C_locale_Check [a] H = some (.int .i64 (lcheckS L),H'):=by
  obtain ⟨x,c,e,rfl,hx,hc,he⟩:=h
  rw [F_locale_Check_eq]
  unfold F_locale_Check lcheckS
  have hlen:=hx.len 3
  rw [List.length_map] at hlen
  have hg:=get_last H (.cells (L.cells x c e))
  simp only [go_sem,Nat.zero_add,aload_lastf,Loc.cells,List.getElem?_cons_zero,List.getElem?_cons_succ,name_flat L.name hok.name]
  cases hn:nameS L.name with
  | false=>simp only [go_sem,Bool.not_false,Bool.false_eq_true,if_false]; exact ⟨_,rfl⟩
  | true =>
  simp only [go_sem,Bool.not_true,if_true,locale_Check_J1_eq,Nat.zero_add,aload_lastf,List.getElem?_cons_zero,List.getElem?_cons_succ,hlen,beq256]
  cases h1:(L.w.length != 256) with
  | true=>simp only [go_sem,Bool.true_or,if_true]; exact ⟨_,rfl⟩
  | false =>
  simp only [go_sem,Bool.false_or,Nat.zero_add,aload_lastf,List.getElem?_cons_zero,List.getElem?_cons_succ,alen_str,beq256]
  cases h2:(L.lo.length != 256) with
  | true=>simp only [go_sem,Bool.true_or,if_true]; exact ⟨_,rfl⟩
  | false =>
  simp only [go_sem,Bool.false_or,Nat.zero_add,aload_lastf,List.getElem?_cons_zero,List.getElem?_cons_succ,alen_str,beq256]
  cases h3:(L.up.length != 256) with
  | true=>simp only [go_sem,if_true]; exact ⟨_,rfl⟩
  | false =>
  have hlw:L.w.length = 256:=by simpa using h1
  have:=lchk_loop hx hc he hok hlw H (H ++ [.cells (L.cells x c e)]) hg L.w.length 0 (by omega) (by omega)
  rw [show ((0:Nat):Int) = 0 from rfl,List.drop_zero] at this
  simp only [Loc.cells] at this
  simp only [go_sem,Bool.false_eq_true,if_false,locale_Check_J2_eq,Nat.zero_add,aload_lastf,List.getElem?_cons_zero,List.getElem?_cons_succ,hlen,this]
  exact ⟨_,rfl⟩
theorem rlchk_loop {x c e : AV} {L : Loc} (hx : Sl 1 x (L.w.map (AV.int .i64))) (hc : Sl 5 c (L.cls.map clsAV)) (he : Sl 2 e (L.els.map elAV)) (hok : LocOk L) (hlw : L.w.length = 256) (H0 H : Hp) {o : Nat} (ho : H[o]? = some (.cells (L.cells x c e))) : ∀ (k i : Nat), 256 - i = k → i ≤ 256 →
    R05_Check_L1 (.ptr o 0) (.int .i64 (i:Int)) H0 H = some (.int .i64 (if (L.w.drop i).any wBad then 2 else if (L.lo.length != 256 || L.up.length != 256) = true then 2 else tailS L),H):=by
  intro k
  induction k with
  | zero =>
    intro i hk hi
    rw [R05_Check_L1_eq]
    have hlt:decide ((i:Int) < 256) = false:=by simp; omega
    have hd:L.w.drop i = []:=List.drop_eq_nil_iff.2 (by omega)
    simp only [go_sem,hlt,hd,List.any_nil,Bool.false_eq_true,if_false,R05_Check_J3_eq,Nat.zero_add,aload_f1 ho,Loc.cells,List.getElem?_cons_zero,List.getElem?_cons_succ,alen_str,beq256]
    cases h2:(L.lo.length != 256) with
    | true=>simp only [go_sem,Bool.true_or,if_true]
    | false =>
    simp only [go_sem,Bool.false_or,Nat.zero_add,aload_f1 ho,Loc.cells,List.getElem?_cons_zero,List.getElem?_cons_succ,alen_str,beq256]
    cases h3:(L.up.length != 256) with
    | true=>simp only [go_sem,if_true]
    | false =>
    simp only [go_sem,Bool.false_eq_true,if_false,R05_Check_J4_eq,Nat.zero_add,aload_f1 ho,Loc.cells,List.getElem?_cons_zero,List.getElem?_cons_succ,(cls_flat hc hok.cls hok.ncls H).2]
    unfold tailS
    cases h1:(clsS L.cls != 0) with
    | true=>simp only [go_sem,if_true]
    | false=>simp only [go_sem,Bool.false_eq_true,if_false,R05_Check_J5_eq,Nat.zero_add,aload_f1 ho,Loc.cells,List.getElem?_cons_zero,List.getElem?_cons_succ,(els_flat he hok.els hok.nels H).2]
  | succ k ih =>
    intro i hk hi
    rw [R05_Check_L1_eq]
    have hl1:i < L.w.length:=by omega
    have hlt:decide ((i:Int) < 256) = true:=by simp; omega
    have hw:IntKind.i64.wrap ((i:Int) + 1) = ((i + 1:Nat):Int):=by rw [wrap64 (by omega) (by omega)]; omega
    simp only [go_sem,hlt,R05_Check_J6_eq,Nat.zero_add,aload_f1 ho,Loc.cells,List.getElem?_cons_zero,List.getElem?_cons_succ,hx.ints hl1,aload_vpc,light_flat,Bool.not_not]
    rw [List.drop_eq_getElem_cons hl1,List.any_cons]
    have e:(decide (L.w[i] < 0) || decide (65535 < L.w[i])) = wBad L.w[i]:=rfl
    rw [e]
    cases h1:wBad L.w[i] with
    | true=>simp only [go_sem,Bool.true_or,if_true]
    | false =>
      simp only [go_sem,Bool.false_or,R05_Check_J7_eq,hw]
      exact ih (i + 1) (by omega) (by omega)
theorem rlchk_spec {a:AV} {L:Loc} (h:LocAV a L) (hok:LocOk L) (H:Hp):∃ H',C_R05_Check [a] H = some (.int .i64 (lcheckS L),H'):=by
  obtain ⟨x,c,e,rfl,hx,hc,he⟩:=h
  rw [F_R05_Check_eq]
  unfold F_R05_Check lcheckS
  have hlen:=hx.len 3
  rw [List.length_map] at hlen
  have hg:=get_last H (.cells (L.cells x c e))
  simp only [go_sem,Nat.zero_add,aload_lastf,Loc.cells,List.getElem?_cons_zero,List.getElem?_cons_succ,rname_flat L.name hok.name]
  cases hn:nameS L.name with
  | false=>simp only [go_sem,Bool.not_false,Bool.false_eq_true,if_false]; exact ⟨_,rfl⟩
  | true =>
  simp only [go_sem,Bool.not_true,if_true,R05_Check_J1_eq,Nat.zero_add,aload_lastf,List.getElem?_cons_zero,List.getElem?_cons_succ,hlen,beq256]
  cases h1:(L.w.length != 256) with
  | true=>simp only [go_sem,Bool.true_or,if_true]; exact ⟨_,rfl⟩
  | false =>
  have hlw:L.w.length = 256:=by simpa using h1
  have:=rlchk_loop hx hc he hok hlw H (H ++ [.cells (L.cells x c e)]) hg 256 0 (by omega) (by omega)
  rw [show ((0:Nat):Int) = 0 from rfl,List.drop_zero] at this
  simp only [Loc.cells] at this
  simp only [go_sem,Bool.false_or,R05_Check_J2_eq,this]
  refine ⟨_,congrArg some (Prod.ext (congrArg (AV.int .i64) ?_) rfl)⟩
  cases h2:(L.lo.length != 256 || L.up.length != 256) <;> cases h3:L.w.any wBad <;> simp
theorem lchk_flat {a:AV} {L:Loc} (h:LocAV a L) (hok:LocOk L) (H:Hp):flatC C_locale_Check [a] H = some (.int .i64 (lcheckS L),H) ∧ flatC C_R05_Check [a] H = some (.int .i64 (lcheckS L),H):=by
  obtain ⟨a',h1,h2⟩:=h.close [] 0 2
  obtain ⟨H',h3⟩:=lchk_spec h2 hok []
  obtain ⟨H'',h4⟩:=rlchk_spec h2 hok []
  exact ⟨flat1 h1 h3 rfl,flat1 h1 h4 rfl⟩
end Go.Am
