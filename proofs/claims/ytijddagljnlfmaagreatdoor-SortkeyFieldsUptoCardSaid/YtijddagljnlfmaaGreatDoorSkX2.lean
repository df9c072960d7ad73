/-
  The number of the fields of a line, as the statement counts them.
-/
import Derived.Test.YtijddagljnlfmaaGreatDoorSkX
namespace Go.Am
set_option linter.unusedSimpArgs false
set_option linter.unusedVariables false

def cB (c : UInt8) : List UInt8 → Nat
  | [] => 0
  | b :: l => if b = c then cB c l + 1 else cB c l
theorem cB_cons (c b : UInt8) (l : List UInt8) : cB c (b :: l) = if b = c then cB c l + 1 else cB c l := (Eq.refl _).trans (Eq.refl _)
theorem cB_len (c : UInt8) : ∀ (l : List UInt8) (f p : Nat), (fieldsB c l f p).length = cB c l + 1 := by
  intro l
  induction l with
  | nil => intro f p; rfl
  | cons b l ih => intro f p; rw [fieldsB_cons, cB_cons]; split <;> simp [ih]
def cW : Bool → List UInt8 → Nat
  | _, [] => 0
  | q, b :: l => if isBl b && !q then cW (isBl b) l + 1 else cW (isBl b) l
theorem cW_cons (q : Bool) (b : UInt8) (l : List UInt8) : cW q (b :: l) = if isBl b && !q then cW (isBl b) l + 1 else cW (isBl b) l := (Eq.refl _).trans (Eq.refl _)
theorem cW_len : ∀ (l : List UInt8) (q : Bool) (f p : Nat), (fieldsW q l f p).length = cW q l + 1 := by
  intro l
  induction l with
  | nil => intro q f p; rfl
  | cons b l ih => intro q f p; rw [fieldsW_cons, cW_cons]; split <;> simp [ih]
theorem cB_le (c : UInt8) : ∀ (l : List UInt8), cB c l ≤ l.length := by
  intro l
  induction l with
  | nil => simp [cB]
  | cons b l ih => rw [cB_cons]; split <;> simp <;> omega
theorem cW_le : ∀ (l : List UInt8) (q : Bool), cW q l ≤ l.length := by
  intro l
  induction l with
  | nil => intro q; simp [cW]
  | cons b l ih => intro q; rw [cW_cons]; have := ih (isBl b); split <;> simp <;> omega
theorem L2_byte {line : List UInt8} (hlen : line.length ≤ 1048576) {sep : Int} (h0 : 0 ≤ sep) (h1 : sep ≤ 255) (H0 H : Hp) : ∀ (k i n : Nat), line.length - i = k → i ≤ line.length → n ≤ i →
    texttoolslaw20_SortkeyFields_L2 (.str line) (.int .i64 sep) (.int .i64 (n : Int)) (.bool true) (.int .i64 (i : Int)) H0 H =
      texttoolslaw20_SortkeyFields_J1 (.str line) (.int .i64 sep) (.int .i64 ((n + cB (UInt8.ofNat sep.toNat) (line.drop i) : Nat) : Int)) (.bool true) H0 H := by
  intro k
  induction k with
  | zero =>
    intro i n hk hi hn
    rw [texttoolslaw20_SortkeyFields_L2_eq]
    have hlt : decide ((i : Int) < (line.length : Int)) = false := by simp; omega
    have hd : line.drop i = [] := List.drop_eq_nil_iff.2 (by omega)
    simp only [go_sem, hlt, hd, cB, Nat.add_zero]
  | succ k ih =>
    intro i n hk hi hn
    rw [texttoolslaw20_SortkeyFields_L2_eq]
    have hl : i < line.length := by omega
    have hlt : decide ((i : Int) < (line.length : Int)) = true := by simp; omega
    have hw : IntKind.i64.wrap ((i : Int) + 1) = ((i + 1 : Nat) : Int) := by rw [wrap64 (by omega) (by omega)]; omega
    have hw2 : IntKind.i64.wrap ((n : Int) + 1) = ((n + 1 : Nat) : Int) := by rw [wrap64 (by omega) (by omega)]; omega
    have hcv : cvInt .i64 (.int .u8 (line[i].toNat : Int)) = some (.int .i64 (line[i].toNat : Int)) := by
      have := line[i].toNat_lt
      simp only [cvInt]
      rw [wrap64 (by omega) (by omega)]
    have hb : (((line[i].toNat : Int)) == sep) = (line[i] == UInt8.ofNat sep.toNat) := by
      have := u8eq line[i] sep.toNat (by omega)
      rw [← this, show ((sep.toNat : Nat) : Int) = sep by omega]
    have j9 : ∀ m : AV, texttoolslaw20_SortkeyFields_J9 (.str line) (.int .i64 sep) m (.bool true) (.int .i64 (i : Int)) H0 H = texttoolslaw20_SortkeyFields_L2 (.str line) (.int .i64 sep) m (.bool true) (.int .i64 ((i + 1 : Nat) : Int)) H0 H := by
      intro m
      rw [texttoolslaw20_SortkeyFields_J9_eq]
      simp only [go_sem, Bool.not_true, texttoolslaw20_SortkeyFields_J8_eq, hw]
    simp only [go_sem, hlt, texttoolslaw20_SortkeyFields_J7_eq, aindexStr_of (List.getElem?_eq_getElem hl), hcv, hb]
    rw [drop_cons hl, cB_cons]
    by_cases he : line[i] = UInt8.ofNat sep.toNat
    · have hbt : (line[i] == UInt8.ofNat sep.toNat) = true := by simpa using he
      simp only [hbt, go_sem, hw2, j9]
      rw [ih (i + 1) (n + 1) (by omega) (by omega) (by omega), if_pos he]
      rw [show n + 1 + cB (UInt8.ofNat sep.toNat) (line.drop (i + 1)) = n + (cB (UInt8.ofNat sep.toNat) (line.drop (i + 1)) + 1) by omega]
    · have hbf : (line[i] == UInt8.ofNat sep.toNat) = false := by simpa using he
      simp only [hbf, go_sem, j9]
      rw [ih (i + 1) n (by omega) (by omega) (by omega), if_neg he]
theorem L2_blank_step {line : List UInt8} (hlen : line.length ≤ 1048576) (sep : AV) (H0 H : Hp) {i n : Nat} (h1 : 1 ≤ i) (hl : i < line.length) (hn : n ≤ i) :
    texttoolslaw20_SortkeyFields_L2 (.str line) sep (.int .i64 (n : Int)) (.bool false) (.int .i64 (i : Int)) H0 H =
      texttoolslaw20_SortkeyFields_L2 (.str line) sep (.int .i64 ((if isBl line[i] && !isBl (line.getD (i - 1) 0) then n + 1 else n : Nat) : Int)) (.bool false) (.int .i64 ((i + 1 : Nat) : Int)) H0 H := by
  rw [texttoolslaw20_SortkeyFields_L2_eq]
  have hl1 : i - 1 < line.length := by omega
  have hlt : decide ((i : Int) < (line.length : Int)) = true := by simp; omega
  have hw : IntKind.i64.wrap ((i : Int) + 1) = ((i + 1 : Nat) : Int) := by rw [wrap64 (by omega) (by omega)]; omega
  have hw2 : IntKind.i64.wrap ((n : Int) + 1) = ((n + 1 : Nat) : Int) := by rw [wrap64 (by omega) (by omega)]; omega
  have hw3 : IntKind.i64.wrap ((i : Int) - 1) = ((i - 1 : Nat) : Int) := by rw [wrap64 (by omega) (by omega)]; omega
  have hz : (((i : Int)) == 0) = false := by simp; omega
  have hg : line.getD (i - 1) 0 = line[i - 1] := by simp [List.getD_eq_getElem?_getD, hl1]
  simp only [go_sem, hlt, texttoolslaw20_SortkeyFields_J7_eq, texttoolslaw20_SortkeyFields_J9_eq, Bool.not_false, hz, aindexStr_of (List.getElem?_eq_getElem hl), (blank_aux _).1, texttoolslaw20_SortkeyFields_J8_eq, hw, hw2, hw3]
  rw [hg]
  unfold isBl
  cases e1 : (line[i] == (32 : UInt8)) with
  | true =>
    simp only [go_sem, aindexStr_of (List.getElem?_eq_getElem hl1), bne, (blank_aux _).1, (blank_aux _).2, hw3]
    cases e2 : (line[i - 1] == (32 : UInt8)) with
    | true => simp [go_sem, hw, hw2]
    | false =>
      cases e3 : (line[i - 1] == (9 : UInt8)) <;> simp [go_sem, hw, hw2, hw3, aindexStr_of (List.getElem?_eq_getElem hl1), bne, (blank_aux _).2, e3]
  | false =>
    simp only [go_sem, aindexStr_of (List.getElem?_eq_getElem hl), (blank_aux _).2]
    cases e4 : (line[i] == (9 : UInt8)) with
    | false => simp [go_sem, hw, hw2]
    | true =>
      simp only [go_sem, aindexStr_of (List.getElem?_eq_getElem hl1), bne, (blank_aux _).1, (blank_aux _).2, hw3]
      cases e2 : (line[i - 1] == (32 : UInt8)) with
      | true => simp [go_sem, hw, hw2]
      | false =>
        cases e3 : (line[i - 1] == (9 : UInt8)) <;> simp [go_sem, hw, hw2, hw3, aindexStr_of (List.getElem?_eq_getElem hl1), bne, (blank_aux _).2, e3]
theorem L2_blank1 {line : List UInt8} (hlen : line.length ≤ 1048576) (sep : AV) (H0 H : Hp) : ∀ (k i n : Nat), line.length - i = k → 1 ≤ i → i ≤ line.length → n ≤ i →
    texttoolslaw20_SortkeyFields_L2 (.str line) sep (.int .i64 (n : Int)) (.bool false) (.int .i64 (i : Int)) H0 H =
      texttoolslaw20_SortkeyFields_J1 (.str line) sep (.int .i64 ((n + cW (isBl (line.getD (i - 1) 0)) (line.drop i) : Nat) : Int)) (.bool false) H0 H := by
  intro k
  induction k with
  | zero =>
    intro i n hk h1 hi hn
    rw [texttoolslaw20_SortkeyFields_L2_eq]
    have hlt : decide ((i : Int) < (line.length : Int)) = false := by simp; omega
    have hd : line.drop i = [] := List.drop_eq_nil_iff.2 (by omega)
    simp only [go_sem, hlt, hd, cW, Nat.add_zero]
  | succ k ih =>
    intro i n hk h1 hi hn
    have hl : i < line.length := by omega
    rw [L2_blank_step hlen sep H0 H h1 hl hn, drop_cons hl, cW_cons]
    have hg2 : line.getD (i + 1 - 1) 0 = line[i] := by simp [List.getD_eq_getElem?_getD, hl]
    by_cases hc : (isBl line[i] && !isBl (line.getD (i - 1) 0)) = true
    · rw [if_pos hc, if_pos hc, ih (i + 1) (n + 1) (by omega) (by omega) (by omega) (by omega), hg2]
      rw [show n + 1 + cW (isBl line[i]) (line.drop (i + 1)) = n + (cW (isBl line[i]) (line.drop (i + 1)) + 1) by omega]
    · rw [if_neg hc, if_neg hc, ih (i + 1) n (by omega) (by omega) (by omega) (by omega), hg2]
theorem L2_blank {line : List UInt8} (hlen : line.length ≤ 1048576) (sep : AV) (H0 H : Hp) :
    texttoolslaw20_SortkeyFields_L2 (.str line) sep (.int .i64 0) (.bool false) (.int .i64 0) H0 H =
      texttoolslaw20_SortkeyFields_J1 (.str line) sep (.int .i64 ((fsAt line 0).length : Int)) (.bool false) H0 H := by
  cases hline : line with
  | nil =>
    rw [texttoolslaw20_SortkeyFields_L2_eq]
    have hlt : decide ((0 : Int) < (([] : List UInt8).length : Int)) = false := by decide
    have e0 : (((fsAt [] 0).length : Nat) : Int) = 0 := rfl
    simp only [go_sem, hlt, e0]
  | cons x l =>
    rw [← hline]
    have hl : 0 < line.length := by rw [hline]; simp
    have hlt : decide ((0 : Int) < (line.length : Int)) = true := by simp; omega
    have hw : IntKind.i64.wrap ((0 : Int) + 1) = ((1 : Nat) : Int) := by rw [wrap64 (by omega) (by omega)]; omega
    have hz : (((0 : Int)) == 0) = true := rfl
    rw [texttoolslaw20_SortkeyFields_L2_eq]
    simp only [go_sem, hlt, texttoolslaw20_SortkeyFields_J7_eq, texttoolslaw20_SortkeyFields_J9_eq, Bool.not_false, hz, texttoolslaw20_SortkeyFields_J8_eq, hw]
    rw [L2_blank1 hlen sep H0 H _ 1 1 rfl (Nat.le_refl _) (by omega) (Nat.le_refl _)]
    have e1 : (fsAt line 0).length = 1 + cW (isBl (line.getD (1 - 1) 0)) (line.drop 1) := by
      rw [hline, fsAt_cons, cW_len]
      simp
      omega
    rw [e1]
end Go.Am
