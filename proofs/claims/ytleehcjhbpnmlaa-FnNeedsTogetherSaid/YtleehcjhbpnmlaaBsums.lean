/- Lemmas about the printed functions (sums). -/
import Derived.Test.YtleehcjhbpnmlaaPAllx0
import Derived.Test.YtleehcjhbpnmlaaBbase
namespace Go.Proofs.Ytleehcjhbpnmlaa.B
open Go.RowKit Go.Proofs.Ytleehcjhbpnmlaa.PAll Go.Proofs.YtleehcjhbpnmlaaW.PrintWords Go.Proofs.YtleehcjhbpnmlaaW.PrintLast
set_option linter.unusedVariables false
set_option linter.unusedSimpArgs false

/-! #### sums from a place on -/
def sumFrom (f : Int → Int) : Nat → Int → Int
  | 0, _ => 0
  | d + 1, i => f i + sumFrom f d (i + 1)
theorem sumFrom_congr (f g : Int → Int) : ∀ (d : Nat) (i : Int), (∀ j, i ≤ j → j < i + d → f j = g j) → sumFrom f d i = sumFrom g d i := by
  intro d
  induction d with
  | zero => exact fun _ _ => rfl
  | succ d ih =>
    intro i h
    simp only [sumFrom]
    rw [h i (by omega) (by omega), ih (i + 1) fun j h1 h2 => h j (by omega) (by omega)]
theorem sumFrom_add (f g : Int → Int) (m x : Int) : ∀ (d : Nat) (i : Int), (∀ j, i ≤ j → j < i + d → g j = f j + if j = m then x else 0) → sumFrom g d i = sumFrom f d i + if i ≤ m ∧ m < i + d then x else 0 := by
  intro d
  induction d with
  | zero =>
    intro i _
    rw [if_neg (by omega)]
    rfl
  | succ d ih =>
    intro i h
    simp only [sumFrom]
    rw [h i (by omega) (by omega), ih (i + 1) fun j h1 h2 => h j (by omega) (by omega)]
    by_cases c : i = m
    · rw [if_pos c, if_neg (by omega), if_pos (by omega)]
      omega
    · rw [if_neg c]
      by_cases c2 : i + 1 ≤ m ∧ m < i + 1 + d
      · rw [if_pos c2, if_pos (by omega)]
        omega
      · rw [if_neg c2, if_neg (by omega)]
        omega
theorem sumFrom_range (f : Int → Int) (B : Int) : ∀ (d : Nat) (i : Int), (∀ j, i ≤ j → j < i + d → 0 ≤ f j ∧ f j ≤ B) → 0 ≤ sumFrom f d i ∧ sumFrom f d i ≤ B * d := by
  intro d
  induction d with
  | zero => exact fun _ _ => ⟨Int.le_refl _, by simp [sumFrom]⟩
  | succ d ih =>
    intro i h
    have h1 := h i (by omega) (by omega)
    have h2 := ih (i + 1) fun j a b => h j (by omega) (by omega)
    have e : B * ((d + 1 : Nat) : Int) = B * d + B := by rw [Int.natCast_succ, Int.mul_add, Int.mul_one]
    simp only [sumFrom]
    rw [e]
    omega
theorem sumFrom_zero (f : Int → Int) : ∀ (d : Nat) (i : Int), (∀ j, i ≤ j → j < i + d → f j = 0) → sumFrom f d i = 0 := by
  intro d
  induction d with
  | zero => exact fun _ _ => rfl
  | succ d ih =>
    intro i h
    simp only [sumFrom]
    rw [h i (by omega) (by omega), ih (i + 1) fun j a b => h j (by omega) (by omega)]
    rfl
theorem mul_range {a b A B : Int} (h0 : 0 ≤ a) (h1 : a ≤ A) (h2 : 0 ≤ b) (h3 : b ≤ B) : 0 ≤ a * b ∧ a * b ≤ A * B :=
  ⟨Int.mul_nonneg h0 h2, Int.mul_le_mul h1 h3 h2 (Int.le_trans h0 h1)⟩

end Go.Proofs.Ytleehcjhbpnmlaa.B
