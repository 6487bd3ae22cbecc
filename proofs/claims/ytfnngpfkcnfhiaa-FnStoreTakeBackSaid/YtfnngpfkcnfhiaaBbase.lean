/- Lemmas about the printed functions (base). -/
import Derived.Test.YtfnngpfkcnfhiaaPAllx0
namespace Go.Proofs.Ytfnngpfkcnfhiaa.B
open Go.RowKit Go.Proofs.Ytfnngpfkcnfhiaa.PAll Go.Proofs.YtfnngpfkcnfhiaaW.PrintWords Go.Proofs.YtfnngpfkcnfhiaaW.PrintLast
set_option linter.unusedVariables false
set_option linter.unusedSimpArgs false

/-! #### plain numbers, rounds, what holds from a place on -/
theorem w64 (n : Int) (h1 : -9223372036854775808 ≤ n) (h2 : n ≤ 9223372036854775807) : wrap64 n = n := by
  unfold wrap64
  omega
/-- as a rule that is no mere unfolding: so the kernel need not unfold -/
theorem bsome {α β : Type} (a : α) (f : α → Option β) : (some a).bind f = f a := (Option.bind_some a f).trans (Eq.refl _)
theorem rounds1 {k B : Nat} (h : B + 1 ≤ k) : ∃ m, k = m + 1 ∧ B ≤ m := ⟨k - 1, by omega, by omega⟩
/-- f holds at i, i + 1, .. : d of them -/
def allFrom (f : Int → Bool) : Nat → Int → Bool
  | 0, _ => true
  | d + 1, i => f i && allFrom f d (i + 1)
theorem allFrom_iff (f : Int → Bool) : ∀ (d : Nat) (i : Int), allFrom f d i = true ↔ ∀ j, i ≤ j → j < i + d → f j = true := by
  intro d
  induction d with
  | zero => exact fun i => ⟨fun _ j h1 h2 => by omega, fun _ => rfl⟩
  | succ d ih =>
    intro i
    simp only [allFrom, Bool.and_eq_true, ih]
    constructor
    · rintro ⟨h1, h2⟩ j h3 h4
      by_cases e : j = i
      · rw [e]; exact h1
      · exact h2 j (by omega) (by omega)
    · exact fun h => ⟨h i (by omega) (by omega), fun j h1 h2 => h j (by omega) (by omega)⟩
theorem allFrom_congr (f g : Int → Bool) : ∀ (d : Nat) (i : Int), (∀ j, i ≤ j → j < i + d → f j = g j) → allFrom f d i = allFrom g d i := by
  intro d
  induction d with
  | zero => exact fun _ _ => rfl
  | succ d ih =>
    intro i h
    simp only [allFrom]
    rw [h i (by omega) (by omega), ih (i + 1) fun j h1 h2 => h j (by omega) (by omega)]

end Go.Proofs.Ytfnngpfkcnfhiaa.B
