/- Lemmas about the printed functions (maxfrom). -/
import Derived.Test.YtgdndnaonmcdkaaPAllx0
import Derived.Test.YtgdndnaonmcdkaaBbase
namespace Go.Proofs.Ytgdndnaonmcdkaa.B
open Go.RowKit Go.Proofs.Ytgdndnaonmcdkaa.PAll Go.Proofs.YtgdndnaonmcdkaaW.PrintWords Go.Proofs.YtgdndnaonmcdkaaW.PrintLast
set_option linter.unusedVariables false
set_option linter.unusedSimpArgs false

/-! #### the greatest of some numbers -/
def maxFrom (f : Int → Int) : Nat → Int → Int → Int
  | 0, _, acc => acc
  | d + 1, i, acc => maxFrom f d (i + 1) (mx acc (f i))
theorem mx_spec (a b : Int) : a ≤ mx a b ∧ b ≤ mx a b ∧ (mx a b = a ∨ mx a b = b) := by
  unfold mx
  split <;> omega
theorem mn_spec (a b : Int) : mn a b ≤ a ∧ mn a b ≤ b ∧ (mn a b = a ∨ mn a b = b) := by
  unfold mn
  split <;> omega
theorem maxFrom_congr (f g : Int → Int) : ∀ (d : Nat) (i acc : Int), (∀ j, i ≤ j → j < i + d → f j = g j) → maxFrom f d i acc = maxFrom g d i acc := by
  intro d
  induction d with
  | zero => exact fun _ _ _ => rfl
  | succ d ih =>
    intro i acc h
    simp only [maxFrom]
    rw [h i (by omega) (by omega)]
    exact ih _ _ fun j h1 h2 => h j (by omega) (by omega)
theorem maxFrom_spec (f : Int → Int) : ∀ (d : Nat) (i acc : Int), acc ≤ maxFrom f d i acc ∧ (∀ j, i ≤ j → j < i + d → f j ≤ maxFrom f d i acc) ∧ (maxFrom f d i acc = acc ∨ ∃ j, i ≤ j ∧ j < i + d ∧ maxFrom f d i acc = f j) := by
  intro d
  induction d with
  | zero => exact fun i acc => ⟨Int.le_refl _, fun j h1 h2 => by omega, .inl rfl⟩
  | succ d ih =>
    intro i acc
    simp only [maxFrom]
    obtain ⟨a1, a2, a3⟩ := ih (i + 1) (mx acc (f i))
    have m := mx_spec acc (f i)
    refine ⟨by omega, fun j h1 h2 => ?_, ?_⟩
    · by_cases e : j = i
      · subst e
        omega
      · exact a2 j (by omega) (by omega)
    · rcases a3 with h | ⟨j, h1, h2, h3⟩
      · rcases m.2.2 with h' | h'
        · exact .inl (by omega)
        · exact .inr ⟨i, by omega, by omega, by omega⟩
      · exact .inr ⟨j, by omega, by omega, h3⟩
theorem maxFrom_le (f : Int → Int) (B : Int) (d : Nat) (i acc : Int) (ha : acc ≤ B) (h : ∀ j, i ≤ j → j < i + d → f j ≤ B) : maxFrom f d i acc ≤ B := by
  rcases (maxFrom_spec f d i acc).2.2 with e | ⟨j, h1, h2, e⟩
  · omega
  · rw [e]
    exact h j h1 h2

end Go.Proofs.Ytgdndnaonmcdkaa.B
