/- Lemmas about the printed functions (sumlots). -/
import Derived.Test.YtfnngpfkcnfhiaaPAllx0
import Derived.Test.YtfnngpfkcnfhiaaPAllx13
import Derived.Test.YtfnngpfkcnfhiaaBbase
import Derived.Test.YtfnngpfkcnfhiaaBlots
namespace Go.Proofs.Ytfnngpfkcnfhiaa.B
open Go.RowKit Go.Proofs.Ytfnngpfkcnfhiaa.PAll Go.Proofs.YtfnngpfkcnfhiaaW.PrintWords Go.Proofs.YtfnngpfkcnfhiaaW.PrintLast
set_option linter.unusedVariables false
set_option linter.unusedSimpArgs false

/-- the sum of all lots -/
def sumL : List S30 → Int
  | [] => 0
  | x :: xs => x.f2 + sumL xs
theorem sumL_append (a b : List S30) : sumL (a ++ b) = sumL a + sumL b := by
  induction a with
  | nil => rw [List.nil_append, sumL, Int.zero_add]
  | cons x xs ih => rw [List.cons_append, sumL, sumL, ih, Int.add_assoc]
theorem sumL_range : ∀ l : List S30, (∀ x ∈ l, 0 ≤ x.f2 ∧ x.f2 ≤ 9999) → 0 ≤ sumL l ∧ sumL l ≤ 9999 * l.length := by
  intro l
  induction l with
  | nil => intro _; simp [sumL]
  | cons x xs ih =>
    intro h
    have a := ih fun y hy => h y (List.mem_cons_of_mem _ hy)
    have b := h x (List.mem_cons_self ..)
    rw [sumL, List.length_cons]
    omega
theorem laws_sumLots_l0 (l : List S30) (hl : l.length ≤ 1000) (h : ∀ x ∈ l, 0 ≤ x.f2 ∧ x.f2 ≤ 9999) : ∀ (d i : Nat), i + d = l.length → ∀ (acc : Int), 0 ≤ acc → acc ≤ 9999 * i → ∀ k, d + 1 ≤ k → laws_sumLots.l0 k l 0 acc i = some (acc + sumL (l.drop i)) := by
  intro d
  induction d with
  | zero =>
    intro i hi acc b0 b1 k hk
    obtain ⟨k, rfl, _⟩ := rounds1 hk
    rw [laws_sumLots.l0, if_neg (by omega), List.drop_of_length_le (by omega), sumL, Int.add_zero]
  | succ d ih =>
    intro i hi acc b0 b1 k hk
    obtain ⟨k, rfl, hk'⟩ := rounds1 hk
    have ok := h _ (List.getElem_mem (by omega : i < l.length))
    rw [← rd_lot l i (by omega)] at ok
    rw [laws_sumLots.l0, if_pos (by omega), if_pos rfl, if_pos (by omega), w64 (acc + _) (by omega) (by omega), w64 ((i : Int) + 1) (by omega) (by omega), up, drop_lot l i (by omega), sumL, ih (i + 1) (by omega) _ (by omega) (by omega) k hk', Int.add_assoc]
theorem laws_sumLots_eq (l : List S30) (hl : l.length ≤ 1000) (h : ∀ x ∈ l, 0 ≤ x.f2 ∧ x.f2 ≤ 9999) (k : Nat) (hk : l.length + 1 ≤ k) : laws_sumLots.f k l 0 = some (sumL l) := by
  unfold laws_sumLots.f
  have e := laws_sumLots_l0 l hl h l.length 0 (by omega) 0 (by omega) (by omega) k hk
  rw [List.drop_zero, Int.zero_add] at e
  exact e

end Go.Proofs.Ytfnngpfkcnfhiaa.B
