/- Lemmas about the printed functions (storespec). -/
import Derived.Test.YtfnngpfkcnfhiaaPAllx0
import Derived.Test.YtfnngpfkcnfhiaaPAllx2
import Derived.Test.YtfnngpfkcnfhiaaPAllx3
import Derived.Test.YtfnngpfkcnfhiaaBbase
import Derived.Test.YtfnngpfkcnfhiaaBwithin
import Derived.Test.YtfnngpfkcnfhiaaBlots
namespace Go.Proofs.Ytfnngpfkcnfhiaa.B
open Go.RowKit Go.Proofs.Ytfnngpfkcnfhiaa.PAll Go.Proofs.YtfnngpfkcnfhiaaW.PrintWords Go.Proofs.YtfnngpfkcnfhiaaW.PrintLast
set_option linter.unusedVariables false
set_option linter.unusedSimpArgs false

theorem l21Lot_eq (x : S30) : spec_l21Lot.f x.f0 x.f1 x.f2 = some (decide (okL x)) := by
  unfold spec_l21Lot.f
  rw [l6In_eq, l6In_eq, l6In_eq]
  simp only [bsome]
  by_cases h : okL x
  · rw [decide_eq_true h, decide_eq_true h.1, decide_eq_true h.2.1, if_pos rfl, if_pos rfl, decide_eq_true h.2.2]
  · rw [decide_eq_false h]
    by_cases h1 : 1 ≤ x.f0 ∧ x.f0 ≤ 20
    · by_cases h2 : 0 ≤ x.f1 ∧ x.f1 ≤ 99
      · rw [decide_eq_true h1, decide_eq_true h2, if_pos rfl, if_pos rfl, decide_eq_false (fun h3 => h ⟨h1, h2, h3⟩)]
      · rw [decide_eq_true h1, decide_eq_false h2, if_pos rfl, if_neg (by simp)]
    · rw [decide_eq_false h1, if_neg (by simp)]
theorem l21Before_eq (x y : S30) : spec_l21Before.f x.f0 x.f1 x.f2 y.f0 y.f1 y.f2 = some (decide (befL x y)) := by
  unfold spec_l21Before.f
  by_cases h1 : x.f0 < y.f0
  · rw [if_pos h1, decide_eq_true (show befL x y from Or.inl h1)]
  · rw [if_neg h1]
    by_cases h2 : x.f0 = y.f0
    · rw [if_pos h2]
      by_cases h3 : x.f1 < y.f1
      · rw [decide_eq_true h3, decide_eq_true (show befL x y from Or.inr ⟨h2, h3⟩)]
      · rw [decide_eq_false h3, decide_eq_false (show ¬ befL x y from fun h => by rcases h with h | h <;> omega)]
    · rw [if_neg h2, decide_eq_false (show ¬ befL x y from fun h => by rcases h with h | h <;> omega)]
theorem spec_StoreValid_l0 (l : List S30) (hl : l.length ≤ 1000000000) : ∀ (d : Nat) (i : Int), 0 ≤ i → i + d = l.length → ∀ k, d + 1 ≤ k → spec_StoreValid.l0 k l i = some (allFrom (okLotAt l) d i && decide ((l.length : Int) ≤ 12)) := by
  intro d
  induction d with
  | zero =>
    intro i h0 hi k hk
    obtain ⟨k, rfl, _⟩ := rounds1 hk
    rw [spec_StoreValid.l0, if_neg (by omega), allFrom, Bool.true_and]
  | succ d ih =>
    intro i h0 hi k hk
    obtain ⟨k, rfl, hk'⟩ := rounds1 hk
    have e := ih (i + 1) (by omega) (by omega) k hk'
    rw [spec_StoreValid.l0, if_pos (by omega), if_pos h0, l21Lot_eq]
    simp only [bsome]
    rw [allFrom, okLotAt]
    by_cases c : okL (rd_T30 l i)
    · rw [decide_eq_true c, if_pos rfl, Bool.true_and, w64 (i + 1) (by omega) (by omega)]
      by_cases c0 : i > 0
      · rw [if_pos c0, w64 (i - 1) (by omega) (by omega), if_pos (by omega), if_pos (by omega), l21Before_eq, decide_eq_false (show ¬ (i ≤ 0) by omega), Bool.false_or]
        simp only [bsome]
        by_cases c1 : befL (rd_T30 l (i - 1)) (rd_T30 l i)
        · rw [decide_eq_true c1, if_pos rfl, e, Bool.true_and]
        · rw [decide_eq_false c1, if_neg (by simp), Bool.false_and, Bool.false_and]
      · rw [if_neg c0, e, decide_eq_true (show i ≤ 0 by omega), Bool.true_or, Bool.true_and]
    · rw [decide_eq_false c, if_neg (by simp), Bool.false_and, Bool.false_and, Bool.false_and]
theorem spec_StoreValid_eq (l : List S30) (hl : l.length ≤ 1000000000) (k : Nat) (hk : l.length + 1 ≤ k) : spec_StoreValid.f k l = some (storeV l) := by
  unfold spec_StoreValid.f storeV
  exact spec_StoreValid_l0 l hl l.length 0 (by omega) (by omega) k hk

end Go.Proofs.Ytfnngpfkcnfhiaa.B
