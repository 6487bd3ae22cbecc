/- Lemmas about the printed functions (lots). -/
import Derived.Test.YtfnngpfkcnfhiaaPAllx0
import Derived.Test.YtfnngpfkcnfhiaaBbase
namespace Go.Proofs.Ytfnngpfkcnfhiaa.B
open Go.RowKit Go.Proofs.Ytfnngpfkcnfhiaa.PAll Go.Proofs.YtfnngpfkcnfhiaaW.PrintWords Go.Proofs.YtfnngpfkcnfhiaaW.PrintLast
set_option linter.unusedVariables false
set_option linter.unusedSimpArgs false

/-! #### lots: reading, what is valid -/
theorem rd_lot (l : List S30) (i : Nat) (h : i < l.length) : rd_T30 l (i : Int) = l[i] := by
  unfold rd_T30
  rw [Int.toNat_natCast, List.getD_eq_getElem?_getD, List.getElem?_eq_getElem h]
  rfl
theorem drop_lot (l : List S30) (i : Nat) (h : i < l.length) : l.drop i = rd_T30 l (i : Int) :: l.drop (i + 1) := by
  rw [rd_lot l i h, List.drop_eq_getElem_cons h]
theorem up (i : Nat) : (i : Int) + 1 = ((i + 1 : Nat) : Int) := by omega
def okL (x : S30) : Prop := (1 ≤ x.f0 ∧ x.f0 ≤ 20) ∧ (0 ≤ x.f1 ∧ x.f1 ≤ 99) ∧ (1 ≤ x.f2 ∧ x.f2 ≤ 9999)
def befL (x y : S30) : Prop := x.f0 < y.f0 ∨ (x.f0 = y.f0 ∧ x.f1 < y.f1)
instance (x : S30) : Decidable (okL x) := by unfold okL; infer_instance
instance (x y : S30) : Decidable (befL x y) := by unfold befL; infer_instance
theorem befL_trans {x y z : S30} (h : befL x y) (g : befL y z) : befL x z := by
  unfold befL at *
  omega
def okLotAt (l : List S30) (i : Int) : Bool := decide (okL (rd_T30 l i)) && (decide (i ≤ 0) || decide (befL (rd_T30 l (i - 1)) (rd_T30 l i)))
def storeV (l : List S30) : Bool := allFrom (okLotAt l) l.length 0 && decide ((l.length : Int) ≤ 12)
theorem storeV_iff (l : List S30) : storeV l = true ↔ l.length ≤ 12 ∧ (∀ x ∈ l, okL x) ∧ l.Pairwise befL := by
  unfold storeV
  rw [Bool.and_eq_true, allFrom_iff, decide_eq_true_eq]
  constructor
  · rintro ⟨h1, h2⟩
    have a : ∀ i : Nat, ∀ h : i < l.length, okL l[i] ∧ ∀ h0 : 0 < i, befL (l[i - 1]'(by omega)) l[i] := by
      intro i h
      have q := h1 i (by omega) (by omega)
      unfold okLotAt at q
      rw [Bool.and_eq_true, Bool.or_eq_true, decide_eq_true_eq, decide_eq_true_eq, decide_eq_true_eq, rd_lot l i h] at q
      refine ⟨q.1, fun h0 => ?_⟩
      rcases q.2 with c | c
      · omega
      · rw [show (i : Int) - 1 = ((i - 1 : Nat) : Int) by omega, rd_lot l (i - 1) (by omega)] at c
        exact c
    refine ⟨by omega, fun x hx => ?_, List.pairwise_iff_getElem.2 ?_⟩
    · obtain ⟨i, h, rfl⟩ := List.getElem_of_mem hx
      exact (a i h).1
    · intro i j
      induction j with
      | zero => intro _ _ h; omega
      | succ j ih =>
        intro hi hj h
        have b := (a (j + 1) hj).2 (by omega)
        by_cases c : i = j
        · subst c
          exact b
        · exact befL_trans (ih hi (by omega) (by omega)) b
  · rintro ⟨h1, h2, h3⟩
    refine ⟨fun i h0 hi => ?_, by omega⟩
    obtain ⟨i, rfl⟩ := Int.eq_ofNat_of_zero_le h0
    unfold okLotAt
    rw [Bool.and_eq_true, Bool.or_eq_true, decide_eq_true_eq, decide_eq_true_eq, decide_eq_true_eq, rd_lot l i (by omega)]
    refine ⟨h2 _ (List.getElem_mem _), ?_⟩
    by_cases c : (i : Int) ≤ 0
    · exact .inl c
    · rw [show (i : Int) - 1 = ((i - 1 : Nat) : Int) by omega, rd_lot l (i - 1) (by omega)]
      exact .inr (List.pairwise_iff_getElem.1 h3 (i - 1) i (by omega) (by omega) (by omega))

end Go.Proofs.Ytfnngpfkcnfhiaa.B
