/- Lemmas about the printed functions (offers). -/
import Derived.Test.YtddlmemjmmohhaaPAllx0
import Derived.Test.YtddlmemjmmohhaaPAllx2
import Derived.Test.YtddlmemjmmohhaaPAllx3
import Derived.Test.YtddlmemjmmohhaaPAllx4
import Derived.Test.YtddlmemjmmohhaaBbase
namespace Go.Proofs.Ytddlmemjmmohhaa.B
open Go.RowKit Go.Proofs.Ytddlmemjmmohhaa.PAll Go.Proofs.YtddlmemjmmohhaaW.PrintWords Go.Proofs.YtddlmemjmmohhaaW.PrintLast
set_option linter.unusedVariables false
set_option linter.unusedSimpArgs false

/-! #### offers: what is valid, both ways -/
theorem within_eq (a b c : Int) : impl_within.f a b c = some (decide (b ≤ a ∧ a ≤ c)) := by
  unfold impl_within.f
  by_cases h : b ≤ a <;> simp [h]
theorem l6In_eq (a b c : Int) : spec_l6In.f a b c = some (decide (b ≤ a ∧ a ≤ c)) := by
  unfold spec_l6In.f
  by_cases h : b ≤ a <;> simp [h]
def okOffer (l : List S37) (i : Int) : Bool :=
  decide (1 ≤ (rd_T37 l i).f0 ∧ (rd_T37 l i).f0 ≤ 50) && (decide (1 ≤ (rd_T37 l i).f1 ∧ (rd_T37 l i).f1 ≤ 999) && (decide (i ≤ 0) || decide ((rd_T37 l (i - 1)).f0 < (rd_T37 l i).f0)))
def offersV (l : List S37) : Bool := allFrom (okOffer l) l.length 0 && decide (1 ≤ (l.length : Int) ∧ (l.length : Int) ≤ 3)
theorem impl_OffersValid_l0 (l : List S37) (hl : l.length ≤ 1000000000) : ∀ (d : Nat) (i : Int), 0 ≤ i → i + d = l.length → ∀ k, d + 1 ≤ k →
    impl_OffersValid.l0 k l l (l.length : Int) i = some (allFrom (okOffer l) d i && decide (1 ≤ (l.length : Int) ∧ (l.length : Int) ≤ 3)) := by
  intro d
  induction d with
  | zero =>
    intro i h0 hi k hk
    obtain ⟨k, rfl, hk'⟩ := rounds1 hk
    simp only [impl_OffersValid.l0]
    rw [if_neg (by omega), within_eq]
    simp only [bsome, allFrom, Bool.true_and]
  | succ d ih =>
    intro i h0 hi k hk
    obtain ⟨k, rfl, hk'⟩ := rounds1 hk
    have e := ih (i + 1) (by omega) (by omega) k hk'
    simp only [impl_OffersValid.l0, allFrom]
    rw [if_pos (by omega), if_pos (by omega), if_pos (by omega), within_eq, within_eq, w64 (i + 1) (by omega) (by omega), e]
    simp only [bsome, decide_eq_true_eq]
    by_cases h1 : 1 ≤ (rd_T37 l i).f0 ∧ (rd_T37 l i).f0 ≤ 50
    · by_cases h2 : 1 ≤ (rd_T37 l i).f1 ∧ (rd_T37 l i).f1 ≤ 999
      · rw [if_pos h1, if_pos h2]
        by_cases h3 : i ≤ 0
        · have ho : okOffer l i = true := by simp only [okOffer, h1, h2, h3, decide_true, Bool.true_or, Bool.and_true, and_self]
          rw [if_neg (by omega), ho, Bool.true_and]
        · rw [if_pos (by omega), w64 _ (by omega) (by omega), if_pos (by omega), if_pos (by omega)]
          by_cases h4 : (rd_T37 l (i - 1)).f0 ≥ (rd_T37 l i).f0
          · have ho : okOffer l i = false := by
              simp only [okOffer, h3, decide_false, Bool.false_or]
              rw [decide_eq_false (by omega : ¬ (rd_T37 l (i - 1)).f0 < (rd_T37 l i).f0), Bool.and_false, Bool.and_false]
            rw [if_pos h4, ho, Bool.false_and, Bool.false_and]
          · have h5 : (rd_T37 l (i - 1)).f0 < (rd_T37 l i).f0 := by omega
            have ho : okOffer l i = true := by simp only [okOffer, h1, h2, h5, decide_true, Bool.or_true, Bool.and_true, and_self]
            rw [if_neg h4, ho, Bool.true_and]
      · rw [if_pos h1, if_neg h2]
        simp only [okOffer, h2, decide_false, Bool.false_and, Bool.and_false]
    · rw [if_neg h1]
      simp only [okOffer, h1, decide_false, Bool.false_and]
theorem spec_OffersValid_l0 (l : List S37) (hl : l.length ≤ 1000000000) : ∀ (d : Nat) (i : Int), 0 ≤ i → i + d = l.length → ∀ k, d + 1 ≤ k →
    spec_OffersValid.l0 k l i = some (allFrom (okOffer l) d i && decide (1 ≤ (l.length : Int) ∧ (l.length : Int) ≤ 3)) := by
  intro d
  induction d with
  | zero =>
    intro i h0 hi k hk
    obtain ⟨k, rfl, hk'⟩ := rounds1 hk
    simp only [spec_OffersValid.l0]
    rw [if_neg (by omega), l6In_eq]
    simp only [bsome, allFrom, Bool.true_and]
  | succ d ih =>
    intro i h0 hi k hk
    obtain ⟨k, rfl, hk'⟩ := rounds1 hk
    have e := ih (i + 1) (by omega) (by omega) k hk'
    simp only [spec_OffersValid.l0, allFrom]
    rw [if_pos (by omega), if_pos (by omega), l6In_eq, l6In_eq, w64 (i + 1) (by omega) (by omega), e]
    simp only [bsome, decide_eq_true_eq]
    by_cases h1 : 1 ≤ (rd_T37 l i).f0 ∧ (rd_T37 l i).f0 ≤ 50
    · by_cases h2 : 1 ≤ (rd_T37 l i).f1 ∧ (rd_T37 l i).f1 ≤ 999
      · rw [if_pos h1, if_pos h2]
        by_cases h3 : i ≤ 0
        · have ho : okOffer l i = true := by simp only [okOffer, h1, h2, h3, decide_true, Bool.true_or, Bool.and_true, and_self]
          rw [if_neg (by omega), ho, Bool.true_and]
        · rw [if_pos (by omega), w64 _ (by omega) (by omega), if_pos (by omega), if_pos (by omega)]
          by_cases h4 : (rd_T37 l (i - 1)).f0 ≥ (rd_T37 l i).f0
          · have ho : okOffer l i = false := by
              simp only [okOffer, h3, decide_false, Bool.false_or]
              rw [decide_eq_false (by omega : ¬ (rd_T37 l (i - 1)).f0 < (rd_T37 l i).f0), Bool.and_false, Bool.and_false]
            rw [if_pos h4, ho, Bool.false_and, Bool.false_and]
          · have h5 : (rd_T37 l (i - 1)).f0 < (rd_T37 l i).f0 := by omega
            have ho : okOffer l i = true := by simp only [okOffer, h1, h2, h5, decide_true, Bool.or_true, Bool.and_true, and_self]
            rw [if_neg h4, ho, Bool.true_and]
      · rw [if_pos h1, if_neg h2]
        simp only [okOffer, h2, decide_false, Bool.false_and, Bool.and_false]
    · rw [if_neg h1]
      simp only [okOffer, h1, decide_false, Bool.false_and]
theorem impl_OffersValid_eq (l : List S37) (hl : l.length ≤ 1000000000) (k : Nat) (hk : l.length + 1 ≤ k) : impl_OffersValid.f k l = some (offersV l) := by
  unfold impl_OffersValid.f offersV
  exact impl_OffersValid_l0 l hl l.length 0 (by omega) (by omega) k hk
theorem spec_OffersValid_eq (l : List S37) (hl : l.length ≤ 1000000000) (k : Nat) (hk : l.length + 1 ≤ k) : spec_OffersValid.f k l = some (offersV l) := by
  unfold spec_OffersValid.f offersV
  exact spec_OffersValid_l0 l hl l.length 0 (by omega) (by omega) k hk
theorem offersV_iff (l : List S37) : offersV l = true ↔ (1 ≤ l.length ∧ l.length ≤ 3) ∧ ∀ i : Int, 0 ≤ i → i < l.length → okOffer l i = true := by
  unfold offersV
  rw [Bool.and_eq_true, allFrom_iff, decide_eq_true_eq]
  constructor
  · rintro ⟨h1, h2⟩
    exact ⟨by omega, fun i h0 hi => h1 i h0 (by omega)⟩
  · rintro ⟨h1, h2⟩
    exact ⟨fun i h0 hi => h2 i h0 (by omega), by omega⟩

end Go.Proofs.Ytddlmemjmmohhaa.B
