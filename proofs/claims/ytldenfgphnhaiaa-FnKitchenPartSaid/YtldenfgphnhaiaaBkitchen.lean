/- Lemmas about the printed functions (kitchen). -/
import Derived.Test.YtldenfgphnhaiaaPAllx0
import Derived.Test.YtldenfgphnhaiaaPAllx3
import Derived.Test.YtldenfgphnhaiaaBbase
import Derived.Test.YtldenfgphnhaiaaBwithin
namespace Go.Proofs.Ytldenfgphnhaiaa.B
open Go.RowKit Go.Proofs.Ytldenfgphnhaiaa.PAll Go.Proofs.YtldenfgphnhaiaaW.PrintWords Go.Proofs.YtldenfgphnhaiaaW.PrintLast
set_option linter.unusedVariables false
set_option linter.unusedSimpArgs false

/-! #### kitchens -/
def okPlace (c : List Int) (i : Int) : Bool := decide (0 ≤ rd c i ∧ rd c i ≤ 3)
def kitchenV (h : Int) (c : List Int) : Bool := allFrom (okPlace c) c.length 0 && (decide (0 ≤ h ∧ h ≤ 9) && decide ((c.length : Int) = 4))
theorem spec_KitchenValid_l0 (h : Int) (c : List Int) (hc : c.length ≤ 1000000000) : ∀ (d : Nat) (i : Int), 0 ≤ i → i + d = c.length → ∀ k, d + 1 ≤ k →
    spec_KitchenValid.l0 k i h c = some (allFrom (okPlace c) d i && (decide (0 ≤ h ∧ h ≤ 9) && decide ((c.length : Int) = 4))) := by
  intro d
  induction d with
  | zero =>
    intro i h0 hi k hk
    obtain ⟨k, rfl, _⟩ := rounds1 hk
    rw [spec_KitchenValid.l0, if_neg (by omega), l6In_eq, allFrom, Bool.true_and]
    simp only [bsome]
    by_cases g : 0 ≤ h ∧ h ≤ 9
    · rw [decide_eq_true g, if_pos rfl, Bool.true_and]
      by_cases e : (c.length : Int) = 4
      · rw [e, beq_self_eq_true, decide_eq_true rfl]
      · rw [beq_eq_false_iff_ne.2 e, decide_eq_false e]
    · rw [decide_eq_false g, if_neg (by simp), Bool.false_and]
  | succ d ih =>
    intro i h0 hi k hk
    obtain ⟨k, rfl, hk'⟩ := rounds1 hk
    rw [spec_KitchenValid.l0, if_pos (by omega), if_pos h0, l6In_eq, w64 (i + 1) (by omega) (by omega), ih (i + 1) (by omega) (by omega) k hk', allFrom]
    simp only [bsome]
    by_cases g : 0 ≤ rd c i ∧ rd c i ≤ 3
    · rw [okPlace, decide_eq_true g, if_pos rfl, Bool.true_and]
    · rw [okPlace, decide_eq_false g, if_neg (by simp), Bool.false_and, Bool.false_and]
theorem spec_KitchenValid_eq (h : Int) (c : List Int) (hc : c.length ≤ 1000000000) (k : Nat) (hk : c.length + 1 ≤ k) : spec_KitchenValid.f k h c = some (kitchenV h c) := by
  unfold spec_KitchenValid.f kitchenV
  exact spec_KitchenValid_l0 h c hc c.length 0 (by omega) (by omega) k hk
theorem impl_KitchenValid_l0 (c : List Int) (hc : c.length ≤ 1000000000) : ∀ (d : Nat) (i : Int), 0 ≤ i → i + d = c.length → ∀ k, d + 1 ≤ k →
    ∃ r, impl_KitchenValid.l0 k c i = some r ∧ (!(decide (0 ≤ r))) = allFrom (okPlace c) d i := by
  intro d
  induction d with
  | zero =>
    intro i h0 hi k hk
    obtain ⟨k, rfl, _⟩ := rounds1 hk
    refine ⟨-1, ?_, rfl⟩
    rw [impl_KitchenValid.l0, if_neg (by omega)]
  | succ d ih =>
    intro i h0 hi k hk
    obtain ⟨k, rfl, hk'⟩ := rounds1 hk
    by_cases h : 0 ≤ rd c i ∧ rd c i ≤ 3
    · obtain ⟨r, e, hr⟩ := ih (i + 1) (by omega) (by omega) k hk'
      refine ⟨r, ?_, ?_⟩
      · rw [impl_KitchenValid.l0, if_pos (by omega), if_pos h0, within_eq, w64 (i + 1) (by omega) (by omega), e]
        simp only [bsome]
        rw [decide_eq_true h, if_pos rfl]
      · rw [hr, allFrom, okPlace, decide_eq_true h, Bool.true_and]
    · refine ⟨i, ?_, ?_⟩
      · rw [impl_KitchenValid.l0, if_pos (by omega), if_pos h0, within_eq]
        simp only [bsome]
        rw [decide_eq_false h, if_neg (by simp)]
      · rw [allFrom, okPlace, decide_eq_false h, decide_eq_true h0]
        rfl
theorem impl_KitchenValid_eq (h : Int) (c : List Int) (hc : c.length ≤ 1000000000) (k : Nat) (hk : c.length + 1 ≤ k) : impl_KitchenValid.f k h c = some (kitchenV h c) := by
  unfold impl_KitchenValid.f kitchenV
  rw [within_eq]
  simp only [bsome]
  by_cases g : 0 ≤ h ∧ h ≤ 9
  · rw [decide_eq_true g, if_pos rfl, Bool.true_and]
    by_cases e : (c.length : Int) = 4
    · obtain ⟨r, e1, hr⟩ := impl_KitchenValid_l0 c hc c.length 0 (by omega) (by omega) k (by omega)
      rw [if_pos e, e1]
      simp only [bsome]
      rw [hr, decide_eq_true e, Bool.and_true]
    · rw [if_neg e, decide_eq_false e, Bool.and_false]
  · rw [decide_eq_false g, if_neg (by simp), Bool.false_and, Bool.and_false]

end Go.Proofs.Ytldenfgphnhaiaa.B
