/- Lemmas about the printed functions (needsval). -/
import Derived.Test.YtleehcjhbpnmlaaPAllx0
import Derived.Test.YtleehcjhbpnmlaaPAllx4
import Derived.Test.YtleehcjhbpnmlaaPAllx7
import Derived.Test.YtleehcjhbpnmlaaBbase
import Derived.Test.YtleehcjhbpnmlaaBwithin
import Derived.Test.YtleehcjhbpnmlaaBfoods
namespace Go.Proofs.Ytleehcjhbpnmlaa.B
open Go.RowKit Go.Proofs.Ytleehcjhbpnmlaa.PAll Go.Proofs.YtleehcjhbpnmlaaW.PrintWords Go.Proofs.YtleehcjhbpnmlaaW.PrintLast
set_option linter.unusedVariables false
set_option linter.unusedSimpArgs false

/-! #### needs: what is valid -/
def okNeed (c : List Int) (i : Int) : Bool := decide (0 ≤ rd c i ∧ rd c i ≤ 999999)
def needsV (l : List S29) (c : List Int) : Bool := allFrom (okNeed c) c.length 0 && (foodsV l && decide ((c.length : Int) = (l.length : Int)))
theorem spec_l15Needs_l0 (l : List S29) (hl : l.length ≤ 1000000000) (c : List Int) (hc : c.length ≤ 1000000000) : ∀ (d : Nat) (i : Int), 0 ≤ i → i + d = c.length → ∀ k, d + 2 * l.length + 2 ≤ k →
    spec_l15Needs.l0 k l c i = some (allFrom (okNeed c) d i && (foodsV l && decide ((c.length : Int) = (l.length : Int)))) := by
  intro d
  induction d with
  | zero =>
    intro i h0 hi k hk
    obtain ⟨k, rfl, _⟩ := rounds1 (k := k) (B := 2 * l.length + 1) (by omega)
    simp only [spec_l15Needs.l0, allFrom]
    rw [if_neg (by omega), spec_FoodsValid_eq l (by omega) k (by omega)]
    simp only [bsome, Bool.true_and]
    cases foodsV l with
    | false => rfl
    | true =>
      rw [if_pos rfl, Bool.true_and]
      by_cases e : (c.length : Int) = (l.length : Int)
      · rw [e, beq_self_eq_true, decide_eq_true rfl]
      · rw [beq_eq_false_iff_ne.2 e, decide_eq_false e]
  | succ d ih =>
    intro i h0 hi k hk
    obtain ⟨k, rfl, hk'⟩ := rounds1 (k := k) (B := d + 2 * l.length + 2) (by omega)
    simp only [spec_l15Needs.l0, allFrom]
    rw [if_pos (by omega), if_pos h0, l6In_eq, w64 (i + 1) (by omega) (by omega), ih (i + 1) (by omega) (by omega) k hk']
    simp only [bsome, decide_eq_true_eq]
    by_cases h : 0 ≤ rd c i ∧ rd c i ≤ 999999
    · rw [if_pos h, okNeed, decide_eq_true h, Bool.true_and]
    · rw [if_neg h, okNeed, decide_eq_false h, Bool.false_and, Bool.false_and]
theorem spec_l15Needs_eq (l : List S29) (hl : l.length ≤ 1000000000) (c : List Int) (hc : c.length ≤ 1000000000) (k : Nat) (hk : c.length + 2 * l.length + 2 ≤ k) : spec_l15Needs.f k l c = some (needsV l c) := by
  unfold spec_l15Needs.f needsV
  exact spec_l15Needs_l0 l hl c hc c.length 0 (by omega) (by omega) k hk
theorem impl_needsValid_l0 (c : List Int) (hc : c.length ≤ 1000000000) : ∀ (d : Nat) (i : Int), 0 ≤ i → i + d = c.length → ∀ k, d + 1 ≤ k →
    ∃ r, impl_needsValid.l0 k c i = some r ∧ (!(decide (0 ≤ r))) = allFrom (okNeed c) d i := by
  intro d
  induction d with
  | zero =>
    intro i h0 hi k hk
    obtain ⟨k, rfl, _⟩ := rounds1 hk
    refine ⟨-1, ?_, rfl⟩
    simp only [impl_needsValid.l0]
    rw [if_neg (by omega)]
  | succ d ih =>
    intro i h0 hi k hk
    obtain ⟨k, rfl, hk'⟩ := rounds1 hk
    by_cases h : 0 ≤ rd c i ∧ rd c i ≤ 999999
    · obtain ⟨r, e, hr⟩ := ih (i + 1) (by omega) (by omega) k hk'
      refine ⟨r, ?_, ?_⟩
      · simp only [impl_needsValid.l0]
        rw [if_pos (by omega), if_pos h0, within_eq, w64 (i + 1) (by omega) (by omega), e]
        simp only [bsome, decide_eq_true_eq]
        rw [if_pos h]
      · rw [hr, allFrom, okNeed, decide_eq_true h, Bool.true_and]
    · refine ⟨i, ?_, ?_⟩
      · simp only [impl_needsValid.l0]
        rw [if_pos (by omega), if_pos h0, within_eq]
        simp only [bsome, decide_eq_true_eq]
        rw [if_neg h]
      · rw [allFrom, okNeed, decide_eq_false h, decide_eq_true h0]
        rfl
theorem impl_needsValid_eq (l : List S29) (hl : l.length ≤ 1000000000) (c : List Int) (hc : c.length ≤ 1000000000) (k : Nat) (hk : c.length + 2 * l.length + 2 ≤ k) : impl_needsValid.f k l c = some (needsV l c) := by
  unfold impl_needsValid.f needsV
  rw [impl_FoodsValid_eq l (by omega) k (by omega)]
  simp only [bsome]
  cases foodsV l with
  | false => simp
  | true =>
    rw [if_pos rfl, Bool.true_and]
    by_cases e : (c.length : Int) = (l.length : Int)
    · obtain ⟨r, e1, hr⟩ := impl_needsValid_l0 c hc c.length 0 (by omega) (by omega) k (by omega)
      rw [if_pos e, e1]
      simp only [bsome]
      rw [hr, decide_eq_true e, Bool.and_true]
    · rw [if_neg e, decide_eq_false e, Bool.and_false]
theorem needsV_iff (l : List S29) (c : List Int) : needsV l c = true ↔ foodsV l = true ∧ c.length = l.length ∧ ∀ i : Int, 0 ≤ i → i < c.length → 0 ≤ rd c i ∧ rd c i ≤ 999999 := by
  unfold needsV
  simp only [Bool.and_eq_true, allFrom_iff, decide_eq_true_eq, okNeed]
  constructor
  · rintro ⟨h1, h2, h3⟩
    exact ⟨h2, by omega, fun i h0 hi => h1 i h0 (by omega)⟩
  · rintro ⟨h1, h2, h3⟩
    exact ⟨fun i h0 hi => h3 i h0 (by omega), h1, by omega⟩
theorem needs_len (l : List S29) (c : List Int) (h : needsV l c = true) : l.length ≤ 6 ∧ c.length = l.length := by
  obtain ⟨h1, h2, _⟩ := (needsV_iff l c).1 h
  exact ⟨((foodsV_iff l).1 h1).1, h2⟩

end Go.Proofs.Ytleehcjhbpnmlaa.B
