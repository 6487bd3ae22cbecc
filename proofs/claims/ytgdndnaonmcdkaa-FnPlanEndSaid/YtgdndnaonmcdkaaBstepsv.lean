/- Lemmas about the printed functions (stepsv). -/
import Derived.Test.YtgdndnaonmcdkaaPAllx0
import Derived.Test.YtgdndnaonmcdkaaPAllx5
import Derived.Test.YtgdndnaonmcdkaaPAllx14
import Derived.Test.YtgdndnaonmcdkaaBbase
import Derived.Test.YtgdndnaonmcdkaaBwithin
namespace Go.Proofs.Ytgdndnaonmcdkaa.B
open Go.RowKit Go.Proofs.Ytgdndnaonmcdkaa.PAll Go.Proofs.YtgdndnaonmcdkaaW.PrintWords Go.Proofs.YtgdndnaonmcdkaaW.PrintLast
set_option linter.unusedVariables false
set_option linter.unusedSimpArgs false

/-! #### steps: what is valid, both ways -/
def okAfter (a : List Int) (i j : Int) : Bool := decide (0 ≤ rd a j ∧ rd a j ≤ i - 1) && (decide (j ≤ 0) || decide (rd a (j - 1) < rd a j))
def okStep (l : List S29) (i : Int) : Bool :=
  decide (1 ≤ (rd_T29 l i).f0 ∧ (rd_T29 l i).f0 ≤ 99) && (decide (0 ≤ (rd_T29 l i).f1 ∧ (rd_T29 l i).f1 ≤ 4) && (decide (0 ≤ (rd_T29 l i).f2 ∧ (rd_T29 l i).f2 ≤ 4) && allFrom (okAfter (rd_T29 l i).f3 i) (rd_T29 l i).f3.length 0))
def stepsV (l : List S29) : Bool := allFrom (okStep l) l.length 0 && decide ((l.length : Int) ≤ 8)
theorem impl_StepsValid_l1 (l : List S29) (hl : l.length ≤ 1000000000) (i : Int) (h0 : 0 ≤ i) (hi : i < l.length) (a : List Int) (ha : a.length ≤ 1000000000) (b0 b1 b2 : Int) : ∀ (d : Nat) (j : Int), 0 ≤ j → j + d = a.length → ∀ k,
    impl_StepsValid.l1 (k + d + 1) l i l (l.length : Int) i a (a.length : Int) j b0 b1 b2 a = if allFrom (okAfter a i) d j = true then impl_StepsValid.l0 k l l (l.length : Int) (i + 1) else some false := by
  intro d
  induction d with
  | zero =>
    intro j j0 hj k
    rw [Nat.add_zero, impl_StepsValid.l1, if_neg (by omega), w64 (i + 1) (by omega) (by omega)]
    simp only [allFrom, if_true]
  | succ d ih =>
    intro j j0 hj k
    have e := ih (j + 1) (by omega) (by omega) k
    rw [show k + (d + 1) + 1 = (k + d + 1) + 1 by omega]
    generalize k + d + 1 = q at e ⊢
    rw [impl_StepsValid.l1, if_pos (by omega), if_pos j0, if_pos (by omega), within_eq, w64 (i - 1) (by omega) (by omega), w64 (j + 1) (by omega) (by omega), e]
    simp only [bsome, decide_eq_true_eq, allFrom, Bool.and_eq_true]
    by_cases h1 : 0 ≤ rd a j ∧ rd a j ≤ i - 1
    · rw [if_pos h1]
      by_cases h2 : j ≤ 0
      · have ho : okAfter a i j = true := by simp only [okAfter, h1, h2, decide_true, Bool.true_or, Bool.and_true, and_self]
        rw [if_neg (by omega)]
        simp only [ho, true_and]
      · rw [if_pos (by omega), w64 (j - 1) (by omega) (by omega), if_pos (by omega), if_pos (by omega)]
        by_cases h3 : rd a (j - 1) ≥ rd a j
        · have ho : okAfter a i j = false := by
            simp only [okAfter, h2, decide_false, Bool.false_or]
            rw [decide_eq_false (by omega : ¬ rd a (j - 1) < rd a j), Bool.and_false]
          rw [if_pos h3]
          simp [ho]
        · have h4 : rd a (j - 1) < rd a j := by omega
          have ho : okAfter a i j = true := by simp only [okAfter, h1, h4, decide_true, Bool.or_true, Bool.and_true, and_self]
          rw [if_neg h3]
          simp only [ho, true_and]
    · have ho : okAfter a i j = false := by simp only [okAfter, h1, decide_false, Bool.false_and]
      rw [if_neg h1]
      simp [ho]
theorem mul_step (M d : Nat) : (M + 4) * (d + 1) = (M + 4) * d + (M + 4) := Nat.mul_succ _ _
theorem impl_StepsValid_l0 (l : List S29) (hl : l.length ≤ 1000000000) (M : Nat) (hM : M ≤ 1000000000) (hf : ∀ i : Int, 0 ≤ i → i < l.length → (rd_T29 l i).f3.length ≤ M) : ∀ (d : Nat) (i : Int), 0 ≤ i → i + d = l.length → ∀ k, (M + 4) * d + 1 ≤ k →
    impl_StepsValid.l0 k l l (l.length : Int) i = some (allFrom (okStep l) d i && decide ((l.length : Int) ≤ 8)) := by
  intro d
  induction d with
  | zero =>
    intro i h0 hi k hk
    obtain ⟨k, rfl, _⟩ := rounds1 (k := k) (B := 0) (by omega)
    rw [impl_StepsValid.l0, if_neg (by omega), allFrom, Bool.true_and]
  | succ d ih =>
    intro i h0 hi k hk
    rw [mul_step] at hk
    have hm := hf i h0 (by omega)
    obtain ⟨k, rfl⟩ : ∃ q, k = (q + (rd_T29 l i).f3.length + 1) + 1 + 1 := ⟨k - (rd_T29 l i).f3.length - 3, by omega⟩
    have e := ih (i + 1) (by omega) (by omega) k (by omega)
    rw [impl_StepsValid.l0, if_pos (by omega), if_pos h0, if_pos (by omega), within_eq, within_eq, within_eq]
    simp only [bsome, decide_eq_true_eq, allFrom]
    rw [impl_StepsValid.j1, impl_StepsValid.j1, impl_StepsValid_l1 l hl i h0 (by omega) _ (by omega) _ _ _ _ 0 (by omega) (by omega) k, e]
    by_cases h1 : 1 ≤ (rd_T29 l i).f0 ∧ (rd_T29 l i).f0 ≤ 99
    · rw [if_pos h1]
      by_cases h2 : 0 ≤ (rd_T29 l i).f1 ∧ (rd_T29 l i).f1 ≤ 4
      · rw [if_pos h2]
        by_cases h3 : 0 ≤ (rd_T29 l i).f2 ∧ (rd_T29 l i).f2 ≤ 4
        · have ho : okStep l i = allFrom (okAfter (rd_T29 l i).f3 i) (rd_T29 l i).f3.length 0 := by simp only [okStep, h1, h2, h3, decide_true, Bool.true_and, and_self]
          rw [decide_eq_true h3, if_neg (by simp), ho]
          cases allFrom (okAfter (rd_T29 l i).f3 i) (rd_T29 l i).f3.length 0 <;> simp
        · have ho : okStep l i = false := by simp only [okStep, h3, decide_false, Bool.false_and, Bool.and_false]
          rw [decide_eq_false h3, ho]
          simp
      · have ho : okStep l i = false := by simp only [okStep, h2, decide_false, Bool.false_and, Bool.and_false]
        rw [if_neg h2, ho]
        simp
    · have ho : okStep l i = false := by simp only [okStep, h1, decide_false, Bool.false_and]
      rw [if_neg h1, ho]
      simp
theorem spec_StepsValid_l1 (l : List S29) (hl : l.length ≤ 1000000000) (i : Int) (h0 : 0 ≤ i) (hi : i < l.length) (a : List Int) (ha : a.length ≤ 1000000000) (b0 b1 b2 : Int) : ∀ (d : Nat) (j : Int), 0 ≤ j → j + d = a.length → ∀ k,
    spec_StepsValid.l1 (k + d + 1) l i j b0 b1 b2 a = if allFrom (okAfter a i) d j = true then spec_StepsValid.l0 k l (i + 1) else some false := by
  intro d
  induction d with
  | zero =>
    intro j j0 hj k
    rw [Nat.add_zero, spec_StepsValid.l1, if_neg (by omega), w64 (i + 1) (by omega) (by omega)]
    simp only [allFrom, if_true]
  | succ d ih =>
    intro j j0 hj k
    have e := ih (j + 1) (by omega) (by omega) k
    rw [show k + (d + 1) + 1 = (k + d + 1) + 1 by omega]
    generalize k + d + 1 = q at e ⊢
    rw [spec_StepsValid.l1, if_pos (by omega), if_pos j0, l6In_eq, w64 (i - 1) (by omega) (by omega), w64 (j + 1) (by omega) (by omega), e]
    simp only [bsome, decide_eq_true_eq, allFrom, Bool.and_eq_true]
    by_cases h1 : 0 ≤ rd a j ∧ rd a j ≤ i - 1
    · rw [if_pos h1]
      by_cases h2 : j ≤ 0
      · have ho : okAfter a i j = true := by simp only [okAfter, h1, h2, decide_true, Bool.true_or, Bool.and_true, and_self]
        rw [if_neg (by omega)]
        simp only [ho, true_and]
      · rw [if_pos (by omega), w64 (j - 1) (by omega) (by omega), if_pos (by omega), if_pos (by omega)]
        by_cases h3 : rd a (j - 1) ≥ rd a j
        · have ho : okAfter a i j = false := by
            simp only [okAfter, h2, decide_false, Bool.false_or]
            rw [decide_eq_false (by omega : ¬ rd a (j - 1) < rd a j), Bool.and_false]
          rw [if_pos h3]
          simp [ho]
        · have h4 : rd a (j - 1) < rd a j := by omega
          have ho : okAfter a i j = true := by simp only [okAfter, h1, h4, decide_true, Bool.or_true, Bool.and_true, and_self]
          rw [if_neg h3]
          simp only [ho, true_and]
    · have ho : okAfter a i j = false := by simp only [okAfter, h1, decide_false, Bool.false_and]
      rw [if_neg h1]
      simp [ho]
theorem spec_StepsValid_l0 (l : List S29) (hl : l.length ≤ 1000000000) (M : Nat) (hM : M ≤ 1000000000) (hf : ∀ i : Int, 0 ≤ i → i < l.length → (rd_T29 l i).f3.length ≤ M) : ∀ (d : Nat) (i : Int), 0 ≤ i → i + d = l.length → ∀ k, (M + 4) * d + 1 ≤ k →
    spec_StepsValid.l0 k l i = some (allFrom (okStep l) d i && decide ((l.length : Int) ≤ 8)) := by
  intro d
  induction d with
  | zero =>
    intro i h0 hi k hk
    obtain ⟨k, rfl, _⟩ := rounds1 (k := k) (B := 0) (by omega)
    rw [spec_StepsValid.l0, if_neg (by omega), allFrom, Bool.true_and]
  | succ d ih =>
    intro i h0 hi k hk
    rw [mul_step] at hk
    have hm := hf i h0 (by omega)
    obtain ⟨k, rfl⟩ : ∃ q, k = (q + (rd_T29 l i).f3.length + 1) + 1 + 1 := ⟨k - (rd_T29 l i).f3.length - 3, by omega⟩
    have e := ih (i + 1) (by omega) (by omega) k (by omega)
    rw [spec_StepsValid.l0, if_pos (by omega), if_pos h0, l6In_eq, l6In_eq, l6In_eq]
    simp only [bsome, decide_eq_true_eq, allFrom]
    rw [spec_StepsValid.j1, spec_StepsValid.j1, spec_StepsValid_l1 l hl i h0 (by omega) _ (by omega) _ _ _ _ 0 (by omega) (by omega) k, e]
    by_cases h1 : 1 ≤ (rd_T29 l i).f0 ∧ (rd_T29 l i).f0 ≤ 99
    · rw [if_pos h1]
      by_cases h2 : 0 ≤ (rd_T29 l i).f1 ∧ (rd_T29 l i).f1 ≤ 4
      · rw [if_pos h2]
        by_cases h3 : 0 ≤ (rd_T29 l i).f2 ∧ (rd_T29 l i).f2 ≤ 4
        · have ho : okStep l i = allFrom (okAfter (rd_T29 l i).f3 i) (rd_T29 l i).f3.length 0 := by simp only [okStep, h1, h2, h3, decide_true, Bool.true_and, and_self]
          rw [decide_eq_true h3, if_neg (by simp), ho]
          cases allFrom (okAfter (rd_T29 l i).f3 i) (rd_T29 l i).f3.length 0 <;> simp
        · have ho : okStep l i = false := by simp only [okStep, h3, decide_false, Bool.false_and, Bool.and_false]
          rw [decide_eq_false h3, ho]
          simp
      · have ho : okStep l i = false := by simp only [okStep, h2, decide_false, Bool.false_and, Bool.and_false]
        rw [if_neg h2, ho]
        simp
    · have ho : okStep l i = false := by simp only [okStep, h1, decide_false, Bool.false_and]
      rw [if_neg h1, ho]
      simp
/-- how long the lists inside are, at most -/
def Inner (l : List S29) (M : Nat) : Prop := l.length ≤ 1000000000 ∧ M ≤ 1000000000 ∧ ∀ i : Int, 0 ≤ i → i < l.length → (rd_T29 l i).f3.length ≤ M
theorem impl_StepsValid_eq (l : List S29) (M : Nat) (h : Inner l M) (k : Nat) (hk : (M + 4) * l.length + 1 ≤ k) : impl_StepsValid.f k l = some (stepsV l) := by
  unfold impl_StepsValid.f stepsV
  exact impl_StepsValid_l0 l h.1 M h.2.1 h.2.2 l.length 0 (by omega) (by omega) k hk
theorem spec_StepsValid_eq (l : List S29) (M : Nat) (h : Inner l M) (k : Nat) (hk : (M + 4) * l.length + 1 ≤ k) : spec_StepsValid.f k l = some (stepsV l) := by
  unfold spec_StepsValid.f stepsV
  exact spec_StepsValid_l0 l h.1 M h.2.1 h.2.2 l.length 0 (by omega) (by omega) k hk
theorem stepsV_iff (l : List S29) : stepsV l = true ↔ l.length ≤ 8 ∧ ∀ i : Int, 0 ≤ i → i < l.length → (1 ≤ (rd_T29 l i).f0 ∧ (rd_T29 l i).f0 ≤ 99) ∧ (0 ≤ (rd_T29 l i).f1 ∧ (rd_T29 l i).f1 ≤ 4) ∧ (0 ≤ (rd_T29 l i).f2 ∧ (rd_T29 l i).f2 ≤ 4) ∧
    ∀ j : Int, 0 ≤ j → j < (rd_T29 l i).f3.length → (0 ≤ rd (rd_T29 l i).f3 j ∧ rd (rd_T29 l i).f3 j < i) ∧ (0 < j → rd (rd_T29 l i).f3 (j - 1) < rd (rd_T29 l i).f3 j) := by
  unfold stepsV
  rw [Bool.and_eq_true, allFrom_iff, decide_eq_true_eq]
  constructor
  · rintro ⟨h1, h2⟩
    refine ⟨by omega, fun i h0 hi => ?_⟩
    have h := h1 i h0 (by omega)
    simp only [okStep, Bool.and_eq_true, decide_eq_true_eq, allFrom_iff, okAfter, Bool.or_eq_true] at h
    obtain ⟨a1, a2, a3, a4⟩ := h
    refine ⟨a1, a2, a3, fun j j0 hj => ?_⟩
    have := a4 j j0 (by omega)
    omega
  · rintro ⟨h1, h2⟩
    refine ⟨fun i h0 hi => ?_, by omega⟩
    obtain ⟨a1, a2, a3, a4⟩ := h2 i h0 (by omega)
    simp only [okStep, Bool.and_eq_true, decide_eq_true_eq, allFrom_iff, okAfter, Bool.or_eq_true]
    refine ⟨a1, a2, a3, fun j j0 hj => ?_⟩
    have := a4 j j0 (by omega)
    omega

end Go.Proofs.Ytgdndnaonmcdkaa.B
