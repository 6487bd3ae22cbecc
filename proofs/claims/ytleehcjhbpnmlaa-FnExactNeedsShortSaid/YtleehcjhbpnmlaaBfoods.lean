/- Lemmas about the printed functions (foods). -/
import Derived.Test.YtleehcjhbpnmlaaPAllx0
import Derived.Test.YtleehcjhbpnmlaaPAllx3
import Derived.Test.YtleehcjhbpnmlaaPAllx4
import Derived.Test.YtleehcjhbpnmlaaPAllx5
import Derived.Test.YtleehcjhbpnmlaaPAllx6
import Derived.Test.YtleehcjhbpnmlaaBbase
import Derived.Test.YtleehcjhbpnmlaaBwithin
namespace Go.Proofs.Ytleehcjhbpnmlaa.B
open Go.RowKit Go.Proofs.Ytleehcjhbpnmlaa.PAll Go.Proofs.YtleehcjhbpnmlaaW.PrintWords Go.Proofs.YtleehcjhbpnmlaaW.PrintLast
set_option linter.unusedVariables false
set_option linter.unusedSimpArgs false

/-! #### foods: what is valid, both ways -/
theorem isId_eq (a : Int) : impl_isId.f a = some (decide (1 ≤ a ∧ a ≤ 20)) := by
  unfold impl_isId.f
  rw [within_eq]
  rfl
theorem isSet_eq (a : Int) : impl_isSet.f a = some (decide (0 ≤ a ∧ a ≤ 255)) := by
  unfold impl_isSet.f
  rw [within_eq]
  rfl
theorem isKind_eq (a : Int) : impl_isKind.f a = some (decide (1 ≤ a ∧ a ≤ 5)) := by
  unfold impl_isKind.f
  rw [within_eq]
  rfl
theorem l3Set_eq (a : Int) : spec_l3Set.f a = some (decide (0 ≤ a ∧ a ≤ 255)) := by
  unfold spec_l3Set.f
  rw [l6In_eq]
  rfl
def okFood (l : List S29) (i : Int) : Bool :=
  decide (1 ≤ (rd_T29 l i).f0 ∧ (rd_T29 l i).f0 ≤ 20) && (decide (1 ≤ (rd_T29 l i).f1 ∧ (rd_T29 l i).f1 ≤ 3) && (decide (0 ≤ (rd_T29 l i).f2 ∧ (rd_T29 l i).f2 ≤ 255) && (decide (1 ≤ (rd_T29 l i).f3 ∧ (rd_T29 l i).f3 ≤ 5) && (decide (0 ≤ (rd_T29 l i).f4 ∧ (rd_T29 l i).f4 ≤ 999) && (decide (0 ≤ (rd_T29 l i).f5 ∧ (rd_T29 l i).f5 ≤ 999) && (decide (i ≤ 0) || decide ((rd_T29 l (i - 1)).f0 < (rd_T29 l i).f0)))))))
def foodsV (l : List S29) : Bool := allFrom (okFood l) l.length 0 && decide ((l.length : Int) ≤ 6)
theorem impl_FoodsValid_l0 (l : List S29) (hl : l.length ≤ 1000000000) : ∀ (d : Nat) (i : Int), 0 ≤ i → i + d = l.length → ∀ k, d + 1 ≤ k →
    impl_FoodsValid.l0 k l l (l.length : Int) i = some (allFrom (okFood l) d i && decide ((l.length : Int) ≤ 6)) := by
  intro d
  induction d with
  | zero =>
    intro i h0 hi k hk
    obtain ⟨k, rfl, hk'⟩ := rounds1 hk
    simp only [impl_FoodsValid.l0]
    rw [if_neg (by omega)]
    simp only [allFrom, Bool.true_and]
  | succ d ih =>
    intro i h0 hi k hk
    obtain ⟨k, rfl, hk'⟩ := rounds1 hk
    have e := ih (i + 1) (by omega) (by omega) k hk'
    rw [impl_FoodsValid.l0, allFrom]
    rw [if_pos (by omega), if_pos (by omega), if_pos (by omega), isId_eq, within_eq, isSet_eq, isKind_eq, within_eq, within_eq, w64 (i + 1) (by omega) (by omega), e]
    simp only [bsome, decide_eq_true_eq]
    by_cases h1 : (1 ≤ (rd_T29 l i).f0 ∧ (rd_T29 l i).f0 ≤ 20)
    rotate_left
    · rw [if_neg h1]
      simp only [okFood, h1, decide_false, Bool.false_and, Bool.and_false]
    rw [if_pos h1]
    by_cases h2 : (1 ≤ (rd_T29 l i).f1 ∧ (rd_T29 l i).f1 ≤ 3)
    rotate_left
    · rw [if_neg h2]
      simp only [okFood, h2, decide_false, Bool.false_and, Bool.and_false]
    rw [if_pos h2]
    by_cases h3 : (0 ≤ (rd_T29 l i).f2 ∧ (rd_T29 l i).f2 ≤ 255)
    rotate_left
    · rw [if_neg h3]
      simp only [okFood, h3, decide_false, Bool.false_and, Bool.and_false]
    rw [if_pos h3]
    by_cases h4 : (1 ≤ (rd_T29 l i).f3 ∧ (rd_T29 l i).f3 ≤ 5)
    rotate_left
    · rw [if_neg h4]
      simp only [okFood, h4, decide_false, Bool.false_and, Bool.and_false]
    rw [if_pos h4]
    by_cases h5 : (0 ≤ (rd_T29 l i).f4 ∧ (rd_T29 l i).f4 ≤ 999)
    rotate_left
    · rw [if_neg h5]
      simp only [okFood, h5, decide_false, Bool.false_and, Bool.and_false]
    rw [if_pos h5]
    by_cases h6 : (0 ≤ (rd_T29 l i).f5 ∧ (rd_T29 l i).f5 ≤ 999)
    rotate_left
    · rw [if_neg h6]
      simp only [okFood, h6, decide_false, Bool.false_and, Bool.and_false]
    rw [if_pos h6]
    by_cases h7 : i ≤ 0
    · have ho : okFood l i = true := by simp only [okFood, h1, h2, h3, h4, h5, h6, h7, decide_true, Bool.true_or, Bool.and_true, and_self]
      rw [if_neg (by omega), ho, Bool.true_and]
    · rw [if_pos (by omega), w64 (i - 1) (by omega) (by omega), if_pos (by omega), if_pos (by omega)]
      by_cases h8 : (rd_T29 l (i - 1)).f0 ≥ (rd_T29 l i).f0
      · have ho : okFood l i = false := by
          simp only [okFood, h7, decide_false, Bool.false_or]
          rw [decide_eq_false (by omega : ¬ (rd_T29 l (i - 1)).f0 < (rd_T29 l i).f0)]
          simp only [Bool.and_false]
        rw [if_pos h8, ho, Bool.false_and, Bool.false_and]
      · have h9 : (rd_T29 l (i - 1)).f0 < (rd_T29 l i).f0 := by omega
        have ho : okFood l i = true := by simp only [okFood, h1, h2, h3, h4, h5, h6, h9, decide_true, Bool.or_true, Bool.and_true, and_self]
        rw [if_neg h8, ho, Bool.true_and]
theorem spec_FoodsValid_l0 (l : List S29) (hl : l.length ≤ 1000000000) : ∀ (d : Nat) (i : Int), 0 ≤ i → i + d = l.length → ∀ k, 2 * d + 1 ≤ k →
    spec_FoodsValid.l0 k l i = some (allFrom (okFood l) d i && decide ((l.length : Int) ≤ 6)) := by
  intro d
  induction d with
  | zero =>
    intro i h0 hi k hk
    obtain ⟨k, rfl, hk'⟩ := rounds1 (k := k) (B := 0) (by omega)
    simp only [spec_FoodsValid.l0]
    rw [if_neg (by omega)]
    simp only [allFrom, Bool.true_and]
  | succ d ih =>
    intro i h0 hi k hk
    obtain ⟨k, rfl, hk'⟩ := rounds1 (k := k) (B := 2 * d + 2) (by omega)
    obtain ⟨k, rfl, hk'⟩ := rounds1 (k := k) (B := 2 * d + 1) (by omega)
    have e := ih (i + 1) (by omega) (by omega) k (by omega)
    have J : ∀ b, spec_FoodsValid.j1 (k + 1) l i b (rd_T29 l i).f0 (rd_T29 l i).f1 (rd_T29 l i).f2 (rd_T29 l i).f3 (rd_T29 l i).f4 (rd_T29 l i).f5 = if b = true then (some false) else (if i > 0 then (if 0 ≤ (wrap64 (i - 1)) then (if (wrap64 (i - 1)) < (l.length : Int) then (if ((rd_T29 l (wrap64 (i - 1))).f0) ≥ (rd_T29 l i).f0 then (some false) else (some (allFrom (okFood l) d (i + 1) && decide ((l.length : Int) ≤ 6)))) else (none)) else (none)) else (some (allFrom (okFood l) d (i + 1) && decide ((l.length : Int) ≤ 6)))) := by
      intro b
      rw [spec_FoodsValid.j1, w64 (i + 1) (by omega) (by omega), e]
    rw [spec_FoodsValid.l0, allFrom]
    rw [if_pos (by omega), if_pos (by omega), l6In_eq, l6In_eq, l3Set_eq, l6In_eq, l6In_eq, l6In_eq]
    simp only [bsome, decide_eq_true_eq]
    by_cases h1 : (1 ≤ (rd_T29 l i).f0 ∧ (rd_T29 l i).f0 ≤ 20)
    rotate_left
    · rw [if_neg h1, J true, if_pos rfl]
      simp only [okFood, h1, decide_false, Bool.false_and, Bool.and_false]
    rw [if_pos h1]
    by_cases h2 : (1 ≤ (rd_T29 l i).f1 ∧ (rd_T29 l i).f1 ≤ 3)
    rotate_left
    · rw [if_neg h2, J true, if_pos rfl]
      simp only [okFood, h2, decide_false, Bool.false_and, Bool.and_false]
    rw [if_pos h2]
    by_cases h3 : (0 ≤ (rd_T29 l i).f2 ∧ (rd_T29 l i).f2 ≤ 255)
    rotate_left
    · rw [if_neg h3, J true, if_pos rfl]
      simp only [okFood, h3, decide_false, Bool.false_and, Bool.and_false]
    rw [if_pos h3]
    by_cases h4 : (1 ≤ (rd_T29 l i).f3 ∧ (rd_T29 l i).f3 ≤ 5)
    rotate_left
    · rw [if_neg h4, J true, if_pos rfl]
      simp only [okFood, h4, decide_false, Bool.false_and, Bool.and_false]
    rw [if_pos h4]
    by_cases h5 : (0 ≤ (rd_T29 l i).f4 ∧ (rd_T29 l i).f4 ≤ 999)
    rotate_left
    · rw [if_neg h5, J true, if_pos rfl]
      simp only [okFood, h5, decide_false, Bool.false_and, Bool.and_false]
    rw [if_pos h5]
    by_cases h6 : (0 ≤ (rd_T29 l i).f5 ∧ (rd_T29 l i).f5 ≤ 999)
    rotate_left
    · rw [J _, decide_eq_false h6, if_pos (by rfl)]
      simp only [okFood, h6, decide_false, Bool.false_and, Bool.and_false]
    rw [J _, decide_eq_true h6, if_neg (by simp)]
    by_cases h7 : i ≤ 0
    · have ho : okFood l i = true := by simp only [okFood, h1, h2, h3, h4, h5, h6, h7, decide_true, Bool.true_or, Bool.and_true, and_self]
      rw [if_neg (by omega), ho, Bool.true_and]
    · rw [if_pos (by omega), w64 (i - 1) (by omega) (by omega), if_pos (by omega), if_pos (by omega)]
      by_cases h8 : (rd_T29 l (i - 1)).f0 ≥ (rd_T29 l i).f0
      · have ho : okFood l i = false := by
          simp only [okFood, h7, decide_false, Bool.false_or]
          rw [decide_eq_false (by omega : ¬ (rd_T29 l (i - 1)).f0 < (rd_T29 l i).f0)]
          simp only [Bool.and_false]
        rw [if_pos h8, ho, Bool.false_and, Bool.false_and]
      · have h9 : (rd_T29 l (i - 1)).f0 < (rd_T29 l i).f0 := by omega
        have ho : okFood l i = true := by simp only [okFood, h1, h2, h3, h4, h5, h6, h9, decide_true, Bool.or_true, Bool.and_true, and_self]
        rw [if_neg h8, ho, Bool.true_and]
theorem impl_FoodsValid_eq (l : List S29) (hl : l.length ≤ 1000000000) (k : Nat) (hk : l.length + 1 ≤ k) : impl_FoodsValid.f k l = some (foodsV l) := by
  unfold impl_FoodsValid.f foodsV
  exact impl_FoodsValid_l0 l hl l.length 0 (by omega) (by omega) k hk
theorem spec_FoodsValid_eq (l : List S29) (hl : l.length ≤ 1000000000) (k : Nat) (hk : 2 * l.length + 1 ≤ k) : spec_FoodsValid.f k l = some (foodsV l) := by
  unfold spec_FoodsValid.f foodsV
  exact spec_FoodsValid_l0 l hl l.length 0 (by omega) (by omega) k hk
theorem foodsV_iff (l : List S29) : foodsV l = true ↔ l.length ≤ 6 ∧ ∀ i : Int, 0 ≤ i → i < l.length → okFood l i = true := by
  unfold foodsV
  rw [Bool.and_eq_true, allFrom_iff, decide_eq_true_eq]
  constructor
  · rintro ⟨h1, h2⟩
    exact ⟨by omega, fun i h0 hi => h1 i h0 (by omega)⟩
  · rintro ⟨h1, h2⟩
    exact ⟨fun i h0 hi => h2 i h0 (by omega), by omega⟩
theorem food_range (l : List S29) (h : foodsV l = true) (i : Int) (h0 : 0 ≤ i) (h1 : i < l.length) : (0 ≤ (rd_T29 l i).f4 ∧ (rd_T29 l i).f4 ≤ 999) ∧ (0 ≤ (rd_T29 l i).f5 ∧ (rd_T29 l i).f5 ≤ 999) := by
  have := ((foodsV_iff l).1 h).2 i h0 h1
  simp only [okFood, Bool.and_eq_true, decide_eq_true_eq] at this
  exact ⟨this.2.2.2.2.1, this.2.2.2.2.2.1⟩

end Go.Proofs.Ytleehcjhbpnmlaa.B
