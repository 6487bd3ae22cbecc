/- Lemmas about the printed functions (counts). -/
import Derived.Test.YtddlmemjmmohhaaPAllx0
import Derived.Test.YtddlmemjmmohhaaPAllx9
import Derived.Test.YtddlmemjmmohhaaPAllx10
import Derived.Test.YtddlmemjmmohhaaBbase
import Derived.Test.YtddlmemjmmohhaaBoffers
import Derived.Test.YtddlmemjmmohhaaBleast
import Derived.Test.YtddlmemjmmohhaaBsums
namespace Go.Proofs.Ytddlmemjmmohhaa.B
open Go.RowKit Go.Proofs.Ytddlmemjmmohhaa.PAll Go.Proofs.YtddlmemjmmohhaaW.PrintWords Go.Proofs.YtddlmemjmmohhaaW.PrintLast
set_option linter.unusedVariables false
set_option linter.unusedSimpArgs false

/-! #### counts of packages -/
def okCount (c : List Int) (i : Int) : Bool := decide (0 ≤ rd c i ∧ rd c i ≤ 99)
def countsV (l : List S37) (c : List Int) : Bool := allFrom (okCount c) c.length 0 && (offersV l && decide ((c.length : Int) = (l.length : Int)))
theorem spec_l22Counts_l0 (l : List S37) (hl : l.length ≤ 1000000000) (c : List Int) (hc : c.length ≤ 1000000000) : ∀ (d : Nat) (i : Int), 0 ≤ i → i + d = c.length → ∀ k, d + l.length + 2 ≤ k →
    spec_l22Counts.l0 k l c i = some (allFrom (okCount c) d i && (offersV l && decide ((c.length : Int) = (l.length : Int)))) := by
  intro d
  induction d with
  | zero =>
    intro i h0 hi k hk
    obtain ⟨k, rfl, _⟩ := rounds1 (k := k) (B := l.length + 1) (by omega)
    simp only [spec_l22Counts.l0, allFrom]
    rw [if_neg (by omega), spec_OffersValid_eq l (by omega) k (by omega)]
    simp only [bsome, Bool.true_and]
    cases offersV l with
    | false => rfl
    | true =>
      rw [if_pos rfl, Bool.true_and]
      by_cases e : (c.length : Int) = (l.length : Int)
      · rw [e, beq_self_eq_true, decide_eq_true rfl]
      · rw [beq_eq_false_iff_ne.2 e, decide_eq_false e]
  | succ d ih =>
    intro i h0 hi k hk
    obtain ⟨k, rfl, hk'⟩ := rounds1 (k := k) (B := d + l.length + 2) (by omega)
    simp only [spec_l22Counts.l0, allFrom]
    rw [if_pos (by omega), if_pos h0, l6In_eq, w64 (i + 1) (by omega) (by omega), ih (i + 1) (by omega) (by omega) k hk']
    simp only [bsome, decide_eq_true_eq]
    by_cases h : 0 ≤ rd c i ∧ rd c i ≤ 99
    · rw [if_pos h, okCount, decide_eq_true h, Bool.true_and]
    · rw [if_neg h, okCount, decide_eq_false h, Bool.false_and, Bool.false_and]
theorem spec_l22Counts_eq (l : List S37) (hl : l.length ≤ 1000000000) (c : List Int) (hc : c.length ≤ 1000000000) (k : Nat) (hk : c.length + l.length + 2 ≤ k) : spec_l22Counts.f k l c = some (countsV l c) := by
  unfold spec_l22Counts.f countsV
  exact spec_l22Counts_l0 l hl c hc c.length 0 (by omega) (by omega) k hk
theorem impl_countsValid_l0 (c : List Int) (hc : c.length ≤ 1000000000) : ∀ (d : Nat) (i : Int), 0 ≤ i → i + d = c.length → ∀ k, d + 1 ≤ k →
    ∃ r, impl_countsValid.l0 k c i = some r ∧ (!(decide (0 ≤ r))) = allFrom (okCount c) d i := by
  intro d
  induction d with
  | zero =>
    intro i h0 hi k hk
    obtain ⟨k, rfl, _⟩ := rounds1 hk
    refine ⟨-1, ?_, rfl⟩
    simp only [impl_countsValid.l0]
    rw [if_neg (by omega)]
  | succ d ih =>
    intro i h0 hi k hk
    obtain ⟨k, rfl, hk'⟩ := rounds1 hk
    by_cases h : 0 ≤ rd c i ∧ rd c i ≤ 99
    · obtain ⟨r, e, hr⟩ := ih (i + 1) (by omega) (by omega) k hk'
      refine ⟨r, ?_, ?_⟩
      · simp only [impl_countsValid.l0]
        rw [if_pos (by omega), if_pos h0, within_eq, w64 (i + 1) (by omega) (by omega), e]
        simp only [bsome, decide_eq_true_eq]
        rw [if_pos h]
      · rw [hr, allFrom, okCount, decide_eq_true h, Bool.true_and]
    · refine ⟨i, ?_, ?_⟩
      · simp only [impl_countsValid.l0]
        rw [if_pos (by omega), if_pos h0, within_eq]
        simp only [bsome, decide_eq_true_eq]
        rw [if_neg h]
      · rw [allFrom, okCount, decide_eq_false h, decide_eq_true h0]
        rfl
theorem impl_countsValid_eq (l : List S37) (hl : l.length ≤ 1000000000) (c : List Int) (hc : c.length ≤ 1000000000) (k : Nat) (hk : c.length + l.length + 2 ≤ k) : impl_countsValid.f k l c = some (countsV l c) := by
  unfold impl_countsValid.f countsV
  rw [impl_OffersValid_eq l (by omega) k (by omega)]
  simp only [bsome]
  cases offersV l with
  | false => simp
  | true =>
    rw [if_pos rfl, Bool.true_and]
    by_cases e : (c.length : Int) = (l.length : Int)
    · obtain ⟨r, e1, hr⟩ := impl_countsValid_l0 c hc c.length 0 (by omega) (by omega) k (by omega)
      rw [if_pos e, e1]
      simp only [bsome]
      rw [hr, decide_eq_true e, Bool.and_true]
    · rw [if_neg e, decide_eq_false e, Bool.and_false]
theorem countsV_iff (l : List S37) (c : List Int) : countsV l c = true ↔ offersV l = true ∧ c.length = l.length ∧ ∀ i : Int, 0 ≤ i → i < c.length → 0 ≤ rd c i ∧ rd c i ≤ 99 := by
  unfold countsV
  simp only [Bool.and_eq_true, allFrom_iff, decide_eq_true_eq, okCount]
  constructor
  · rintro ⟨h1, h2, h3⟩
    exact ⟨h2, by omega, fun i h0 hi => h1 i h0 (by omega)⟩
  · rintro ⟨h1, h2, h3⟩
    exact ⟨fun i h0 hi => h3 i h0 (by omega), h1, by omega⟩
def szOf (l : List S37) (c : List Int) (i : Int) : Int := (rd_T37 l i).f0 * rd c i
def prOf (l : List S37) (c : List Int) (i : Int) : Int := (rd_T37 l i).f1 * rd c i
theorem terms_range (l : List S37) (c : List Int) (h : countsV l c = true) (i : Int) (h0 : 0 ≤ i) (h1 : i < l.length) : (0 ≤ szOf l c i ∧ szOf l c i ≤ 4950) ∧ (0 ≤ prOf l c i ∧ prOf l c i ≤ 98901) := by
  obtain ⟨a1, a2, a3⟩ := (countsV_iff l c).1 h
  have hs := (sound_of l a1).1.2 i h0 h1
  have hc := a3 i h0 (by omega)
  exact ⟨mul_range (A := 50) (B := 99) (by omega) (by omega) hc.1 hc.2, mul_range (A := 999) (B := 99) (by omega) (by omega) hc.1 hc.2⟩
def orderSizeV (l : List S37) (c : List Int) : Int := if countsV l c = true then sumFrom (szOf l c) l.length 0 else -1
def orderPriceV (l : List S37) (c : List Int) : Int := if countsV l c = true then sumFrom (prOf l c) l.length 0 else -1

end Go.Proofs.Ytddlmemjmmohhaa.B
