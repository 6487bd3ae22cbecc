/- Lemmas about the printed functions (needsprice). -/
import Derived.Test.YtleehcjhbpnmlaaPAllx0
import Derived.Test.YtleehcjhbpnmlaaPAllx7
import Derived.Test.YtleehcjhbpnmlaaPAllx8
import Derived.Test.YtleehcjhbpnmlaaBbase
import Derived.Test.YtleehcjhbpnmlaaBwithin
import Derived.Test.YtleehcjhbpnmlaaBfoods
import Derived.Test.YtleehcjhbpnmlaaBneedsval
import Derived.Test.YtleehcjhbpnmlaaBsums
namespace Go.Proofs.Ytleehcjhbpnmlaa.B
open Go.RowKit Go.Proofs.Ytleehcjhbpnmlaa.PAll Go.Proofs.YtleehcjhbpnmlaaW.PrintWords Go.Proofs.YtleehcjhbpnmlaaW.PrintLast
set_option linter.unusedVariables false
set_option linter.unusedSimpArgs false

/-! #### price of needs -/
def pcOf (l : List S29) (c : List Int) (i : Int) : Int := (rd_T29 l i).f5 * rd c i
theorem pcOf_range (l : List S29) (c : List Int) (h : needsV l c = true) (i : Int) (h0 : 0 ≤ i) (h1 : i < l.length) : 0 ≤ pcOf l c i ∧ pcOf l c i ≤ 998999001 := by
  obtain ⟨a1, a2, a3⟩ := (needsV_iff l c).1 h
  have hs := food_range l a1 i h0 h1
  have hc := a3 i h0 (by omega)
  exact mul_range (A := 999) (B := 999999) (by omega) (by omega) hc.1 hc.2
def upH (n : Int) : Int := Int.tdiv (n + 100 - 1) 100
def needsPriceV (l : List S29) (c : List Int) : Int := if needsV l c = true then upH (sumFrom (pcOf l c) l.length 0) else -1

theorem spec_NeedsPrice_l0 (l : List S29) (c : List Int) (h : needsV l c = true) : ∀ (d : Nat) (i acc : Int), 0 ≤ i → i + d = l.length → 0 ≤ acc → acc ≤ 998999001 * i → ∀ k, d + 1 ≤ k → spec_NeedsPrice.l0 k l c acc i = some (upH (acc + sumFrom (pcOf l c) d i)) := by
  have hl := needs_len l c h
  intro d
  induction d with
  | zero =>
    intro i acc h0 hi b0 b1 k hk
    obtain ⟨k, rfl, _⟩ := rounds1 hk
    simp only [spec_NeedsPrice.l0, sumFrom]
    rw [if_neg (by omega), Int.add_zero]
    unfold spec_l1Up.f
    have q := Int.tdiv_eq_ediv_of_nonneg (a := acc + 100 - 1) (b := 100) (by omega)
    rw [if_neg (by omega), w64 (acc + 100) (by omega) (by omega), w64 (acc + 100 - 1) (by omega) (by omega), w64 _ (by omega) (by omega)]
    rfl
  | succ d ih =>
    intro i acc h0 hi b0 b1 k hk
    obtain ⟨k, rfl, hk'⟩ := rounds1 hk
    have t := pcOf_range l c h i h0 (by omega)
    simp only [spec_NeedsPrice.l0, sumFrom]
    rw [if_pos (by omega), if_pos h0, if_pos (by omega)]
    rw [show (rd_T29 l i).f5 * rd c i = pcOf l c i from rfl, w64 (pcOf l c i) (by omega) (by omega), w64 _ (by omega) (by omega), w64 (i + 1) (by omega) (by omega),
      ih (i + 1) (acc + pcOf l c i) (by omega) (by omega) (by omega) (by omega) k hk', Int.add_assoc]
theorem spec_NeedsPrice_eq (l : List S29) (hl : l.length ≤ 1000000000) (c : List Int) (hc : c.length ≤ 1000000000) (k : Nat) (hk : c.length + 2 * l.length + 2 ≤ k) : spec_NeedsPrice.f k l c = some (needsPriceV l c) := by
  unfold spec_NeedsPrice.f needsPriceV
  rw [spec_l15Needs_eq l hl c hc k hk]
  simp only [bsome]
  by_cases h : needsV l c = true
  · rw [if_pos h, if_pos h, spec_NeedsPrice_l0 l c h l.length 0 0 (by omega) (by omega) (by omega) (by omega) k (by omega), Int.zero_add]
  · rw [if_neg h, if_neg h]
theorem impl_NeedsPrice_l0 (l : List S29) (c : List Int) (h : needsV l c = true) : ∀ (d : Nat) (i acc : Int), 0 ≤ i → i + d = l.length → 0 ≤ acc → acc ≤ 998999001 * i → ∀ k, d + 1 ≤ k → impl_NeedsPrice.l0 k l acc c (c.length : Int) i = some (upH (acc + sumFrom (pcOf l c) d i)) := by
  have hl := needs_len l c h
  intro d
  induction d with
  | zero =>
    intro i acc h0 hi b0 b1 k hk
    obtain ⟨k, rfl, _⟩ := rounds1 hk
    simp only [impl_NeedsPrice.l0, sumFrom]
    rw [if_neg (by omega), Int.add_zero]
    unfold impl_roundedUp.f
    have q := Int.tdiv_eq_ediv_of_nonneg (a := acc + 100 - 1) (b := 100) (by omega)
    rw [if_neg (by omega), w64 (acc + 100) (by omega) (by omega), w64 (acc + 100 - 1) (by omega) (by omega), w64 _ (by omega) (by omega)]
    rfl
  | succ d ih =>
    intro i acc h0 hi b0 b1 k hk
    obtain ⟨k, rfl, hk'⟩ := rounds1 hk
    have t := pcOf_range l c h i h0 (by omega)
    simp only [impl_NeedsPrice.l0, sumFrom]
    rw [if_pos (by omega), if_pos h0, if_pos (by omega), if_pos (by omega)]
    rw [show rd c i * (rd_T29 l i).f5 = pcOf l c i from Int.mul_comm _ _, w64 (pcOf l c i) (by omega) (by omega), w64 _ (by omega) (by omega), w64 (i + 1) (by omega) (by omega),
      ih (i + 1) (acc + pcOf l c i) (by omega) (by omega) (by omega) (by omega) k hk', Int.add_assoc]
theorem impl_NeedsPrice_eq (l : List S29) (hl : l.length ≤ 1000000000) (c : List Int) (hc : c.length ≤ 1000000000) (k : Nat) (hk : c.length + 2 * l.length + 2 ≤ k) : impl_NeedsPrice.f k l c = some (needsPriceV l c) := by
  unfold impl_NeedsPrice.f needsPriceV
  rw [impl_needsValid_eq l hl c hc k hk]
  simp only [bsome]
  by_cases h : needsV l c = true
  · have e := impl_NeedsPrice_l0 l c h l.length 0 0 (by omega) (by omega) (by omega) (by omega) k (by omega)
    rw [if_pos h, if_pos h, e, Int.zero_add]
  · rw [if_neg h, if_neg h]

end Go.Proofs.Ytleehcjhbpnmlaa.B
