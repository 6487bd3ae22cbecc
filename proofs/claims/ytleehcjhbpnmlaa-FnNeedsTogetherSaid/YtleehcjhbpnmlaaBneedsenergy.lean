/- Lemmas about the printed functions (needsenergy). -/
import Derived.Test.YtleehcjhbpnmlaaPAllx0
import Derived.Test.YtleehcjhbpnmlaaPAllx5
import Derived.Test.YtleehcjhbpnmlaaPAllx7
import Derived.Test.YtleehcjhbpnmlaaBbase
import Derived.Test.YtleehcjhbpnmlaaBwithin
import Derived.Test.YtleehcjhbpnmlaaBfoods
import Derived.Test.YtleehcjhbpnmlaaBneedsval
import Derived.Test.YtleehcjhbpnmlaaBsums
namespace Go.Proofs.Ytleehcjhbpnmlaa.B
open Go.RowKit Go.Proofs.Ytleehcjhbpnmlaa.PAll Go.Proofs.YtleehcjhbpnmlaaW.PrintWords Go.Proofs.YtleehcjhbpnmlaaW.PrintLast
set_option linter.unusedVariables false
set_option linter.unusedSimpArgs false

/-! #### energy of needs -/
def enOf (l : List S29) (c : List Int) (i : Int) : Int := (rd_T29 l i).f4 * rd c i
theorem enOf_range (l : List S29) (c : List Int) (h : needsV l c = true) (i : Int) (h0 : 0 ≤ i) (h1 : i < l.length) : 0 ≤ enOf l c i ∧ enOf l c i ≤ 998999001 := by
  obtain ⟨a1, a2, a3⟩ := (needsV_iff l c).1 h
  have hs := food_range l a1 i h0 h1
  have hc := a3 i h0 (by omega)
  exact mul_range (A := 999) (B := 999999) (by omega) (by omega) hc.1 hc.2
def hund (n : Int) : Int := Int.tdiv n 100
def needsEnergyV (l : List S29) (c : List Int) : Int := if needsV l c = true then hund (sumFrom (enOf l c) l.length 0) else -1

theorem spec_NeedsEnergy_l0 (l : List S29) (c : List Int) (h : needsV l c = true) : ∀ (d : Nat) (i acc : Int), 0 ≤ i → i + d = l.length → 0 ≤ acc → acc ≤ 998999001 * i → ∀ k, d + 1 ≤ k → spec_NeedsEnergy.l0 k l c acc i = some (hund (acc + sumFrom (enOf l c) d i)) := by
  have hl := needs_len l c h
  intro d
  induction d with
  | zero =>
    intro i acc h0 hi b0 b1 k hk
    obtain ⟨k, rfl, _⟩ := rounds1 hk
    simp only [spec_NeedsEnergy.l0, sumFrom]
    rw [if_neg (by omega), Int.add_zero]
    have q := Int.tdiv_eq_ediv_of_nonneg (a := acc) (b := 100) b0
    rw [w64 _ (by omega) (by omega)]
    rfl
  | succ d ih =>
    intro i acc h0 hi b0 b1 k hk
    obtain ⟨k, rfl, hk'⟩ := rounds1 hk
    have t := enOf_range l c h i h0 (by omega)
    simp only [spec_NeedsEnergy.l0, sumFrom]
    rw [if_pos (by omega), if_pos h0, if_pos (by omega)]
    rw [show (rd_T29 l i).f4 * rd c i = enOf l c i from rfl, w64 (enOf l c i) (by omega) (by omega), w64 _ (by omega) (by omega), w64 (i + 1) (by omega) (by omega),
      ih (i + 1) (acc + enOf l c i) (by omega) (by omega) (by omega) (by omega) k hk', Int.add_assoc]
theorem spec_NeedsEnergy_eq (l : List S29) (hl : l.length ≤ 1000000000) (c : List Int) (hc : c.length ≤ 1000000000) (k : Nat) (hk : c.length + 2 * l.length + 2 ≤ k) : spec_NeedsEnergy.f k l c = some (needsEnergyV l c) := by
  unfold spec_NeedsEnergy.f needsEnergyV
  rw [spec_l15Needs_eq l hl c hc k hk]
  simp only [bsome]
  by_cases h : needsV l c = true
  · rw [if_pos h, if_pos h, spec_NeedsEnergy_l0 l c h l.length 0 0 (by omega) (by omega) (by omega) (by omega) k (by omega), Int.zero_add]
  · rw [if_neg h, if_neg h]
theorem impl_NeedsEnergy_l0 (l : List S29) (c : List Int) (h : needsV l c = true) : ∀ (d : Nat) (i acc : Int), 0 ≤ i → i + d = l.length → 0 ≤ acc → acc ≤ 998999001 * i → ∀ k, d + 1 ≤ k → impl_NeedsEnergy.l0 k l acc c (c.length : Int) i = some (hund (acc + sumFrom (enOf l c) d i)) := by
  have hl := needs_len l c h
  intro d
  induction d with
  | zero =>
    intro i acc h0 hi b0 b1 k hk
    obtain ⟨k, rfl, _⟩ := rounds1 hk
    simp only [impl_NeedsEnergy.l0, sumFrom]
    rw [if_neg (by omega), Int.add_zero]
    have q := Int.tdiv_eq_ediv_of_nonneg (a := acc) (b := 100) b0
    rw [w64 _ (by omega) (by omega)]
    rfl
  | succ d ih =>
    intro i acc h0 hi b0 b1 k hk
    obtain ⟨k, rfl, hk'⟩ := rounds1 hk
    have t := enOf_range l c h i h0 (by omega)
    simp only [impl_NeedsEnergy.l0, sumFrom]
    rw [if_pos (by omega), if_pos h0, if_pos (by omega), if_pos (by omega)]
    rw [show rd c i * (rd_T29 l i).f4 = enOf l c i from Int.mul_comm _ _, w64 (enOf l c i) (by omega) (by omega), w64 _ (by omega) (by omega), w64 (i + 1) (by omega) (by omega),
      ih (i + 1) (acc + enOf l c i) (by omega) (by omega) (by omega) (by omega) k hk', Int.add_assoc]
theorem impl_NeedsEnergy_eq (l : List S29) (hl : l.length ≤ 1000000000) (c : List Int) (hc : c.length ≤ 1000000000) (k : Nat) (hk : c.length + 2 * l.length + 2 ≤ k) : impl_NeedsEnergy.f k l c = some (needsEnergyV l c) := by
  unfold impl_NeedsEnergy.f needsEnergyV
  rw [impl_needsValid_eq l hl c hc k hk]
  simp only [bsome]
  by_cases h : needsV l c = true
  · have e := impl_NeedsEnergy_l0 l c h l.length 0 0 (by omega) (by omega) (by omega) (by omega) k (by omega)
    rw [if_pos h, if_pos h, e, Int.zero_add]
  · rw [if_neg h, if_neg h]

end Go.Proofs.Ytleehcjhbpnmlaa.B
