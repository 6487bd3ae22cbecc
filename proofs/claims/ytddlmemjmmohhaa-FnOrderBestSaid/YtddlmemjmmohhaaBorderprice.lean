/- Lemmas about the printed functions (orderprice). -/
import Derived.Test.YtddlmemjmmohhaaPAllx0
import Derived.Test.YtddlmemjmmohhaaPAllx10
import Derived.Test.YtddlmemjmmohhaaPAllx11
import Derived.Test.YtddlmemjmmohhaaBbase
import Derived.Test.YtddlmemjmmohhaaBoffers
import Derived.Test.YtddlmemjmmohhaaBleast
import Derived.Test.YtddlmemjmmohhaaBsums
import Derived.Test.YtddlmemjmmohhaaBcounts
namespace Go.Proofs.Ytddlmemjmmohhaa.B
open Go.RowKit Go.Proofs.Ytddlmemjmmohhaa.PAll Go.Proofs.YtddlmemjmmohhaaW.PrintWords Go.Proofs.YtddlmemjmmohhaaW.PrintLast
set_option linter.unusedVariables false
set_option linter.unusedSimpArgs false

theorem spec_OrderPrice_l0 (l : List S37) (c : List Int) (h : countsV l c = true) : ∀ (d : Nat) (i acc : Int), 0 ≤ i → i + d = l.length → 0 ≤ acc → acc ≤ 98901 * i → ∀ k, d + 1 ≤ k → spec_OrderPrice.l0 k l c acc i = some (acc + sumFrom (prOf l c) d i) := by
  obtain ⟨a1, a2, a3⟩ := (countsV_iff l c).1 h
  have hl := (sound_of l a1).1.1
  intro d
  induction d with
  | zero =>
    intro i acc h0 hi b0 b1 k hk
    obtain ⟨k, rfl, _⟩ := rounds1 hk
    simp only [spec_OrderPrice.l0, sumFrom]
    rw [if_neg (by omega), Int.add_zero]
  | succ d ih =>
    intro i acc h0 hi b0 b1 k hk
    obtain ⟨k, rfl, hk'⟩ := rounds1 hk
    have t := (terms_range l c h i h0 (by omega)).2
    simp only [spec_OrderPrice.l0, sumFrom]
    rw [if_pos (by omega), if_pos h0, if_pos (by omega)]
    rw [show (rd_T37 l i).f1 * rd c i = prOf l c i from rfl, w64 (prOf l c i) (by omega) (by omega), w64 _ (by omega) (by omega), w64 (i + 1) (by omega) (by omega),
      ih (i + 1) (acc + prOf l c i) (by omega) (by omega) (by omega) (by omega) k hk', Int.add_assoc]
theorem spec_OrderPrice_eq (l : List S37) (hl : l.length ≤ 1000000000) (c : List Int) (hc : c.length ≤ 1000000000) (k : Nat) (hk : c.length + l.length + 2 ≤ k) : spec_OrderPrice.f k l c = some (orderPriceV l c) := by
  unfold spec_OrderPrice.f orderPriceV
  rw [spec_l22Counts_eq l hl c hc k hk]
  simp only [bsome]
  by_cases h : countsV l c = true
  · rw [if_pos h, if_pos h, spec_OrderPrice_l0 l c h l.length 0 0 (by omega) (by omega) (by omega) (by omega) k (by omega), Int.zero_add]
  · rw [if_neg h, if_neg h]
theorem impl_OrderPrice_l0 (l : List S37) (c : List Int) (h : countsV l c = true) : ∀ (d : Nat) (i acc : Int), 0 ≤ i → i + d = l.length → 0 ≤ acc → acc ≤ 98901 * i → ∀ k, d + 1 ≤ k → impl_OrderPrice.l0 k l acc c (c.length : Int) i = some (acc + sumFrom (prOf l c) d i) := by
  obtain ⟨a1, a2, a3⟩ := (countsV_iff l c).1 h
  have hl := (sound_of l a1).1.1
  intro d
  induction d with
  | zero =>
    intro i acc h0 hi b0 b1 k hk
    obtain ⟨k, rfl, _⟩ := rounds1 hk
    simp only [impl_OrderPrice.l0, sumFrom]
    rw [if_neg (by omega), Int.add_zero]
  | succ d ih =>
    intro i acc h0 hi b0 b1 k hk
    obtain ⟨k, rfl, hk'⟩ := rounds1 hk
    have t := (terms_range l c h i h0 (by omega)).2
    simp only [impl_OrderPrice.l0, sumFrom]
    rw [if_pos (by omega), if_pos h0, if_pos (by omega), if_pos (by omega)]
    rw [show rd c i * (rd_T37 l i).f1 = prOf l c i from Int.mul_comm _ _, w64 (prOf l c i) (by omega) (by omega), w64 _ (by omega) (by omega), w64 (i + 1) (by omega) (by omega),
      ih (i + 1) (acc + prOf l c i) (by omega) (by omega) (by omega) (by omega) k hk', Int.add_assoc]
theorem impl_OrderPrice_eq (l : List S37) (hl : l.length ≤ 1000000000) (c : List Int) (hc : c.length ≤ 1000000000) (k : Nat) (hk : c.length + l.length + 2 ≤ k) : impl_OrderPrice.f k l c = some (orderPriceV l c) := by
  unfold impl_OrderPrice.f orderPriceV
  rw [impl_countsValid_eq l hl c hc k hk]
  simp only [bsome]
  by_cases h : countsV l c = true
  · have e := impl_OrderPrice_l0 l c h l.length 0 0 (by omega) (by omega) (by omega) (by omega) k (by omega)
    rw [if_pos h, if_pos h, e, Int.zero_add]
  · rw [if_neg h, if_neg h]

end Go.Proofs.Ytddlmemjmmohhaa.B
