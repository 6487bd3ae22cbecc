/- The pure statement of FnNeedsShort is proved: what is short makes it enough, and no more. Conditions: none. -/
import Derived.Test.YtleehcjhbpnmlaaPAllx0
import Derived.Test.YtleehcjhbpnmlaaPAllx12
import Derived.Test.YtleehcjhbpnmlaaPAllx13
import Derived.Test.YtleehcjhbpnmlaaPAllx19
import Derived.Test.YtleehcjhbpnmlaaBbase
import Derived.Test.YtleehcjhbpnmlaaBpick
import Derived.Test.YtleehcjhbpnmlaaBfoods
import Derived.Test.YtleehcjhbpnmlaaBneedsval
import Derived.Test.YtleehcjhbpnmlaaBmapfrom
import Derived.Test.YtleehcjhbpnmlaaBneedsshort
import Derived.Test.YtleehcjhbpnmlaaBdrawneeds
import Derived.Test.YtleehcjhbpnmlaaBdrawneeds2
import Derived.Test.YtleehcjhbpnmlaaBints
import Derived.Test.YtleehcjhbpnmlaaBsameints
import Derived.Test.YtleehcjhbpnmlaaBsumof
namespace Go.Proofs.Ytleehcjhbpnmlaa.Pure
open Go.RowKit Go.Proofs.Ytleehcjhbpnmlaa.PAll Go.Proofs.Ytleehcjhbpnmlaa.B Go.Proofs.YtleehcjhbpnmlaaW.PrintWords Go.Proofs.YtleehcjhbpnmlaaW.PrintLast
set_option linter.unusedVariables false
set_option linter.unusedSimpArgs false

theorem lack_self (a : List Int) (k : Nat) (ha : a.length ≤ 100) (hk : a.length + 1 ≤ k) : laws_sumOf.f k (lackL a a) = some 0 := by
  have lo : (lackL a a).length = a.length := by rw [lackL, mapFrom_len]
  refine laws_sumOf_zero _ (by omega) (fun i h0 hi => ?_) k (by omega)
  have r : rd (lackL a a) i = lackAt a a i := mapFrom_rd _ _ i h0 (by omega)
  rw [r]
  unfold lackAt mx
  rw [Int.sub_self]
  split <;> rfl
theorem FnNeedsShort_l0 (l : List S29) (a b : List Int) (ha : needsV l a = true) (hb : needsV l b = true) : ∀ (d : Nat) (i : Int), 0 ≤ i → i + d = l.length → ∀ k, d + 100 ≤ k → laws_FnNeedsShort.l0 k l a b (lackL a b) i = some true := by
  have la := needs_len l a ha
  have lb := needs_len l b hb
  have lo : (lackL a b).length = l.length := by rw [lackL, mapFrom_len]; exact la.2
  intro d
  induction d with
  | zero =>
    intro i h0 hi k hk
    obtain ⟨k, rfl, _⟩ := rounds1 (k := k) (B := 99) (by omega)
    have q : shortV l a a = (lackL a a, true) := by rw [shortV, if_pos ⟨ha, ha⟩]
    rw [laws_FnNeedsShort.l0, if_neg (by omega), impl_NeedsShort_eq l (by omega) a (by omega) a (by omega) _ (by omega), q]
    simp only [bsome, if_true]
    rw [lack_self a k (by omega) (by omega)]
    simp only [bsome, if_true]
    rw [show ((lackL a b).length : Int) = (a.length : Int) by omega, beq_self_eq_true]
  | succ d ih =>
    intro i h0 hi k hk
    obtain ⟨k, rfl, _⟩ := rounds1 (k := k) (B := d + 100) (by omega)
    have t := needs_pair l a b ha hb i h0 (by omega)
    have r : rd (lackL a b) i = lackAt a b i := mapFrom_rd _ _ i h0 (by omega)
    have m : lackAt a b i = mx (rd a i - rd b i) 0 := rfl
    have s2 : (rd a i ≤ rd b i ∧ lackAt a b i = 0) ∨ (rd b i < rd a i ∧ lackAt a b i = rd a i - rd b i) := by
      rw [m]
      unfold mx
      split <;> omega
    rw [laws_FnNeedsShort.l0, if_pos (by omega), if_pos h0, if_pos (by omega), if_pos (by omega), r, w64 (rd b i + lackAt a b i) (by omega) (by omega), if_neg (by omega), w64 (i + 1) (by omega) (by omega)]
    by_cases c : lackAt a b i > 0
    · rw [if_pos c, if_pos (by omega), if_neg (by omega)]
      exact ih (i + 1) (by omega) (by omega) k (by omega)
    · rw [if_neg c, if_neg (by omega)]
      exact ih (i + 1) (by omega) (by omega) k (by omega)
theorem FnNeedsShort (l0 : List Int) (ok0 : CodeOk l0) : ∃ k, laws_FnNeedsShort.f k l0 = some true := by
  by_cases h1 : (l0.length : Int) > 1048576
  · exact ⟨0, by unfold laws_FnNeedsShort.f; rw [if_pos h1]⟩
  obtain ⟨l, a, b, hl, hla, hlb, e⟩ := drawNeedsAdd_ok l0 ok0
  obtain ⟨k, hk⟩ : ∃ k : Nat, 300 ≤ k := ⟨300, Nat.le_refl _⟩
  refine ⟨k + 1, ?_⟩
  unfold laws_FnNeedsShort.f spec_DrawNeedsShort.f
  rw [if_neg h1, e _ (by omega)]
  simp only [bsome]
  rw [impl_NeedsShort_eq l (by omega) a (by omega) b (by omega) _ (by omega), spec_NeedsShort_eq l (by omega) a (by omega) b (by omega) _ (by omega)]
  have gl := shortV_len l a b
  simp only [bsome, bne_self_eq_false]
  rw [if_neg (by simp), laws_sameInts_refl _ (by omega) _ (by omega)]
  simp only [bsome, if_true]
  by_cases g : needsV l a = true ∧ needsV l b = true
  · have q : shortV l a b = (lackL a b, true) := by rw [shortV, if_pos g]
    rw [q, laws_FnNeedsShort.j0, if_neg (by simp)]
    exact FnNeedsShort_l0 l a b g.1 g.2 l.length 0 (by omega) (by omega) k (by omega)
  · have q : shortV l a b = ([], false) := by rw [shortV, if_neg g]
    rw [q, laws_FnNeedsShort.j0, if_pos (by rfl), if_pos (by rfl), laws_sameInts_refl _ (by simp) _ (by simp; omega)]
    simp only [bsome]

end Go.Proofs.Ytleehcjhbpnmlaa.Pure
