/- The pure statement of FnNeedsAdd is proved: needs add up, in any order. Conditions: none. -/
import Derived.Test.YtleehcjhbpnmlaaPAllx0
import Derived.Test.YtleehcjhbpnmlaaPAllx12
import Derived.Test.YtleehcjhbpnmlaaPAllx18
import Derived.Test.YtleehcjhbpnmlaaBbase
import Derived.Test.YtleehcjhbpnmlaaBpick
import Derived.Test.YtleehcjhbpnmlaaBfoods
import Derived.Test.YtleehcjhbpnmlaaBneedsval
import Derived.Test.YtleehcjhbpnmlaaBmapfrom
import Derived.Test.YtleehcjhbpnmlaaBneedsadd
import Derived.Test.YtleehcjhbpnmlaaBdrawneeds
import Derived.Test.YtleehcjhbpnmlaaBdrawneeds2
import Derived.Test.YtleehcjhbpnmlaaBints
import Derived.Test.YtleehcjhbpnmlaaBsameints
namespace Go.Proofs.Ytleehcjhbpnmlaa.Pure
open Go.RowKit Go.Proofs.Ytleehcjhbpnmlaa.PAll Go.Proofs.Ytleehcjhbpnmlaa.B Go.Proofs.YtleehcjhbpnmlaaW.PrintWords Go.Proofs.YtleehcjhbpnmlaaW.PrintLast
set_option linter.unusedVariables false
set_option linter.unusedSimpArgs false

theorem FnNeedsAdd_l0 (l : List S29) (a b : List Int) (ha : needsV l a = true) (hb : needsV l b = true) (hs : needsV l (addL a b) = true) : ∀ (d : Nat) (i : Int), 0 ≤ i → i + d = l.length → ∀ k, 2 * d + 100 ≤ k → laws_FnNeedsAdd.l0 k l a b (addL a b) (addL a b) true i = some true := by
  have la := needs_len l a ha
  have lb := needs_len l b hb
  have lo : (addL a b).length = l.length := by rw [addL, mapFrom_len]; exact la.2
  intro d
  induction d with
  | zero =>
    intro i h0 hi k hk
    obtain ⟨k, rfl, _⟩ := rounds1 (k := k) (B := 99) (by omega)
    obtain ⟨k, rfl, _⟩ := rounds1 (k := k) (B := 98) (by omega)
    rw [laws_FnNeedsAdd.l0, if_neg (by omega), laws_FnNeedsAdd.j2, if_neg (by simp), if_pos rfl, laws_sameInts_refl _ (by omega) _ (by omega)]
    simp only [bsome, if_true]
    unfold impl_NeedsValid.f
    rw [impl_needsValid_eq l (by omega) _ (by omega) _ (by omega), hs]
    rfl
  | succ d ih =>
    intro i h0 hi k hk
    obtain ⟨k, rfl, _⟩ := rounds1 (k := k) (B := 2 * d + 101) (by omega)
    obtain ⟨k, rfl, _⟩ := rounds1 (k := k) (B := 2 * d + 100) (by omega)
    have t := sumAt_range l a b ha hb i h0 (by omega)
    have r : rd (addL a b) i = sumAt a b i := mapFrom_rd _ _ i h0 (by omega)
    rw [laws_FnNeedsAdd.l0, if_pos (by omega), laws_FnNeedsAdd.j2, if_pos (by rw [decide_eq_true]; omega), if_pos h0, if_pos (by omega), if_pos (by omega), if_pos (by omega), r, show rd a i + rd b i = sumAt a b i from rfl, w64 (sumAt a b i) (by omega) (by omega), if_pos rfl, w64 (i + 1) (by omega) (by omega)]
    exact ih (i + 1) (by omega) (by omega) k (by omega)
theorem FnNeedsAdd (l0 : List Int) (ok0 : CodeOk l0) : ∃ k, laws_FnNeedsAdd.f k l0 = some true := by
  by_cases h1 : (l0.length : Int) > 1048576
  · exact ⟨0, by unfold laws_FnNeedsAdd.f; rw [if_pos h1]⟩
  obtain ⟨l, a, b, hl, hla, hlb, e⟩ := drawNeedsAdd_ok l0 ok0
  obtain ⟨k, hk⟩ : ∃ k : Nat, 300 ≤ k := ⟨300, Nat.le_refl _⟩
  refine ⟨k + 1, ?_⟩
  unfold laws_FnNeedsAdd.f
  rw [if_neg h1, e _ (by omega)]
  simp only [bsome]
  rw [impl_NeedsAdd_eq l (by omega) a (by omega) b (by omega) _ (by omega), spec_NeedsAdd_eq l (by omega) a (by omega) b (by omega) _ (by omega)]
  have gl := addV_len l a b
  simp only [bsome, bne_self_eq_false]
  rw [if_neg (by simp), laws_sameInts_refl _ (by omega) _ (by omega)]
  simp only [bsome, if_true]
  by_cases g : (addV l a b).2 = true
  · obtain ⟨ha, hb, hs, q⟩ := addV_true l a b g
    have la := needs_len l a ha
    have lb := needs_len l b hb
    have sw : addL b a = addL a b := by
      unfold addL
      rw [show b.length = a.length by omega]
      exact mapFrom_congr _ _ _ _ fun j _ _ => Int.add_comm _ _
    have q2 : addV l b a = (addL a b, true) := by
      unfold addV finV
      rw [if_pos ⟨hb, ha⟩, sw, if_pos hs]
    rw [q, laws_FnNeedsAdd.j0, if_neg (by simp), impl_NeedsAdd_eq l (by omega) b (by omega) a (by omega) _ (by omega), q2]
    simp only [bsome]
    exact FnNeedsAdd_l0 l a b ha hb hs l.length 0 (by omega) (by omega) k (by omega)
  · have g' : (addV l a b).2 = false := by simpa using g
    rw [g', laws_FnNeedsAdd.j0, if_pos (by rfl), if_pos (by rfl), laws_sameInts_refl _ (by omega) _ (by omega)]
    simp only [bsome]

end Go.Proofs.Ytleehcjhbpnmlaa.Pure
