/- The pure statement of FnStepsSlack is proved: no step starts earlier than early, and one step has no slack when the end is the length. Conditions: none. -/
import Derived.Test.YtegfpoagplpjiaaPAllx0
import Derived.Test.YtegfpoagplpjiaaPAllx27
import Derived.Test.YtegfpoagplpjiaaBbase
import Derived.Test.YtegfpoagplpjiaaBpick
import Derived.Test.YtegfpoagplpjiaaBwithin
import Derived.Test.YtegfpoagplpjiaaBstepsv
import Derived.Test.YtegfpoagplpjiaaBdrawsteps
import Derived.Test.YtegfpoagplpjiaaBstepsb
import Derived.Test.YtegfpoagplpjiaaBmaxfrom
import Derived.Test.YtegfpoagplpjiaaBearly
import Derived.Test.YtegfpoagplpjiaaBearlyspec
import Derived.Test.YtegfpoagplpjiaaBendof
import Derived.Test.YtegfpoagplpjiaaBlength
import Derived.Test.YtegfpoagplpjiaaBdrawslate
import Derived.Test.YtegfpoagplpjiaaBlate
import Derived.Test.YtegfpoagplpjiaaBlateinv
import Derived.Test.YtegfpoagplpjiaaBlateimpl
import Derived.Test.YtegfpoagplpjiaaBlatespec
import Derived.Test.YtegfpoagplpjiaaBsameints
namespace Go.Proofs.Ytegfpoagplpjiaa.Pure
open Go.RowKit Go.Proofs.Ytegfpoagplpjiaa.PAll Go.Proofs.Ytegfpoagplpjiaa.B Go.Proofs.YtegfpoagplpjiaaW.PrintWords Go.Proofs.YtegfpoagplpjiaaW.PrintLast
set_option linter.unusedVariables false
set_option linter.unusedSimpArgs false

theorem law_slack_l0 (l : List S28) (hv : stepsV l = true) (en : Int) (hen : lengthOf l ≤ en) : ∀ (d : Nat) (i : Int) (b : Bool), 0 ≤ i → i + d = l.length → (b = true ∨ ∃ j : Int, i ≤ j ∧ j < l.length ∧ ev l j = rd (lateOf l (lengthOf l)) j) → ∀ k, 2 * d + 2 ≤ k →
    laws_FnStepsSlack.l0 k (lateOf l en) (B.early l l.length) (lateOf l (lengthOf l)) true b i = some true := by
  have h8 := ((stepsV_iff l).1 hv).1
  obtain ⟨a1, a2, _⟩ := lateOf_inv l hv en hen
  obtain ⟨b1, b2, _⟩ := lateOf_inv l hv (lengthOf l) (Int.le_refl _)
  intro d
  induction d with
  | zero =>
    intro i b h0 hi hb k hk
    obtain ⟨k, rfl⟩ : ∃ q, k = q + 1 + 1 := ⟨k - 2, by omega⟩
    have hb' : b = true := by
      rcases hb with hb | ⟨j, j0, j1, _⟩
      · exact hb
      · omega
    rw [laws_FnStepsSlack.l0, if_neg (by rw [early_len]; omega), laws_FnStepsSlack.j2, if_neg (by simp), if_pos rfl, hb']
  | succ d ih =>
    intro i b h0 hi hb k hk
    obtain ⟨k, rfl⟩ : ∃ q, k = q + 1 + 1 := ⟨k - 2, by omega⟩
    have r := rd_early l l.length i h0 (by omega)
    have x := a2 i h0 (by omega)
    have y := b2 i h0 (by omega)
    rw [laws_FnStepsSlack.l0, if_pos (by rw [early_len]; omega), if_pos (by omega), decide_eq_true (by omega), laws_FnStepsSlack.j2, if_pos rfl, if_pos h0, if_pos (by rw [early_len]; omega), if_pos (by omega), if_neg (by omega), if_pos (by omega), if_neg (by omega), w64 (i + 1) (by omega) (by omega)]
    by_cases hbt : b = true
    · rw [if_pos hbt]
      exact ih (i + 1) true (by omega) (by omega) (.inl rfl) k (by omega)
    · rw [if_neg hbt]
      refine ih (i + 1) _ (by omega) (by omega) ?_ k (by omega)
      rcases hb with hb | ⟨j, j0, j1, je⟩
      · exact absurd hb hbt
      · by_cases e : j = i
        · subst e
          exact .inl (by rw [r, je]; simp)
        · exact .inr ⟨j, by omega, j1, je⟩
theorem FnStepsSlack (l0 : List Int) (ok0 : CodeOk l0) : ∃ k, laws_FnStepsSlack.f k l0 = some true := by
  by_cases h1 : (l0.length : Int) > 1048576
  · exact ⟨0, by unfold laws_FnStepsSlack.f; rw [if_pos h1]⟩
  obtain ⟨l, en, hB, e⟩ := drawStepsLate_ok l0 ok0
  have hM := inner_of hB
  have hl := hB.1
  have hlen := lateV_len l en
  obtain ⟨k, hk⟩ : ∃ k : Nat, 2000 ≤ k := ⟨2000, Nat.le_refl _⟩
  refine ⟨k + 1, ?_⟩
  unfold laws_FnStepsSlack.f
  rw [if_neg h1, e _ (by omega)]
  simp only [bsome]
  rw [impl_StepsLate_eq l 10 hM en _ (by omega), spec_StepsLate_eq l 10 hM en _ (by omega)]
  simp only [bsome, bne_self_eq_false, Bool.false_eq_true, if_false]
  rw [laws_sameInts_refl _ (by omega) _ (by omega)]
  simp only [bsome, if_true]
  rw [laws_FnStepsSlack.j0]
  by_cases c : stepsV l = true ∧ lengthOf l ≤ en ∧ en ≤ 999
  · have hV : lateV l en = (lateOf l en, true) := by rw [lateV, if_pos c]
    rw [hV, if_neg (by simp)]
    obtain ⟨h8, h⟩ := (stepsV_iff l).1 c.1
    obtain ⟨r1, r2, r3⟩ := lengthOf_range l c.1
    rw [impl_StepsEarly_eq l 10 hM _ (by omega), earlyV, if_pos c.1]
    simp only [bsome]
    rw [impl_StepsLength_eq l 10 hM _ (by omega), lengthV, if_pos c.1]
    simp only [bsome]
    rw [impl_StepsLate_eq l 10 hM _ _ (by omega), lateV, if_pos ⟨c.1, Int.le_refl _, by omega⟩]
    simp only [bsome]
    refine law_slack_l0 l c.1 en c.2.1 l.length 0 ((l.length : Int) == 0) (by omega) (by omega) ?_ k (by omega)
    by_cases hn : (l.length : Int) = 0
    · exact .inl (by rw [hn]; rfl)
    · right
      rcases (maxFrom_spec (fun i => ev l i + (rd_T28 l i).f0) l.length 0 0).2.2 with s | ⟨j, j0, j1, s⟩
      · have z0 := r3 0 (by omega) (by omega)
        have z1 := (h 0 (by omega) (by omega)).1
        have z2 := ev_range' l c.1 0 (by omega) (by omega)
        have : lengthOf l = 0 := s
        omega
      · have s' : lengthOf l = ev l j + (rd_T28 l j).f0 := s
        have q := (lateOf_inv l c.1 (lengthOf l) (Int.le_refl _)).2.1 j j0 (by omega)
        exact ⟨j, j0, by omega, by omega⟩
  · have hV : lateV l en = ([], false) := by rw [lateV, if_neg c]
    rw [hV, if_pos (by simp), if_pos (by simp), laws_sameInts_refl _ (by simp) _ (by simp; omega)]
    simp only [bsome]

end Go.Proofs.Ytegfpoagplpjiaa.Pure
