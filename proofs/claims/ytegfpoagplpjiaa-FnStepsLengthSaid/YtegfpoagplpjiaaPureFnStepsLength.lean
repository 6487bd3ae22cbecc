/- The pure statement of FnStepsLength is proved: the length is the end of the step that ends last, and no more than all times. Conditions: none. -/
import Derived.Test.YtegfpoagplpjiaaPAllx0
import Derived.Test.YtegfpoagplpjiaaPAllx22
import Derived.Test.YtegfpoagplpjiaaBbase
import Derived.Test.YtegfpoagplpjiaaBpick
import Derived.Test.YtegfpoagplpjiaaBwithin
import Derived.Test.YtegfpoagplpjiaaBstepsv
import Derived.Test.YtegfpoagplpjiaaBdrawsteps
import Derived.Test.YtegfpoagplpjiaaBstepsb
import Derived.Test.YtegfpoagplpjiaaBdrawslength
import Derived.Test.YtegfpoagplpjiaaBmaxfrom
import Derived.Test.YtegfpoagplpjiaaBearly
import Derived.Test.YtegfpoagplpjiaaBearlyspec
import Derived.Test.YtegfpoagplpjiaaBendof
import Derived.Test.YtegfpoagplpjiaaBlength
namespace Go.Proofs.Ytegfpoagplpjiaa.Pure
open Go.RowKit Go.Proofs.Ytegfpoagplpjiaa.PAll Go.Proofs.Ytegfpoagplpjiaa.B Go.Proofs.YtegfpoagplpjiaaW.PrintWords Go.Proofs.YtegfpoagplpjiaaW.PrintLast
set_option linter.unusedVariables false
set_option linter.unusedSimpArgs false

theorem law_length_l0 (l : List S28) (hv : stepsV l = true) : ∀ (d : Nat) (i tot : Int) (b : Bool), 0 ≤ i → i + d = l.length → 0 ≤ tot → tot ≤ 99 * i → (∀ j : Int, 0 ≤ j → j < i → ev l j + (rd_T28 l j).f0 ≤ tot) → (b = true ∨ ∃ j : Int, i ≤ j ∧ j < l.length ∧ ev l j + (rd_T28 l j).f0 = lengthOf l) →
    ∀ k, 2 * d + 2 ≤ k → laws_FnStepsLength.l0 k l (lengthOf l) (B.early l l.length) b tot i = some true := by
  obtain ⟨h8, h⟩ := (stepsV_iff l).1 hv
  obtain ⟨r1, r2, r3⟩ := lengthOf_range l hv
  intro d
  induction d with
  | zero =>
    intro i tot b h0 hi t0 t1 hj hb k hk
    obtain ⟨k, rfl⟩ : ∃ q, k = q + 1 + 1 := ⟨k - 2, by omega⟩
    have hb' : b = true := by
      rcases hb with hb | ⟨j, j0, j1, _⟩
      · exact hb
      · omega
    have hle : lengthOf l ≤ tot := maxFrom_le _ _ _ _ _ t0 fun j j0 j1 => hj j j0 (by omega)
    rw [laws_FnStepsLength.l0, if_neg (by omega), laws_FnStepsLength.j3, if_neg (by simp), if_pos hb', decide_eq_true hle]
  | succ d ih =>
    intro i tot b h0 hi t0 t1 hj hb k hk
    obtain ⟨k, rfl⟩ : ∃ q, k = q + 1 + 1 := ⟨k - 2, by omega⟩
    have hs := h i h0 (by omega)
    have a := ev_range' l hv i h0 (by omega)
    have r := rd_early l l.length i h0 (by omega)
    have e3 := r3 i h0 (by omega)
    have et : ev l i ≤ tot := by
      rw [ev_eq l hv i h0 (by omega)]
      exact maxFrom_le _ _ _ _ _ t0 fun j j0 j1 => hj _ (hs.2.2.2 j j0 (by omega)).1.1 (hs.2.2.2 j j0 (by omega)).1.2
    have hj' : ∀ j : Int, 0 ≤ j → j < i + 1 → ev l j + (rd_T28 l j).f0 ≤ tot + (rd_T28 l i).f0 := by
      intro j j0 j1
      by_cases e : j = i
      · subst e
        omega
      · have := hj j j0 (by omega)
        omega
    rw [laws_FnStepsLength.l0, if_pos (by omega), decide_eq_true (by rw [early_len]; omega), laws_FnStepsLength.j3, if_pos rfl, if_pos h0, if_pos (by rw [early_len]; omega), if_pos (by omega), r, w64 (ev l i + _) (by omega) (by omega), if_neg (by omega), if_neg (by omega), w64 (tot + _) (by omega) (by omega), w64 (i + 1) (by omega) (by omega)]
    by_cases hbt : b = true
    · rw [if_pos hbt]
      exact ih (i + 1) _ true (by omega) (by omega) (by omega) (by omega) hj' (.inl rfl) k (by omega)
    · rw [if_neg hbt]
      refine ih (i + 1) _ _ (by omega) (by omega) (by omega) (by omega) hj' ?_ k (by omega)
      rcases hb with hb | ⟨j, j0, j1, je⟩
      · exact absurd hb hbt
      · by_cases e : j = i
        · subst e
          exact .inl (by rw [je]; simp)
        · exact .inr ⟨j, by omega, j1, je⟩
theorem FnStepsLength (l0 : List Int) (ok0 : CodeOk l0) : ∃ k, laws_FnStepsLength.f k l0 = some true := by
  by_cases h1 : (l0.length : Int) > 1048576
  · exact ⟨0, by unfold laws_FnStepsLength.f; rw [if_pos h1]⟩
  obtain ⟨l, hB, e⟩ := drawStepsLength_ok l0 ok0
  have hM := inner_of hB
  have hl := hB.1
  obtain ⟨k, hk⟩ : ∃ k : Nat, 2000 ≤ k := ⟨2000, Nat.le_refl _⟩
  refine ⟨k + 1 + 1, ?_⟩
  unfold laws_FnStepsLength.f
  rw [if_neg h1, e _ (by omega)]
  simp only [bsome]
  rw [impl_StepsLength_eq l 10 hM _ (by omega), spec_StepsLength_eq l 10 hM _ (by omega)]
  simp only [bsome, if_true]
  rw [laws_FnStepsLength.j0]
  by_cases hv : stepsV l = true
  · obtain ⟨h8, h⟩ := (stepsV_iff l).1 hv
    obtain ⟨r1, r2, r3⟩ := lengthOf_range l hv
    rw [lengthV, if_pos hv, decide_eq_false (by omega), if_neg (by simp), impl_StepsEarly_eq l 10 hM _ (by omega), earlyV, if_pos hv]
    simp only [bsome]
    by_cases hn : (l.length : Int) = 0
    · have hz : lengthOf l = 0 := by unfold lengthOf; rw [show l.length = 0 by omega]; rfl
      rw [if_pos hn, laws_FnStepsLength.j1]
      exact law_length_l0 l hv l.length 0 0 (lengthOf l == 0) (by omega) (by omega) (by omega) (by omega) (fun j j0 j1 => by omega) (.inl (by rw [hz]; rfl)) k (by omega)
    · rw [if_neg hn, laws_FnStepsLength.j1]
      refine law_length_l0 l hv l.length 0 0 _ (by omega) (by omega) (by omega) (by omega) (fun j j0 j1 => by omega) (.inr ?_) k (by omega)
      have s := (maxFrom_spec (fun i => ev l i + (rd_T28 l i).f0) l.length 0 0).2.2
      rcases s with s | ⟨j, j0, j1, s⟩
      · have z0 := r3 0 (by omega) (by omega)
        have z1 := (h 0 (by omega) (by omega)).1
        have z2 := ev_range' l hv 0 (by omega) (by omega)
        have : lengthOf l = 0 := s
        omega
      · exact ⟨j, j0, by omega, s.symm⟩
  · rw [lengthV, if_neg hv]
    simp

end Go.Proofs.Ytegfpoagplpjiaa.Pure
