/- The pure statement of FnStepsLate is proved: the latest starts end in time and wait for the steps ahead. Conditions: none. -/
import Derived.Test.YtegfpoagplpjiaaPAllx0
import Derived.Test.YtegfpoagplpjiaaPAllx25
import Derived.Test.YtegfpoagplpjiaaBbase
import Derived.Test.YtegfpoagplpjiaaBpick
import Derived.Test.YtegfpoagplpjiaaBwithin
import Derived.Test.YtegfpoagplpjiaaBstepsv
import Derived.Test.YtegfpoagplpjiaaBdrawsteps
import Derived.Test.YtegfpoagplpjiaaBstepsb
import Derived.Test.YtegfpoagplpjiaaBmaxfrom
import Derived.Test.YtegfpoagplpjiaaBearly
import Derived.Test.YtegfpoagplpjiaaBearlyspec
import Derived.Test.YtegfpoagplpjiaaBendof
import Derived.Test.YtegfpoagplpjiaaBlength
import Derived.Test.YtegfpoagplpjiaaBdrawslate
import Derived.Test.YtegfpoagplpjiaaBlate
import Derived.Test.YtegfpoagplpjiaaBlateinv
import Derived.Test.YtegfpoagplpjiaaBlateimpl
import Derived.Test.YtegfpoagplpjiaaBlatespec
import Derived.Test.YtegfpoagplpjiaaBsameints
namespace Go.Proofs.Ytegfpoagplpjiaa.Pure
open Go.RowKit Go.Proofs.Ytegfpoagplpjiaa.PAll Go.Proofs.Ytegfpoagplpjiaa.B Go.Proofs.YtegfpoagplpjiaaW.PrintWords Go.Proofs.YtegfpoagplpjiaaW.PrintLast
set_option linter.unusedVariables false
set_option linter.unusedSimpArgs false

theorem law_late_l1 (l : List S28) (hv : stepsV l = true) (en : Int) (hen : lengthOf l ≤ en ∧ en ≤ 999) (i : Int) (h0 : 0 ≤ i) (hi : i < l.length) : ∀ (d : Nat) (j : Int), 0 ≤ j → j + d = (rd_T28 l i).f3.length → ∀ k,
    laws_FnStepsLate.l1 (k + d + 1) l en (lateOf l en) i j = laws_FnStepsLate.l0 k l en (lateOf l en) (i + 1) := by
  obtain ⟨h8, h⟩ := (stepsV_iff l).1 hv
  have hs := h i h0 hi
  obtain ⟨a1, a2, a3, a4⟩ := lateOf_inv l hv en hen.1
  intro d
  induction d with
  | zero =>
    intro j j0 hj k
    rw [Nat.add_zero, laws_FnStepsLate.l1, if_pos h0, if_pos hi, if_neg (by omega), w64 _ (by omega) (by omega)]
  | succ d ih =>
    intro j j0 hj k
    have e := ih (j + 1) (by omega) (by omega) k
    have a := (hs.2.2.2 j j0 (by omega)).1
    have rr := ev_range' l hv _ a.1 (by omega)
    have c := (h (rd (rd_T28 l i).f3 j) a.1 (by omega)).1
    have b := a2 _ a.1 (show rd (rd_T28 l i).f3 j < l.length by omega)
    have g := a3 i h0 hi j j0 (by omega)
    rw [show k + (d + 1) + 1 = (k + d + 1) + 1 by omega]
    have jb := after_len l hv i h0 hi
    generalize k + d + 1 = q at e ⊢
    rw [laws_FnStepsLate.l1, if_pos h0, if_pos hi, if_pos (by omega), if_pos j0, if_pos a.1, if_pos (by omega), if_pos (by omega), if_pos (by omega), w64 (rd (lateOf l en) (rd (rd_T28 l i).f3 j) + _) (by omega) (by omega), if_neg (by omega), w64 (j + 1) (by omega) (by omega), e]
theorem law_late_l0 (l : List S28) (hv : stepsV l = true) (en : Int) (hen : lengthOf l ≤ en ∧ en ≤ 999) (M : Nat) (hM : Inner l M) : ∀ (d : Nat) (i : Int), 0 ≤ i → i + d = l.length → ∀ k, (M + 4) * d + 3 ≤ k → laws_FnStepsLate.l0 k l en (lateOf l en) i = some true := by
  obtain ⟨h8, h⟩ := (stepsV_iff l).1 hv
  obtain ⟨a1, a2, a3, a4⟩ := lateOf_inv l hv en hen.1
  intro d
  induction d with
  | zero =>
    intro i h0 hi k hk
    obtain ⟨k, rfl⟩ : ∃ q, k = q + 1 + 1 := ⟨k - 2, by omega⟩
    rw [laws_FnStepsLate.l0, if_neg (by omega), laws_FnStepsLate.j2, if_neg (by simp), a1]
    simp
  | succ d ih =>
    intro i h0 hi k hk
    rw [mul_step] at hk
    have hm := hM.2.2 i h0 (by omega)
    obtain ⟨k, rfl⟩ : ∃ q, k = (q + (rd_T28 l i).f3.length + 1) + 1 + 1 + 1 := ⟨k - (rd_T28 l i).f3.length - 4, by omega⟩
    have rr := ev_range' l hv i h0 (by omega)
    have hs := (h i h0 (by omega)).1
    have b := a2 i h0 (by omega)
    rw [laws_FnStepsLate.l0, if_pos (by omega), decide_eq_true (by omega), laws_FnStepsLate.j2, if_pos rfl, if_pos h0, if_pos (by omega), if_neg (by omega), if_pos (by omega), w64 (rd (lateOf l en) i + _) (by omega) (by omega), decide_eq_false (by omega), laws_FnStepsLate.j3, if_neg (by simp),
      law_late_l1 l hv en hen i h0 (by omega) _ 0 (by omega) (by omega) k]
    exact ih (i + 1) (by omega) (by omega) k (by omega)
theorem FnStepsLate (l0 : List Int) (ok0 : CodeOk l0) : ∃ k, laws_FnStepsLate.f k l0 = some true := by
  by_cases h1 : (l0.length : Int) > 1048576
  · exact ⟨0, by unfold laws_FnStepsLate.f; rw [if_pos h1]⟩
  obtain ⟨l, en, hB, e⟩ := drawStepsLate_ok l0 ok0
  have hM := inner_of hB
  have hl := hB.1
  have hlen := lateV_len l en
  obtain ⟨k, hk⟩ : ∃ k : Nat, 2000 ≤ k := ⟨2000, Nat.le_refl _⟩
  refine ⟨k + 1, ?_⟩
  unfold laws_FnStepsLate.f
  rw [if_neg h1, e _ (by omega)]
  simp only [bsome]
  rw [impl_StepsLate_eq l 10 hM en _ (by omega), spec_StepsLate_eq l 10 hM en _ (by omega)]
  simp only [bsome, bne_self_eq_false, Bool.false_eq_true, if_false]
  rw [laws_sameInts_refl _ (by omega) _ (by omega)]
  simp only [bsome, if_true]
  rw [laws_FnStepsLate.j0]
  by_cases c : stepsV l = true ∧ lengthOf l ≤ en ∧ en ≤ 999
  · have hV : lateV l en = (lateOf l en, true) := by rw [lateV, if_pos c]
    rw [hV, if_neg (by simp)]
    exact law_late_l0 l c.1 en c.2 10 hM l.length 0 (by omega) (by omega) k (by omega)
  · have hV : lateV l en = ([], false) := by rw [lateV, if_neg c]
    rw [hV, if_pos (by simp), if_pos (by simp), laws_sameInts_refl _ (by simp) _ (by simp; omega)]
    simp only [bsome]

end Go.Proofs.Ytegfpoagplpjiaa.Pure
