/- The pure statement of FnStepsLateTight is proved: each step ends at the end, or when a step that waits for it starts. Conditions: none. -/
import Derived.Test.YtegfpoagplpjiaaPAllx0
import Derived.Test.YtegfpoagplpjiaaPAllx16
import Derived.Test.YtegfpoagplpjiaaPAllx26
import Derived.Test.YtegfpoagplpjiaaBbase
import Derived.Test.YtegfpoagplpjiaaBpick
import Derived.Test.YtegfpoagplpjiaaBwithin
import Derived.Test.YtegfpoagplpjiaaBstepsv
import Derived.Test.YtegfpoagplpjiaaBdrawsteps
import Derived.Test.YtegfpoagplpjiaaBstepsb
import Derived.Test.YtegfpoagplpjiaaBmaxfrom
import Derived.Test.YtegfpoagplpjiaaBearly
import Derived.Test.YtegfpoagplpjiaaBearlyspec
import Derived.Test.YtegfpoagplpjiaaBendof
import Derived.Test.YtegfpoagplpjiaaBlength
import Derived.Test.YtegfpoagplpjiaaBdrawslate
import Derived.Test.YtegfpoagplpjiaaBlate
import Derived.Test.YtegfpoagplpjiaaBlatevals
import Derived.Test.YtegfpoagplpjiaaBsameints
namespace Go.Proofs.Ytegfpoagplpjiaa.Pure
open Go.RowKit Go.Proofs.Ytegfpoagplpjiaa.PAll Go.Proofs.Ytegfpoagplpjiaa.B Go.Proofs.YtegfpoagplpjiaaW.PrintWords Go.Proofs.YtegfpoagplpjiaaW.PrintLast
set_option linter.unusedVariables false
set_option linter.unusedSimpArgs false

theorem law_hasInt_l0 (l : List Int) (hl : l.length ≤ 1000000000) (x : Int) : ∀ (d : Nat) (i : Int), 0 ≤ i → i + d = l.length → ∃ b : Bool, (∀ k, d + 1 ≤ k → laws_hasInt.l0 k l x i = some b) ∧ ((∃ q : Int, i ≤ q ∧ q < l.length ∧ rd l q = x) → b = true) := by
  intro d
  induction d with
  | zero =>
    intro i h0 hi
    refine ⟨false, fun k hk => ?_, fun ⟨q, q0, q1, _⟩ => by omega⟩
    obtain ⟨k, rfl, _⟩ := rounds1 (k := k) (B := 0) (by omega)
    rw [laws_hasInt.l0, if_neg (by omega)]
  | succ d ih =>
    intro i h0 hi
    by_cases c : rd l i = x
    · refine ⟨true, fun k hk => ?_, fun _ => rfl⟩
      obtain ⟨k, rfl, _⟩ := rounds1 (k := k) (B := 0) (by omega)
      rw [laws_hasInt.l0, if_pos (by omega), if_pos h0, if_pos c]
    · obtain ⟨b, e, hb⟩ := ih (i + 1) (by omega) (by omega)
      refine ⟨b, fun k hk => ?_, fun ⟨q, q0, q1, q2⟩ => ?_⟩
      · obtain ⟨k, rfl, hk'⟩ := rounds1 hk
        rw [laws_hasInt.l0, if_pos (by omega), if_pos h0, if_neg c, w64 _ (by omega) (by omega), e k hk']
      · by_cases e : q = i
        · exact absurd (e ▸ q2) c
        · exact hb ⟨q, by omega, q1, q2⟩
theorem law_tight_l1 (l : List S28) (hv : stepsV l = true) (en : Int) (hen : lengthOf l ≤ en ∧ en ≤ 999) (M : Nat) (hM : Inner l M) (i : Int) (h0 : 0 ≤ i) (hi : i < l.length) : ∀ (d : Nat) (j : Int) (b : Bool), 0 ≤ j → j + d = l.length →
    (b = true ∨ ∃ j' q : Int, j ≤ j' ∧ j' < l.length ∧ 0 ≤ q ∧ q < (rd_T28 l j').f3.length ∧ rd (rd_T28 l j').f3 q = i ∧ rd (lateOf l en) i + (rd_T28 l i).f0 = rd (lateOf l en) j') → ∀ k, M + 1 ≤ k →
    laws_FnStepsLateTight.l1 (k + d + 1) l en (lateOf l en) i b j = laws_FnStepsLateTight.l0 k l en (lateOf l en) (i + 1) := by
  obtain ⟨h8, h⟩ := (stepsV_iff l).1 hv
  obtain ⟨a1, a2, a3, a4⟩ := lateOf_inv l hv en hen.1
  have rr := ev_range' l hv i h0 hi
  have hs := (h i h0 hi).1
  have b2 := a2 i h0 hi
  intro d
  induction d with
  | zero =>
    intro j b j0 hj hb k hk
    have hb' : b = true := by
      rcases hb with hb | ⟨j', q, x1, x2, _⟩
      · exact hb
      · omega
    rw [Nat.add_zero, laws_FnStepsLateTight.l1, if_neg (by omega), if_pos hb', w64 (i + 1) (by omega) (by omega)]
  | succ d ih =>
    intro j b j0 hj hb k hk
    rw [show k + (d + 1) + 1 = (k + d + 1) + 1 by omega]
    have hm := hM.2.2 j j0 (by omega)
    by_cases hbt : b = true
    · have e := ih (j + 1) true (by omega) (by omega) (.inl rfl) k hk
      generalize k + d + 1 = q at e ⊢
      rw [laws_FnStepsLateTight.l1, if_pos (by omega), if_pos hbt, w64 (j + 1) (by omega) (by omega), e]
    · obtain ⟨c, ec, hc⟩ := law_hasInt_l0 (rd_T28 l j).f3 (by have := hM.2.1; omega) i (rd_T28 l j).f3.length 0 (by omega) (by omega)
      have ec' : laws_hasInt.f (k + d + 1) (rd_T28 l j).f3 i = some c := by unfold laws_hasInt.f; exact ec _ (by omega)
      rcases hb with hb | ⟨j', q, x1, x2, x3, x4, x5, x6⟩
      · exact absurd hb hbt
      · by_cases cc : c = true
        · have e := ih (j + 1) (rd (lateOf l en) i + (rd_T28 l i).f0 == rd (lateOf l en) j) (by omega) (by omega) (by
            by_cases w : j' = j
            · subst w
              exact .inl (by rw [x6]; simp)
            · exact .inr ⟨j', q, by omega, x2, x3, x4, x5, x6⟩) k hk
          generalize k + d + 1 = q at e ec' ⊢
          rw [laws_FnStepsLateTight.l1, if_pos (by omega), if_neg hbt, if_pos j0, ec']
          simp only [bsome]
          rw [if_pos cc, if_pos h0, if_pos (by omega), if_pos hi, if_pos (by omega), w64 (rd (lateOf l en) i + _) (by omega) (by omega), w64 (j + 1) (by omega) (by omega), e]
        · have e := ih (j + 1) false (by omega) (by omega) (by
            by_cases w : j' = j
            · subst w
              exact absurd (hc ⟨q, x3, x4, x5⟩) cc
            · exact .inr ⟨j', q, by omega, x2, x3, x4, x5, x6⟩) k hk
          generalize k + d + 1 = q at e ec' ⊢
          rw [laws_FnStepsLateTight.l1, if_pos (by omega), if_neg hbt, if_pos j0, ec']
          simp only [bsome]
          rw [if_neg cc, w64 (j + 1) (by omega) (by omega), e]
theorem law_tight_l0 (l : List S28) (hv : stepsV l = true) (en : Int) (hen : lengthOf l ≤ en ∧ en ≤ 999) (M : Nat) (hM : Inner l M) : ∀ (d : Nat) (i : Int), 0 ≤ i → i + d = l.length → ∀ k, (l.length + 3) * d + M + 3 ≤ k → laws_FnStepsLateTight.l0 k l en (lateOf l en) i = some true := by
  obtain ⟨h8, h⟩ := (stepsV_iff l).1 hv
  obtain ⟨a1, a2, a3, a4⟩ := lateOf_inv l hv en hen.1
  intro d
  induction d with
  | zero =>
    intro i h0 hi k hk
    obtain ⟨k, rfl⟩ : ∃ q, k = q + 1 + 1 := ⟨k - 2, by omega⟩
    rw [laws_FnStepsLateTight.l0, if_neg (by omega), laws_FnStepsLateTight.j2, if_neg (by simp)]
  | succ d ih =>
    intro i h0 hi k hk
    rw [Nat.mul_succ] at hk
    obtain ⟨k, rfl⟩ : ∃ q, k = (q + d + 1) + 1 + 1 := ⟨k - d - 3, by omega⟩
    have rr := ev_range' l hv i h0 (by omega)
    have hs := (h i h0 (by omega)).1
    have b := a2 i h0 (by omega)
    rw [laws_FnStepsLateTight.l0, if_pos (by omega), decide_eq_true (by omega), laws_FnStepsLateTight.j2, if_pos rfl, if_pos h0, if_pos (by omega), if_pos (by omega), w64 (rd (lateOf l en) i + _) (by omega) (by omega), w64 (i + 1) (by omega) (by omega),
      law_tight_l1 l hv en hen M hM i h0 (by omega) d (i + 1) _ (by omega) (by omega) (by
        rcases a4 i h0 (by omega) with w | ⟨i', q, y1, y2, y3, y4, y5, y6, y7⟩
        · exact .inl (by rw [w]; simp)
        · exact .inr ⟨i', q, by omega, y3, y4, y5, y6, y7⟩) k (by omega)]
    exact ih (i + 1) (by omega) (by omega) k (by omega)
theorem FnStepsLateTight (l0 : List Int) (ok0 : CodeOk l0) : ∃ k, laws_FnStepsLateTight.f k l0 = some true := by
  by_cases h1 : (l0.length : Int) > 1048576
  · exact ⟨0, by unfold laws_FnStepsLateTight.f; rw [if_pos h1]⟩
  obtain ⟨l, en, hB, e⟩ := drawStepsLate_ok l0 ok0
  have hM := inner_of hB
  have hl := hB.1
  have hlen := lateV_len l en
  obtain ⟨k, hk⟩ : ∃ k : Nat, 2000 ≤ k := ⟨2000, Nat.le_refl _⟩
  refine ⟨k + 1, ?_⟩
  unfold laws_FnStepsLateTight.f
  rw [if_neg h1, e _ (by omega)]
  simp only [bsome]
  rw [impl_StepsLate_eq l 10 hM en _ (by omega), spec_StepsLate_eq l 10 hM en _ (by omega)]
  simp only [bsome, bne_self_eq_false, Bool.false_eq_true, if_false]
  rw [laws_sameInts_refl _ (by omega) _ (by omega)]
  simp only [bsome, if_true]
  rw [laws_FnStepsLateTight.j0]
  by_cases c : stepsV l = true ∧ lengthOf l ≤ en ∧ en ≤ 999
  · have hV : lateV l en = (lateOf l en, true) := by rw [lateV, if_pos c]
    rw [hV, if_neg (by simp)]
    exact law_tight_l0 l c.1 en c.2 10 hM l.length 0 (by omega) (by omega) k (by have := Nat.mul_le_mul (show l.length + 3 ≤ 12 by omega) hl; omega)
  · have hV : lateV l en = ([], false) := by rw [lateV, if_neg c]
    rw [hV, if_pos (by simp), if_pos (by simp), laws_sameInts_refl _ (by simp) _ (by simp; omega)]
    simp only [bsome]

end Go.Proofs.Ytegfpoagplpjiaa.Pure
