/- The pure statement of FnStepsWork is proved: the work is the sum of time times hands, and that of a beginning is no more. Conditions: none. -/
import Derived.Test.YtegfpoagplpjiaaPAllx0
import Derived.Test.YtegfpoagplpjiaaPAllx18
import Derived.Test.YtegfpoagplpjiaaBbase
import Derived.Test.YtegfpoagplpjiaaBpick
import Derived.Test.YtegfpoagplpjiaaBwithin
import Derived.Test.YtegfpoagplpjiaaBstepsv
import Derived.Test.YtegfpoagplpjiaaBdrawsteps
import Derived.Test.YtegfpoagplpjiaaBstepsb
import Derived.Test.YtegfpoagplpjiaaBdrawswork
import Derived.Test.YtegfpoagplpjiaaBsums
import Derived.Test.YtegfpoagplpjiaaBwork
import Derived.Test.YtegfpoagplpjiaaBprefix
namespace Go.Proofs.Ytegfpoagplpjiaa.Pure
open Go.RowKit Go.Proofs.Ytegfpoagplpjiaa.PAll Go.Proofs.Ytegfpoagplpjiaa.B Go.Proofs.YtegfpoagplpjiaaW.PrintWords Go.Proofs.YtegfpoagplpjiaaW.PrintLast
set_option linter.unusedVariables false
set_option linter.unusedSimpArgs false

theorem sumFrom_mono (f : Int → Int) : ∀ (d : Nat) (i : Int) (m : Nat), m ≤ d → (∀ j, i ≤ j → j < i + d → 0 ≤ f j) → sumFrom f m i ≤ sumFrom f d i := by
  intro d
  induction d with
  | zero => intro i m hm _; rw [show m = 0 by omega]; exact Int.le_refl _
  | succ d ih =>
    intro i m hm h
    cases m with
    | zero =>
      have a := ih (i + 1) 0 (by omega) fun j h1 h2 => h j (by omega) (by omega)
      have b := h i (by omega) (by omega)
      rw [sumFrom] at a
      rw [sumFrom, sumFrom]
      omega
    | succ m =>
      have a := ih (i + 1) m (by omega) fun j h1 h2 => h j (by omega) (by omega)
      rw [sumFrom, sumFrom]
      omega
theorem law_work_l0 (l : List S28) (more : List Int) (hv : stepsV l = true) (M : Nat) (hM : Inner l M) : ∀ (d : Nat) (i acc : Int), 0 ≤ i → i + d = l.length → 0 ≤ acc → acc ≤ 396 * i → acc + sumFrom (wk l) d i = workV l → ∀ k, (M + 4) * l.length + l.length + d + 2 ≤ k → laws_FnStepsWork.l0 k more l (workV l) acc i = some true := by
  have h8 := ((stepsV_iff l).1 hv).1
  intro d
  induction d with
  | zero =>
    intro i acc h0 hi b0 b1 hs k hk
    obtain ⟨k, rfl, hk'⟩ := rounds1 (k := k) (B := (M + 4) * l.length + l.length + 1) (by omega)
    have m0 := Int.emod_nonneg (more.length : Int) (show ((l.length : Int) + 1) ≠ 0 by omega)
    have m1 := Int.emod_lt_of_pos (more.length : Int) (show 0 < ((l.length : Int) + 1) by omega)
    rw [laws_FnStepsWork.l0, if_neg (by omega), w64 ((l.length : Int) + 1) (by omega) (by omega), if_neg (by omega), if_pos m0, if_pos (by omega)]
    generalize (more.length : Int) % ((l.length : Int) + 1) = m at m0 m1 ⊢
    have hm : m.toNat ≤ l.length := by omega
    have tl : (l.take m.toNat).length = m.toNat := by rw [List.length_take]; omega
    have hb : (M + 4) * (l.take m.toNat).length ≤ (M + 4) * l.length := Nat.mul_le_mul_left _ (by omega)
    rw [impl_StepsWork_eq _ M (inner_take hM _ hm) k (by omega)]
    simp only [bsome]
    have hw : workV (l.take m.toNat) = sumFrom (wk l) m.toNat 0 := by
      rw [workV, if_pos (stepsV_take l _ hm hv), tl]
      exact sumFrom_congr _ _ _ _ fun j j0 j1 => by unfold wk; rw [rdStep_take l _ j j0 (by omega)]
    have hW : workV l = sumFrom (wk l) l.length 0 := by rw [workV, if_pos hv]
    have p0 := (sumFrom_range (wk l) 396 m.toNat 0 fun j j0 j1 => wk_range l hv j j0 (by omega)).1
    have p1 := sumFrom_mono (wk l) l.length 0 m.toNat hm fun j j0 j1 => (wk_range l hv j j0 (by omega)).1
    rw [sumFrom, Int.add_zero] at hs
    rw [if_pos hs, hw, if_pos (by omega), decide_eq_true (by omega)]
  | succ d ih =>
    intro i acc h0 hi b0 b1 hs k hk
    obtain ⟨k, rfl, hk'⟩ := rounds1 (k := k) (B := (M + 4) * l.length + l.length + d + 2) (by omega)
    have t := wk_range l hv i h0 (by omega)
    rw [laws_FnStepsWork.l0, if_pos (by omega), if_pos h0, show (rd_T28 l i).f0 * (rd_T28 l i).f1 = wk l i from rfl, w64 (wk l i) (by omega) (by omega), w64 (acc + _) (by omega) (by omega), w64 (i + 1) (by omega) (by omega)]
    exact ih (i + 1) _ (by omega) (by omega) (by omega) (by omega) (by rw [← hs, sumFrom, Int.add_assoc]) k hk'
theorem FnStepsWork (l0 : List Int) (ok0 : CodeOk l0) (l1 : List Int) (ok1 : CodeOk l1) : ∃ k, laws_FnStepsWork.f k l0 l1 = some true := by
  obtain ⟨l, hB, e⟩ := drawStepsWork_ok l0 ok0
  have hM := inner_of hB
  have hl := hB.1
  obtain ⟨k, hk⟩ : ∃ k : Nat, 2000 ≤ k := ⟨2000, Nat.le_refl _⟩
  refine ⟨k + 1 + 1, ?_⟩
  unfold laws_FnStepsWork.f
  by_cases h1 : (l0.length : Int) > 1048576
  · rw [if_pos h1, laws_FnStepsWork.j0, if_pos rfl]
  rw [if_neg h1]
  by_cases h2 : (l1.length : Int) > 1048576
  · rw [decide_eq_true h2, laws_FnStepsWork.j0, if_pos rfl]
  rw [decide_eq_false h2, laws_FnStepsWork.j0, if_neg (by simp), e _ (by omega)]
  simp only [bsome]
  rw [impl_StepsWork_eq l 10 hM _ (by omega), spec_StepsWork_eq l 10 hM _ (by omega)]
  simp only [bsome, if_true]
  rw [laws_FnStepsWork.j1]
  by_cases hv : stepsV l = true
  · have p0 := (sumFrom_range (wk l) 396 l.length 0 fun j j0 j1 => wk_range l hv j j0 (by omega)).1
    have hW : workV l = sumFrom (wk l) l.length 0 := by rw [workV, if_pos hv]
    rw [decide_eq_false (by omega), if_neg (by simp)]
    exact law_work_l0 l l1 hv 10 hM l.length 0 0 (by omega) (by omega) (by omega) (by omega) (by rw [hW, Int.zero_add]) k (by omega)
  · have hW : workV l = -1 := by rw [workV, if_neg hv]
    rw [hW]
    simp

end Go.Proofs.Ytegfpoagplpjiaa.Pure
