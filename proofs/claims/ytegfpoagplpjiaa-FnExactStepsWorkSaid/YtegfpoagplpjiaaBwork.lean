/- Lemmas about the printed functions (work). -/
import Derived.Test.YtegfpoagplpjiaaPAllx0
import Derived.Test.YtegfpoagplpjiaaPAllx7
import Derived.Test.YtegfpoagplpjiaaBbase
import Derived.Test.YtegfpoagplpjiaaBwithin
import Derived.Test.YtegfpoagplpjiaaBstepsv
import Derived.Test.YtegfpoagplpjiaaBsums
namespace Go.Proofs.Ytegfpoagplpjiaa.B
open Go.RowKit Go.Proofs.Ytegfpoagplpjiaa.PAll Go.Proofs.YtegfpoagplpjiaaW.PrintWords Go.Proofs.YtegfpoagplpjiaaW.PrintLast
set_option linter.unusedVariables false
set_option linter.unusedSimpArgs false

/-! #### work -/
def wk (l : List S28) (i : Int) : Int := (rd_T28 l i).f0 * (rd_T28 l i).f1
def workV (l : List S28) : Int := if stepsV l = true then sumFrom (wk l) l.length 0 else -1
theorem wk_range (l : List S28) (hv : stepsV l = true) (i : Int) (h0 : 0 ≤ i) (hi : i < l.length) : 0 ≤ wk l i ∧ wk l i ≤ 396 := by
  obtain ⟨h8, h⟩ := (stepsV_iff l).1 hv
  have hs := h i h0 hi
  exact mul_range (A := 99) (B := 4) (by omega) (by omega) (by omega) (by omega)
theorem impl_StepsWork_l0 (l : List S28) (hv : stepsV l = true) : ∀ (d : Nat) (i acc : Int), 0 ≤ i → i + d = l.length → 0 ≤ acc → acc ≤ 396 * i → ∀ k, d + 1 ≤ k → impl_StepsWork.l0 k acc l (l.length : Int) i = some (acc + sumFrom (wk l) d i) := by
  have h8 := ((stepsV_iff l).1 hv).1
  intro d
  induction d with
  | zero =>
    intro i acc h0 hi b0 b1 k hk
    obtain ⟨k, rfl, _⟩ := rounds1 (k := k) (B := 0) (by omega)
    rw [impl_StepsWork.l0, if_neg (by omega), sumFrom, Int.add_zero]
  | succ d ih =>
    intro i acc h0 hi b0 b1 k hk
    obtain ⟨k, rfl, hk'⟩ := rounds1 hk
    have t := wk_range l hv i h0 (by omega)
    rw [impl_StepsWork.l0, if_pos (by omega), if_pos h0, if_pos (by omega), show (rd_T28 l i).f0 * (rd_T28 l i).f1 = wk l i from rfl, w64 (wk l i) (by omega) (by omega), w64 (acc + _) (by omega) (by omega), w64 (i + 1) (by omega) (by omega),
      ih (i + 1) _ (by omega) (by omega) (by omega) (by omega) k hk', sumFrom, Int.add_assoc]
theorem impl_StepsWork_eq (l : List S28) (M : Nat) (hM : Inner l M) (k : Nat) (hk : (M + 4) * l.length + l.length + 1 ≤ k) : impl_StepsWork.f k l = some (workV l) := by
  unfold impl_StepsWork.f workV
  rw [impl_StepsValid_eq l M hM k (by omega)]
  simp only [bsome]
  by_cases hv : stepsV l = true
  · rw [if_pos hv, if_pos hv, impl_StepsWork_l0 l hv l.length 0 0 (by omega) (by omega) (by omega) (by omega) k (by omega), Int.zero_add]
  · rw [if_neg hv, if_neg hv]
theorem spec_StepsWork_l0 (l : List S28) (hv : stepsV l = true) : ∀ (d : Nat) (i acc : Int), 0 ≤ i → i + d = l.length → 0 ≤ acc → acc ≤ 396 * i → ∀ k, d + 1 ≤ k → spec_StepsWork.l0 k l acc i = some (acc + sumFrom (wk l) d i) := by
  have h8 := ((stepsV_iff l).1 hv).1
  intro d
  induction d with
  | zero =>
    intro i acc h0 hi b0 b1 k hk
    obtain ⟨k, rfl, _⟩ := rounds1 (k := k) (B := 0) (by omega)
    rw [spec_StepsWork.l0, if_neg (by omega), sumFrom, Int.add_zero]
  | succ d ih =>
    intro i acc h0 hi b0 b1 k hk
    obtain ⟨k, rfl, hk'⟩ := rounds1 hk
    have t := wk_range l hv i h0 (by omega)
    rw [spec_StepsWork.l0, if_pos (by omega), if_pos h0, show (rd_T28 l i).f0 * (rd_T28 l i).f1 = wk l i from rfl, w64 (wk l i) (by omega) (by omega), w64 (acc + _) (by omega) (by omega), w64 (i + 1) (by omega) (by omega),
      ih (i + 1) _ (by omega) (by omega) (by omega) (by omega) k hk', sumFrom, Int.add_assoc]
theorem spec_StepsWork_eq (l : List S28) (M : Nat) (hM : Inner l M) (k : Nat) (hk : (M + 4) * l.length + l.length + 1 ≤ k) : spec_StepsWork.f k l = some (workV l) := by
  unfold spec_StepsWork.f workV
  rw [spec_StepsValid_eq l M hM k (by omega)]
  simp only [bsome]
  by_cases hv : stepsV l = true
  · rw [if_pos hv, if_pos hv, spec_StepsWork_l0 l hv l.length 0 0 (by omega) (by omega) (by omega) (by omega) k (by omega), Int.zero_add]
  · rw [if_neg hv, if_neg hv]

end Go.Proofs.Ytegfpoagplpjiaa.B
