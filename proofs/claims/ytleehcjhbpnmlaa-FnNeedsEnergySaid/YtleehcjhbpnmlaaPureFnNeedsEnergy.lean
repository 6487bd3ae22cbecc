/- The pure statement of FnNeedsEnergy is proved: the result is the sum of the terms, rounded down to hundreds. Conditions: none. -/
import Derived.Test.YtleehcjhbpnmlaaPAllx0
import Derived.Test.YtleehcjhbpnmlaaPAllx3
import Derived.Test.YtleehcjhbpnmlaaPAllx15
import Derived.Test.YtleehcjhbpnmlaaBbase
import Derived.Test.YtleehcjhbpnmlaaBpick
import Derived.Test.YtleehcjhbpnmlaaBfoods
import Derived.Test.YtleehcjhbpnmlaaBneedsval
import Derived.Test.YtleehcjhbpnmlaaBsums
import Derived.Test.YtleehcjhbpnmlaaBneedsenergy
import Derived.Test.YtleehcjhbpnmlaaBdrawneeds
import Derived.Test.YtleehcjhbpnmlaaBdrawneeds1
namespace Go.Proofs.Ytleehcjhbpnmlaa.Pure
open Go.RowKit Go.Proofs.Ytleehcjhbpnmlaa.PAll Go.Proofs.Ytleehcjhbpnmlaa.B Go.Proofs.YtleehcjhbpnmlaaW.PrintWords Go.Proofs.YtleehcjhbpnmlaaW.PrintLast
set_option linter.unusedVariables false
set_option linter.unusedSimpArgs false

theorem FnNeedsEnergy_l0 (l : List S29) (c : List Int) (h : needsV l c = true) : ∀ (d : Nat) (i acc : Int), 0 ≤ i → i + d = l.length → 0 ≤ acc → acc ≤ 998999001 * i → acc + sumFrom (enOf l c) d i = sumFrom (enOf l c) l.length 0 → ∀ k, d + 1 ≤ k → laws_FnNeedsEnergy.l0 k l c (hund (sumFrom (enOf l c) l.length 0)) acc i = some true := by
  have hl := needs_len l c h
  have b := sumFrom_range (enOf l c) 998999001 l.length 0 (fun j h0 h1 => enOf_range l c h j h0 (by omega))
  obtain ⟨b0, b1⟩ := b
  intro d
  induction d with
  | zero =>
    intro i acc h0 hi a0 a1 ha k hk
    obtain ⟨k, rfl, _⟩ := rounds1 hk
    have ha' : acc = sumFrom (enOf l c) l.length 0 := by simpa [sumFrom] using ha
    rw [laws_FnNeedsEnergy.l0, if_neg (by omega), ha']
    have e1 := Int.tdiv_eq_ediv_of_nonneg (a := sumFrom (enOf l c) l.length 0) (b := 100) b0
    have e2 : hund (sumFrom (enOf l c) l.length 0) = sumFrom (enOf l c) l.length 0 / 100 := e1
    rw [e2, w64 (100 * _) (by omega) (by omega), w64 (_ / 100 + 1) (by omega) (by omega), w64 (100 * _) (by omega) (by omega), if_pos (by omega), decide_eq_true (by omega)]
  | succ d ih =>
    intro i acc h0 hi a0 a1 ha k hk
    obtain ⟨k, rfl, hk'⟩ := rounds1 hk
    have t := enOf_range l c h i h0 (by omega)
    rw [laws_FnNeedsEnergy.l0, if_pos (by omega), if_pos h0, if_pos (by omega)]
    rw [show rd c i * (rd_T29 l i).f4 = enOf l c i from Int.mul_comm _ _, w64 (enOf l c i) (by omega) (by omega), w64 _ (by omega) (by omega), w64 (i + 1) (by omega) (by omega)]
    exact ih (i + 1) (acc + enOf l c i) (by omega) (by omega) (by omega) (by omega) (by rw [← ha, sumFrom, Int.add_assoc]) k hk'
theorem FnNeedsEnergy (l0 : List Int) (ok0 : CodeOk l0) : ∃ k, laws_FnNeedsEnergy.f k l0 = some true := by
  by_cases h1 : (l0.length : Int) > 1048576
  · exact ⟨0, by unfold laws_FnNeedsEnergy.f; rw [if_pos h1]⟩
  obtain ⟨l, c, hl, hc, e⟩ := drawNeedsValid_ok l0 ok0
  obtain ⟨k, hk⟩ : ∃ k : Nat, 200 ≤ k := ⟨200, Nat.le_refl _⟩
  refine ⟨k + 1, ?_⟩
  unfold laws_FnNeedsEnergy.f spec_DrawNeedsEnergy.f
  rw [if_neg h1, e _ (by omega)]
  simp only [bsome]
  rw [impl_NeedsEnergy_eq l (by omega) c (by omega) _ (by omega), spec_NeedsEnergy_eq l (by omega) c (by omega) _ (by omega)]
  simp only [bsome, if_true]
  rw [laws_FnNeedsEnergy.j0]
  by_cases hv : needsV l c = true
  · have hq := needs_len l c hv
    have b := sumFrom_range (enOf l c) 998999001 l.length 0 (fun j h0 h1 => enOf_range l c hv j h0 (by omega))
    have s1 : needsEnergyV l c = hund (sumFrom (enOf l c) l.length 0) := by rw [needsEnergyV, if_pos hv]
    have s2 : 0 ≤ hund (sumFrom (enOf l c) l.length 0) := Int.tdiv_nonneg (by omega) (by omega)
    rw [s1, decide_eq_false (by omega), if_neg (by simp)]
    exact FnNeedsEnergy_l0 l c hv l.length 0 0 (by omega) (by omega) (by omega) (by omega) (by omega) k (by omega)
  · have s1 : needsEnergyV l c = -1 := by rw [needsEnergyV, if_neg hv]
    rw [s1]
    rfl

end Go.Proofs.Ytleehcjhbpnmlaa.Pure
