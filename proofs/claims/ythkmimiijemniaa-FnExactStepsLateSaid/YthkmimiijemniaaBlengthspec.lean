/- Lemmas about the printed functions (lengthspec). -/
import Derived.Test.YthkmimiijemniaaPAllx0
import Derived.Test.YthkmimiijemniaaPAllx9
import Derived.Test.YthkmimiijemniaaPAllx11
import Derived.Test.YthkmimiijemniaaBbase
import Derived.Test.YthkmimiijemniaaBwithin
import Derived.Test.YthkmimiijemniaaBstepsv
import Derived.Test.YthkmimiijemniaaBmaxfrom
import Derived.Test.YthkmimiijemniaaBearly
import Derived.Test.YthkmimiijemniaaBearlyspec
import Derived.Test.YthkmimiijemniaaBendof
namespace Go.Proofs.Ythkmimiijemniaa.B
open Go.RowKit Go.Proofs.Ythkmimiijemniaa.PAll Go.Proofs.YthkmimiijemniaaW.PrintWords Go.Proofs.YthkmimiijemniaaW.PrintLast
set_option linter.unusedVariables false
set_option linter.unusedSimpArgs false

def lengthOf (l : List S40) : Int := maxFrom (fun i => ev l i + (rd_T40 l i).f0) l.length 0 0
def lengthV (l : List S40) : Int := if stepsV l = true then lengthOf l else -1
theorem early_ready (l : List S40) (hv : stepsV l = true) : ∀ i : Int, 0 ≤ i → i < (early l l.length).length → (0 ≤ rd (early l l.length) i ∧ rd (early l l.length) i ≤ 100000) ∧ (0 ≤ (rd_T40 l i).f0 ∧ (rd_T40 l i).f0 ≤ 100000) := by
  intro i h0 hi
  rw [early_len] at hi
  obtain ⟨h8, h⟩ := (stepsV_iff l).1 hv
  have a := ev_range' l hv i h0 hi
  have b := (h i h0 hi).1
  rw [rd_early l l.length i h0 hi]
  omega
theorem end_early (l : List S40) (hv : stepsV l = true) (k : Nat) (hk : l.length + 1 ≤ k) : impl_endOf.f k l (early l l.length) = some (lengthOf l) := by
  have h8 := ((stepsV_iff l).1 hv).1
  rw [impl_endOf_eq l (by omega) _ (by rw [early_len]; omega) (early_ready l hv) k (by rw [early_len]; exact hk), early_len]
  unfold lengthOf
  rw [maxFrom_congr _ (fun i => ev l i + (rd_T40 l i).f0) l.length 0 0 fun j h0 h1 => by
    show rd (early l l.length) j + _ = _
    rw [rd_early l l.length j h0 (by omega)]]
theorem spec_StepsLength_l0 (l : List S40) (hv : stepsV l = true) : ∀ (d : Nat) (i acc : Int), 0 ≤ i → i + d = l.length → ∀ k, d + 1 ≤ k → spec_StepsLength.l0 k l (early l l.length) acc i = some (maxFrom (fun i => ev l i + (rd_T40 l i).f0) d i acc) := by
  have h8 := ((stepsV_iff l).1 hv).1
  intro d
  induction d with
  | zero =>
    intro i acc h0 hi k hk
    obtain ⟨k, rfl, _⟩ := rounds1 (k := k) (B := 0) (by omega)
    rw [spec_StepsLength.l0, if_neg (by omega), maxFrom]
  | succ d ih =>
    intro i acc h0 hi k hk
    obtain ⟨k, rfl, hk'⟩ := rounds1 hk
    have h := early_ready l hv i h0 (by rw [early_len]; omega)
    rw [spec_StepsLength.l0, if_pos (by omega), if_pos h0, if_pos (by rw [early_len]; omega), w64 (rd (early l l.length) i + _) (by omega) (by omega), w64 (i + 1) (by omega) (by omega), ih (i + 1) _ (by omega) (by omega) k hk', maxFrom, rd_early l l.length i h0 (by omega)]
theorem spec_StepsLength_eq (l : List S40) (M : Nat) (hM : Inner l M) (k : Nat) (hk : (M + 4) * l.length + (M + 4) * l.length + l.length + 3 ≤ k) : spec_StepsLength.f k l = some (lengthV l) := by
  unfold spec_StepsLength.f lengthV
  rw [spec_StepsValid_eq l M hM k (by omega)]
  simp only [bsome]
  by_cases hv : stepsV l = true
  · rw [if_pos hv, if_pos hv, spec_StepsEarly_eq l M hM k (by omega)]
    simp only [bsome]
    rw [earlyV, if_pos hv, spec_StepsLength_l0 l hv l.length 0 0 (by omega) (by omega) k (by omega)]
    rfl
  · rw [if_neg hv, if_neg hv]
theorem lengthOf_range (l : List S40) (hv : stepsV l = true) : 0 ≤ lengthOf l ∧ lengthOf l ≤ 900 ∧ ∀ i : Int, 0 ≤ i → i < l.length → ev l i + (rd_T40 l i).f0 ≤ lengthOf l := by
  obtain ⟨h8, h⟩ := (stepsV_iff l).1 hv
  obtain ⟨a1, a2, _⟩ := maxFrom_spec (fun i => ev l i + (rd_T40 l i).f0) l.length 0 0
  refine ⟨a1, maxFrom_le _ _ _ _ _ (by omega) fun j j0 j1 => ?_, fun i h0 hi => a2 i h0 (by omega)⟩
  have a := ev_range' l hv j j0 (by omega)
  have b := (h j j0 (by omega)).1
  omega

end Go.Proofs.Ythkmimiijemniaa.B
