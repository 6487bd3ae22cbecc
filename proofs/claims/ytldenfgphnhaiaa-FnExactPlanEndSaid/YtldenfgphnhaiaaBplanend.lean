/- Lemmas about the printed functions (planend). -/
import Derived.Test.YtldenfgphnhaiaaPAllx0
import Derived.Test.YtldenfgphnhaiaaPAllx7
import Derived.Test.YtldenfgphnhaiaaPAllx9
import Derived.Test.YtldenfgphnhaiaaBbase
import Derived.Test.YtldenfgphnhaiaaBwithin
import Derived.Test.YtldenfgphnhaiaaBstepsv
import Derived.Test.YtldenfgphnhaiaaBmaxfrom
import Derived.Test.YtldenfgphnhaiaaBendof
import Derived.Test.YtldenfgphnhaiaaBstarts
namespace Go.Proofs.Ytldenfgphnhaiaa.B
open Go.RowKit Go.Proofs.Ytldenfgphnhaiaa.PAll Go.Proofs.YtldenfgphnhaiaaW.PrintWords Go.Proofs.YtldenfgphnhaiaaW.PrintLast
set_option linter.unusedVariables false
set_option linter.unusedSimpArgs false

/-! #### the end of a plan -/
def planEndV (l : List S51) (c : List Int) : Int := if startsV l c = true then maxFrom (fun i => rd c i + (rd_T51 l i).f0) l.length 0 0 else -1
theorem starts_ready (l : List S51) (c : List Int) (hv : startsV l c = true) : ∀ i : Int, 0 ≤ i → i < c.length → (0 ≤ rd c i ∧ rd c i ≤ 100000) ∧ (0 ≤ (rd_T51 l i).f0 ∧ (rd_T51 l i).f0 ≤ 100000) := by
  intro i h0 hi
  obtain ⟨h1, h2, h3⟩ := (startsV_iff l c).1 hv
  have a := h3 i h0 hi
  have b := (((stepsV_iff l).1 h1).2 i h0 (by omega)).1
  omega
theorem impl_PlanEnd_eq (l : List S51) (M : Nat) (hM : Inner l M) (c : List Int) (hc : c.length ≤ 1000000000) (k : Nat) (hk : c.length + (M + 4) * l.length + 2 ≤ k) : impl_PlanEnd.f k l c = some (planEndV l c) := by
  unfold impl_PlanEnd.f planEndV
  rw [impl_startsValid_eq l M hM c hc k (by omega)]
  simp only [bsome]
  by_cases hv : startsV l c = true
  · obtain ⟨h1, h2, h3⟩ := (startsV_iff l c).1 hv
    have h8 := ((stepsV_iff l).1 h1).1
    have e : c.length = l.length := by omega
    rw [if_pos hv, if_pos hv, impl_endOf_eq l (by omega) c (by omega) (starts_ready l c hv) k (by omega), e]
    simp only [bsome]
  · rw [if_neg hv, if_neg hv]
theorem spec_PlanEnd_l0 (l : List S51) (c : List Int) (hv : startsV l c = true) : ∀ (d : Nat) (i acc : Int), 0 ≤ i → i + d = l.length → ∀ k, d + 1 ≤ k → spec_PlanEnd.l0 k l c acc i = some (maxFrom (fun i => rd c i + (rd_T51 l i).f0) d i acc) := by
  obtain ⟨h1, h2, h3⟩ := (startsV_iff l c).1 hv
  have h8 := ((stepsV_iff l).1 h1).1
  intro d
  induction d with
  | zero =>
    intro i acc h0 hi k hk
    obtain ⟨k, rfl, _⟩ := rounds1 hk
    rw [spec_PlanEnd.l0, if_neg (by omega), maxFrom]
  | succ d ih =>
    intro i acc h0 hi k hk
    obtain ⟨k, rfl, hk'⟩ := rounds1 hk
    have h := starts_ready l c hv i h0 (by omega)
    rw [spec_PlanEnd.l0, if_pos (by omega), if_pos h0, if_pos (by omega), w64 (rd c i + _) (by omega) (by omega), w64 (i + 1) (by omega) (by omega), ih (i + 1) _ (by omega) (by omega) k hk', maxFrom]
theorem spec_PlanEnd_eq (l : List S51) (M : Nat) (hM : Inner l M) (c : List Int) (hc : c.length ≤ 1000000000) (k : Nat) (hk : c.length + (M + 4) * l.length + l.length + 2 ≤ k) : spec_PlanEnd.f k l c = some (planEndV l c) := by
  unfold spec_PlanEnd.f planEndV
  rw [spec_l32Starts_eq l M hM c hc k (by omega)]
  simp only [bsome]
  by_cases hv : startsV l c = true
  · rw [if_pos hv, if_pos hv, spec_PlanEnd_l0 l c hv l.length 0 0 (by omega) (by omega) k (by omega)]
  · rw [if_neg hv, if_neg hv]

end Go.Proofs.Ytldenfgphnhaiaa.B
