/- The pure statement of FnExactPlanEnd is proved: the program's PlanEnd is the reference's, and the arguments stay as they are. Conditions: none. -/
import Derived.Test.YtldenfgphnhaiaaPAllx0
import Derived.Test.YtldenfgphnhaiaaPAllx25
import Derived.Test.YtldenfgphnhaiaaBbase
import Derived.Test.YtldenfgphnhaiaaBwithin
import Derived.Test.YtldenfgphnhaiaaBints
import Derived.Test.YtldenfgphnhaiaaBtoint
import Derived.Test.YtldenfgphnhaiaaBeqint
import Derived.Test.YtldenfgphnhaiaaBstepsv
import Derived.Test.YtldenfgphnhaiaaBmaxfrom
import Derived.Test.YtldenfgphnhaiaaBendof
import Derived.Test.YtldenfgphnhaiaaBstarts
import Derived.Test.YtldenfgphnhaiaaBplanend
import Derived.Test.YtldenfgphnhaiaaBxsteps
namespace Go.Proofs.Ytldenfgphnhaiaa.Pure
open Go.RowKit Go.Proofs.Ytldenfgphnhaiaa.PAll Go.Proofs.Ytldenfgphnhaiaa.B Go.Proofs.YtldenfgphnhaiaaW.PrintWords Go.Proofs.YtldenfgphnhaiaaW.PrintLast
set_option linter.unusedVariables false
set_option linter.unusedSimpArgs false

theorem FnExactPlanEnd (l0 : List S59) (ok0 : StepsOk l0) (l1 : List Int) (ok1 : l1.length ≤ maxLen ∧ ∀ y ∈ l1, (Lit.int .i64 y).wf = true) : ∃ k, laws_FnExactPlanEnd.f k l0 l1 = some true := by
  by_cases h1 : (l1.length : Int) > 1048576
  · exact ⟨0, by unfold laws_FnExactPlanEnd.f; rw [if_pos h1]⟩
  rcases sz_steps l0 ok0 with ⟨K, e⟩ | ⟨r, hr, e, hl, hf⟩
  · exact ⟨K, by unfold laws_FnExactPlanEnd.f; rw [if_neg h1, e K (Nat.le_refl _)]; simp only [bsome]; rw [if_pos (by omega)]⟩
  · have hc := cvSteps_len l0
    have hi := cv_inner l0 hf
    obtain ⟨k, hk⟩ : ∃ k : Nat, (1048576 + 4) * (cvSteps l0).length + 2 * l0.length + l1.length + 1048600 ≤ k := ⟨_, Nat.le_refl _⟩
    have hM : Inner (cvSteps l0) 1048576 := ⟨by omega, by omega, hi⟩
    refine ⟨k, ?_⟩
    unfold laws_FnExactPlanEnd.f
    rw [if_neg h1, e k (by omega)]
    simp only [bsome]
    rw [if_neg (by omega), laws_toStepS_eq l0 hl hf k (by omega)]
    simp only [bsome]
    rw [laws_toIntS_eq l1 (by omega) k (by omega)]
    simp only [bsome]
    rw [spec_PlanEnd_eq _ 1048576 hM l1 (by omega) k (by omega), impl_PlanEnd_eq _ 1048576 hM l1 (by omega) k (by omega)]
    simp only [bsome, if_true]
    rw [laws_eqStepS_refl _ (by omega) hi k (by omega), laws_eqIntS_refl l1 (by omega) k (by omega)]
    simp only [bsome, if_true]

end Go.Proofs.Ytldenfgphnhaiaa.Pure
