/- The pure statement of FnExactStepsWork is proved: the program's StepsWork is the reference's, and the argument stays as it is. Conditions: none. -/
import Derived.Test.YtegfpoagplpjiaaPAllx0
import Derived.Test.YtegfpoagplpjiaaPAllx23
import Derived.Test.YtegfpoagplpjiaaBbase
import Derived.Test.YtegfpoagplpjiaaBstepsv
import Derived.Test.YtegfpoagplpjiaaBsums
import Derived.Test.YtegfpoagplpjiaaBwork
import Derived.Test.YtegfpoagplpjiaaBxsteps
namespace Go.Proofs.Ytegfpoagplpjiaa.Pure
open Go.RowKit Go.Proofs.Ytegfpoagplpjiaa.PAll Go.Proofs.Ytegfpoagplpjiaa.B Go.Proofs.YtegfpoagplpjiaaW.PrintWords Go.Proofs.YtegfpoagplpjiaaW.PrintLast
set_option linter.unusedVariables false
set_option linter.unusedSimpArgs false

theorem FnExactStepsWork (l0 : List S52) (ok0 : StepsOk l0) : ∃ k, laws_FnExactStepsWork.f k l0 = some true := by
  rcases sz_steps l0 ok0 with ⟨K, e⟩ | ⟨r, hr, e, hl, hf⟩
  · exact ⟨K, by unfold laws_FnExactStepsWork.f; rw [e K (Nat.le_refl _)]; simp only [bsome]; rw [if_pos (by omega)]⟩
  · have hc := cvSteps_len l0
    have hi := cv_inner l0 hf
    obtain ⟨k, hk⟩ : ∃ k : Nat, (1048576 + 4) * (cvSteps l0).length + l0.length + 1048600 ≤ k := ⟨_, Nat.le_refl _⟩
    refine ⟨k, ?_⟩
    unfold laws_FnExactStepsWork.f
    rw [e k (by omega)]
    simp only [bsome]
    rw [if_neg (by omega), laws_toStepS_eq l0 hl hf k (by omega)]
    simp only [bsome]
    rw [spec_StepsWork_eq _ 1048576 ⟨by omega, by omega, hi⟩ k (by omega), impl_StepsWork_eq _ 1048576 ⟨by omega, by omega, hi⟩ k (by omega), laws_eqStepS_refl _ (by omega) hi k (by omega)]
    simp only [bsome, if_true]

end Go.Proofs.Ytegfpoagplpjiaa.Pure
