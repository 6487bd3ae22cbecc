/- The pure statement of FnExactStepsLate is proved: the program's StepsLate is the reference's, its result is new memory, and the argument stays as it is. Conditions: none. -/
import Derived.Test.YthkmimiijemniaaPAllx0
import Derived.Test.YthkmimiijemniaaPAllx10
import Derived.Test.YthkmimiijemniaaPAllx12
import Derived.Test.YthkmimiijemniaaPAllx14
import Derived.Test.YthkmimiijemniaaBbase
import Derived.Test.YthkmimiijemniaaBstepsv
import Derived.Test.YthkmimiijemniaaBearly
import Derived.Test.YthkmimiijemniaaBearlyspec
import Derived.Test.YthkmimiijemniaaBlengthspec
import Derived.Test.YthkmimiijemniaaBlatevals2
import Derived.Test.YthkmimiijemniaaBxsteps
import Derived.Test.YthkmimiijemniaaBmarksteps
import Derived.Test.YthkmimiijemniaaBtoint
import Derived.Test.YthkmimiijemniaaBeqint
import Derived.Test.YthkmimiijemniaaBmarkint
namespace Go.Proofs.Ythkmimiijemniaa.Pure
open Go.RowKit Go.Proofs.Ythkmimiijemniaa.PAll Go.Proofs.Ythkmimiijemniaa.B Go.Proofs.YthkmimiijemniaaW.PrintWords Go.Proofs.YthkmimiijemniaaW.PrintLast
set_option linter.unusedVariables false
set_option linter.unusedSimpArgs false

theorem FnExactStepsLate (l0 : List S38) (ok0 : StepsOk l0) (a1 : Int) (ok1 : (Lit.int .i64 a1).wf = true) : ∃ k, laws_FnExactStepsLate.f k l0 a1 = some true := by
  rcases sz_steps l0 ok0 with ⟨K, e⟩ | ⟨r, hr, e, hl, hf⟩
  · exact ⟨K, by unfold laws_FnExactStepsLate.f; rw [e K (Nat.le_refl _)]; simp only [bsome]; rw [if_pos (by omega)]⟩
  · have hc := cvSteps_len l0
    have hi := cv_inner l0 hf
    obtain ⟨M, hM⟩ : ∃ M : Nat, M = 1048576 := ⟨_, rfl⟩
    have hI : Inner (cvSteps l0) M := ⟨by omega, by omega, by rw [hM]; exact hi⟩
    obtain ⟨k, hk⟩ : ∃ k : Nat, (M + 4) * (cvSteps l0).length + (M + 4) * (cvSteps l0).length + 2 * l0.length + 1048600 ≤ k := ⟨_, Nat.le_refl _⟩
    obtain ⟨g, hg⟩ : ∃ g, lateV (cvSteps l0) a1 = g := ⟨_, rfl⟩
    have hgl : g.1.length ≤ l0.length := by
      rw [← hg, ← hc]
      exact lateV_len _ _
    have es : ∀ q, k ≤ q → spec_StepsLate.f q (cvSteps l0) a1 = some g := fun q hq => by rw [spec_StepsLate_eq _ M hI a1 q (by omega), hg]
    have ei : ∀ q, k ≤ q → impl_StepsLate.f q (cvSteps l0) a1 = some g := fun q hq => by rw [impl_StepsLate_eq _ M hI a1 q (by omega), hg]
    obtain ⟨y, hy, hh⟩ := mark_held g.1 (by omega) (k + 1) (by omega)
    obtain ⟨r1, hr1, em⟩ := laws_markStepS_ok (cvSteps l0) (by omega) hi (k + 1 + 1) (by omega)
    refine ⟨k + 1 + 1 + 1, ?_⟩
    unfold laws_FnExactStepsLate.f
    rw [e _ (by omega)]
    simp only [bsome]
    rw [if_neg (by omega), laws_toStepS_eq l0 hl hf _ (by omega)]
    simp only [bsome]
    rw [es _ (by omega), ei _ (by omega)]
    simp only [bsome]
    rw [laws_eqIntS_refl _ (by omega) _ (by omega)]
    simp only [bsome, if_true, bne_self_eq_false]
    rw [laws_FnExactStepsLate.j0, if_neg (by simp), laws_toStepS_eq l0 hl hf _ (by omega)]
    simp only [bsome]
    rw [laws_eqStepS_refl _ (by omega) hi _ (by omega)]
    simp only [bsome, if_true]
    rw [em]
    simp only [bsome]
    rw [if_neg (by omega), laws_eqIntS_refl _ (by omega) _ (by omega)]
    simp only [bsome, if_true, bne_self_eq_false]
    rw [laws_FnExactStepsLate.j1, if_neg (by simp), hy]
    simp only [bsome]
    rw [hh _ (by omega)]
    simp only [bsome, if_true]
    rw [if_neg (by omega), laws_toStepS_eq l0 hl hf _ (by omega)]
    simp only [bsome]
    rw [ei _ (by omega)]
    simp only [bsome]
    rw [laws_eqIntS_refl _ (by omega) _ (by omega)]
    simp only [bsome, if_true, bne_self_eq_false]
    rw [laws_FnExactStepsLate.j2, if_neg (by simp), hh _ (by omega)]
    simp only [bsome, if_true]
    rw [if_neg (by omega)]

end Go.Proofs.Ythkmimiijemniaa.Pure
