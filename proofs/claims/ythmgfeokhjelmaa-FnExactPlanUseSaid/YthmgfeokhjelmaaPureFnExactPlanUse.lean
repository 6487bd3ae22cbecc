/- The pure statement of FnExactPlanUse is proved: the program's PlanUse is the reference's, its result is new memory, and the arguments stay as they are. Conditions: none. -/
import Derived.Test.YthmgfeokhjelmaaPAllx0
import Derived.Test.YthmgfeokhjelmaaPAllx5
import Derived.Test.YthmgfeokhjelmaaPAllx9
import Derived.Test.YthmgfeokhjelmaaPAllx22
import Derived.Test.YthmgfeokhjelmaaBbase
import Derived.Test.YthmgfeokhjelmaaBwithin
import Derived.Test.YthmgfeokhjelmaaBints
import Derived.Test.YthmgfeokhjelmaaBtoint
import Derived.Test.YthmgfeokhjelmaaBeqint
import Derived.Test.YthmgfeokhjelmaaBstepsv
import Derived.Test.YthmgfeokhjelmaaBstarts
import Derived.Test.YthmgfeokhjelmaaBrdset
import Derived.Test.YthmgfeokhjelmaaBuseat
import Derived.Test.YthmgfeokhjelmaaBxsteps
import Derived.Test.YthmgfeokhjelmaaBmarksteps
import Derived.Test.YthmgfeokhjelmaaBmarkint
namespace Go.Proofs.Ythmgfeokhjelmaa.Pure
open Go.RowKit Go.Proofs.Ythmgfeokhjelmaa.PAll Go.Proofs.Ythmgfeokhjelmaa.B Go.Proofs.YthmgfeokhjelmaaW.PrintWords Go.Proofs.YthmgfeokhjelmaaW.PrintLast
set_option linter.unusedVariables false
set_option linter.unusedSimpArgs false

theorem FnExactPlanUse (l0 : List S43) (ok0 : StepsOk l0) (l1 : List Int) (ok1 : l1.length ≤ maxLen ∧ ∀ y ∈ l1, (Lit.int .i64 y).wf = true) (a2 : Int) (ok2 : (Lit.int .i64 a2).wf = true) : ∃ k, laws_FnExactPlanUse.f k l0 l1 a2 = some true := by
  by_cases h1 : (l1.length : Int) > 1048576
  · exact ⟨0, by unfold laws_FnExactPlanUse.f; rw [if_pos h1]⟩
  rcases sz_steps l0 ok0 with ⟨K, e⟩ | ⟨r, hr, e, hl, hf⟩
  · exact ⟨K, by unfold laws_FnExactPlanUse.f; rw [if_neg h1, e K (Nat.le_refl _)]; simp only [bsome]; rw [if_pos (by omega)]⟩
  · have hc := cvSteps_len l0
    have hi := cv_inner l0 hf
    obtain ⟨M, hM⟩ : ∃ M : Nat, M = 1048576 := ⟨_, rfl⟩
    have hI : Inner (cvSteps l0) M := ⟨by omega, by omega, by rw [hM]; exact hi⟩
    obtain ⟨k, hk⟩ : ∃ k : Nat, (M + 4) * (cvSteps l0).length + 2 * l0.length + l1.length + 1048600 ≤ k := ⟨_, Nat.le_refl _⟩
    have hgl := planUseV_len (cvSteps l0) l1 a2
    obtain ⟨g, hg⟩ : ∃ g, planUseV (cvSteps l0) l1 a2 = g := ⟨_, rfl⟩
    rw [hg] at hgl
    have es : ∀ q, k ≤ q → spec_PlanUse.f q (cvSteps l0) l1 a2 = some g := fun q hq => by rw [spec_PlanUse_eq _ M hI l1 (by omega) a2 q (by omega), hg]
    have ei : ∀ q, k ≤ q → impl_PlanUse.f q (cvSteps l0) l1 a2 = some g := fun q hq => by rw [impl_PlanUse_eq _ M hI l1 (by omega) a2 q (by omega), hg]
    obtain ⟨y, hy, hh⟩ := mark_held g.2 (by omega) (k + 1) (by omega)
    obtain ⟨r1, hr1, em⟩ := laws_markStepS_ok (cvSteps l0) (by omega) hi (k + 1 + 1) (by omega)
    obtain ⟨y1, em1⟩ := laws_markIntS_big l1 (by omega) r1 hr1.1 (by omega) (k + 1 + 1) (by omega)
    refine ⟨k + 1 + 1 + 1, ?_⟩
    unfold laws_FnExactPlanUse.f
    rw [if_neg h1, e _ (by omega)]
    simp only [bsome]
    rw [if_neg (by omega), laws_toStepS_eq l0 hl hf _ (by omega)]
    simp only [bsome]
    rw [laws_toIntS_eq l1 (by omega) _ (by omega)]
    simp only [bsome]
    rw [es _ (by omega), ei _ (by omega)]
    simp only [bsome, if_true]
    rw [laws_eqIntS_refl _ (by omega) _ (by omega)]
    simp only [bsome, Bool.not_true]
    rw [laws_FnExactPlanUse.j0, if_neg (by simp), laws_toStepS_eq l0 hl hf _ (by omega)]
    simp only [bsome]
    rw [laws_eqStepS_refl _ (by omega) hi _ (by omega)]
    simp only [bsome, if_true]
    rw [laws_toIntS_eq l1 (by omega) _ (by omega)]
    simp only [bsome]
    rw [laws_eqIntS_refl l1 (by omega) _ (by omega)]
    simp only [bsome, if_true]
    rw [em]
    simp only [bsome]
    rw [em1]
    simp only [bsome, if_true]
    rw [if_neg (by omega), laws_eqIntS_refl _ (by omega) _ (by omega)]
    simp only [bsome, Bool.not_true]
    rw [laws_FnExactPlanUse.j1, if_neg (by simp), hy]
    simp only [bsome]
    rw [hh _ (by omega)]
    simp only [bsome, if_true]
    rw [if_neg (by omega), laws_toStepS_eq l0 hl hf _ (by omega)]
    simp only [bsome]
    rw [laws_toIntS_eq l1 (by omega) _ (by omega)]
    simp only [bsome]
    rw [ei _ (by omega)]
    simp only [bsome, if_true]
    rw [laws_eqIntS_refl _ (by omega) _ (by omega)]
    simp only [bsome, Bool.not_true]
    rw [laws_FnExactPlanUse.j2, if_neg (by simp), hh _ (by omega)]
    simp only [bsome, if_true]
    rw [if_neg (by omega)]

end Go.Proofs.Ythmgfeokhjelmaa.Pure
