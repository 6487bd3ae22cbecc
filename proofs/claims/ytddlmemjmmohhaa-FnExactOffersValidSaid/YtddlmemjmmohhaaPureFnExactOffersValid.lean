/- The pure statement of FnExactOffersValid is proved: the program's OffersValid is the reference's, and the argument stays as it is. Conditions: none. -/
import Derived.Test.YtddlmemjmmohhaaPAllx0
import Derived.Test.YtddlmemjmmohhaaPAllx8
import Derived.Test.YtddlmemjmmohhaaBbase
import Derived.Test.YtddlmemjmmohhaaBoffers
import Derived.Test.YtddlmemjmmohhaaBxoffers
namespace Go.Proofs.Ytddlmemjmmohhaa.Pure
open Go.RowKit Go.Proofs.Ytddlmemjmmohhaa.PAll Go.Proofs.Ytddlmemjmmohhaa.B Go.Proofs.YtddlmemjmmohhaaW.PrintWords Go.Proofs.YtddlmemjmmohhaaW.PrintLast
set_option linter.unusedVariables false
set_option linter.unusedSimpArgs false

theorem FnExactOffersValid (l0 : List S54) (ok0 : l0.length ≤ maxLen ∧ ∀ y ∈ l0, (Lit.int .i64 y.f0).wf = true ∧ (Lit.int .i64 y.f1).wf = true) : ∃ k, laws_FnExactOffersValid.f k l0 = some true := by
  rcases sz_offers l0 ok0.1 with ⟨e, _⟩ | ⟨r, hr, e, hl⟩
  · exact ⟨0, by unfold laws_FnExactOffersValid.f; rw [e]; simp only [bsome]; rw [if_pos (by omega)]⟩
  · obtain ⟨k, hk⟩ : ∃ k : Nat, l0.length + 10 ≤ k := ⟨l0.length + 10, Nat.le_refl _⟩
    have hc := cvOffers_len l0
    refine ⟨k, ?_⟩
    unfold laws_FnExactOffersValid.f
    rw [e]
    simp only [bsome]
    rw [if_neg (by omega), laws_toOfferS_eq l0 (by omega) k (by omega)]
    simp only [bsome]
    rw [spec_OffersValid_eq _ (by omega) k (by omega), impl_OffersValid_eq _ (by omega) k (by omega), laws_eqOfferS_refl _ (by omega) k (by omega)]
    simp only [bsome, bne_self_eq_false, Bool.false_eq_true, if_false, if_true]

end Go.Proofs.Ytddlmemjmmohhaa.Pure
