/- The pure statement of FnExactOrderPrice is proved: the program's OrderPrice is the reference's, and the arguments stay as they are. Conditions: none. -/
import Derived.Test.YtddlmemjmmohhaaPAllx0
import Derived.Test.YtddlmemjmmohhaaPAllx14
import Derived.Test.YtddlmemjmmohhaaBbase
import Derived.Test.YtddlmemjmmohhaaBoffers
import Derived.Test.YtddlmemjmmohhaaBcounts
import Derived.Test.YtddlmemjmmohhaaBorderprice
import Derived.Test.YtddlmemjmmohhaaBxoffers
import Derived.Test.YtddlmemjmmohhaaBtoint
import Derived.Test.YtddlmemjmmohhaaBeqint
namespace Go.Proofs.Ytddlmemjmmohhaa.Pure
open Go.RowKit Go.Proofs.Ytddlmemjmmohhaa.PAll Go.Proofs.Ytddlmemjmmohhaa.B Go.Proofs.YtddlmemjmmohhaaW.PrintWords Go.Proofs.YtddlmemjmmohhaaW.PrintLast
set_option linter.unusedVariables false
set_option linter.unusedSimpArgs false

theorem FnExactOrderPrice (l0 : List S54) (ok0 : l0.length ≤ maxLen ∧ ∀ y ∈ l0, (Lit.int .i64 y.f0).wf = true ∧ (Lit.int .i64 y.f1).wf = true) (l1 : List Int) (ok1 : l1.length ≤ maxLen ∧ ∀ y ∈ l1, (Lit.int .i64 y).wf = true) : ∃ k, laws_FnExactOrderPrice.f k l0 l1 = some true := by
  by_cases h1 : (l1.length : Int) > 1048576
  · exact ⟨0, by unfold laws_FnExactOrderPrice.f; rw [if_pos h1]⟩
  rcases sz_offers l0 ok0.1 with ⟨e, _⟩ | ⟨r, hr, e, hl⟩
  · exact ⟨0, by unfold laws_FnExactOrderPrice.f; rw [if_neg h1, e]; simp only [bsome]; rw [if_pos (by omega)]⟩
  · obtain ⟨k, hk⟩ : ∃ k : Nat, l0.length + l1.length + 10 ≤ k := ⟨_, Nat.le_refl _⟩
    have hc := cvOffers_len l0
    refine ⟨k, ?_⟩
    unfold laws_FnExactOrderPrice.f
    rw [if_neg h1, e]
    simp only [bsome]
    rw [if_neg (by omega), laws_toOfferS_eq l0 (by omega) k (by omega), laws_toIntS_eq l1 (by omega) k (by omega)]
    simp only [bsome]
    rw [spec_OrderPrice_eq _ (by omega) _ (by omega) k (by omega), impl_OrderPrice_eq _ (by omega) _ (by omega) k (by omega), laws_eqOfferS_refl _ (by omega) k (by omega), laws_eqIntS_refl _ (by omega) k (by omega)]
    simp only [bsome, if_true]

end Go.Proofs.Ytddlmemjmmohhaa.Pure
