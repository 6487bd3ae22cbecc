/- The pure statement of FnExactOrderLeast is proved: the program's OrderLeast is the reference's, and the argument stays as it is. Conditions: none. -/
import Derived.Test.YtddlmemjmmohhaaPAllx0
import Derived.Test.YtddlmemjmmohhaaPAllx10
import Derived.Test.YtddlmemjmmohhaaBbase
import Derived.Test.YtddlmemjmmohhaaBoffers
import Derived.Test.YtddlmemjmmohhaaBleast
import Derived.Test.YtddlmemjmmohhaaBxoffers
namespace Go.Proofs.Ytddlmemjmmohhaa.Pure
open Go.RowKit Go.Proofs.Ytddlmemjmmohhaa.PAll Go.Proofs.Ytddlmemjmmohhaa.B Go.Proofs.YtddlmemjmmohhaaW.PrintWords Go.Proofs.YtddlmemjmmohhaaW.PrintLast
set_option linter.unusedVariables false
set_option linter.unusedSimpArgs false

theorem FnExactOrderLeast (l0 : List S54) (ok0 : l0.length ≤ maxLen ∧ ∀ y ∈ l0, (Lit.int .i64 y.f0).wf = true ∧ (Lit.int .i64 y.f1).wf = true) (a1 : Int) (ok1 : (Lit.int .i64 a1).wf = true) : ∃ k, laws_FnExactOrderLeast.f k l0 a1 = some true := by
  rcases sz_offers l0 ok0.1 with ⟨e, _⟩ | ⟨r, hr, e, hl⟩
  · exact ⟨0, by unfold laws_FnExactOrderLeast.f; rw [e]; simp only [bsome]; rw [if_pos (by omega)]⟩
  · obtain ⟨k, hk⟩ : ∃ k : Nat, l0.length + 1010 ≤ k := ⟨l0.length + 1010, Nat.le_refl _⟩
    have hc := cvOffers_len l0
    refine ⟨k, ?_⟩
    unfold laws_FnExactOrderLeast.f
    rw [e]
    simp only [bsome]
    rw [if_neg (by omega), laws_toOfferS_eq l0 (by omega) k (by omega)]
    simp only [bsome]
    rw [spec_OrderLeast_eq _ (by omega) a1 k (by omega), impl_OrderLeast_eq _ (by omega) a1 k (by omega), laws_eqOfferS_refl _ (by omega) k (by omega)]
    simp only [bsome, if_true]

end Go.Proofs.Ytddlmemjmmohhaa.Pure
