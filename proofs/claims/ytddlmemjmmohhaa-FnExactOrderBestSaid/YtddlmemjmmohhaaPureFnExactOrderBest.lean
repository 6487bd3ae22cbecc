/- The pure statement of FnExactOrderBest is proved: the program's OrderBest is the reference's, its result is new memory, and the argument stays as it is. Conditions: none. -/
import Derived.Test.YtddlmemjmmohhaaPAllx0
import Derived.Test.YtddlmemjmmohhaaPAllx13
import Derived.Test.YtddlmemjmmohhaaPAllx14
import Derived.Test.YtddlmemjmmohhaaPAllx26
import Derived.Test.YtddlmemjmmohhaaBbase
import Derived.Test.YtddlmemjmmohhaaBoffers
import Derived.Test.YtddlmemjmmohhaaBleast
import Derived.Test.YtddlmemjmmohhaaBbestspec
import Derived.Test.YtddlmemjmmohhaaBbestimpl
import Derived.Test.YtddlmemjmmohhaaBxoffers
import Derived.Test.YtddlmemjmmohhaaBeqint
import Derived.Test.YtddlmemjmmohhaaBmarkint
import Derived.Test.YtddlmemjmmohhaaBmarkoffers
namespace Go.Proofs.Ytddlmemjmmohhaa.Pure
open Go.RowKit Go.Proofs.Ytddlmemjmmohhaa.PAll Go.Proofs.Ytddlmemjmmohhaa.B Go.Proofs.YtddlmemjmmohhaaW.PrintWords Go.Proofs.YtddlmemjmmohhaaW.PrintLast
set_option linter.unusedVariables false
set_option linter.unusedSimpArgs false

theorem FnExactOrderBest (l0 : List S54) (ok0 : l0.length ≤ maxLen ∧ ∀ y ∈ l0, (Lit.int .i64 y.f0).wf = true ∧ (Lit.int .i64 y.f1).wf = true) (a1 : Int) (ok1 : (Lit.int .i64 a1).wf = true) : ∃ k, laws_FnExactOrderBest.f k l0 a1 = some true := by
  rcases sz_offers l0 ok0.1 with ⟨e, _⟩ | ⟨r, hr, e, hl⟩
  · exact ⟨0, by unfold laws_FnExactOrderBest.f; rw [e]; simp only [bsome]; rw [if_pos (by omega)]⟩
  · obtain ⟨k, hk⟩ : ∃ k : Nat, l0.length + 400000 ≤ k := ⟨_, Nat.le_refl _⟩
    have hc := cvOffers_len l0
    obtain ⟨g, hg⟩ : ∃ g, bestV (cvOffers l0) a1 = g := ⟨_, rfl⟩
    have hgl : g.1.length ≤ l0.length := by
      rw [← hg]
      unfold bestV
      split
      · split
        · rw [G_len, hc]
          exact Nat.le_refl _
        · exact Nat.zero_le _
      · exact Nat.zero_le _
    have es : ∀ q, l0.length + 340000 ≤ q → spec_OrderBest.f q (cvOffers l0) a1 = some g := fun q hq => by rw [spec_OrderBest_eq _ (by omega) a1 q (by omega), hg]
    have ei : ∀ q, l0.length + 340000 ≤ q → impl_OrderBest.f q (cvOffers l0) a1 = some g := fun q hq => by rw [impl_OrderBest_eq _ (by omega) a1 q (by omega), ← hg]; rfl
    obtain ⟨y, hy, hh⟩ := mark_held g.1 (by omega) (k + 1) (by omega)
    refine ⟨k + 1 + 1 + 1, ?_⟩
    unfold laws_FnExactOrderBest.f
    rw [e]
    simp only [bsome]
    rw [if_neg (by omega), laws_toOfferS_eq l0 (by omega) _ (by omega)]
    simp only [bsome]
    rw [es _ (by omega)]
    simp only [bsome]
    rw [ei _ (by omega)]
    simp only [bsome]
    rw [laws_eqIntS_refl _ (by omega) _ (by omega)]
    simp only [bsome, if_true, bne_self_eq_false]
    rw [laws_FnExactOrderBest.j0, if_neg (by simp), laws_toOfferS_eq l0 (by omega) _ (by omega)]
    simp only [bsome]
    rw [laws_eqOfferS_refl _ (by omega) _ (by omega)]
    simp only [bsome, if_true]
    obtain ⟨n', y', em, hn'⟩ := laws_markOfferS_ok (cvOffers l0) (by omega) (k + 1 + 1) (by omega)
    rw [em]
    simp only [bsome]
    rw [if_neg (by omega), laws_eqIntS_refl _ (by omega) _ (by omega)]
    simp only [bsome, if_true, bne_self_eq_false]
    rw [laws_FnExactOrderBest.j1, if_neg (by simp), hy]
    simp only [bsome]
    rw [hh _ (by omega)]
    simp only [bsome, if_true]
    rw [if_neg (by omega), laws_toOfferS_eq l0 (by omega) _ (by omega)]
    simp only [bsome]
    rw [ei _ (by omega)]
    simp only [bsome]
    rw [laws_eqIntS_refl _ (by omega) _ (by omega)]
    simp only [bsome, if_true, bne_self_eq_false]
    rw [laws_FnExactOrderBest.j2, if_neg (by simp), hh _ (by omega)]
    simp only [bsome, if_true]
    rw [if_neg (by omega)]

end Go.Proofs.Ytddlmemjmmohhaa.Pure
