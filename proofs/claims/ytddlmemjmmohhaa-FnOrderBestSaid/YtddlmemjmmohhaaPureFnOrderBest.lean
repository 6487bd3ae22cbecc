/- The pure statement of FnOrderBest is proved: the best order is enough, for the least price. Conditions: none. -/
import Derived.Test.YtddlmemjmmohhaaPAllx0
import Derived.Test.YtddlmemjmmohhaaPAllx13
import Derived.Test.YtddlmemjmmohhaaPAllx14
import Derived.Test.YtddlmemjmmohhaaPAllx27
import Derived.Test.YtddlmemjmmohhaaBbase
import Derived.Test.YtddlmemjmmohhaaBpick
import Derived.Test.YtddlmemjmmohhaaBoffers
import Derived.Test.YtddlmemjmmohhaaBdrawoffers
import Derived.Test.YtddlmemjmmohhaaBdrawleast
import Derived.Test.YtddlmemjmmohhaaBdrawbest
import Derived.Test.YtddlmemjmmohhaaBleast
import Derived.Test.YtddlmemjmmohhaaBsums
import Derived.Test.YtddlmemjmmohhaaBcounts
import Derived.Test.YtddlmemjmmohhaaBordersize
import Derived.Test.YtddlmemjmmohhaaBorderprice
import Derived.Test.YtddlmemjmmohhaaBbest
import Derived.Test.YtddlmemjmmohhaaBbestspec
import Derived.Test.YtddlmemjmmohhaaBbestimpl
import Derived.Test.YtddlmemjmmohhaaBbestlaws
import Derived.Test.YtddlmemjmmohhaaBsameints
namespace Go.Proofs.Ytddlmemjmmohhaa.Pure
open Go.RowKit Go.Proofs.Ytddlmemjmmohhaa.PAll Go.Proofs.Ytddlmemjmmohhaa.B Go.Proofs.YtddlmemjmmohhaaW.PrintWords Go.Proofs.YtddlmemjmmohhaaW.PrintLast
set_option linter.unusedVariables false
set_option linter.unusedSimpArgs false

theorem FnOrderBest (l0 : List Int) (ok0 : CodeOk l0) : ∃ k, laws_FnOrderBest.f k l0 = some true := by
  by_cases h1 : (l0.length : Int) > 1048576
  · exact ⟨0, by unfold laws_FnOrderBest.f; rw [if_pos h1]⟩
  obtain ⟨l, n, hB, n0, n1, e⟩ := drawOrderBest_ok l0 ok0
  have hl := hB.1
  obtain ⟨k, hk⟩ : ∃ k : Nat, 400000 ≤ k := ⟨400000, Nat.le_refl _⟩
  obtain ⟨g, hg⟩ : ∃ g, bestV l n = g := ⟨_, rfl⟩
  have hgl : g.1.length ≤ l.length := by
    rw [← hg]
    unfold bestV
    split
    · split
      · rw [G_len]
        exact Nat.le_refl _
      · exact Nat.zero_le _
    · exact Nat.zero_le _
  have es : ∀ q, 390000 ≤ q → spec_OrderBest.f q l n = some g := fun q hq => by rw [spec_OrderBest_eq _ (by omega) n q (by omega), hg]
  have ei : ∀ q, 390000 ≤ q → impl_OrderBest.f q l n = some g := fun q hq => by rw [impl_OrderBest_eq _ (by omega) n q (by omega), ← hg]; rfl
  refine ⟨k + 1, ?_⟩
  unfold laws_FnOrderBest.f
  rw [if_neg h1, e _ (by omega)]
  simp only [bsome]
  rw [ei _ (by omega)]
  simp only [bsome]
  rw [es _ (by omega)]
  simp only [bsome, bne_self_eq_false, Bool.false_eq_true, if_false]
  rw [laws_sameInts_refl _ (by omega) _ (by omega)]
  simp only [bsome, if_true]
  rw [laws_FnOrderBest.j0]
  by_cases hv : offersV l = true
  · by_cases hn : 0 ≤ n ∧ n ≤ 99
    · have hg2 : g = (G l n, true) := by rw [← hg, bestV, if_pos hv, if_pos hn]
      obtain ⟨c1, c2, c3⟩ := G_counts l hv n hn.1 hn.2
      have gl := G_len l n
      have e1 : orderLeastV l n = lv l n := by rw [orderLeastV, if_pos hv, if_pos hn]
      rw [hg2]
      simp only [Bool.not_true, Bool.false_eq_true, if_false]
      rw [impl_OrderSize_eq l (by omega) _ (by omega) _ (by omega)]
      simp only [bsome]
      rw [if_pos c3, impl_OrderPrice_eq l (by omega) _ (by omega) _ (by omega)]
      simp only [bsome]
      rw [impl_OrderLeast_eq l (by omega) n _ (by omega)]
      simp only [bsome]
      rw [c2, e1, beq_self_eq_true]
    · have hg2 : g = ([], false) := by rw [← hg, bestV, if_pos hv, if_neg hn]
      rw [hg2, laws_sameInts_refl _ (by simp) _ (by simp; omega)]
      simp
  · have hg2 : g = ([], false) := by rw [← hg, bestV, if_neg hv]
    rw [hg2, laws_sameInts_refl _ (by simp) _ (by simp; omega)]
    simp

end Go.Proofs.Ytddlmemjmmohhaa.Pure
