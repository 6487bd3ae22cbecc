/- The pure statement of FnOrderLeast is proved: no order is cheaper than the least price of its units. Conditions: none. -/
import Derived.Test.YtddlmemjmmohhaaPAllx0
import Derived.Test.YtddlmemjmmohhaaPAllx18
import Derived.Test.YtddlmemjmmohhaaBbase
import Derived.Test.YtddlmemjmmohhaaBpick
import Derived.Test.YtddlmemjmmohhaaBoffers
import Derived.Test.YtddlmemjmmohhaaBdrawoffers
import Derived.Test.YtddlmemjmmohhaaBdrawsize
import Derived.Test.YtddlmemjmmohhaaBleast
import Derived.Test.YtddlmemjmmohhaaBsums
import Derived.Test.YtddlmemjmmohhaaBcounts
import Derived.Test.YtddlmemjmmohhaaBordersize
import Derived.Test.YtddlmemjmmohhaaBorderprice
import Derived.Test.YtddlmemjmmohhaaBleastof
namespace Go.Proofs.Ytddlmemjmmohhaa.Pure
open Go.RowKit Go.Proofs.Ytddlmemjmmohhaa.PAll Go.Proofs.Ytddlmemjmmohhaa.B Go.Proofs.YtddlmemjmmohhaaW.PrintWords Go.Proofs.YtddlmemjmmohhaaW.PrintLast
set_option linter.unusedVariables false
set_option linter.unusedSimpArgs false

theorem FnOrderLeast (l0 : List Int) (ok0 : CodeOk l0) : ∃ k, laws_FnOrderLeast.f k l0 = some true := by
  by_cases h1 : (l0.length : Int) > 1048576
  · exact ⟨0, by unfold laws_FnOrderLeast.f; rw [if_pos h1]⟩
  obtain ⟨l, c, hB, hc, e⟩ := drawOrderSize_ok l0 ok0
  have hl := hB.1
  obtain ⟨k, hk⟩ : ∃ k : Nat, 2000 ≤ k := ⟨2000, Nat.le_refl _⟩
  refine ⟨k + 1, ?_⟩
  unfold laws_FnOrderLeast.f
  rw [if_neg h1, e _ (by omega)]
  simp only [bsome]
  rw [impl_OrderSize_eq l (by omega) c (by omega) _ (by omega), spec_OrderSize_eq l (by omega) c (by omega) _ (by omega)]
  simp only [bsome, if_true]
  rw [laws_FnOrderLeast.j0]
  by_cases hv : countsV l c = true
  · obtain ⟨a1, a2, a3⟩ := (countsV_iff l c).1 hv
    obtain ⟨hs, hne⟩ := sound_of l a1
    have s1 : orderSizeV l c = sumFrom (szOf l c) l.length 0 := by rw [orderSizeV, if_pos hv]
    have s2 : orderPriceV l c = sumFrom (prOf l c) l.length 0 := by rw [orderPriceV, if_pos hv]
    have r1 := sumFrom_range (szOf l c) 4950 l.length 0 (fun j h0 h1 => (terms_range l c hv j h0 (by omega)).1)
    have hmn : 0 ≤ mn (orderSizeV l c) 99 ∧ mn (orderSizeV l c) 99 ≤ 99 ∧ mn (orderSizeV l c) 99 ≤ orderSizeV l c := by unfold mn; split <;> omega
    have q := lv_order l hs hne c hv l.length 0 (by omega) (by omega) (mn (orderSizeV l c) 99) hmn.1 (by omega)
    have e1 : orderLeastV l (mn (orderSizeV l c) 99) = lv l (mn (orderSizeV l c) 99) := by rw [orderLeastV, if_pos a1, if_pos (by omega)]
    have p := lv_pos l hs hne _ hmn.1
    rw [decide_eq_false (by omega), if_neg (by simp), impl_OrderLeast_eq l (by omega) _ _ (by omega)]
    simp only [bsome]
    rw [if_pos (by omega), impl_OrderPrice_eq l (by omega) c (by omega) _ (by omega)]
    simp only [bsome]
    rw [decide_eq_true (by omega)]
  · have s1 : orderSizeV l c = -1 := by rw [orderSizeV, if_neg hv]
    rw [s1]
    simp

end Go.Proofs.Ytddlmemjmmohhaa.Pure
