/- The pure statement of FnOrderNone is proved: no packages have no size and no price, and no units cost nothing. Conditions: none. -/
import Derived.Test.YtddlmemjmmohhaaPAllx0
import Derived.Test.YtddlmemjmmohhaaPAllx18
import Derived.Test.YtddlmemjmmohhaaBbase
import Derived.Test.YtddlmemjmmohhaaBpick
import Derived.Test.YtddlmemjmmohhaaBoffers
import Derived.Test.YtddlmemjmmohhaaBdrawoffers
import Derived.Test.YtddlmemjmmohhaaBdrawsize
import Derived.Test.YtddlmemjmmohhaaBleast
import Derived.Test.YtddlmemjmmohhaaBsums
import Derived.Test.YtddlmemjmmohhaaBcounts
import Derived.Test.YtddlmemjmmohhaaBordersize
import Derived.Test.YtddlmemjmmohhaaBorderprice
import Derived.Test.YtddlmemjmmohhaaBints
namespace Go.Proofs.Ytddlmemjmmohhaa.Pure
open Go.RowKit Go.Proofs.Ytddlmemjmmohhaa.PAll Go.Proofs.Ytddlmemjmmohhaa.B Go.Proofs.YtddlmemjmmohhaaW.PrintWords Go.Proofs.YtddlmemjmmohhaaW.PrintLast
set_option linter.unusedVariables false
set_option linter.unusedSimpArgs false

theorem rd_zeros (n : Nat) (j : Int) : rd (List.replicate n 0) j = 0 := by
  unfold rd
  rw [List.getD_eq_getElem?_getD]
  cases h : (List.replicate n (0 : Int))[j.toNat]? with
  | none => rfl
  | some x => exact (List.mem_replicate.1 (List.mem_of_getElem? h)).2
theorem FnOrderNone (l0 : List Int) (ok0 : CodeOk l0) : ∃ k, laws_FnOrderNone.f k l0 = some true := by
  by_cases h1 : (l0.length : Int) > 1048576
  · exact ⟨0, by unfold laws_FnOrderNone.f; rw [if_pos h1]⟩
  obtain ⟨l, c, hB, hc, e⟩ := drawOrderSize_ok l0 ok0
  have hl := hB.1
  obtain ⟨k, hk⟩ : ∃ k : Nat, 2000 ≤ k := ⟨2000, Nat.le_refl _⟩
  refine ⟨k + 1, ?_⟩
  unfold laws_FnOrderNone.f
  rw [if_neg h1, e _ (by omega)]
  simp only [bsome]
  rw [impl_OrderSize_eq l (by omega) c (by omega) _ (by omega), spec_OrderSize_eq l (by omega) c (by omega) _ (by omega), spec_OffersValid_eq l (by omega) _ (by omega)]
  simp only [bsome, if_true]
  rw [laws_FnOrderNone.j0]
  cases hv : offersV l with
  | false => simp
  | true =>
    obtain ⟨hs, hne⟩ := sound_of l hv
    have hz : countsV l (List.replicate ((l.length : Int) : Int).toNat 0) = true := by
      rw [countsV_iff]
      refine ⟨hv, by rw [List.length_replicate]; omega, fun i h0 hi => ?_⟩
      rw [rd_zeros]
      omega
    have z1 : orderSizeV l (List.replicate ((l.length : Int) : Int).toNat 0) = 0 := by
      rw [orderSizeV, if_pos hz]
      exact sumFrom_zero _ _ _ fun j _ _ => by unfold szOf; rw [rd_zeros, Int.mul_zero]
    have z2 : orderPriceV l (List.replicate ((l.length : Int) : Int).toNat 0) = 0 := by
      rw [orderPriceV, if_pos hz]
      exact sumFrom_zero _ _ _ fun j _ _ => by unfold prOf; rw [rd_zeros, Int.mul_zero]
    rw [if_neg (by simp), if_pos (by omega), if_pos (by omega)]
    simp only [bsome]
    rw [impl_OrderSize_eq l (by omega) _ (by rw [List.length_replicate]; omega) _ (by rw [List.length_replicate]; omega)]
    simp only [bsome]
    rw [if_pos z1, impl_OrderPrice_eq l (by omega) _ (by rw [List.length_replicate]; omega) _ (by rw [List.length_replicate]; omega)]
    simp only [bsome]
    rw [if_pos z2, impl_OrderLeast_eq l (by omega) 0 _ (by omega)]
    simp only [bsome]
    rw [orderLeastV, if_pos hv, if_pos (by omega), lv_zero]
    rfl

end Go.Proofs.Ytddlmemjmmohhaa.Pure
