/- The pure statement of FnOrderSize is proved: one more package adds its size and its price. Conditions: none. -/
import Derived.Test.YtddlmemjmmohhaaPAllx0
import Derived.Test.YtddlmemjmmohhaaPAllx23
import Derived.Test.YtddlmemjmmohhaaBbase
import Derived.Test.YtddlmemjmmohhaaBpick
import Derived.Test.YtddlmemjmmohhaaBoffers
import Derived.Test.YtddlmemjmmohhaaBdrawoffers
import Derived.Test.YtddlmemjmmohhaaBdrawsize
import Derived.Test.YtddlmemjmmohhaaBleast
import Derived.Test.YtddlmemjmmohhaaBsums
import Derived.Test.YtddlmemjmmohhaaBcounts
import Derived.Test.YtddlmemjmmohhaaBordersize
import Derived.Test.YtddlmemjmmohhaaBorderprice
import Derived.Test.YtddlmemjmmohhaaBints
namespace Go.Proofs.Ytddlmemjmmohhaa.Pure
open Go.RowKit Go.Proofs.Ytddlmemjmmohhaa.PAll Go.Proofs.Ytddlmemjmmohhaa.B Go.Proofs.YtddlmemjmmohhaaW.PrintWords Go.Proofs.YtddlmemjmmohhaaW.PrintLast
set_option linter.unusedVariables false
set_option linter.unusedSimpArgs false

theorem rd_set_at (c : List Int) (m : Int) (v : Int) (h0 : 0 ≤ m) (h1 : m < c.length) (j : Int) (hj : 0 ≤ j) : rd (c.set m.toNat v) j = if j = m then v else rd c j := by
  unfold rd
  rw [List.getD_eq_getElem?_getD, List.getD_eq_getElem?_getD]
  by_cases e : j = m
  · subst e
    rw [if_pos rfl, List.getElem?_set_self (by omega)]
    rfl
  · rw [if_neg e, List.getElem?_set_ne (by omega)]
theorem FnOrderSize (l0 : List Int) (ok0 : CodeOk l0) (l1 : List Int) (ok1 : CodeOk l1) : ∃ k, laws_FnOrderSize.f k l0 l1 = some true := by
  by_cases h1 : (l0.length : Int) > 1048576
  · exact ⟨0 + 1, by unfold laws_FnOrderSize.f; rw [if_pos h1]; simp only [laws_FnOrderSize.j0, if_true]⟩
  by_cases h2 : (l1.length : Int) > 1048576
  · exact ⟨0 + 1, by unfold laws_FnOrderSize.f; rw [if_neg h1, decide_eq_true h2]; simp only [laws_FnOrderSize.j0, if_true]⟩
  obtain ⟨l, c, hB, hc, e⟩ := drawOrderSize_ok l0 ok0
  have hl := hB.1
  obtain ⟨k, hk⟩ : ∃ k : Nat, 100 ≤ k := ⟨100, Nat.le_refl _⟩
  refine ⟨k + 1 + 1, ?_⟩
  unfold laws_FnOrderSize.f
  rw [if_neg h1, decide_eq_false h2]
  simp only [laws_FnOrderSize.j0]
  rw [if_neg (by simp), e _ (by omega)]
  simp only [bsome]
  rw [impl_OrderSize_eq l (by omega) c (by omega) _ (by omega), spec_OrderSize_eq l (by omega) c (by omega) _ (by omega)]
  simp only [bsome, if_true]
  rw [laws_FnOrderSize.j1]
  by_cases hv : countsV l c = true
  · obtain ⟨a1, a2, a3⟩ := (countsV_iff l c).1 hv
    obtain ⟨hs, hne⟩ := sound_of l a1
    have s1 : orderSizeV l c = sumFrom (szOf l c) l.length 0 := by rw [orderSizeV, if_pos hv]
    have s2 : orderPriceV l c = sumFrom (prOf l c) l.length 0 := by rw [orderPriceV, if_pos hv]
    have r1 := sumFrom_range (szOf l c) 4950 l.length 0 (fun j h0 h1 => (terms_range l c hv j h0 (by omega)).1)
    have r2 := sumFrom_range (prOf l c) 98901 l.length 0 (fun j h0 h1 => (terms_range l c hv j h0 (by omega)).2)
    have m1 := Int.emod_nonneg (l1.length : Int) (b := (l.length : Int)) (by omega)
    have m2 := Int.emod_lt_of_pos (l1.length : Int) (b := (l.length : Int)) (by omega)
    generalize (l1.length : Int) % (l.length : Int) = m at m1 m2
    have hm := a3 m m1 (by omega)
    have n0 : ([] : List Int).length = 0 := rfl
    rw [decide_eq_false (by omega), if_neg (by simp), if_neg (by omega)]
    simp only [bsome, List.nil_append]
    rw [if_pos (by omega), if_pos m1, if_pos (by omega), w64 _ (by omega) (by omega)]
    rw [impl_OrderSize_eq l (by omega) _ (by rw [List.length_set]; omega) _ (by rw [List.length_set]; omega)]
    simp only [bsome]
    rw [impl_OrderPrice_eq l (by omega) _ (by rw [List.length_set]; omega) _ (by rw [List.length_set]; omega)]
    simp only [bsome]
    rw [if_pos (by omega)]
    by_cases c99 : rd c m = 99
    · rw [if_pos c99]
    rw [if_neg c99, if_pos m2]
    have hv2 : countsV l (c.set m.toNat (rd c m + 1)) = true := by
      rw [countsV_iff]
      refine ⟨a1, by rw [List.length_set]; exact a2, fun i h0 hi => ?_⟩
      rw [List.length_set] at hi
      rw [rd_set_at c m _ m1 (by omega) i h0]
      have := a3 i h0 hi
      split
      · omega
      · exact this
    have g1 := sumFrom_add (szOf l c) (szOf l (c.set m.toNat (rd c m + 1))) m (rd_T37 l m).f0 l.length 0 (fun j h0 h1 => by
      unfold szOf
      rw [rd_set_at c m _ m1 (by omega) j h0]
      by_cases e : j = m
      · subst e
        rw [if_pos rfl, if_pos rfl, Int.mul_add, Int.mul_one]
      · rw [if_neg e, if_neg e, Int.add_zero])
    have g2 := sumFrom_add (prOf l c) (prOf l (c.set m.toNat (rd c m + 1))) m (rd_T37 l m).f1 l.length 0 (fun j h0 h1 => by
      unfold prOf
      rw [rd_set_at c m _ m1 (by omega) j h0]
      by_cases e : j = m
      · subst e
        rw [if_pos rfl, if_pos rfl, Int.mul_add, Int.mul_one]
      · rw [if_neg e, if_neg e, Int.add_zero])
    rw [if_pos (by omega)] at g1 g2
    have hb := hs.2 m m1 m2
    have s3 : orderSizeV l (c.set m.toNat (rd c m + 1)) = sumFrom (szOf l (c.set m.toNat (rd c m + 1))) l.length 0 := by rw [orderSizeV, if_pos hv2]
    have s4 : orderPriceV l (c.set m.toNat (rd c m + 1)) = sumFrom (prOf l (c.set m.toNat (rd c m + 1))) l.length 0 := by rw [orderPriceV, if_pos hv2]
    rw [w64 _ (by omega) (by omega), if_pos (by omega), impl_OrderPrice_eq l (by omega) c (by omega) _ (by omega)]
    simp only [bsome]
    rw [w64 _ (by omega) (by omega), s4, s2, g2, beq_self_eq_true]
  · have s1 : orderSizeV l c = -1 := by rw [orderSizeV, if_neg hv]
    rw [s1]
    simp

end Go.Proofs.Ytddlmemjmmohhaa.Pure
