/- The pure statement of FnOrderBestFirst is proved: one package of the last offer less and one of the first more is not enough, or dearer. Conditions: none. -/
import Derived.Test.YtddlmemjmmohhaaPAllx0
import Derived.Test.YtddlmemjmmohhaaPAllx13
import Derived.Test.YtddlmemjmmohhaaPAllx14
import Derived.Test.YtddlmemjmmohhaaPAllx15
import Derived.Test.YtddlmemjmmohhaaPAllx28
import Derived.Test.YtddlmemjmmohhaaBbase
import Derived.Test.YtddlmemjmmohhaaBpick
import Derived.Test.YtddlmemjmmohhaaBoffers
import Derived.Test.YtddlmemjmmohhaaBdrawoffers
import Derived.Test.YtddlmemjmmohhaaBdrawleast
import Derived.Test.YtddlmemjmmohhaaBdrawbest
import Derived.Test.YtddlmemjmmohhaaBleast
import Derived.Test.YtddlmemjmmohhaaBleastof
import Derived.Test.YtddlmemjmmohhaaBsums
import Derived.Test.YtddlmemjmmohhaaBcounts
import Derived.Test.YtddlmemjmmohhaaBordersize
import Derived.Test.YtddlmemjmmohhaaBorderprice
import Derived.Test.YtddlmemjmmohhaaBbest
import Derived.Test.YtddlmemjmmohhaaBbestspec
import Derived.Test.YtddlmemjmmohhaaBbestimpl
import Derived.Test.YtddlmemjmmohhaaBbestlaws
import Derived.Test.YtddlmemjmmohhaaBsameints
namespace Go.Proofs.Ytddlmemjmmohhaa.Pure
open Go.RowKit Go.Proofs.Ytddlmemjmmohhaa.PAll Go.Proofs.Ytddlmemjmmohhaa.B Go.Proofs.YtddlmemjmmohhaaW.PrintWords Go.Proofs.YtddlmemjmmohhaaW.PrintLast
set_option linter.unusedVariables false
set_option linter.unusedSimpArgs false

theorem rd_set_at (c : List Int) (m : Int) (v : Int) (h0 : 0 ≤ m) (h1 : m < c.length) (j : Int) (hj : 0 ≤ j) : rd (c.set m.toNat v) j = if j = m then v else rd c j := by
  unfold rd
  rw [List.getD_eq_getElem?_getD, List.getD_eq_getElem?_getD]
  by_cases e : j = m
  · subst e
    rw [if_pos rfl, List.getElem?_set_self (by omega)]
    rfl
  · rw [if_neg e, List.getElem?_set_ne (by omega)]
theorem first_law (l : List S37) (hv : offersV l = true) (n : Int) (h0 : 0 ≤ n) (h1 : n ≤ 99) (x : List Int) (hx : rd x 0 = rd (G l n) 0 + 1) : orderSizeV l x < n ∨ orderPriceV l x > orderPriceV l (G l n) := by
  obtain ⟨hs, hne⟩ := sound_of l hv
  obtain ⟨c1, c2, c3⟩ := G_counts l hv n h0 h1
  by_cases hc : countsV l x = true
  · by_cases hz : orderSizeV l x < n
    · exact .inl hz
    refine .inr ?_
    rw [c2, orderPriceV, if_pos hc]
    rw [orderSizeV, if_pos hc] at hz
    obtain ⟨d, hd⟩ : ∃ d, l.length = d + 1 := ⟨l.length - 1, by omega⟩
    rw [hd] at hz ⊢
    simp only [sumFrom] at hz ⊢
    have g0 : rd (G l n) 0 = (cnt l n : Int) := by
      have := G_drop l 0 hne n
      rw [List.drop_zero] at this
      rw [this]
      rfl
    have x0 : rd x 0 = ((cnt l n + 1 : Nat) : Int) := by rw [hx, g0]; omega
    have mg := cnt_max l hs hne n.toNat (cnt l n + 1) (by rw [Int.toNat_of_nonneg h0]; omega)
    rw [Int.toNat_of_nonneg h0] at mg
    have z1 : szOf l x 0 = ((cnt l n + 1 : Nat) : Int) * (rd_T37 l 0).f0 := by unfold szOf; rw [x0]; exact Int.mul_comm _ _
    have z2 : prOf l x 0 = ((cnt l n + 1 : Nat) : Int) * (rd_T37 l 0).f1 := by unfold prOf; rw [x0]; exact Int.mul_comm _ _
    have a := mx0 (n - ((cnt l n + 1 : Nat) : Int) * (rd_T37 l 0).f0)
    have t := (sumFrom_range (szOf l x) 4950 d (0 + 1) (fun j h2 h3 => (terms_range l x hc j (by omega) (by omega)).1)).1
    have o := lv_order l hs hne x hc d (0 + 1) (by omega) (by omega) (mx (n - ((cnt l n + 1 : Nat) : Int) * (rd_T37 l 0).f0) 0) a.1 (by omega)
    omega
  · refine .inl ?_
    rw [orderSizeV, if_neg hc]
    omega
theorem FnOrderBestFirst (l0 : List Int) (ok0 : CodeOk l0) : ∃ k, laws_FnOrderBestFirst.f k l0 = some true := by
  by_cases h1 : (l0.length : Int) > 1048576
  · exact ⟨0, by unfold laws_FnOrderBestFirst.f; rw [if_pos h1]⟩
  obtain ⟨l, n, hB, n0, n1, e⟩ := drawOrderBest_ok l0 ok0
  have hl := hB.1
  obtain ⟨k, hk⟩ : ∃ k : Nat, 400000 ≤ k := ⟨400000, Nat.le_refl _⟩
  obtain ⟨g, hg⟩ : ∃ g, bestV l n = g := ⟨_, rfl⟩
  have hgl : g.1.length ≤ l.length := by
    rw [← hg]
    unfold bestV
    split
    · split
      · rw [G_len]
        exact Nat.le_refl _
      · exact Nat.zero_le _
    · exact Nat.zero_le _
  have es : ∀ q, 390000 ≤ q → spec_OrderBest.f q l n = some g := fun q hq => by rw [spec_OrderBest_eq _ (by omega) n q (by omega), hg]
  have ei : ∀ q, 390000 ≤ q → impl_OrderBest.f q l n = some g := fun q hq => by rw [impl_OrderBest_eq _ (by omega) n q (by omega), ← hg]; rfl
  refine ⟨k + 1, ?_⟩
  unfold laws_FnOrderBestFirst.f
  rw [if_neg h1, e _ (by omega)]
  simp only [bsome]
  rw [ei _ (by omega)]
  simp only [bsome]
  rw [es _ (by omega)]
  simp only [bsome, bne_self_eq_false, Bool.false_eq_true, if_false]
  rw [laws_sameInts_refl _ (by omega) _ (by omega)]
  simp only [bsome, if_true]
  rw [laws_FnOrderBestFirst.j0, laws_FnOrderBestFirst.j0]
  have no : g = ([], false) → (if (g.2 == g.2) = true then ((laws_sameInts.f k g.1 g.1).bind fun t => some t) else some false) = some true := by
    intro h
    rw [h, laws_sameInts_refl _ (by simp) _ (by simp; omega)]
    simp
  by_cases hv : offersV l = true
  · by_cases hn : 0 ≤ n ∧ n ≤ 99
    · have hg2 : g = (G l n, true) := by rw [← hg, bestV, if_pos hv, if_pos hn]
      have gl := G_len l n
      obtain ⟨hs, hne⟩ := sound_of l hv
      rw [hg2]
      simp only [if_true]
      by_cases c2 : ((G l n).length : Int) < 2
      · rw [decide_eq_true c2, if_pos rfl, laws_sameInts_refl _ (by omega) _ (by omega)]
        simp
      · have q0 : ([] : List Int).length = 0 := rfl
        rw [decide_eq_false c2, if_neg (by simp), w64 _ (by omega) (by omega), if_pos (by omega), if_pos (by omega)]
        by_cases cz : rd (G l n) (((G l n).length : Int) - 1) = 0
        · rw [if_pos cz]
        rw [if_neg cz]
        simp only [bsome, List.nil_append]
        rw [if_pos (by omega), if_pos (by omega), if_pos (by omega)]
        have cr := (countsV_iff l (G l n)).1 (G_counts l hv n hn.1 hn.2).1
        have b0 := cr.2.2 0 (by omega) (by omega)
        have b1 := cr.2.2 (((G l n).length : Int) - 1) (by omega) (by omega)
        rw [w64 (rd (G l n) _ - 1) (by omega) (by omega)]
        have r0 : rd ((G l n).set (((G l n).length : Int) - 1).toNat (rd (G l n) (((G l n).length : Int) - 1) - 1)) 0 = rd (G l n) 0 := by
          rw [rd_set_at _ _ _ (by omega) (by omega) 0 (by omega), if_neg (by omega)]
        rw [r0, w64 (rd (G l n) 0 + 1) (by omega) (by omega)]
        obtain ⟨x, hx⟩ : ∃ x, ((G l n).set (((G l n).length : Int) - 1).toNat (rd (G l n) (((G l n).length : Int) - 1) - 1)).set (0 : Int).toNat (rd (G l n) 0 + 1) = x := ⟨_, rfl⟩
        have xl : x.length = l.length := by rw [← hx, List.length_set, List.length_set, gl]
        have x0 : rd x 0 = rd (G l n) 0 + 1 := by
          rw [← hx, rd_set_at _ 0 _ (by omega) (by rw [List.length_set]; omega) 0 (by omega), if_pos rfl]
        rw [hx, impl_OrderSize_eq l (by omega) x (by omega) _ (by omega)]
        simp only [bsome]
        rcases first_law l hv n hn.1 hn.2 x x0 with h | h
        · rw [if_pos h]
        · by_cases hz : orderSizeV l x < n
          · rw [if_pos hz]
          · rw [if_neg hz, impl_OrderPrice_eq l (by omega) x (by omega) _ (by omega), impl_OrderPrice_eq l (by omega) _ (by omega) _ (by omega)]
            simp only [bsome]
            rw [decide_eq_true h]
    · have hg2 : g = ([], false) := by rw [← hg, bestV, if_pos hv, if_neg hn]
      have := no hg2
      rw [hg2] at this ⊢
      simpa using this
  · have hg2 : g = ([], false) := by rw [← hg, bestV, if_neg hv]
    have := no hg2
    rw [hg2] at this ⊢
    simpa using this

end Go.Proofs.Ytddlmemjmmohhaa.Pure
