/- The pure statement of FnStoreHas is proved: what is there is the sum of the food's lots that keep, and a later day has no more. Conditions: none. -/
import Derived.Test.YtcopoankphebcaaPAllx0
import Derived.Test.YtcopoankphebcaaPAllx20
import Derived.Test.YtcopoankphebcaaBbase
import Derived.Test.YtcopoankphebcaaBwithin
import Derived.Test.YtcopoankphebcaaBpick
import Derived.Test.YtcopoankphebcaaBlots
import Derived.Test.YtcopoankphebcaaBstorespec
import Derived.Test.YtcopoankphebcaaBstoreimpl
import Derived.Test.YtcopoankphebcaaBstorehas
import Derived.Test.YtcopoankphebcaaBdrawlot
import Derived.Test.YtcopoankphebcaaBdrawshas
namespace Go.Proofs.Ytcopoankphebcaa.Pure
open Go.RowKit Go.Proofs.Ytcopoankphebcaa.PAll Go.Proofs.Ytcopoankphebcaa.B Go.Proofs.YtcopoankphebcaaW.PrintWords Go.Proofs.YtcopoankphebcaaW.PrintLast
set_option linter.unusedVariables false
set_option linter.unusedSimpArgs false

theorem hasL_day (id day : Int) : ∀ l : List S30, (∀ x ∈ l, okL x) → hasL id (day + 1) l ≤ hasL id day l := by
  intro l
  induction l with
  | nil => intro _; exact Int.le_refl _
  | cons x xs ih =>
    intro h
    have a := ih fun y hy => h y (List.mem_cons_of_mem _ hy)
    have b := (h x (List.mem_cons_self ..)).2.2
    rw [hasL, hasL]
    by_cases c : x.f0 = id ∧ x.f1 ≥ day + 1
    · rw [if_pos c, if_pos ⟨c.1, by omega⟩]
      omega
    · rw [if_neg c]
      split <;> omega
theorem law_has_l0 (l : List S30) (hv : storeV l = true) (id day : Int) (hd : 0 ≤ day ∧ day ≤ 7) : ∀ (d i : Nat), i + d = l.length → ∀ (acc : Int), 0 ≤ acc → acc ≤ 9999 * i → acc + hasL id day (l.drop i) = hasL id day l → ∀ k, d + 30 ≤ k → laws_FnStoreHas.l0 k l id day (hasL id day l) acc i = some true := by
  obtain ⟨h1, h2, h3⟩ := (storeV_iff l).1 hv
  intro d
  induction d with
  | zero =>
    intro i hi acc b0 b1 hs k hk
    obtain ⟨k, rfl, _⟩ := rounds1 (k := k) (B := 29) (by omega)
    rw [List.drop_of_length_le (by omega), hasL, Int.add_zero] at hs
    rw [laws_FnStoreHas.l0, if_neg (by omega), if_pos hs, w64 (day + 1) (by omega) (by omega), impl_StoreHas_eq l (by omega) id (day + 1) k (by omega)]
    simp only [bsome]
    rw [hasV, if_pos hv, decide_eq_true (hasL_day id day l h2)]
  | succ d ih =>
    intro i hi acc b0 b1 hs k hk
    obtain ⟨k, rfl, hk'⟩ := rounds1 (k := k) (B := d + 30) (by omega)
    have ok := h2 _ (List.getElem_mem (by omega : i < l.length))
    rw [← rd_lot l i (by omega)] at ok
    unfold okL at ok
    rw [drop_lot l i (by omega), hasL] at hs
    rw [laws_FnStoreHas.l0, if_pos (by omega), if_pos (by omega), w64 ((i : Int) + 1) (by omega) (by omega), B.up, w64 (acc + _) (by omega) (by omega)]
    by_cases c1 : (rd_T30 l (i : Int)).f0 = id
    · by_cases c2 : (rd_T30 l (i : Int)).f1 ≥ day
      · rw [if_pos ⟨c1, c2⟩] at hs
        rw [if_pos c1, if_pos c2, ih (i + 1) (by omega) _ (by omega) (by omega) (by omega) k hk']
      · rw [if_neg (fun h => c2 h.2)] at hs
        rw [if_pos c1, if_neg c2, ih (i + 1) (by omega) _ (by omega) (by omega) (by omega) k hk']
    · rw [if_neg (fun h => c1 h.1)] at hs
      rw [if_neg c1, ih (i + 1) (by omega) _ (by omega) (by omega) (by omega) k hk']
theorem FnStoreHas (l0 : List Int) (ok0 : CodeOk l0) : ∃ k, laws_FnStoreHas.f k l0 = some true := by
  by_cases h1 : (l0.length : Int) > 1048576
  · exact ⟨0, by unfold laws_FnStoreHas.f; rw [if_pos h1]⟩
  obtain ⟨l, id, day, hl, hd, e⟩ := drawStoreHas_ok l0 ok0
  obtain ⟨k, hk⟩ : ∃ k : Nat, 1000 ≤ k := ⟨1000, Nat.le_refl _⟩
  refine ⟨k + 1, ?_⟩
  unfold laws_FnStoreHas.f
  rw [if_neg h1, e _ (by omega)]
  simp only [bsome]
  rw [impl_StoreHas_eq l (by omega) _ _ _ (by omega), spec_StoreHas_eq l (by omega) _ _ _ (by omega)]
  simp only [bsome, if_true]
  rw [laws_FnStoreHas.j0]
  by_cases hv : storeV l = true
  · have r := hasL_range id day l ((storeV_iff l).1 hv).2.1
    rw [hasV, if_pos hv, decide_eq_false (by omega), if_neg (by simp)]
    exact law_has_l0 l hv id day hd l.length 0 (by omega) 0 (by omega) (by omega) (by rw [List.drop_zero, Int.zero_add]) k (by omega)
  · rw [hasV, if_neg hv]
    simp

end Go.Proofs.Ytcopoankphebcaa.Pure
