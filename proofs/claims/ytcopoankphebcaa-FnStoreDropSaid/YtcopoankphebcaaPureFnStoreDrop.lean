/- The pure statement of FnStoreDrop is proved: what keeps and what does not are parts of the store, and add up to it. Conditions: none. -/
import Derived.Test.YtcopoankphebcaaPAllx0
import Derived.Test.YtcopoankphebcaaPAllx22
import Derived.Test.YtcopoankphebcaaBbase
import Derived.Test.YtcopoankphebcaaBpick
import Derived.Test.YtcopoankphebcaaBlots
import Derived.Test.YtcopoankphebcaaBstorespec
import Derived.Test.YtcopoankphebcaaBstoreimpl
import Derived.Test.YtcopoankphebcaaBdrop
import Derived.Test.YtcopoankphebcaaBsumlots
import Derived.Test.YtcopoankphebcaaBdrawlot
import Derived.Test.YtcopoankphebcaaBdrawsdrop
import Derived.Test.YtcopoankphebcaaBsamelots
namespace Go.Proofs.Ytcopoankphebcaa.Pure
open Go.RowKit Go.Proofs.Ytcopoankphebcaa.PAll Go.Proofs.Ytcopoankphebcaa.B Go.Proofs.YtcopoankphebcaaW.PrintWords Go.Proofs.YtcopoankphebcaaW.PrintLast
set_option linter.unusedVariables false
set_option linter.unusedSimpArgs false

theorem law_drop_l1 (l a b : List S30) (hl : l.length ≤ 12) (day : Int) (hg : ∀ y ∈ b, y.f1 < day) (hab : a.length + b.length = l.length) (va : storeV a = true) (vb : storeV b = true)
    (hs : sumL a + sumL b = sumL l) (ra : ∀ x ∈ a, 0 ≤ x.f2 ∧ x.f2 ≤ 9999) (rb : ∀ x ∈ b, 0 ≤ x.f2 ∧ x.f2 ≤ 9999) (rl : ∀ x ∈ l, 0 ≤ x.f2 ∧ x.f2 ≤ 9999) : ∀ (d i : Nat), i + d = b.length → ∀ k, d + 30 ≤ k → laws_FnStoreDrop.l1 k l day a b i = some true := by
  have r1 := sumL_range a ra
  have r2 := sumL_range b rb
  intro d
  induction d with
  | zero =>
    intro i hi k hk
    obtain ⟨k, rfl, _⟩ := rounds1 (k := k) (B := 29) (by omega)
    rw [laws_FnStoreDrop.l1, if_neg (by omega), w64 _ (by omega) (by omega), if_pos (by omega), laws_sumLots_eq a (by omega) ra k (by omega)]
    simp only [bsome]
    rw [laws_sumLots_eq b (by omega) rb k (by omega)]
    simp only [bsome]
    rw [laws_sumLots_eq l (by omega) rl k (by omega)]
    simp only [bsome]
    rw [w64 _ (by omega) (by omega), if_pos hs, impl_StoreValid_eq a (by omega) k (by omega), va]
    simp only [bsome, if_true]
    rw [impl_StoreValid_eq b (by omega) k (by omega), vb]
    simp only [bsome]
  | succ d ih =>
    intro i hi k hk
    obtain ⟨k, rfl, hk'⟩ := rounds1 (k := k) (B := d + 30) (by omega)
    have m := hg _ (List.getElem_mem (by omega : i < b.length))
    rw [← rd_lot b i (by omega)] at m
    rw [laws_FnStoreDrop.l1, if_pos (by omega), if_pos (by omega), if_neg (by omega), w64 ((i : Int) + 1) (by omega) (by omega), B.up]
    exact ih (i + 1) (by omega) k hk'
theorem law_drop_l0 (l a b : List S30) (hl : l.length ≤ 12) (day : Int) (hk : ∀ y ∈ a, y.f1 ≥ day) (hg : ∀ y ∈ b, y.f1 < day) (hab : a.length + b.length = l.length) (va : storeV a = true) (vb : storeV b = true)
    (hs : sumL a + sumL b = sumL l) (ra : ∀ x ∈ a, 0 ≤ x.f2 ∧ x.f2 ≤ 9999) (rb : ∀ x ∈ b, 0 ≤ x.f2 ∧ x.f2 ≤ 9999) (rl : ∀ x ∈ l, 0 ≤ x.f2 ∧ x.f2 ≤ 9999) : ∀ (d i : Nat), i + d = a.length → ∀ k, d + 60 ≤ k → laws_FnStoreDrop.l0 k l day a b i = some true := by
  intro d
  induction d with
  | zero =>
    intro i hi k hk'
    obtain ⟨k, rfl, _⟩ := rounds1 (k := k) (B := 59) (by omega)
    rw [laws_FnStoreDrop.l0, if_neg (by omega)]
    exact law_drop_l1 l a b hl day hg hab va vb hs ra rb rl b.length 0 (by omega) k (by omega)
  | succ d ih =>
    intro i hi k hk'
    obtain ⟨k, rfl, hk2⟩ := rounds1 (k := k) (B := d + 60) (by omega)
    have m := hk _ (List.getElem_mem (by omega : i < a.length))
    rw [← rd_lot a i (by omega)] at m
    rw [laws_FnStoreDrop.l0, if_pos (by omega), if_pos (by omega), if_neg (by omega), w64 ((i : Int) + 1) (by omega) (by omega), B.up]
    exact ih (i + 1) (by omega) k hk2
theorem drop_adds (day : Int) : ∀ l : List S30, (keepL day l).length + (goneL day l).length = l.length ∧ sumL (keepL day l) + sumL (goneL day l) = sumL l := by
  intro l
  induction l with
  | nil => exact ⟨rfl, rfl⟩
  | cons x xs ih =>
    by_cases c : x.f1 ≥ day
    · have e := keep_cons day x xs c
      rw [e.1, e.2, List.length_cons, List.length_cons, sumL, sumL]
      omega
    · have e := gone_cons day x xs c
      rw [e.1, e.2, List.length_cons, List.length_cons, sumL, sumL]
      omega
theorem FnStoreDrop (l0 : List Int) (ok0 : CodeOk l0) : ∃ k, laws_FnStoreDrop.f k l0 = some true := by
  by_cases h1 : (l0.length : Int) > 1048576
  · exact ⟨0, by unfold laws_FnStoreDrop.f; rw [if_pos h1]⟩
  obtain ⟨l, day, hl, e⟩ := drawStoreDrop_ok l0 ok0
  obtain ⟨k, hk⟩ : ∃ k : Nat, 1000 ≤ k := ⟨1000, Nat.le_refl _⟩
  have tl := dropV_len l day
  refine ⟨k + 1, ?_⟩
  unfold laws_FnStoreDrop.f
  rw [if_neg h1, e _ (by omega)]
  simp only [bsome]
  rw [impl_StoreDrop_eq l (by omega) day _ (by omega), spec_StoreDrop_eq l (by omega) day _ (by omega)]
  simp only [bsome]
  rw [laws_sameLots_refl _ (by omega) _ (by omega)]
  simp only [bsome, if_true]
  rw [laws_sameLots_refl _ (by omega) _ (by omega)]
  simp only [bsome, if_true]
  rw [spec_StoreValid_eq l (by omega) _ (by omega)]
  simp only [bsome]
  rw [laws_FnStoreDrop.j0]
  by_cases hv : storeV l = true
  · obtain ⟨h12, h2, h3⟩ := (storeV_iff l).1 hv
    have dV : dropV l day = (keepL day l, goneL day l) := by rw [dropV, if_pos hv]
    have ad := drop_adds day l
    have mk : ∀ y ∈ keepL day l, y ∈ l ∧ y.f1 ≥ day := fun y hy => by
      have := List.mem_filter.1 hy
      exact ⟨this.1, by simpa using this.2⟩
    have mg : ∀ y ∈ goneL day l, y ∈ l ∧ y.f1 < day := fun y hy => by
      have := List.mem_filter.1 hy
      exact ⟨this.1, by simpa using this.2⟩
    have vk : storeV (keepL day l) = true := (storeV_iff _).2 ⟨by omega, fun y hy => h2 y (mk y hy).1, h3.filter _⟩
    have vg : storeV (goneL day l) = true := (storeV_iff _).2 ⟨by omega, fun y hy => h2 y (mg y hy).1, h3.filter _⟩
    have rg : ∀ x ∈ l, 0 ≤ x.f2 ∧ x.f2 ≤ 9999 := fun x hx => by have := (h2 x hx).2.2; omega
    rw [dV, hv, if_neg (by simp)]
    exact law_drop_l0 l _ _ hl day (fun y hy => (mk y hy).2) (fun y hy => (mg y hy).2) ad.1 vk vg ad.2 (fun x hx => rg x (mk x hx).1) (fun x hx => rg x (mg x hx).1) rg (keepL day l).length 0 (by omega) k (by omega)
  · have dV : dropV l day = ([], []) := by rw [dropV, if_neg hv]
    rw [dV, Bool.eq_false_iff.2 hv, if_pos (by simp), laws_sameLots_refl _ (Nat.zero_le _) _ (by simp; omega)]
    simp only [bsome, if_true]

end Go.Proofs.Ytcopoankphebcaa.Pure
