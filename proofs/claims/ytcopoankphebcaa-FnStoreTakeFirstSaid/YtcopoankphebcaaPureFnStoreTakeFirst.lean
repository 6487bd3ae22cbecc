/- The pure statement of FnStoreTakeFirst is proved: what is taken keeps no longer than what is left of the food. Conditions: none. -/
import Derived.Test.YtcopoankphebcaaPAllx0
import Derived.Test.YtcopoankphebcaaPAllx24
import Derived.Test.YtcopoankphebcaaBbase
import Derived.Test.YtcopoankphebcaaBwithin
import Derived.Test.YtcopoankphebcaaBpick
import Derived.Test.YtcopoankphebcaaBlots
import Derived.Test.YtcopoankphebcaaBstorespec
import Derived.Test.YtcopoankphebcaaBstoreimpl
import Derived.Test.YtcopoankphebcaaBstorehas
import Derived.Test.YtcopoankphebcaaBtake
import Derived.Test.YtcopoankphebcaaBsumlots
import Derived.Test.YtcopoankphebcaaBtakelaw
import Derived.Test.YtcopoankphebcaaBdrawlot
import Derived.Test.YtcopoankphebcaaBdrawstake
import Derived.Test.YtcopoankphebcaaBsamelots
namespace Go.Proofs.Ytcopoankphebcaa.Pure
open Go.RowKit Go.Proofs.Ytcopoankphebcaa.PAll Go.Proofs.Ytcopoankphebcaa.B Go.Proofs.YtcopoankphebcaaW.PrintWords Go.Proofs.YtcopoankphebcaaW.PrintLast
set_option linter.unusedVariables false
set_option linter.unusedSimpArgs false

theorem law_first_l1 (a b : List S30) (ha : a.length ≤ 12) (hb : b.length ≤ 12) (id day : Int) (h : ∀ y ∈ a, y.f0 = id → y.f1 ≥ day → ∀ z ∈ b, z.f1 ≤ y.f1) (i : Nat) (hi : i < a.length) : ∀ (d j : Nat), j + d = b.length → ∀ k, laws_FnStoreTakeFirst.l1 (k + d + 1) id day a b i j = laws_FnStoreTakeFirst.l0 k id day a b ((i + 1 : Nat) : Int) := by
  intro d
  induction d with
  | zero =>
    intro j hj k
    rw [Nat.add_zero, laws_FnStoreTakeFirst.l1, if_neg (by omega), w64 ((i : Int) + 1) (by omega) (by omega), B.up]
  | succ d ih =>
    intro j hj k
    have e := ih (j + 1) (by omega) k
    rw [show k + (d + 1) + 1 = (k + d + 1) + 1 by omega]
    generalize k + d + 1 = q at e ⊢
    have m := h _ (List.getElem_mem hi)
    rw [← rd_lot a i hi] at m
    rw [laws_FnStoreTakeFirst.l1, if_pos (by omega), if_pos (by omega), if_pos (by omega), w64 ((j : Int) + 1) (by omega) (by omega), B.up, e]
    by_cases c1 : (rd_T30 a (i : Int)).f0 = id
    · by_cases c2 : (rd_T30 a (i : Int)).f1 ≥ day
      · have z := m c1 c2 _ (List.getElem_mem (by omega : j < b.length))
        rw [← rd_lot b j (by omega)] at z
        rw [if_pos c1, if_pos c2, if_pos (by omega), if_neg (by omega)]
      · rw [if_pos c1, if_neg c2]
    · rw [if_neg c1]
theorem law_first_l0 (a b : List S30) (ha : a.length ≤ 12) (hb : b.length ≤ 12) (id day : Int) (h : ∀ y ∈ a, y.f0 = id → y.f1 ≥ day → ∀ z ∈ b, z.f1 ≤ y.f1) : ∀ (d i : Nat), i + d = a.length → ∀ k, 14 * d + 1 ≤ k → laws_FnStoreTakeFirst.l0 k id day a b i = some true := by
  intro d
  induction d with
  | zero =>
    intro i hi k hk
    obtain ⟨k, rfl, _⟩ := rounds1 (k := k) (B := 0) (by omega)
    rw [laws_FnStoreTakeFirst.l0, if_neg (by omega)]
  | succ d ih =>
    intro i hi k hk
    obtain ⟨k, rfl⟩ : ∃ q, k = (q + b.length + 1) + 1 := ⟨k - b.length - 2, by omega⟩
    have e := law_first_l1 a b ha hb id day h i (by omega) b.length 0 (by omega) k
    rw [laws_FnStoreTakeFirst.l0, if_pos (by omega)]
    exact e.trans (ih (i + 1) (by omega) k (by omega))
theorem FnStoreTakeFirst (l0 : List Int) (ok0 : CodeOk l0) : ∃ k, laws_FnStoreTakeFirst.f k l0 = some true := by
  by_cases h1 : (l0.length : Int) > 1048576
  · exact ⟨0, by unfold laws_FnStoreTakeFirst.f; rw [if_pos h1]⟩
  obtain ⟨l, id, n, day, hl, hd, e⟩ := drawStoreTake_ok l0 ok0
  obtain ⟨k, hk⟩ : ∃ k : Nat, 1000 ≤ k := ⟨1000, Nat.le_refl _⟩
  have tl := takeV_len l id n day
  refine ⟨k + 1, ?_⟩
  unfold laws_FnStoreTakeFirst.f
  rw [if_neg h1, e _ (by omega)]
  simp only [bsome]
  rw [impl_StoreTake_eq l (by omega) id n day _ (by omega), spec_StoreTake_eq l (by omega) id n day _ (by omega)]
  simp only [bsome, bne_self_eq_false, Bool.false_eq_true, if_false]
  rw [laws_sameLots_refl _ (by omega) _ (by omega)]
  simp only [bsome, if_true]
  rw [laws_sameLots_refl _ (by omega) _ (by omega)]
  simp only [bsome, if_true]
  rw [laws_FnStoreTakeFirst.j0]
  by_cases c : storeV l = true ∧ (0 ≤ n ∧ n ≤ 999999) ∧ n ≤ hasL id day l
  · obtain ⟨h12, h2, h3⟩ := (storeV_iff l).1 c.1
    have tV : takeV l id n day = ((takeL id day n l).1, (takeL id day n l).2, true) := by rw [takeV, if_pos c]
    have tll := takeL_len id day l n
    rw [tV, if_neg (by simp)]
    exact law_first_l0 _ _ (by omega) (by omega) id day (takeL_first id day l n c.2.1.1 h2 h3) (takeL id day n l).1.length 0 (by omega) k (by omega)
  · have tV : takeV l id n day = ([], [], false) := by rw [takeV, if_neg c]
    rw [tV, if_pos (by simp), if_pos (by simp), laws_sameLots_refl _ (Nat.zero_le _) _ (by simp; omega)]
    simp only [bsome, if_true]

end Go.Proofs.Ytcopoankphebcaa.Pure
