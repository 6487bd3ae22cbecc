/- The pure statement of FnStoreTake is proved: what is taken is of the food, keeps long enough and adds up, and what is left is a valid store. Conditions: none. -/
import Derived.Test.YtcopoankphebcaaPAllx0
import Derived.Test.YtcopoankphebcaaPAllx26
import Derived.Test.YtcopoankphebcaaBbase
import Derived.Test.YtcopoankphebcaaBwithin
import Derived.Test.YtcopoankphebcaaBpick
import Derived.Test.YtcopoankphebcaaBlots
import Derived.Test.YtcopoankphebcaaBstorespec
import Derived.Test.YtcopoankphebcaaBstoreimpl
import Derived.Test.YtcopoankphebcaaBstorehas
import Derived.Test.YtcopoankphebcaaBtake
import Derived.Test.YtcopoankphebcaaBsumlots
import Derived.Test.YtcopoankphebcaaBtakelaw
import Derived.Test.YtcopoankphebcaaBdrawlot
import Derived.Test.YtcopoankphebcaaBdrawstake
import Derived.Test.YtcopoankphebcaaBsamelots
namespace Go.Proofs.Ytcopoankphebcaa.Pure
open Go.RowKit Go.Proofs.Ytcopoankphebcaa.PAll Go.Proofs.Ytcopoankphebcaa.B Go.Proofs.YtcopoankphebcaaW.PrintWords Go.Proofs.YtcopoankphebcaaW.PrintLast
set_option linter.unusedVariables false
set_option linter.unusedSimpArgs false

theorem law_take_l0 (l a b : List S30) (hl : l.length ≤ 12) (ha : a.length ≤ 12) (hb : b.length ≤ 12) (id n day : Int) (hn : 0 ≤ n ∧ n ≤ 999999) (h : ∀ y ∈ b, y.f0 = id ∧ y.f1 ≥ day ∧ (1 ≤ y.f2 ∧ y.f2 ≤ 9999)) (hv : storeV a = true)
    (hs : sumL b = n) (hx : sumL a + n = sumL l) (ra : ∀ x ∈ a, 0 ≤ x.f2 ∧ x.f2 ≤ 9999) (rl : ∀ x ∈ l, 0 ≤ x.f2 ∧ x.f2 ≤ 9999) : ∀ (d i : Nat), i + d = b.length → ∀ (acc : Int), 0 ≤ acc → acc ≤ 9999 * i → acc + sumL (b.drop i) = n → ∀ k, d + 30 ≤ k →
    laws_FnStoreTake.l0 k l id n day a b acc i = some true := by
  have r1 := sumL_range a ra
  have r2 := sumL_range l rl
  intro d
  induction d with
  | zero =>
    intro i hi acc b0 b1 he k hk
    obtain ⟨k, rfl, _⟩ := rounds1 (k := k) (B := 29) (by omega)
    rw [List.drop_of_length_le (by omega), sumL, Int.add_zero] at he
    rw [laws_FnStoreTake.l0, if_neg (by omega), if_pos he, laws_sumLots_eq a (by omega) ra k (by omega)]
    simp only [bsome]
    rw [laws_sumLots_eq l (by omega) rl k (by omega)]
    simp only [bsome]
    rw [w64 _ (by omega) (by omega), if_pos hx, impl_StoreValid_eq a (by omega) k (by omega), hv]
    simp only [bsome]
  | succ d ih =>
    intro i hi acc b0 b1 he k hk
    obtain ⟨k, rfl, hk'⟩ := rounds1 (k := k) (B := d + 30) (by omega)
    have m := h _ (List.getElem_mem (by omega : i < b.length))
    rw [← rd_lot b i (by omega)] at m
    rw [drop_lot b i (by omega), sumL] at he
    rw [laws_FnStoreTake.l0, if_pos (by omega), if_pos (by omega), if_pos m.1, if_neg (by omega), w64 (acc + _) (by omega) (by omega), w64 ((i : Int) + 1) (by omega) (by omega), B.up]
    exact ih (i + 1) (by omega) _ (by omega) (by omega) (by omega) k hk'
theorem FnStoreTake (l0 : List Int) (ok0 : CodeOk l0) : ∃ k, laws_FnStoreTake.f k l0 = some true := by
  by_cases h1 : (l0.length : Int) > 1048576
  · exact ⟨0, by unfold laws_FnStoreTake.f; rw [if_pos h1]⟩
  obtain ⟨l, id, n, day, hl, hd, e⟩ := drawStoreTake_ok l0 ok0
  obtain ⟨k, hk⟩ : ∃ k : Nat, 1000 ≤ k := ⟨1000, Nat.le_refl _⟩
  have tl := takeV_len l id n day
  refine ⟨k + 1, ?_⟩
  unfold laws_FnStoreTake.f
  rw [if_neg h1, e _ (by omega)]
  simp only [bsome]
  rw [impl_StoreTake_eq l (by omega) id n day _ (by omega), spec_StoreTake_eq l (by omega) id n day _ (by omega)]
  simp only [bsome, bne_self_eq_false, Bool.false_eq_true, if_false]
  rw [laws_sameLots_refl _ (by omega) _ (by omega)]
  simp only [bsome, if_true]
  rw [laws_sameLots_refl _ (by omega) _ (by omega)]
  simp only [bsome, if_true]
  rw [laws_FnStoreTake.j0]
  by_cases c : storeV l = true ∧ (0 ≤ n ∧ n ≤ 999999) ∧ n ≤ hasL id day l
  · obtain ⟨h12, h2, h3⟩ := (storeV_iff l).1 c.1
    have tV : takeV l id n day = ((takeL id day n l).1, (takeL id day n l).2, true) := by rw [takeV, if_pos c]
    have tll := takeL_len id day l n
    have s := takeL_sums id day l n c.2.1.1 h2 c.2.2
    have p := takeL_part id day l n c.2.1.1 h2
    have ro := takeL_rest_ok id day l n c.2.1.1 h2
    rw [tV, if_neg (by simp)]
    exact law_take_l0 l _ _ h12 (by omega) (by omega) id n day c.2.1 (fun y hy => ⟨(p y hy).1, (p y hy).2.1, (p y hy).2.2.1⟩) (takeL_valid l c.1 id day n c.2.1.1) s.2.1 s.2.2
      (fun x hx => by have := (ro x hx).2.2; omega) (fun x hx => by have := (h2 x hx).2.2; omega) (takeL id day n l).2.length 0 (by omega) 0 (by omega) (by omega) (by rw [List.drop_zero, Int.zero_add, s.2.1]) k (by omega)
  · have tV : takeV l id n day = ([], [], false) := by rw [takeV, if_neg c]
    rw [tV, if_pos (by simp), if_pos (by simp), laws_sameLots_refl _ (Nat.zero_le _) _ (by simp; omega)]
    simp only [bsome, if_true]

end Go.Proofs.Ytcopoankphebcaa.Pure
