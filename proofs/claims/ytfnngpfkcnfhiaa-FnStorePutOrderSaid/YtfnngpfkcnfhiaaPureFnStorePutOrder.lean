/- The pure statement of FnStorePutOrder is proved: two lots that are put in leave the same store in either order. Conditions: none. -/
import Derived.Test.YtfnngpfkcnfhiaaPAllx0
import Derived.Test.YtfnngpfkcnfhiaaPAllx20
import Derived.Test.YtfnngpfkcnfhiaaBbase
import Derived.Test.YtfnngpfkcnfhiaaBwithin
import Derived.Test.YtfnngpfkcnfhiaaBpick
import Derived.Test.YtfnngpfkcnfhiaaBlots
import Derived.Test.YtfnngpfkcnfhiaaBstorespec
import Derived.Test.YtfnngpfkcnfhiaaBstoreimpl
import Derived.Test.YtfnngpfkcnfhiaaBstorehas
import Derived.Test.YtfnngpfkcnfhiaaBsumlots
import Derived.Test.YtfnngpfkcnfhiaaBdrawlot
import Derived.Test.YtfnngpfkcnfhiaaBsamelots
import Derived.Test.YtfnngpfkcnfhiaaBputdef
import Derived.Test.YtfnngpfkcnfhiaaBputspec
import Derived.Test.YtfnngpfkcnfhiaaBputimpl
import Derived.Test.YtfnngpfkcnfhiaaBputlaw
import Derived.Test.YtfnngpfkcnfhiaaBdrawput
namespace Go.Proofs.Ytfnngpfkcnfhiaa.Pure
open Go.RowKit Go.Proofs.Ytfnngpfkcnfhiaa.PAll Go.Proofs.Ytfnngpfkcnfhiaa.B Go.Proofs.YtfnngpfkcnfhiaaW.PrintWords Go.Proofs.YtfnngpfkcnfhiaaW.PrintLast
set_option linter.unusedVariables false
set_option linter.unusedSimpArgs false

theorem put_order (l : List S30) (hl : storeV l = true) (x y : S30) (ox : okL x) (oy : okL y) (hx : storeV (putL x l) = true) (hp : storeV (putL y (putL x l)) = true) : storeV (putL y l) = true ∧ putL x (putL y l) = putL y (putL x l) := by
  obtain ⟨_, hok, hs⟩ := (storeV_iff l).1 hl
  obtain ⟨_, xok, xs⟩ := (storeV_iff _).1 hx
  obtain ⟨_, pok, ps⟩ := (storeV_iff _).1 hp
  have hm := ok_mild hok
  have x2 : 1 ≤ x.f2 ∧ x.f2 ≤ 9999 := ox.2.2
  have y2 : 1 ≤ y.f2 ∧ y.f2 ≤ 9999 := oy.2.2
  have ax := fun a b => put_amt x x2 a b l hm
  have ayx := fun a b => put_amt y y2 a b (putL x l) (ok_mild xok)
  have ay := fun a b => put_amt y y2 a b l hm
  have vy : storeV (putL y l) = true := dom_valid (put_pair y y2 l hm hs) (put_pos y y2 l hm) hp (fun a b => by
    rw [ay, ayx, ax]
    split <;> split <;> omega)
  obtain ⟨_, yok, ys⟩ := (storeV_iff _).1 vy
  have axy := fun a b => put_amt x x2 a b (putL y l) (ok_mild yok)
  refine ⟨vy, amt_one _ _ (put_pair x x2 _ (ok_mild yok) ys) ps (put_pos x x2 _ (ok_mild yok)) (fun z hz => (pok z hz).2.2.1) (fun a b => ?_)⟩
  rw [axy, ay, ayx, ax]
  omega
theorem FnStorePutOrder (l0 : List Int) (ok0 : CodeOk l0) (l1 : List Int) (ok1 : CodeOk l1) : ∃ k, laws_FnStorePutOrder.f k l0 l1 = some true := by
  obtain ⟨l, a, b, c, hl, e⟩ := drawStorePut_ok l0 ok0
  obtain ⟨k, hk⟩ : ∃ k : Nat, 1000 ≤ k := ⟨1000, Nat.le_refl _⟩
  have es := fun k hk => spec_StorePut_eq l (by omega) (⟨a, b, c⟩ : S30) k hk
  have ei := fun (m : List S30) (hm : m.length ≤ 12) k hk => impl_StorePut_eq m (by omega) (⟨a, b, c⟩ : S30) k hk
  have tl := putV_len l (⟨a, b, c⟩ : S30)
  dsimp only at es ei
  refine ⟨k + 1 + 1, ?_⟩
  unfold laws_FnStorePutOrder.f
  by_cases h1 : (l0.length : Int) > 1048576
  · rw [if_pos h1, laws_FnStorePutOrder.j0, if_pos rfl]
  rw [if_neg h1]
  by_cases h2 : (l1.length : Int) > 1048576
  · rw [decide_eq_true h2, laws_FnStorePutOrder.j0, if_pos rfl]
  rw [decide_eq_false h2, laws_FnStorePutOrder.j0, if_neg (by simp), e _ (by omega)]
  simp only [bsome]
  rw [ei l hl _ (by omega), es _ (by omega)]
  simp only [bsome, bne_self_eq_false, Bool.false_eq_true, if_false]
  rw [laws_sameLots_refl _ (by omega) _ (by omega)]
  simp only [bsome, if_true]
  rw [laws_FnStorePutOrder.j1]
  by_cases v : storeV l = true ∧ okL (⟨a, b, c⟩ : S30) ∧ storeV (putL (⟨a, b, c⟩ : S30) l) = true
  · have pv : putV l (⟨a, b, c⟩ : S30) = (putL ⟨a, b, c⟩ l, true) := by rw [putV, if_pos v]
    rw [pv] at tl ⊢
    rw [if_neg (by simp)]
    generalize (l1.length : Int) % 6 = d
    generalize wrap64 (1 + (Int.tmod (wrap64 ((l1.length : Int) / 7)) 9)) = n
    have eo := fun (m : List S30) (hm : m.length ≤ 12) k hk => impl_StorePut_eq m (by omega) (⟨a, d, n⟩ : S30) k hk
    dsimp only at eo tl ⊢
    have ty := putV_len l (⟨a, d, n⟩ : S30)
    have txy := putV_len (putL ⟨a, b, c⟩ l) (⟨a, d, n⟩ : S30)
    rw [eo _ tl _ (by omega), eo l hl _ (by omega)]
    simp only [bsome]
    rw [ei _ ty _ (by omega)]
    simp only [bsome]
    by_cases p : okL (⟨a, d, n⟩ : S30) ∧ storeV (putL (⟨a, d, n⟩ : S30) (putL ⟨a, b, c⟩ l)) = true
    · obtain ⟨o1, o2⟩ := put_order l v.1 ⟨a, b, c⟩ ⟨a, d, n⟩ v.2.1 p.1 v.2.2 p.2
      have p1 : putV (putL ⟨a, b, c⟩ l) (⟨a, d, n⟩ : S30) = (putL ⟨a, d, n⟩ (putL ⟨a, b, c⟩ l), true) := by rw [putV, if_pos ⟨v.2.2, p.1, p.2⟩]
      have p2 : putV l (⟨a, d, n⟩ : S30) = (putL ⟨a, d, n⟩ l, true) := by rw [putV, if_pos ⟨v.1, p.1, o1⟩]
      have p3 : putV (putL ⟨a, d, n⟩ l) (⟨a, b, c⟩ : S30) = (putL ⟨a, b, c⟩ (putL ⟨a, d, n⟩ l), true) := by rw [putV, if_pos ⟨o1, v.2.1, by rw [o2]; exact p.2⟩]
      rw [p1] at txy ⊢
      rw [p2]
      dsimp only at txy ⊢
      rw [p3, if_pos rfl, if_pos rfl, if_pos rfl, o2, laws_sameLots_refl _ (by omega) _ (by omega)]
      simp only [bsome]
    · have p1 : putV (putL ⟨a, b, c⟩ l) (⟨a, d, n⟩ : S30) = ([], false) := by rw [putV, if_neg (fun z => p ⟨z.2.1, z.2.2⟩)]
      rw [p1, if_neg (by simp)]
  · have pv : putV l (⟨a, b, c⟩ : S30) = ([], false) := by rw [putV, if_neg v]
    rw [pv, if_pos (by simp), if_pos (by simp), laws_sameLots_refl _ (Nat.zero_le _) _ (by simp; omega)]
    simp only [bsome]

end Go.Proofs.Ytfnngpfkcnfhiaa.Pure
