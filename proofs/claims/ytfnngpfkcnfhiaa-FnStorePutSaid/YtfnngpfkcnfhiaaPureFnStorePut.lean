/- The pure statement of FnStorePut is proved: what is put in is there: the amounts of its food rise by it, others stay, and the store is valid. Conditions: none. -/
import Derived.Test.YtfnngpfkcnfhiaaPAllx0
import Derived.Test.YtfnngpfkcnfhiaaPAllx18
import Derived.Test.YtfnngpfkcnfhiaaBbase
import Derived.Test.YtfnngpfkcnfhiaaBwithin
import Derived.Test.YtfnngpfkcnfhiaaBpick
import Derived.Test.YtfnngpfkcnfhiaaBlots
import Derived.Test.YtfnngpfkcnfhiaaBstorespec
import Derived.Test.YtfnngpfkcnfhiaaBstoreimpl
import Derived.Test.YtfnngpfkcnfhiaaBstorehas
import Derived.Test.YtfnngpfkcnfhiaaBsumlots
import Derived.Test.YtfnngpfkcnfhiaaBdrawlot
import Derived.Test.YtfnngpfkcnfhiaaBsamelots
import Derived.Test.YtfnngpfkcnfhiaaBputdef
import Derived.Test.YtfnngpfkcnfhiaaBputspec
import Derived.Test.YtfnngpfkcnfhiaaBputimpl
import Derived.Test.YtfnngpfkcnfhiaaBputlaw
import Derived.Test.YtfnngpfkcnfhiaaBdrawput
namespace Go.Proofs.Ytfnngpfkcnfhiaa.Pure
open Go.RowKit Go.Proofs.Ytfnngpfkcnfhiaa.PAll Go.Proofs.Ytfnngpfkcnfhiaa.B Go.Proofs.YtfnngpfkcnfhiaaW.PrintWords Go.Proofs.YtfnngpfkcnfhiaaW.PrintLast
set_option linter.unusedVariables false
set_option linter.unusedSimpArgs false

theorem law_put_l0 (l : List S30) (hl : storeV l = true) (x : S30) (ok : okL x) (hp : storeV (putL x l) = true) : ∀ (d : Nat) (i : Int), 1 ≤ i → i + d = 21 → ∀ k, d + 60 ≤ k → laws_FnStorePut.l0 k l (putL x l) i x.f0 x.f1 x.f2 = some true := by
  obtain ⟨h12, hok, hs⟩ := (storeV_iff l).1 hl
  obtain ⟨g12, gok, gs⟩ := (storeV_iff _).1 hp
  have hx := ok.2.2
  have hm := ok_mild hok
  have sm := sumL_range l (fun z hz => by have := (hok z hz).2.2; omega)
  intro d
  induction d with
  | zero =>
    intro i i0 hi k hk
    obtain ⟨k, rfl, hk'⟩ := rounds1 (k := k) (B := 59) (by omega)
    rw [laws_FnStorePut.l0, if_neg (by omega), impl_StoreValid_eq _ (by omega) k (by omega), hp]
    simp only [bsome, if_true]
    rw [laws_sumLots_eq _ (by omega) (fun z hz => by have := (gok z hz).2.2; omega) k (by omega), laws_sumLots_eq _ (by omega) (fun z hz => by have := (hok z hz).2.2; omega) k (by omega)]
    simp only [bsome]
    rw [w64 _ (by omega) (by omega), put_sum x (by omega) l hm, beq_self_eq_true]
  | succ d ih =>
    intro i i0 hi k hk
    obtain ⟨k, rfl, hk'⟩ := rounds1 (k := k) (B := d + 60) (by omega)
    have hr := hasL_range i x.f1 l hok
    have ph := put_has x (by omega) i x.f1 l hm
    have e1 : hasV l i x.f1 = hasL i x.f1 l := by rw [hasV, if_pos hl]
    have e2 : hasV (putL x l) i x.f1 = hasL i x.f1 (putL x l) := by rw [hasV, if_pos hp]
    rw [laws_FnStorePut.l0, if_pos (by omega), impl_StoreHas_eq l (by omega) i x.f1 k (by omega), e1]
    simp only [bsome]
    by_cases c : i = x.f0
    · rw [if_pos c, impl_StoreHas_eq _ (by omega) i x.f1 k (by omega), e2]
      simp only [bsome]
      rw [w64 (hasL i x.f1 l + x.f2) (by omega) (by omega), if_pos (by rw [ph, if_pos ⟨c.symm, Int.le_refl _⟩]), w64 (i + 1) (by omega) (by omega)]
      exact ih (i + 1) (by omega) (by omega) k hk'
    · rw [if_neg c, impl_StoreHas_eq _ (by omega) i x.f1 k (by omega), e2]
      simp only [bsome]
      rw [if_pos (by rw [ph, if_neg (fun z => c z.1.symm)]; omega), w64 (i + 1) (by omega) (by omega)]
      exact ih (i + 1) (by omega) (by omega) k hk'
theorem FnStorePut (l0 : List Int) (ok0 : CodeOk l0) : ∃ k, laws_FnStorePut.f k l0 = some true := by
  by_cases h1 : (l0.length : Int) > 1048576
  · exact ⟨0, by unfold laws_FnStorePut.f; rw [if_pos h1]⟩
  obtain ⟨l, a, b, c, hl, e⟩ := drawStorePut_ok l0 ok0
  obtain ⟨k, hk⟩ : ∃ k : Nat, 1000 ≤ k := ⟨1000, Nat.le_refl _⟩
  have es := fun k hk => spec_StorePut_eq l (by omega) (⟨a, b, c⟩ : S30) k hk
  have ei := fun k hk => impl_StorePut_eq l (by omega) (⟨a, b, c⟩ : S30) k hk
  have tl := putV_len l (⟨a, b, c⟩ : S30)
  dsimp only at es ei
  refine ⟨k + 1, ?_⟩
  unfold laws_FnStorePut.f
  rw [if_neg h1, e _ (by omega)]
  simp only [bsome]
  rw [ei _ (by omega), es _ (by omega)]
  simp only [bsome, bne_self_eq_false, Bool.false_eq_true, if_false]
  rw [laws_sameLots_refl _ (by omega) _ (by omega)]
  simp only [bsome, if_true]
  rw [laws_FnStorePut.j0]
  by_cases v : storeV l = true ∧ okL (⟨a, b, c⟩ : S30) ∧ storeV (putL (⟨a, b, c⟩ : S30) l) = true
  · have pv : putV l (⟨a, b, c⟩ : S30) = (putL ⟨a, b, c⟩ l, true) := by rw [putV, if_pos v]
    rw [pv, if_neg (by simp)]
    exact law_put_l0 l v.1 ⟨a, b, c⟩ v.2.1 v.2.2 20 1 (by omega) (by omega) k (by omega)
  · have pv : putV l (⟨a, b, c⟩ : S30) = ([], false) := by rw [putV, if_neg v]
    rw [pv, if_pos (by simp), if_pos (by simp), laws_sameLots_refl _ (Nat.zero_le _) _ (by simp; omega)]
    simp only [bsome]

end Go.Proofs.Ytfnngpfkcnfhiaa.Pure
