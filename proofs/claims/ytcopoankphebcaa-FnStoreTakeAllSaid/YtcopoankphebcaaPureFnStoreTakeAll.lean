/- The pure statement of FnStoreTakeAll is proved: all that is there can be taken, one more cannot, and nothing stays. Conditions: none. -/
import Derived.Test.YtcopoankphebcaaPAllx0
import Derived.Test.YtcopoankphebcaaPAllx21
import Derived.Test.YtcopoankphebcaaBbase
import Derived.Test.YtcopoankphebcaaBwithin
import Derived.Test.YtcopoankphebcaaBpick
import Derived.Test.YtcopoankphebcaaBlots
import Derived.Test.YtcopoankphebcaaBstorespec
import Derived.Test.YtcopoankphebcaaBstoreimpl
import Derived.Test.YtcopoankphebcaaBstorehas
import Derived.Test.YtcopoankphebcaaBtake
import Derived.Test.YtcopoankphebcaaBsumlots
import Derived.Test.YtcopoankphebcaaBtakelaw
import Derived.Test.YtcopoankphebcaaBdrawlot
import Derived.Test.YtcopoankphebcaaBdrawshas
namespace Go.Proofs.Ytcopoankphebcaa.Pure
open Go.RowKit Go.Proofs.Ytcopoankphebcaa.PAll Go.Proofs.Ytcopoankphebcaa.B Go.Proofs.YtcopoankphebcaaW.PrintWords Go.Proofs.YtcopoankphebcaaW.PrintLast
set_option linter.unusedVariables false
set_option linter.unusedSimpArgs false

theorem FnStoreTakeAll (l0 : List Int) (ok0 : CodeOk l0) : ∃ k, laws_FnStoreTakeAll.f k l0 = some true := by
  by_cases h1 : (l0.length : Int) > 1048576
  · exact ⟨0, by unfold laws_FnStoreTakeAll.f; rw [if_pos h1]⟩
  obtain ⟨l, id, day, hl, hd, e⟩ := drawStoreHas_ok l0 ok0
  obtain ⟨k, hk⟩ : ∃ k : Nat, 1000 ≤ k := ⟨1000, Nat.le_refl _⟩
  refine ⟨k + 1, ?_⟩
  unfold laws_FnStoreTakeAll.f
  rw [if_neg h1, e _ (by omega)]
  simp only [bsome]
  rw [impl_StoreHas_eq l (by omega) _ _ _ (by omega), spec_StoreHas_eq l (by omega) _ _ _ (by omega)]
  simp only [bsome, if_true]
  rw [laws_FnStoreTakeAll.j0]
  by_cases hv : storeV l = true
  · obtain ⟨h12, h2, h3⟩ := (storeV_iff l).1 hv
    have r := hasL_range id day l h2
    have s := takeL_sums id day l (hasL id day l) r.1 h2 (Int.le_refl _)
    have tl := (takeL_len id day l (hasL id day l)).1
    have tv := takeL_valid l hv id day (hasL id day l) r.1
    rw [hasV, if_pos hv, decide_eq_false (by omega), if_neg (by simp), impl_StoreTake_eq l (by omega) id _ day k (by omega), w64 (hasL id day l + 1) (by omega) (by omega)]
    simp only [bsome]
    rw [impl_StoreTake_eq l (by omega) id _ day k (by omega)]
    simp only [bsome]
    have t1 : takeV l id (hasL id day l) day = ((takeL id day (hasL id day l) l).1, (takeL id day (hasL id day l) l).2, true) := by rw [takeV, if_pos ⟨hv, ⟨r.1, by omega⟩, Int.le_refl _⟩]
    have t2 : takeV l id (hasL id day l + 1) day = ([], [], false) := by rw [takeV, if_neg (fun h => by have := h.2.2; omega)]
    rw [t1, t2]
    dsimp only
    rw [if_pos rfl, if_neg (by simp), impl_StoreHas_eq _ (by omega) id day k (by omega)]
    simp only [bsome]
    rw [hasV, if_pos tv, s.1, Int.sub_self]
    rfl
  · rw [hasV, if_neg hv]
    simp

end Go.Proofs.Ytcopoankphebcaa.Pure
