/- The pure statement of FnExactStoreTake is proved: the program's StoreTake is the reference's, the argument stays as it is, and what it gives is its own. Conditions: none. -/
import Derived.Test.YtcopoankphebcaaPAllx0
import Derived.Test.YtcopoankphebcaaPAllx23
import Derived.Test.YtcopoankphebcaaBbase
import Derived.Test.YtcopoankphebcaaBwithin
import Derived.Test.YtcopoankphebcaaBints
import Derived.Test.YtcopoankphebcaaBlots
import Derived.Test.YtcopoankphebcaaBstorespec
import Derived.Test.YtcopoankphebcaaBstoreimpl
import Derived.Test.YtcopoankphebcaaBwithin
import Derived.Test.YtcopoankphebcaaBstorehas
import Derived.Test.YtcopoankphebcaaBtake
import Derived.Test.YtcopoankphebcaaBxlots
import Derived.Test.YtcopoankphebcaaBmarklots
namespace Go.Proofs.Ytcopoankphebcaa.Pure
open Go.RowKit Go.Proofs.Ytcopoankphebcaa.PAll Go.Proofs.Ytcopoankphebcaa.B Go.Proofs.YtcopoankphebcaaW.PrintWords Go.Proofs.YtcopoankphebcaaW.PrintLast
set_option linter.unusedVariables false
set_option linter.unusedSimpArgs false

theorem FnExactStoreTake (l0 : List S24) (ok0 : l0.length ≤ maxLen ∧ ∀ y ∈ l0, (Lit.int .i64 y.f0).wf = true ∧ (Lit.int .i64 y.f1).wf = true ∧ (Lit.int .i64 y.f2).wf = true) (a1 : Int) (ok1 : (Lit.int .i64 a1).wf = true) (a2 : Int) (ok2 : (Lit.int .i64 a2).wf = true) (a3 : Int) (ok3 : (Lit.int .i64 a3).wf = true) : ∃ k, laws_FnExactStoreTake.f k l0 a1 a2 a3 = some true := by
  rcases sz_lots l0 ok0.1 with ⟨e, _⟩ | ⟨r, hr, e, hl⟩
  · exact ⟨0, by unfold laws_FnExactStoreTake.f; rw [e]; simp only [bsome]; rw [if_pos (by omega)]⟩
  · have hc := cvLots_len l0
    obtain ⟨k, hk⟩ : ∃ k : Nat, 3 * l0.length + 40 ≤ k := ⟨_, Nat.le_refl _⟩
    refine ⟨k + 1 + 1 + 1, ?_⟩
    have tl := takeV_len (cvLots l0) a1 a2 a3
    unfold laws_FnExactStoreTake.f
    rw [e]
    simp only [bsome]
    rw [if_neg (by omega), laws_toLotS_eq l0 (by omega) _ (by omega)]
    simp only [bsome]
    rw [spec_StoreTake_eq _ (by omega) a1 a2 a3 _ (by omega), impl_StoreTake_eq _ (by omega) a1 a2 a3 _ (by omega)]
    simp only [bsome]
    generalize hD : takeV (cvLots l0) a1 a2 a3 = D at tl
    rw [laws_eqLotS_refl _ (by omega) _ (by omega)]
    simp only [bsome, if_true]
    rw [laws_eqLotS_refl _ (by omega) _ (by omega)]
    simp only [bsome, if_true, bne_self_eq_false, Bool.not_true]
    generalize hk2 : k + 1 + 1 = k2
    rw [laws_FnExactStoreTake.j0, if_neg (by simp), laws_toLotS_eq l0 (by omega) _ (by omega)]
    simp only [bsome]
    rw [laws_eqLotS_refl _ (by omega) _ (by omega)]
    simp only [bsome, if_true]
    rw [laws_markLotS_eq _ (by omega) 1 (by omega) (by omega) _ (by omega)]
    simp only [bsome]
    rw [if_neg (by omega), laws_eqLotS_refl _ (by omega) _ (by omega)]
    simp only [bsome, if_true]
    rw [laws_eqLotS_refl _ (by omega) _ (by omega)]
    simp only [bsome, if_true, bne_self_eq_false, Bool.not_true]
    subst hk2
    generalize hk1 : k + 1 = k1
    rw [laws_FnExactStoreTake.j1, if_neg (by simp), laws_markLotS_eq _ (by omega) 1 (by omega) (by omega) _ (by omega)]
    simp only [bsome]
    rw [laws_markLotS_eq _ (by omega) _ (by omega) (by omega) _ (by omega)]
    simp only [bsome]
    rw [laws_heldLotS_eq _ (by omega) 1 (by omega) (by omega) _ (by omega)]
    simp only [bsome]
    rw [if_neg (by omega), laws_heldLotS_eq _ (by omega) _ (by omega) (by omega) _ (by omega)]
    simp only [bsome]
    rw [if_neg (by omega), if_pos trivial, laws_toLotS_eq l0 (by omega) _ (by omega)]
    simp only [bsome]
    rw [impl_StoreTake_eq _ (by omega) a1 a2 a3 _ (by omega), hD]
    simp only [bsome]
    rw [laws_eqLotS_refl _ (by omega) _ (by omega)]
    simp only [bsome, if_true]
    rw [laws_eqLotS_refl _ (by omega) _ (by omega)]
    simp only [bsome, if_true, bne_self_eq_false, Bool.not_true]
    subst hk1
    rw [laws_FnExactStoreTake.j2, if_neg (by simp), laws_heldLotS_eq _ (by omega) 1 (by omega) (by omega) _ (by omega)]
    simp only [bsome]
    rw [if_neg (by omega), laws_heldLotS_eq _ (by omega) _ (by omega) (by omega) _ (by omega)]
    simp only [bsome]
    rw [if_neg (by omega), if_pos trivial]

end Go.Proofs.Ytcopoankphebcaa.Pure
