/- The pure statement of FnExactStoreHas is proved: the program's StoreHas is the reference's, and the argument stays as it is. Conditions: none. -/
import Derived.Test.YtcopoankphebcaaPAllx0
import Derived.Test.YtcopoankphebcaaPAllx18
import Derived.Test.YtcopoankphebcaaBbase
import Derived.Test.YtcopoankphebcaaBwithin
import Derived.Test.YtcopoankphebcaaBlots
import Derived.Test.YtcopoankphebcaaBstorespec
import Derived.Test.YtcopoankphebcaaBstoreimpl
import Derived.Test.YtcopoankphebcaaBstorehas
import Derived.Test.YtcopoankphebcaaBxlots
namespace Go.Proofs.Ytcopoankphebcaa.Pure
open Go.RowKit Go.Proofs.Ytcopoankphebcaa.PAll Go.Proofs.Ytcopoankphebcaa.B Go.Proofs.YtcopoankphebcaaW.PrintWords Go.Proofs.YtcopoankphebcaaW.PrintLast
set_option linter.unusedVariables false
set_option linter.unusedSimpArgs false

theorem FnExactStoreHas (l0 : List S24) (ok0 : l0.length ≤ maxLen ∧ ∀ y ∈ l0, (Lit.int .i64 y.f0).wf = true ∧ (Lit.int .i64 y.f1).wf = true ∧ (Lit.int .i64 y.f2).wf = true) (a1 : Int) (ok1 : (Lit.int .i64 a1).wf = true) (a2 : Int) (ok2 : (Lit.int .i64 a2).wf = true) : ∃ k, laws_FnExactStoreHas.f k l0 a1 a2 = some true := by
  rcases sz_lots l0 ok0.1 with ⟨e, _⟩ | ⟨r, hr, e, hl⟩
  · exact ⟨0, by unfold laws_FnExactStoreHas.f; rw [e]; simp only [bsome]; rw [if_pos (by omega)]⟩
  · have hc := cvLots_len l0
    obtain ⟨k, hk⟩ : ∃ k : Nat, l0.length + 4 ≤ k := ⟨_, Nat.le_refl _⟩
    refine ⟨k, ?_⟩
    unfold laws_FnExactStoreHas.f
    rw [e]
    simp only [bsome]
    rw [if_neg (by omega), laws_toLotS_eq l0 (by omega) k (by omega)]
    simp only [bsome]
    rw [spec_StoreHas_eq _ (by omega) a1 a2 k (by omega), impl_StoreHas_eq _ (by omega) a1 a2 k (by omega), laws_eqLotS_refl _ (by omega) k (by omega)]
    simp only [bsome, if_true]

end Go.Proofs.Ytcopoankphebcaa.Pure
