/- The pure statement of FnExactStoreValid is proved: the program's StoreValid is the reference's, and the argument stays as it is. Conditions: none. -/
import Derived.Test.YtcopoankphebcaaPAllx0
import Derived.Test.YtcopoankphebcaaPAllx17
import Derived.Test.YtcopoankphebcaaBbase
import Derived.Test.YtcopoankphebcaaBwithin
import Derived.Test.YtcopoankphebcaaBlots
import Derived.Test.YtcopoankphebcaaBstorespec
import Derived.Test.YtcopoankphebcaaBstoreimpl
import Derived.Test.YtcopoankphebcaaBxlots
namespace Go.Proofs.Ytcopoankphebcaa.Pure
open Go.RowKit Go.Proofs.Ytcopoankphebcaa.PAll Go.Proofs.Ytcopoankphebcaa.B Go.Proofs.YtcopoankphebcaaW.PrintWords Go.Proofs.YtcopoankphebcaaW.PrintLast
set_option linter.unusedVariables false
set_option linter.unusedSimpArgs false

theorem FnExactStoreValid (l0 : List S24) (ok0 : l0.length ≤ maxLen ∧ ∀ y ∈ l0, (Lit.int .i64 y.f0).wf = true ∧ (Lit.int .i64 y.f1).wf = true ∧ (Lit.int .i64 y.f2).wf = true) : ∃ k, laws_FnExactStoreValid.f k l0 = some true := by
  rcases sz_lots l0 ok0.1 with ⟨e, _⟩ | ⟨r, hr, e, hl⟩
  · exact ⟨0, by unfold laws_FnExactStoreValid.f; rw [e]; simp only [bsome]; rw [if_pos (by omega)]⟩
  · have hc := cvLots_len l0
    obtain ⟨k, hk⟩ : ∃ k : Nat, l0.length + 4 ≤ k := ⟨_, Nat.le_refl _⟩
    refine ⟨k, ?_⟩
    unfold laws_FnExactStoreValid.f
    rw [e]
    simp only [bsome]
    rw [if_neg (by omega), laws_toLotS_eq l0 (by omega) k (by omega)]
    simp only [bsome]
    rw [spec_StoreValid_eq _ (by omega) k (by omega), impl_StoreValid_eq _ (by omega) k (by omega), laws_eqLotS_refl _ (by omega) k (by omega)]
    simp only [bsome, bne_self_eq_false, Bool.false_eq_true, if_false, if_true]

end Go.Proofs.Ytcopoankphebcaa.Pure
