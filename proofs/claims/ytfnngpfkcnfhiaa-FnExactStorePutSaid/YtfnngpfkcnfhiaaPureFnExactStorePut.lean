/- The pure statement of FnExactStorePut is proved: the program's StorePut is the reference's, the argument stays as it is, and what it gives is its own. Conditions: none. -/
import Derived.Test.YtfnngpfkcnfhiaaPAllx0
import Derived.Test.YtfnngpfkcnfhiaaPAllx5
import Derived.Test.YtfnngpfkcnfhiaaPAllx17
import Derived.Test.YtfnngpfkcnfhiaaBbase
import Derived.Test.YtfnngpfkcnfhiaaBints
import Derived.Test.YtfnngpfkcnfhiaaBlots
import Derived.Test.YtfnngpfkcnfhiaaBstorespec
import Derived.Test.YtfnngpfkcnfhiaaBwithin
import Derived.Test.YtfnngpfkcnfhiaaBstoreimpl
import Derived.Test.YtfnngpfkcnfhiaaBputdef
import Derived.Test.YtfnngpfkcnfhiaaBputspec
import Derived.Test.YtfnngpfkcnfhiaaBputimpl
import Derived.Test.YtfnngpfkcnfhiaaBxlots
import Derived.Test.YtfnngpfkcnfhiaaBmarklots
namespace Go.Proofs.Ytfnngpfkcnfhiaa.Pure
open Go.RowKit Go.Proofs.Ytfnngpfkcnfhiaa.PAll Go.Proofs.Ytfnngpfkcnfhiaa.B Go.Proofs.YtfnngpfkcnfhiaaW.PrintWords Go.Proofs.YtfnngpfkcnfhiaaW.PrintLast
set_option linter.unusedVariables false
set_option linter.unusedSimpArgs false

theorem FnExactStorePut (l0 : List S24) (ok0 : l0.length ≤ maxLen ∧ ∀ y ∈ l0, (Lit.int .i64 y.f0).wf = true ∧ (Lit.int .i64 y.f1).wf = true ∧ (Lit.int .i64 y.f2).wf = true) (a1 : S24) (ok1 : (Lit.int .i64 a1.f0).wf = true ∧ (Lit.int .i64 a1.f1).wf = true ∧ (Lit.int .i64 a1.f2).wf = true) : ∃ k, laws_FnExactStorePut.f k l0 a1.f0 a1.f1 a1.f2 = some true := by
  rcases sz_lots l0 ok0.1 with ⟨e, _⟩ | ⟨r, hr, e, hl⟩
  · exact ⟨0, by unfold laws_FnExactStorePut.f; rw [e]; simp only [bsome]; rw [if_pos (by omega)]⟩
  · have hc := cvLots_len l0
    obtain ⟨k, hk⟩ : ∃ k : Nat, 3 * l0.length + 40 ≤ k := ⟨_, Nat.le_refl _⟩
    refine ⟨k + 1 + 1 + 1, ?_⟩
    have tl := putV_len (cvLots l0) (⟨a1.f0, a1.f1, a1.f2⟩ : S30)
    have es := fun k hk => spec_StorePut_eq (cvLots l0) (by omega) (⟨a1.f0, a1.f1, a1.f2⟩ : S30) k hk
    have ei := fun k hk => impl_StorePut_eq (cvLots l0) (by omega) (⟨a1.f0, a1.f1, a1.f2⟩ : S30) k hk
    have toL : laws_toLot.f a1.f0 a1.f1 a1.f2 = some (a1.f0, a1.f1, a1.f2) := rfl
    dsimp only at es ei
    unfold laws_FnExactStorePut.f
    rw [e]
    simp only [bsome]
    rw [if_neg (by omega), laws_toLotS_eq l0 (by omega) _ (by omega), toL]
    simp only [bsome]
    rw [es _ (by omega), ei _ (by omega)]
    simp only [bsome]
    generalize hD : putV (cvLots l0) (⟨a1.f0, a1.f1, a1.f2⟩ : S30) = D at tl
    rw [laws_eqLotS_refl _ (by omega) _ (by omega)]
    simp only [bsome, if_true, bne_self_eq_false]
    generalize hk2 : k + 1 + 1 = k2
    rw [laws_FnExactStorePut.j0, if_neg (by simp), laws_toLotS_eq l0 (by omega) _ (by omega)]
    simp only [bsome]
    rw [laws_eqLotS_refl _ (by omega) _ (by omega)]
    simp only [bsome, if_true]
    rw [laws_markLotS_eq _ (by omega) 1 (by omega) (by omega) _ (by omega)]
    simp only [bsome]
    rw [if_neg (by omega), laws_eqLotS_refl _ (by omega) _ (by omega)]
    simp only [bsome, if_true, bne_self_eq_false]
    subst hk2
    generalize hk1 : k + 1 = k1
    rw [laws_FnExactStorePut.j1, if_neg (by simp), laws_markLotS_eq _ (by omega) 1 (by omega) (by omega) _ (by omega)]
    simp only [bsome]
    rw [laws_heldLotS_eq _ (by omega) 1 (by omega) (by omega) _ (by omega)]
    simp only [bsome]
    rw [if_neg (by omega), if_pos trivial, laws_toLotS_eq l0 (by omega) _ (by omega), toL]
    simp only [bsome]
    rw [ei _ (by omega), hD]
    simp only [bsome]
    rw [laws_eqLotS_refl _ (by omega) _ (by omega)]
    simp only [bsome, if_true, bne_self_eq_false]
    subst hk1
    rw [laws_FnExactStorePut.j2, if_neg (by simp), laws_heldLotS_eq _ (by omega) 1 (by omega) (by omega) _ (by omega)]
    simp only [bsome]
    rw [if_neg (by omega), if_pos trivial]

end Go.Proofs.Ytfnngpfkcnfhiaa.Pure
