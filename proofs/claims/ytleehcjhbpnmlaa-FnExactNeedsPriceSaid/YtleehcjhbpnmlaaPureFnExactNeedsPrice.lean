/- The pure statement of FnExactNeedsPrice is proved: the program's NeedsPrice is the reference's, and the arguments stay as they are. Conditions: none. -/
import Derived.Test.YtleehcjhbpnmlaaPAllx0
import Derived.Test.YtleehcjhbpnmlaaPAllx16
import Derived.Test.YtleehcjhbpnmlaaBbase
import Derived.Test.YtleehcjhbpnmlaaBfoods
import Derived.Test.YtleehcjhbpnmlaaBneedsval
import Derived.Test.YtleehcjhbpnmlaaBneedsprice
import Derived.Test.YtleehcjhbpnmlaaBxfoods
import Derived.Test.YtleehcjhbpnmlaaBtoint
import Derived.Test.YtleehcjhbpnmlaaBeqint
namespace Go.Proofs.Ytleehcjhbpnmlaa.Pure
open Go.RowKit Go.Proofs.Ytleehcjhbpnmlaa.PAll Go.Proofs.Ytleehcjhbpnmlaa.B Go.Proofs.YtleehcjhbpnmlaaW.PrintWords Go.Proofs.YtleehcjhbpnmlaaW.PrintLast
set_option linter.unusedVariables false
set_option linter.unusedSimpArgs false

theorem FnExactNeedsPrice (l0 : List S49) (ok0 : l0.length ≤ maxLen ∧ ∀ y ∈ l0, (Lit.int .i64 y.f0).wf = true ∧ (Lit.int .i64 y.f1).wf = true ∧ (Lit.int .i64 y.f2).wf = true ∧ (Lit.int .i64 y.f3).wf = true ∧ (Lit.int .i64 y.f4).wf = true ∧ (Lit.int .i64 y.f5).wf = true) (l1 : List Int) (ok1 : l1.length ≤ maxLen ∧ ∀ y ∈ l1, (Lit.int .i64 y).wf = true) : ∃ k, laws_FnExactNeedsPrice.f k l0 l1 = some true := by
  by_cases h1 : (l1.length : Int) > 1048576
  · exact ⟨0, by unfold laws_FnExactNeedsPrice.f; rw [if_pos h1]⟩
  rcases sz_foods l0 ok0.1 with ⟨e, _⟩ | ⟨r, hr, e, hl⟩
  · exact ⟨0, by unfold laws_FnExactNeedsPrice.f; rw [if_neg h1, e]; simp only [bsome]; rw [if_pos (by omega)]⟩
  · obtain ⟨k, hk⟩ : ∃ k : Nat, 2 * l0.length + l1.length + 10 ≤ k := ⟨_, Nat.le_refl _⟩
    have hc := cvFoods_len l0
    refine ⟨k, ?_⟩
    unfold laws_FnExactNeedsPrice.f
    rw [if_neg h1, e]
    simp only [bsome]
    rw [if_neg (by omega), laws_toFoodS_eq l0 (by omega) k (by omega), laws_toIntS_eq l1 (by omega) k (by omega)]
    simp only [bsome]
    rw [spec_NeedsPrice_eq _ (by omega) _ (by omega) k (by omega), impl_NeedsPrice_eq _ (by omega) _ (by omega) k (by omega), laws_eqFoodS_refl _ (by omega) k (by omega), laws_eqIntS_refl _ (by omega) k (by omega)]
    simp only [bsome, if_true]

end Go.Proofs.Ytleehcjhbpnmlaa.Pure
