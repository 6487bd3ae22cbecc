/- The pure statement of FnExactNeedsAdd is proved: the program's NeedsAdd is the reference's, its result is new memory, and the arguments stay as they are. Conditions: none. -/
import Derived.Test.YtleehcjhbpnmlaaPAllx0
import Derived.Test.YtleehcjhbpnmlaaPAllx10
import Derived.Test.YtleehcjhbpnmlaaPAllx11
import Derived.Test.YtleehcjhbpnmlaaPAllx21
import Derived.Test.YtleehcjhbpnmlaaBbase
import Derived.Test.YtleehcjhbpnmlaaBfoods
import Derived.Test.YtleehcjhbpnmlaaBneedsval
import Derived.Test.YtleehcjhbpnmlaaBneedsadd
import Derived.Test.YtleehcjhbpnmlaaBxfoods
import Derived.Test.YtleehcjhbpnmlaaBtoint
import Derived.Test.YtleehcjhbpnmlaaBeqint
import Derived.Test.YtleehcjhbpnmlaaBmarkint
import Derived.Test.YtleehcjhbpnmlaaBmarkany
import Derived.Test.YtleehcjhbpnmlaaBmarkfoods
namespace Go.Proofs.Ytleehcjhbpnmlaa.Pure
open Go.RowKit Go.Proofs.Ytleehcjhbpnmlaa.PAll Go.Proofs.Ytleehcjhbpnmlaa.B Go.Proofs.YtleehcjhbpnmlaaW.PrintWords Go.Proofs.YtleehcjhbpnmlaaW.PrintLast
set_option linter.unusedVariables false
set_option linter.unusedSimpArgs false

theorem FnExactNeedsAdd (l0 : List S49) (ok0 : l0.length ≤ maxLen ∧ ∀ y ∈ l0, (Lit.int .i64 y.f0).wf = true ∧ (Lit.int .i64 y.f1).wf = true ∧ (Lit.int .i64 y.f2).wf = true ∧ (Lit.int .i64 y.f3).wf = true ∧ (Lit.int .i64 y.f4).wf = true ∧ (Lit.int .i64 y.f5).wf = true) (l1 : List Int) (ok1 : l1.length ≤ maxLen ∧ ∀ y ∈ l1, (Lit.int .i64 y).wf = true) (l2 : List Int) (ok2 : l2.length ≤ maxLen ∧ ∀ y ∈ l2, (Lit.int .i64 y).wf = true) : ∃ k, laws_FnExactNeedsAdd.f k l0 l1 l2 = some true := by
  by_cases h1 : (l1.length : Int) > 1048576
  · exact ⟨0, by unfold laws_FnExactNeedsAdd.f; rw [if_pos h1]⟩
  by_cases h2 : (l2.length : Int) > 1048576
  · exact ⟨0, by unfold laws_FnExactNeedsAdd.f; rw [if_neg h1, if_pos h2]⟩
  rcases sz_foods l0 ok0.1 with ⟨e, _⟩ | ⟨r, hr, e, hl⟩
  · exact ⟨0, by unfold laws_FnExactNeedsAdd.f; rw [if_neg h1, if_neg h2, e]; simp only [bsome]; rw [if_pos (by omega)]⟩
  · obtain ⟨k, hk⟩ : ∃ k : Nat, 4 * l0.length + l1.length + l2.length + 10 ≤ k := ⟨_, Nat.le_refl _⟩
    have hc := cvFoods_len l0
    obtain ⟨g, hg⟩ : ∃ g, addV (cvFoods l0) l1 l2 = g := ⟨_, rfl⟩
    have hgl : g.1.length ≤ l1.length := by
      rw [← hg]
      exact addV_len _ _ _
    have es : ∀ q, 4 * l0.length + l1.length + l2.length + 4 ≤ q → spec_NeedsAdd.f q (cvFoods l0) l1 l2 = some g := fun q hq => by rw [spec_NeedsAdd_eq _ (by omega) _ (by omega) _ (by omega) q (by omega), hg]
    have ei : ∀ q, 4 * l0.length + l1.length + l2.length + 4 ≤ q → impl_NeedsAdd.f q (cvFoods l0) l1 l2 = some g := fun q hq => by rw [impl_NeedsAdd_eq _ (by omega) _ (by omega) _ (by omega) q (by omega), hg]
    obtain ⟨y, hy, hh⟩ := mark_held g.1 (by omega) (k + 1) (by omega)
    refine ⟨k + 1 + 1 + 1, ?_⟩
    unfold laws_FnExactNeedsAdd.f
    rw [if_neg h1, if_neg h2, e]
    simp only [bsome]
    rw [if_neg (by omega), laws_toFoodS_eq l0 (by omega) _ (by omega), laws_toIntS_eq l1 (by omega) _ (by omega), laws_toIntS_eq l2 (by omega) _ (by omega)]
    simp only [bsome]
    rw [es _ (by omega), ei _ (by omega)]
    simp only [bsome]
    rw [laws_eqIntS_refl _ (by omega) _ (by omega)]
    simp only [bsome, if_true, bne_self_eq_false]
    rw [laws_FnExactNeedsAdd.j0, if_neg (by simp), laws_toFoodS_eq l0 (by omega) _ (by omega)]
    simp only [bsome]
    rw [laws_eqFoodS_refl _ (by omega) _ (by omega)]
    simp only [bsome, if_true]
    rw [laws_toIntS_eq l1 (by omega) _ (by omega)]
    simp only [bsome]
    rw [laws_eqIntS_refl l1 (by omega) _ (by omega)]
    simp only [bsome, if_true]
    rw [laws_toIntS_eq l2 (by omega) _ (by omega)]
    simp only [bsome]
    rw [laws_eqIntS_refl l2 (by omega) _ (by omega)]
    simp only [bsome, if_true]
    obtain ⟨y1, m1⟩ := laws_markFoodS_ok (cvFoods l0) (by omega) (k + 1 + 1) (by omega)
    rw [m1]
    simp only [bsome]
    obtain ⟨y2, m2⟩ := laws_markIntS_any l1 (by omega) (1 + 6 * ((cvFoods l0).length : Int)) (by omega) (by omega) (k + 1 + 1) (by omega)
    rw [m2]
    simp only [bsome]
    obtain ⟨y3, m3⟩ := laws_markIntS_any l2 (by omega) (1 + 6 * ((cvFoods l0).length : Int) + l1.length) (by omega) (by omega) (k + 1 + 1) (by omega)
    rw [m3]
    simp only [bsome]
    rw [if_neg (by omega), laws_eqIntS_refl _ (by omega) _ (by omega)]
    simp only [bsome, if_true, bne_self_eq_false]
    rw [laws_FnExactNeedsAdd.j1, if_neg (by simp), hy]
    simp only [bsome]
    rw [hh _ (by omega)]
    simp only [bsome, if_true]
    rw [if_neg (by omega), laws_toFoodS_eq l0 (by omega) _ (by omega), laws_toIntS_eq l1 (by omega) _ (by omega), laws_toIntS_eq l2 (by omega) _ (by omega)]
    simp only [bsome]
    rw [ei _ (by omega)]
    simp only [bsome]
    rw [laws_eqIntS_refl _ (by omega) _ (by omega)]
    simp only [bsome, if_true, bne_self_eq_false]
    rw [laws_FnExactNeedsAdd.j2, if_neg (by simp), hh _ (by omega)]
    simp only [bsome, if_true]
    rw [if_neg (by omega)]

end Go.Proofs.Ytleehcjhbpnmlaa.Pure
