/- The pure statement of FnExactKitchenValid is proved: the program's KitchenValid is the reference's, and the argument stays as it is. Conditions: none. -/
import Derived.Test.YtldenfgphnhaiaaPAllx0
import Derived.Test.YtldenfgphnhaiaaPAllx3
import Derived.Test.YtldenfgphnhaiaaPAllx4
import Derived.Test.YtldenfgphnhaiaaPAllx24
import Derived.Test.YtldenfgphnhaiaaBbase
import Derived.Test.YtldenfgphnhaiaaBwithin
import Derived.Test.YtldenfgphnhaiaaBints
import Derived.Test.YtldenfgphnhaiaaBtoint
import Derived.Test.YtldenfgphnhaiaaBeqint
import Derived.Test.YtldenfgphnhaiaaBkitchen
namespace Go.Proofs.Ytldenfgphnhaiaa.Pure
open Go.RowKit Go.Proofs.Ytldenfgphnhaiaa.PAll Go.Proofs.Ytldenfgphnhaiaa.B Go.Proofs.YtldenfgphnhaiaaW.PrintWords Go.Proofs.YtldenfgphnhaiaaW.PrintLast
set_option linter.unusedVariables false
set_option linter.unusedSimpArgs false

theorem FnExactKitchenValid (a0 : S25) (ok0 : (Lit.int .i64 a0.f0).wf = true ∧ (a0.f1.length ≤ maxLen ∧ ∀ y ∈ a0.f1, (Lit.int .i64 y).wf = true)) : ∃ k, laws_FnExactKitchenValid.f k a0.f0 a0.f1 = some true := by
  have hl0 := ok0.2.1
  obtain ⟨a0_0, l0_1⟩ := a0
  dsimp only at hl0 ⊢
  unfold maxLen at hl0
  by_cases h : 1048576 - (l0_1.length : Int) < 0
  · refine ⟨0, ?_⟩
    unfold laws_FnExactKitchenValid.f laws_szKitchen.f laws_szIntS.f
    rw [w64 _ (by omega) (by omega), if_pos h]
    simp only [bsome]
    rw [if_pos (by omega)]
    simp only [bsome]
    rw [if_pos (by omega)]
  · obtain ⟨k, hk⟩ : ∃ k : Nat, l0_1.length + 4 ≤ k := ⟨_, Nat.le_refl _⟩
    refine ⟨k, ?_⟩
    unfold laws_FnExactKitchenValid.f laws_szKitchen.f laws_szIntS.f laws_toKitchen.f laws_eqKitchen.f
    rw [w64 _ (by omega) (by omega), if_neg h]
    simp only [bsome]
    rw [if_neg h]
    simp only [bsome]
    rw [if_neg h, laws_toIntS_eq l0_1 (by omega) k (by omega)]
    simp only [bsome]
    rw [spec_KitchenValid_eq a0_0 l0_1 (by omega) k (by omega)]
    simp only [bsome]
    rw [impl_KitchenValid_eq a0_0 l0_1 (by omega) k (by omega)]
    simp only [bsome, bne_self_eq_false, Bool.false_eq_true, if_false, if_true]
    rw [laws_eqIntS_refl l0_1 (by omega) k (by omega)]
    simp only [bsome, if_true]

end Go.Proofs.Ytldenfgphnhaiaa.Pure
