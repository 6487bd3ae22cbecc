/- The pure statement of FnKitchenPart is proved: a kitchen without a tool's number, or with less than no hands, is not valid. Conditions: none. -/
import Derived.Test.YtldenfgphnhaiaaPAllx0
import Derived.Test.YtldenfgphnhaiaaPAllx23
import Derived.Test.YtldenfgphnhaiaaBbase
import Derived.Test.YtldenfgphnhaiaaBpick
import Derived.Test.YtldenfgphnhaiaaBwithin
import Derived.Test.YtldenfgphnhaiaaBkitchen
import Derived.Test.YtldenfgphnhaiaaBdrawkitchen
import Derived.Test.YtldenfgphnhaiaaBdrawkval
namespace Go.Proofs.Ytldenfgphnhaiaa.Pure
open Go.RowKit Go.Proofs.Ytldenfgphnhaiaa.PAll Go.Proofs.Ytldenfgphnhaiaa.B Go.Proofs.YtldenfgphnhaiaaW.PrintWords Go.Proofs.YtldenfgphnhaiaaW.PrintLast
set_option linter.unusedVariables false
set_option linter.unusedSimpArgs false

theorem FnKitchenPart (l0 : List Int) (ok0 : CodeOk l0) : ∃ k, laws_FnKitchenPart.f k l0 = some true := by
  by_cases h1 : (l0.length : Int) > 1048576
  · exact ⟨0, by unfold laws_FnKitchenPart.f; rw [if_pos h1]⟩
  obtain ⟨h, t, ht, e⟩ := drawKitchenValid_ok l0 ok0
  obtain ⟨k, hk⟩ : ∃ k : Nat, 100 ≤ k := ⟨100, Nat.le_refl _⟩
  refine ⟨k + 1, ?_⟩
  unfold laws_FnKitchenPart.f
  rw [if_neg h1, e _ (by omega)]
  simp only [bsome]
  rw [impl_KitchenValid_eq h t (by omega) _ (by omega), spec_KitchenValid_eq h t (by omega) _ (by omega)]
  simp only [bsome, bne_self_eq_false, Bool.false_eq_true, if_false]
  rw [laws_FnKitchenPart.j0]
  by_cases hv : kitchenV h t = true
  · have hv' := hv
    unfold kitchenV at hv'
    rw [Bool.and_eq_true, Bool.and_eq_true, decide_eq_true_eq, decide_eq_true_eq] at hv'
    have dl : (t.drop (1 : Int).toNat).length = 3 := by rw [List.length_drop]; omega
    have f1 : kitchenV h (t.drop (1 : Int).toNat) = false := by
      unfold kitchenV
      rw [decide_eq_false (show ¬ (((t.drop (1 : Int).toNat).length : Int) = 4) by omega), Bool.and_false, Bool.and_false]
    have f2 : kitchenV (-1) t = false := by
      unfold kitchenV
      rw [decide_eq_false (show ¬ ((0 : Int) ≤ -1 ∧ (-1 : Int) ≤ 9) by omega), Bool.false_and, Bool.and_false]
    rw [hv, if_neg (by simp), if_pos (by omega), impl_KitchenValid_eq h _ (by omega) _ (by omega), f1]
    simp only [bsome, Bool.false_eq_true, if_false]
    rw [impl_KitchenValid_eq (-1) t (by omega) _ (by omega), f2]
    rfl
  · rw [Bool.eq_false_iff.2 hv, if_pos (by simp)]
    simp

end Go.Proofs.Ytldenfgphnhaiaa.Pure
