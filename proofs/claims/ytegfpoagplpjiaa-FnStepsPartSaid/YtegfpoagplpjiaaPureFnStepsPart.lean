/- The pure statement of FnStepsPart is proved: without the last step valid steps stay valid, and no step waits for itself. Conditions: none. -/
import Derived.Test.YtegfpoagplpjiaaPAllx0
import Derived.Test.YtegfpoagplpjiaaPAllx17
import Derived.Test.YtegfpoagplpjiaaBbase
import Derived.Test.YtegfpoagplpjiaaBpick
import Derived.Test.YtegfpoagplpjiaaBwithin
import Derived.Test.YtegfpoagplpjiaaBstepsv
import Derived.Test.YtegfpoagplpjiaaBdrawsteps
import Derived.Test.YtegfpoagplpjiaaBstepsb
import Derived.Test.YtegfpoagplpjiaaBdrawsvalid
import Derived.Test.YtegfpoagplpjiaaBprefix
import Derived.Test.YtegfpoagplpjiaaBsetstep
namespace Go.Proofs.Ytegfpoagplpjiaa.Pure
open Go.RowKit Go.Proofs.Ytegfpoagplpjiaa.PAll Go.Proofs.Ytegfpoagplpjiaa.B Go.Proofs.YtegfpoagplpjiaaW.PrintWords Go.Proofs.YtegfpoagplpjiaaW.PrintLast
set_option linter.unusedVariables false
set_option linter.unusedSimpArgs false

theorem FnStepsPart (l0 : List Int) (ok0 : CodeOk l0) : ∃ k, laws_FnStepsPart.f k l0 = some true := by
  by_cases h1 : (l0.length : Int) > 1048576
  · exact ⟨0, by unfold laws_FnStepsPart.f; rw [if_pos h1]⟩
  obtain ⟨l, hB, e⟩ := drawStepsValid_ok l0 ok0
  have hM := inner_of hB
  have hl := hB.1
  obtain ⟨k, hk⟩ : ∃ k : Nat, 2000 ≤ k := ⟨2000, Nat.le_refl _⟩
  refine ⟨k + 1, ?_⟩
  unfold laws_FnStepsPart.f
  rw [if_neg h1, e _ (by omega)]
  simp only [bsome]
  rw [impl_StepsValid_eq l 10 hM _ (by omega), spec_StepsValid_eq l 10 hM _ (by omega)]
  simp only [bsome, bne_self_eq_false, Bool.false_eq_true, if_false]
  by_cases hv : stepsV l = true
  · rw [if_pos hv, laws_FnStepsPart.j0]
    by_cases hn : (l.length : Int) = 0
    · rw [if_pos (by simpa using hn)]
      simp
    · have hx : stepsV (l.set (0 : Int).toNat (⟨(rd_T28 l 0).f0, (rd_T28 l 0).f1, (rd_T28 l 0).f2, [0]⟩ : S28)) = false := by
        refine Bool.eq_false_iff.2 fun hx => ?_
        obtain ⟨_, h⟩ := (stepsV_iff _).1 hx
        have q := h 0 (by omega) (by rw [List.length_set]; omega)
        rw [rdStep_set l 0 _ (by omega) (by omega) 0 (by omega), if_pos rfl] at q
        have := (q.2.2.2 0 (by omega) (show (0 : Int) < (([0] : List Int).length : Int) by decide)).1
        have z : rd [0] 0 = 0 := rfl
        omega
      have hM' : Inner (l.set (0 : Int).toNat (⟨(rd_T28 l 0).f0, (rd_T28 l 0).f1, (rd_T28 l 0).f2, [0]⟩ : S28)) 10 := by
        refine ⟨by rw [List.length_set]; omega, by omega, fun i i0 hi => ?_⟩
        rw [List.length_set] at hi
        rw [rdStep_set l 0 _ (by omega) (by omega) i i0]
        split
        · show ([0] : List Int).length ≤ 10
          decide
        · exact hM.2.2 i i0 hi
      have tl : (l.take ((l.length : Int) - 1).toNat).length ≤ 9 := by rw [List.length_take]; omega
      rw [if_neg (by simpa using hn)]
      simp only [bsome, List.nil_append, List.length_nil]
      rw [if_pos (by omega), if_pos (by omega), w64 _ (by omega) (by omega), if_pos (by omega), if_pos (by omega), impl_StepsValid_eq _ 10 (inner_take hM _ (by omega)) _ (by omega), stepsV_take l _ (by omega) hv]
      simp only [bsome, if_true]
      rw [impl_StepsValid_eq _ 10 hM' _ (by rw [List.length_set]; omega), hx]
      rfl
  · rw [if_neg hv, laws_FnStepsPart.j0, if_pos rfl]
    simp

end Go.Proofs.Ytegfpoagplpjiaa.Pure
