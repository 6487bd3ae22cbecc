/- Lemmas about the printed functions (prefix). -/
import Derived.Test.YtegfpoagplpjiaaPAllx0
import Derived.Test.YtegfpoagplpjiaaBbase
import Derived.Test.YtegfpoagplpjiaaBstepsv
namespace Go.Proofs.Ytegfpoagplpjiaa.B
open Go.RowKit Go.Proofs.Ytegfpoagplpjiaa.PAll Go.Proofs.YtegfpoagplpjiaaW.PrintWords Go.Proofs.YtegfpoagplpjiaaW.PrintLast
set_option linter.unusedVariables false
set_option linter.unusedSimpArgs false

theorem rdStep_take (l : List S28) (m : Nat) (i : Int) (h0 : 0 ≤ i) (hi : i < m) : rd_T28 (l.take m) i = rd_T28 l i := by
  unfold rd_T28
  rw [List.getD_eq_getElem?_getD, List.getD_eq_getElem?_getD, List.getElem?_take_of_lt (by omega)]
theorem stepsV_take (l : List S28) (m : Nat) (hm : m ≤ l.length) (hv : stepsV l = true) : stepsV (l.take m) = true := by
  obtain ⟨h8, h⟩ := (stepsV_iff l).1 hv
  have hl : (l.take m).length = m := by rw [List.length_take]; omega
  refine (stepsV_iff _).2 ⟨by omega, fun i h0 hi => ?_⟩
  rw [rdStep_take l m i h0 (by omega)]
  exact h i h0 (by omega)
theorem inner_take {l : List S28} {M : Nat} (hM : Inner l M) (m : Nat) (hm : m ≤ l.length) : Inner (l.take m) M := by
  have hl : (l.take m).length = m := by rw [List.length_take]; omega
  refine ⟨by have := hM.1; omega, hM.2.1, fun i h0 hi => ?_⟩
  rw [rdStep_take l m i h0 (by omega)]
  exact hM.2.2 i h0 (by omega)

end Go.Proofs.Ytegfpoagplpjiaa.B
