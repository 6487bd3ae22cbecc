/- Lemmas about the printed functions (setstep). -/
import Derived.Test.YtegfpoagplpjiaaPAllx0
import Derived.Test.YtegfpoagplpjiaaBbase
import Derived.Test.YtegfpoagplpjiaaBstepsv
namespace Go.Proofs.Ytegfpoagplpjiaa.B
open Go.RowKit Go.Proofs.Ytegfpoagplpjiaa.PAll Go.Proofs.YtegfpoagplpjiaaW.PrintWords Go.Proofs.YtegfpoagplpjiaaW.PrintLast
set_option linter.unusedVariables false
set_option linter.unusedSimpArgs false

theorem rdStep_set (l : List S28) (m : Int) (v : S28) (h0 : 0 ≤ m) (h1 : m < l.length) (j : Int) (hj : 0 ≤ j) : rd_T28 (l.set m.toNat v) j = if j = m then v else rd_T28 l j := by
  unfold rd_T28
  rw [List.getD_eq_getElem?_getD, List.getD_eq_getElem?_getD, List.getElem?_set]
  by_cases e : j = m
  · rw [if_pos (by omega), if_pos (by omega), if_pos e]
    rfl
  · rw [if_neg (by omega), if_neg e]

end Go.Proofs.Ytegfpoagplpjiaa.B
