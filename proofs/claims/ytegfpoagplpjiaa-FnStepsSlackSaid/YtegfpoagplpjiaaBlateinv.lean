/- Lemmas about the printed functions (lateinv). -/
import Derived.Test.YtegfpoagplpjiaaPAllx0
import Derived.Test.YtegfpoagplpjiaaBbase
import Derived.Test.YtegfpoagplpjiaaBwithin
import Derived.Test.YtegfpoagplpjiaaBstepsv
import Derived.Test.YtegfpoagplpjiaaBmaxfrom
import Derived.Test.YtegfpoagplpjiaaBearly
import Derived.Test.YtegfpoagplpjiaaBearlyspec
import Derived.Test.YtegfpoagplpjiaaBendof
import Derived.Test.YtegfpoagplpjiaaBlength
import Derived.Test.YtegfpoagplpjiaaBlate
namespace Go.Proofs.Ytegfpoagplpjiaa.B
open Go.RowKit Go.Proofs.Ytegfpoagplpjiaa.PAll Go.Proofs.YtegfpoagplpjiaaW.PrintWords Go.Proofs.YtegfpoagplpjiaaW.PrintLast
set_option linter.unusedVariables false
set_option linter.unusedSimpArgs false

theorem ends_inv (l : List S28) (hv : stepsV l = true) (e : Int) (he : lengthOf l ≤ e) : LateInv l e l.length (ends l e l.length) := by
  refine ⟨ends_len l e _, fun x x0 x1 => ?_, fun i hi hl q q0 q1 => by omega, fun x x0 x1 => ?_⟩
  · rw [rd_ends l e l.length x x0 x1]
    have := (lengthOf_range l hv).2.2 x x0 x1
    omega
  · rw [rd_ends l e l.length x x0 x1]
    exact .inl (by omega)
def lateV (l : List S28) (e : Int) : List Int × Bool := if stepsV l = true ∧ lengthOf l ≤ e ∧ e ≤ 999 then (lateOf l e, true) else ([], false)
theorem lateV_len (l : List S28) (e : Int) : (lateV l e).1.length ≤ l.length := by
  unfold lateV
  split
  · rename_i h
    exact Nat.le_of_eq (lateOf_inv l h.1 e h.2.1).1
  · exact Nat.zero_le _

end Go.Proofs.Ytegfpoagplpjiaa.B
