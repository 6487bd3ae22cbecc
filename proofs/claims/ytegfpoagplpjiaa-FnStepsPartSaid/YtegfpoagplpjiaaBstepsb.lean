/- Lemmas about the printed functions (stepsb). -/
import Derived.Test.YtegfpoagplpjiaaPAllx0
import Derived.Test.YtegfpoagplpjiaaBbase
import Derived.Test.YtegfpoagplpjiaaBpick
import Derived.Test.YtegfpoagplpjiaaBstepsv
import Derived.Test.YtegfpoagplpjiaaBdrawsteps
namespace Go.Proofs.Ytegfpoagplpjiaa.B
open Go.RowKit Go.Proofs.Ytegfpoagplpjiaa.PAll Go.Proofs.YtegfpoagplpjiaaW.PrintWords Go.Proofs.YtegfpoagplpjiaaW.PrintLast
set_option linter.unusedVariables false
set_option linter.unusedSimpArgs false

theorem inner_of {l : List S28} (h : StepsB l) : Inner l 10 := ⟨by have := h.1; omega, by omega, fun _ h0 h1 => h.2 _ (rdStep_mem h0 h1)⟩

end Go.Proofs.Ytegfpoagplpjiaa.B
