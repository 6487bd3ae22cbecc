/- Lemmas about the printed functions (drawsvalid). -/
import Derived.Test.YtegfpoagplpjiaaPAllx0
import Derived.Test.YtegfpoagplpjiaaPAllx3
import Derived.Test.YtegfpoagplpjiaaBbase
import Derived.Test.YtegfpoagplpjiaaBpick
import Derived.Test.YtegfpoagplpjiaaBstepsv
import Derived.Test.YtegfpoagplpjiaaBdrawsteps
import Derived.Test.YtegfpoagplpjiaaBstepsb
namespace Go.Proofs.Ytegfpoagplpjiaa.B
open Go.RowKit Go.Proofs.Ytegfpoagplpjiaa.PAll Go.Proofs.YtegfpoagplpjiaaW.PrintWords Go.Proofs.YtegfpoagplpjiaaW.PrintLast
set_option linter.unusedVariables false
set_option linter.unusedSimpArgs false

theorem drawStepsValid_ok (l0 : List Int) (ok : CodeOk l0) : ∃ l, StepsB l ∧ ∀ k, 120 ≤ k → spec_DrawStepsValid.f k l0 = some l := by
  obtain ⟨b, hb, e⟩ := open_ok l0 ok
  obtain ⟨l, p, hB, h0, h1, e1⟩ := l92Steps_ok hb 0 (by omega) (by omega)
  refine ⟨l, hB, fun k hk => ?_⟩
  unfold spec_DrawStepsValid.f
  rw [e]
  simp only [bsome]
  rw [e1 k hk]
  simp only [bsome]

end Go.Proofs.Ytegfpoagplpjiaa.B
