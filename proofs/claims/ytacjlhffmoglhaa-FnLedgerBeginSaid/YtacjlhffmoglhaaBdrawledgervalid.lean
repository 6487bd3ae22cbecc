/- Lemmas about the printed functions (drawledgervalid). -/
import Derived.Test.YtacjlhffmoglhaaPAllx0
import Derived.Test.YtacjlhffmoglhaaPAllx9
import Derived.Test.YtacjlhffmoglhaaBbase
import Derived.Test.YtacjlhffmoglhaaBpick
import Derived.Test.YtacjlhffmoglhaaBdrawledger
namespace Go.Proofs.Ytacjlhffmoglhaa.B
open Go.RowKit Go.Proofs.Ytacjlhffmoglhaa.PAll Go.Proofs.YtacjlhffmoglhaaW.PrintWords Go.Proofs.YtacjlhffmoglhaaW.PrintLast
set_option linter.unusedVariables false
set_option linter.unusedSimpArgs false

theorem drawLedgerValid_ok (l : List Int) (ok : CodeOk l) : ∃ l' : List S40, l'.length ≤ 60 ∧ ∀ k, 262 ≤ k → spec_DrawLedgerValid.f k l = some l' := by
  obtain ⟨b, hb, e⟩ := open_ok l ok
  obtain ⟨l', p, h1, p0, p1, e1⟩ := l92Ledger_ok hb
  refine ⟨l', h1, fun k hk => ?_⟩
  unfold spec_DrawLedgerValid.f
  rw [e]
  simp only [bsome]
  rw [e1 k hk]
  simp only [bsome]

end Go.Proofs.Ytacjlhffmoglhaa.B
