/- Lemmas about the printed functions (drawledgeradd). -/
import Derived.Test.YtacjlhffmoglhaaPAllx0
import Derived.Test.YtacjlhffmoglhaaPAllx11
import Derived.Test.YtacjlhffmoglhaaBbase
import Derived.Test.YtacjlhffmoglhaaBpick
import Derived.Test.YtacjlhffmoglhaaBdrawledger
namespace Go.Proofs.Ytacjlhffmoglhaa.B
open Go.RowKit Go.Proofs.Ytacjlhffmoglhaa.PAll Go.Proofs.YtacjlhffmoglhaaW.PrintWords Go.Proofs.YtacjlhffmoglhaaW.PrintLast
set_option linter.unusedVariables false
set_option linter.unusedSimpArgs false

theorem drawLedgerAdd_ok (l : List Int) (ok : CodeOk l) : ∃ l' : List S40, ∃ x : S40, l'.length ≤ 60 ∧ ∀ k, 262 ≤ k → spec_DrawLedgerAdd.f k l = some (l', x.f0, x.f1, x.f2) := by
  obtain ⟨b, hb, e⟩ := open_ok l ok
  obtain ⟨l', p, h1, p0, p1, e1⟩ := l92Ledger_ok hb
  obtain ⟨x, q, _, _, e2⟩ := l92Entry_ok hb p p0 (by omega)
  refine ⟨l', x, h1, fun k hk => ?_⟩
  unfold spec_DrawLedgerAdd.f
  rw [e]
  simp only [bsome]
  rw [e1 k hk]
  simp only [bsome]
  rw [e2 k (by omega)]
  simp only [bsome]

end Go.Proofs.Ytacjlhffmoglhaa.B
