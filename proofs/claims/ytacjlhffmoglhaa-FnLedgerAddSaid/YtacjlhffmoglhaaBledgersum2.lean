/- Lemmas about the printed functions (ledgersum2). -/
import Derived.Test.YtacjlhffmoglhaaPAllx0
import Derived.Test.YtacjlhffmoglhaaPAllx6
import Derived.Test.YtacjlhffmoglhaaBbase
import Derived.Test.YtacjlhffmoglhaaBwithin
import Derived.Test.YtacjlhffmoglhaaBentrydef
import Derived.Test.YtacjlhffmoglhaaBrdset
import Derived.Test.YtacjlhffmoglhaaBledgervalid
import Derived.Test.YtacjlhffmoglhaaBledgersum
namespace Go.Proofs.Ytacjlhffmoglhaa.B
open Go.RowKit Go.Proofs.Ytacjlhffmoglhaa.PAll Go.Proofs.YtacjlhffmoglhaaW.PrintWords Go.Proofs.YtacjlhffmoglhaaW.PrintLast
set_option linter.unusedVariables false
set_option linter.unusedSimpArgs false

theorem impl_LedgerSum_eq (l : List S40) (hl : l.length ≤ 2000000) (f q : Int) (k : Nat) (hk : 2 * l.length + 2 ≤ k) : impl_LedgerSum.f k l f q = some (sumV l f q) := by
  unfold impl_LedgerSum.f sumV
  rw [impl_LedgerValid_eq l hl k (by omega)]
  simp only [bsome]
  by_cases h : ledgerV l = true
  · obtain ⟨h1, h2⟩ := ledger_ok l h
    rw [if_pos h, if_pos h, impl_ledgerSum_eq l (by omega) h2 f q k (by omega)]
    simp only [bsome]
  · rw [if_neg h, if_neg h]

end Go.Proofs.Ytacjlhffmoglhaa.B
