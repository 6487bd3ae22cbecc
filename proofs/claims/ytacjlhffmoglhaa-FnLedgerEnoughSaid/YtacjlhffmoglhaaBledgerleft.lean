/- Lemmas about the printed functions (ledgerleft). -/
import Derived.Test.YtacjlhffmoglhaaPAllx0
import Derived.Test.YtacjlhffmoglhaaPAllx6
import Derived.Test.YtacjlhffmoglhaaBbase
import Derived.Test.YtacjlhffmoglhaaBwithin
import Derived.Test.YtacjlhffmoglhaaBentrydef
import Derived.Test.YtacjlhffmoglhaaBrdset
import Derived.Test.YtacjlhffmoglhaaBledgervalid
import Derived.Test.YtacjlhffmoglhaaBledgersum
namespace Go.Proofs.Ytacjlhffmoglhaa.B
open Go.RowKit Go.Proofs.Ytacjlhffmoglhaa.PAll Go.Proofs.YtacjlhffmoglhaaW.PrintWords Go.Proofs.YtacjlhffmoglhaaW.PrintLast
set_option linter.unusedVariables false
set_option linter.unusedSimpArgs false

theorem impl_LedgerLeft_eq (l : List S40) (hl : l.length ≤ 2000000) (f : Int) (k : Nat) (hk : 2 * l.length + 2 ≤ k) : impl_LedgerLeft.f k l f = some (leftV l f) := by
  unfold impl_LedgerLeft.f leftV
  rw [impl_LedgerValid_eq l hl k (by omega)]
  simp only [bsome]
  by_cases h : ledgerV l = true
  · obtain ⟨h1, h2⟩ := ledger_ok l h
    have r1 := sm_range f 1 l h2
    have r2 := sm_range f 2 l h2
    have r3 := sm_range f 3 l h2
    have e := bal_sm f l h2
    rw [if_pos h, if_pos h, impl_ledgerSum_eq l (by omega) h2 f 1 k (by omega), impl_ledgerSum_eq l (by omega) h2 f 2 k (by omega), impl_ledgerSum_eq l (by omega) h2 f 3 k (by omega)]
    simp only [bsome]
    rw [w64 (sm l f 1 - sm l f 2) (by omega) (by omega), w64 _ (by omega) (by omega), e]
  · rw [if_neg h, if_neg h]

end Go.Proofs.Ytacjlhffmoglhaa.B
