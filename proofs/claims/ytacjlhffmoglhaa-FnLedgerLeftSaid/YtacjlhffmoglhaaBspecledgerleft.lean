/- Lemmas about the printed functions (specledgerleft). -/
import Derived.Test.YtacjlhffmoglhaaPAllx0
import Derived.Test.YtacjlhffmoglhaaPAllx6
import Derived.Test.YtacjlhffmoglhaaBbase
import Derived.Test.YtacjlhffmoglhaaBwithin
import Derived.Test.YtacjlhffmoglhaaBentrydef
import Derived.Test.YtacjlhffmoglhaaBrdset
import Derived.Test.YtacjlhffmoglhaaBledgervalid
import Derived.Test.YtacjlhffmoglhaaBledgersum
namespace Go.Proofs.Ytacjlhffmoglhaa.B
open Go.RowKit Go.Proofs.Ytacjlhffmoglhaa.PAll Go.Proofs.YtacjlhffmoglhaaW.PrintWords Go.Proofs.YtacjlhffmoglhaaW.PrintLast
set_option linter.unusedVariables false
set_option linter.unusedSimpArgs false

theorem spec_LedgerLeft_eq (l : List S40) (hl : l.length ≤ 2000000) (f : Int) (k : Nat) (hk : 2 * l.length + 2 ≤ k) : spec_LedgerLeft.f k l f = some (leftV l f) := by
  unfold spec_LedgerLeft.f leftV
  rw [spec_LedgerValid_eq l hl k hk]
  simp only [bsome]
  by_cases h : ledgerV l = true
  · obtain ⟨h1, h2⟩ := ledger_ok l h
    have e := l23Left_eq l hl f l.length (Nat.le_refl _) (fun j hj => by rw [rd_entry l j hj]; exact h2 _ (List.getElem_mem hj)) k (by omega)
    rw [List.take_of_length_le (Nat.le_refl _)] at e
    rw [if_pos h, if_pos h, e]
    simp only [bsome]
  · rw [if_neg h, if_neg h]

end Go.Proofs.Ytacjlhffmoglhaa.B
