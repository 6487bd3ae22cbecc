/- The pure statement of FnLedgerLeft is proved: what is bought is used, written off or left. Conditions: none. -/
import Derived.Test.YtacjlhffmoglhaaPAllx0
import Derived.Test.YtacjlhffmoglhaaPAllx18
import Derived.Test.YtacjlhffmoglhaaBbase
import Derived.Test.YtacjlhffmoglhaaBwithin
import Derived.Test.YtacjlhffmoglhaaBpick
import Derived.Test.YtacjlhffmoglhaaBentrydef
import Derived.Test.YtacjlhffmoglhaaBrdset
import Derived.Test.YtacjlhffmoglhaaBledgervalid
import Derived.Test.YtacjlhffmoglhaaBledgersum
import Derived.Test.YtacjlhffmoglhaaBledgerleft
import Derived.Test.YtacjlhffmoglhaaBspecledgerleft
import Derived.Test.YtacjlhffmoglhaaBledgersum2
import Derived.Test.YtacjlhffmoglhaaBspecledgeradd
import Derived.Test.YtacjlhffmoglhaaBdrawledger
import Derived.Test.YtacjlhffmoglhaaBdrawledgerleft
namespace Go.Proofs.Ytacjlhffmoglhaa.Pure
open Go.RowKit Go.Proofs.Ytacjlhffmoglhaa.PAll Go.Proofs.Ytacjlhffmoglhaa.B Go.Proofs.YtacjlhffmoglhaaW.PrintWords Go.Proofs.YtacjlhffmoglhaaW.PrintLast
set_option linter.unusedVariables false
set_option linter.unusedSimpArgs false

theorem FnLedgerLeft (l0 : List Int) (ok0 : CodeOk l0) : ∃ k, laws_FnLedgerLeft.f k l0 = some true := by
  by_cases h1 : (l0.length : Int) > 1048576
  · exact ⟨0, by unfold laws_FnLedgerLeft.f; rw [if_pos h1]⟩
  obtain ⟨l, f, hl, e⟩ := drawLedgerLeft_ok l0 ok0
  obtain ⟨k, hk⟩ : ∃ k : Nat, 300 ≤ k := ⟨300, Nat.le_refl _⟩
  refine ⟨k + 1, ?_⟩
  unfold laws_FnLedgerLeft.f
  rw [if_neg h1, e _ (by omega)]
  simp only [bsome]
  rw [impl_LedgerLeft_eq l (by omega) f _ (by omega), spec_LedgerLeft_eq l (by omega) f _ (by omega)]
  simp only [bsome, if_true]
  rw [laws_FnLedgerLeft.j0]
  by_cases hv : ledgerV l = true
  · obtain ⟨q1, q2⟩ := ledger_ok l hv
    have b := ledger_bal l hv f l.length (Nat.le_refl _)
    rw [List.take_of_length_le (Nat.le_refl _)] at b
    have r1 := sm_range f 1 l q2
    have r2 := sm_range f 2 l q2
    have r3 := sm_range f 3 l q2
    have eb := bal_sm f l q2
    rw [impl_LedgerSum_eq l (by omega) f 1 _ (by omega), impl_LedgerSum_eq l (by omega) f 2 _ (by omega), impl_LedgerSum_eq l (by omega) f 3 _ (by omega), leftV, if_pos hv, sumV, if_pos hv, sumV, if_pos hv, sumV, if_pos hv]
    simp only [bsome]
    rw [decide_eq_false (by omega), if_neg (by simp), w64 (sm l f 2 + sm l f 3) (by omega) (by omega), w64 _ (by omega) (by omega), show sm l f 2 + sm l f 3 + bal l f = sm l f 1 by omega, beq_self_eq_true]
  · rw [leftV, if_neg hv]
    rfl

end Go.Proofs.Ytacjlhffmoglhaa.Pure
