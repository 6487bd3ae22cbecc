/- The pure statement of FnExactLedgerSum is proved: the program's LedgerSum is the reference's, and the argument stays as it is. Conditions: none. -/
import Derived.Test.YtacjlhffmoglhaaPAllx0
import Derived.Test.YtacjlhffmoglhaaPAllx15
import Derived.Test.YtacjlhffmoglhaaBbase
import Derived.Test.YtacjlhffmoglhaaBwithin
import Derived.Test.YtacjlhffmoglhaaBints
import Derived.Test.YtacjlhffmoglhaaBentrydef
import Derived.Test.YtacjlhffmoglhaaBrdset
import Derived.Test.YtacjlhffmoglhaaBledgervalid
import Derived.Test.YtacjlhffmoglhaaBledgersum
import Derived.Test.YtacjlhffmoglhaaBledgersum2
import Derived.Test.YtacjlhffmoglhaaBspecledgersum
import Derived.Test.YtacjlhffmoglhaaBxentries
namespace Go.Proofs.Ytacjlhffmoglhaa.Pure
open Go.RowKit Go.Proofs.Ytacjlhffmoglhaa.PAll Go.Proofs.Ytacjlhffmoglhaa.B Go.Proofs.YtacjlhffmoglhaaW.PrintWords Go.Proofs.YtacjlhffmoglhaaW.PrintLast
set_option linter.unusedVariables false
set_option linter.unusedSimpArgs false

theorem FnExactLedgerSum (l0 : List S37) (ok0 : l0.length ≤ maxLen ∧ ∀ y ∈ l0, (Lit.int .i64 y.f0).wf = true ∧ (Lit.int .i64 y.f1).wf = true ∧ (Lit.int .i64 y.f2).wf = true) (a1 : Int) (ok1 : (Lit.int .i64 a1).wf = true) (a2 : Int) (ok2 : (Lit.int .i64 a2).wf = true) : ∃ k, laws_FnExactLedgerSum.f k l0 a1 a2 = some true := by
  rcases sz_entries l0 ok0.1 with ⟨e, _⟩ | ⟨r, hr, e, hl⟩
  · exact ⟨0, by unfold laws_FnExactLedgerSum.f; rw [e]; simp only [bsome]; rw [if_pos (by omega)]⟩
  · have hc := cvEntrys_len l0
    obtain ⟨k, hk⟩ : ∃ k : Nat, 3 * l0.length + 40 ≤ k := ⟨_, Nat.le_refl _⟩
    refine ⟨k, ?_⟩
    unfold laws_FnExactLedgerSum.f
    rw [e]
    simp only [bsome]
    rw [if_neg (by omega), laws_toEntryS_eq l0 (by omega) _ (by omega)]
    simp only [bsome]
    rw [spec_LedgerSum_eq _ (by omega) a1 a2 _ (by omega), impl_LedgerSum_eq _ (by omega) a1 a2 _ (by omega)]
    simp only [bsome, if_true]
    rw [laws_eqEntryS_refl _ (by omega) _ (by omega)]
    simp only [bsome, if_true]

end Go.Proofs.Ytacjlhffmoglhaa.Pure
