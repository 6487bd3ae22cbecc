/- The pure statement of FnExactLedgerAdd is proved: the program's LedgerAdd is the reference's, its result is new memory, and the argument stays as it is. Conditions: none. -/
import Derived.Test.YtacjlhffmoglhaaPAllx0
import Derived.Test.YtacjlhffmoglhaaPAllx2
import Derived.Test.YtacjlhffmoglhaaPAllx7
import Derived.Test.YtacjlhffmoglhaaPAllx10
import Derived.Test.YtacjlhffmoglhaaPAllx17
import Derived.Test.YtacjlhffmoglhaaBbase
import Derived.Test.YtacjlhffmoglhaaBwithin
import Derived.Test.YtacjlhffmoglhaaBints
import Derived.Test.YtacjlhffmoglhaaBentrydef
import Derived.Test.YtacjlhffmoglhaaBrdset
import Derived.Test.YtacjlhffmoglhaaBledgervalid
import Derived.Test.YtacjlhffmoglhaaBspecledgeradd
import Derived.Test.YtacjlhffmoglhaaBimplledgeradd
import Derived.Test.YtacjlhffmoglhaaBxentries
import Derived.Test.YtacjlhffmoglhaaBmarkentries
namespace Go.Proofs.Ytacjlhffmoglhaa.Pure
open Go.RowKit Go.Proofs.Ytacjlhffmoglhaa.PAll Go.Proofs.Ytacjlhffmoglhaa.B Go.Proofs.YtacjlhffmoglhaaW.PrintWords Go.Proofs.YtacjlhffmoglhaaW.PrintLast
set_option linter.unusedVariables false
set_option linter.unusedSimpArgs false

theorem FnExactLedgerAdd (l0 : List S37) (ok0 : l0.length ≤ maxLen ∧ ∀ y ∈ l0, (Lit.int .i64 y.f0).wf = true ∧ (Lit.int .i64 y.f1).wf = true ∧ (Lit.int .i64 y.f2).wf = true) (a1 : S37) (ok1 : (Lit.int .i64 a1.f0).wf = true ∧ (Lit.int .i64 a1.f1).wf = true ∧ (Lit.int .i64 a1.f2).wf = true) : ∃ k, laws_FnExactLedgerAdd.f k l0 a1.f0 a1.f1 a1.f2 = some true := by
  rcases sz_entries l0 ok0.1 with ⟨e, _⟩ | ⟨r, hr, e, hl⟩
  · exact ⟨0, by unfold laws_FnExactLedgerAdd.f; rw [e]; simp only [bsome]; rw [if_pos (by omega)]⟩
  · have hc := cvEntrys_len l0
    obtain ⟨k, hk⟩ : ∃ k : Nat, 3 * l0.length + 40 ≤ k := ⟨_, Nat.le_refl _⟩
    have gl := ladd_len20 (cvEntrys l0) ⟨a1.f0, a1.f1, a1.f2⟩
    obtain ⟨g, hg⟩ : ∃ g, ladd (cvEntrys l0) ⟨a1.f0, a1.f1, a1.f2⟩ = g := ⟨_, rfl⟩
    rw [hg] at gl
    have es : ∀ q, 2 * l0.length + 4 ≤ q → spec_LedgerAdd.f q (cvEntrys l0) a1.f0 a1.f1 a1.f2 = some g := fun q hq => by rw [spec_LedgerAdd_eq _ (by omega) _ _ _ q (by omega), hg]
    have ei : ∀ q, 2 * l0.length + 4 ≤ q → impl_LedgerAdd.f q (cvEntrys l0) a1.f0 a1.f1 a1.f2 = some g := fun q hq => by rw [impl_LedgerAdd_eq _ (by omega) _ _ _ q (by omega), hg]
    have et : laws_toEntry.f a1.f0 a1.f1 a1.f2 = some (a1.f0, a1.f1, a1.f2) := rfl
    refine ⟨k + 1 + 1 + 1, ?_⟩
    unfold laws_FnExactLedgerAdd.f
    rw [e]
    simp only [bsome]
    rw [if_neg (by omega), laws_toEntryS_eq l0 (by omega) _ (by omega), et]
    simp only [bsome]
    rw [es _ (by omega), ei _ (by omega)]
    simp only [bsome]
    rw [laws_eqEntryS_refl _ (by omega) _ (by omega)]
    simp only [bsome, if_true, bne_self_eq_false]
    rw [laws_FnExactLedgerAdd.j0, if_neg (by simp), laws_toEntryS_eq l0 (by omega) _ (by omega)]
    simp only [bsome]
    rw [laws_eqEntryS_refl _ (by omega) _ (by omega)]
    simp only [bsome, if_true]
    rw [laws_markEntryS_eq _ (by omega) 1 (by omega) (by omega) _ (by omega)]
    simp only [bsome]
    rw [if_neg (by omega), laws_eqEntryS_refl _ (by omega) _ (by omega)]
    simp only [bsome, if_true, bne_self_eq_false]
    rw [laws_FnExactLedgerAdd.j1, if_neg (by simp), laws_markEntryS_eq _ (by omega) 1 (by omega) (by omega) _ (by omega)]
    simp only [bsome]
    rw [laws_heldEntryS_eq _ (by omega) 1 (by omega) (by omega) _ (by omega)]
    simp only [bsome]
    rw [if_neg (by omega), if_pos trivial, laws_toEntryS_eq l0 (by omega) _ (by omega), et]
    simp only [bsome]
    rw [ei _ (by omega)]
    simp only [bsome]
    rw [laws_eqEntryS_refl _ (by omega) _ (by omega)]
    simp only [bsome, if_true, bne_self_eq_false]
    rw [laws_FnExactLedgerAdd.j2, if_neg (by simp), laws_heldEntryS_eq _ (by omega) 1 (by omega) (by omega) _ (by omega)]
    simp only [bsome]
    rw [if_neg (by omega), if_pos trivial]

end Go.Proofs.Ytacjlhffmoglhaa.Pure
