/- The pure statement of FnLedgerSum is proved: sums are those of entries. Conditions: none. -/
import Derived.Test.YtacjlhffmoglhaaPAllx0
import Derived.Test.YtacjlhffmoglhaaPAllx19
import Derived.Test.YtacjlhffmoglhaaBbase
import Derived.Test.YtacjlhffmoglhaaBwithin
import Derived.Test.YtacjlhffmoglhaaBpick
import Derived.Test.YtacjlhffmoglhaaBentrydef
import Derived.Test.YtacjlhffmoglhaaBrdset
import Derived.Test.YtacjlhffmoglhaaBledgervalid
import Derived.Test.YtacjlhffmoglhaaBledgersum
import Derived.Test.YtacjlhffmoglhaaBledgersum2
import Derived.Test.YtacjlhffmoglhaaBspecledgersum
import Derived.Test.YtacjlhffmoglhaaBspecledgeradd
import Derived.Test.YtacjlhffmoglhaaBdrawledger
import Derived.Test.YtacjlhffmoglhaaBdrawledgersum
namespace Go.Proofs.Ytacjlhffmoglhaa.Pure
open Go.RowKit Go.Proofs.Ytacjlhffmoglhaa.PAll Go.Proofs.Ytacjlhffmoglhaa.B Go.Proofs.YtacjlhffmoglhaaW.PrintWords Go.Proofs.YtacjlhffmoglhaaW.PrintLast
set_option linter.unusedVariables false
set_option linter.unusedSimpArgs false

theorem FnLedgerSum_l0 (l : List S40) (hl : l.length ≤ 1000) (h : ∀ x ∈ l, okE x) (f q : Int) : ∀ (d i : Nat), i + d = l.length → ∀ acc : Int, 0 ≤ acc → acc ≤ 9999 * (i : Int) → acc + sm (l.drop i) f q = sm l f q → ∀ k, d + 1 ≤ k →
    laws_FnLedgerSum.l0 k l f q (sm l f q) acc (i : Int) = some true := by
  intro d
  induction d with
  | zero =>
    intro i hi acc b0 b1 e k hk
    obtain ⟨k, rfl, _⟩ := rounds1 hk
    rw [List.drop_of_length_le (by omega), sm, Int.add_zero] at e
    rw [laws_FnLedgerSum.l0, if_neg (by omega), e, beq_self_eq_true]
  | succ d ih =>
    intro i hi acc b0 b1 e k hk
    obtain ⟨k, rfl, hk'⟩ := rounds1 hk
    have ok := h _ (List.getElem_mem (by omega : i < l.length))
    rw [← rd_entry l i (by omega)] at ok
    obtain ⟨_, _, o3⟩ := ok
    rw [drop_entry l i (by omega), sm, sk] at e
    rw [laws_FnLedgerSum.l0, if_pos (by omega), if_pos (by omega), w64 (acc + _) (by omega) (by omega), w64 ((i : Int) + 1) (by omega) (by omega), B.up]
    by_cases c : (rd_T40 l (i : Int)).f1 = f
    · rw [if_pos c] at e ⊢
      by_cases c2 : (rd_T40 l (i : Int)).f0 = q
      · rw [if_pos c2] at e ⊢
        exact ih (i + 1) (by omega) _ (by omega) (by omega) (by omega) k hk'
      · rw [if_neg c2] at e ⊢
        exact ih (i + 1) (by omega) _ (by omega) (by omega) (by omega) k hk'
    · rw [if_neg c] at e ⊢
      exact ih (i + 1) (by omega) _ (by omega) (by omega) (by omega) k hk'
theorem FnLedgerSum (l0 : List Int) (ok0 : CodeOk l0) : ∃ k, laws_FnLedgerSum.f k l0 = some true := by
  by_cases h1 : (l0.length : Int) > 1048576
  · exact ⟨0, by unfold laws_FnLedgerSum.f; rw [if_pos h1]⟩
  obtain ⟨l, f, q, hl, e⟩ := drawLedgerSum_ok l0 ok0
  obtain ⟨k, hk⟩ : ∃ k : Nat, 300 ≤ k := ⟨300, Nat.le_refl _⟩
  refine ⟨k + 1, ?_⟩
  unfold laws_FnLedgerSum.f
  rw [if_neg h1, e _ (by omega)]
  simp only [bsome]
  rw [impl_LedgerSum_eq l (by omega) f q _ (by omega), spec_LedgerSum_eq l (by omega) f q _ (by omega)]
  simp only [bsome, if_true]
  rw [laws_FnLedgerSum.j0]
  by_cases hv : ledgerV l = true
  · obtain ⟨q1, q2⟩ := ledger_ok l hv
    have r := sm_range f q l q2
    rw [sumV, if_pos hv, decide_eq_false (by omega), if_neg (by simp)]
    exact FnLedgerSum_l0 l (by omega) q2 f q l.length 0 (by omega) 0 (by omega) (by omega) (by rw [List.drop_zero, Int.zero_add]) k (by omega)
  · rw [sumV, if_neg hv]
    rfl

end Go.Proofs.Ytacjlhffmoglhaa.Pure
