/- The pure statement of FnLedgerAdd is proved: an entry counts. Conditions: none. -/
import Derived.Test.YtacjlhffmoglhaaPAllx0
import Derived.Test.YtacjlhffmoglhaaPAllx22
import Derived.Test.YtacjlhffmoglhaaBbase
import Derived.Test.YtacjlhffmoglhaaBwithin
import Derived.Test.YtacjlhffmoglhaaBpick
import Derived.Test.YtacjlhffmoglhaaBentrydef
import Derived.Test.YtacjlhffmoglhaaBrdset
import Derived.Test.YtacjlhffmoglhaaBledgervalid
import Derived.Test.YtacjlhffmoglhaaBledgersum
import Derived.Test.YtacjlhffmoglhaaBledgerleft
import Derived.Test.YtacjlhffmoglhaaBledgersum2
import Derived.Test.YtacjlhffmoglhaaBspecledgeradd
import Derived.Test.YtacjlhffmoglhaaBimplledgeradd
import Derived.Test.YtacjlhffmoglhaaBdrawledger
import Derived.Test.YtacjlhffmoglhaaBdrawledgeradd
import Derived.Test.YtacjlhffmoglhaaBsameentries
namespace Go.Proofs.Ytacjlhffmoglhaa.Pure
open Go.RowKit Go.Proofs.Ytacjlhffmoglhaa.PAll Go.Proofs.Ytacjlhffmoglhaa.B Go.Proofs.YtacjlhffmoglhaaW.PrintWords Go.Proofs.YtacjlhffmoglhaaW.PrintLast
set_option linter.unusedVariables false
set_option linter.unusedSimpArgs false

theorem FnLedgerAdd_j1 (l : List S40) (x : S40) (h1 : ledgerV l = true) (h2 : ledgerV (l ++ [x]) = true) (k : Nat) (hk : 100 ≤ k) : laws_FnLedgerAdd.j1 (k + 1) l (l ++ [x]) (sg x x.f1) x.f0 x.f1 x.f2 = some true := by
  obtain ⟨q1, q2⟩ := ledger_ok l h1
  obtain ⟨p1, p2⟩ := ledger_ok _ h2
  have el : (l ++ [x]).length = l.length + 1 := by simp
  have ox : okE x := p2 x (by simp)
  have b1 := bal_range x.f1 l q2
  have s1 := sg_range x ox x.f1
  have r1 := sm_range x.f1 x.f0 l q2
  have t : sk x x.f1 x.f0 = x.f2 := by rw [sk, if_pos rfl, if_pos rfl]
  have ts := sk_range x ox x.f1 x.f0
  rw [laws_FnLedgerAdd.j1, impl_LedgerLeft_eq _ (by omega) _ k (by omega), impl_LedgerLeft_eq l (by omega) _ k (by omega), impl_LedgerSum_eq _ (by omega) _ _ k (by omega), impl_LedgerSum_eq l (by omega) _ _ k (by omega),
    leftV, if_pos h2, leftV, if_pos h1, sumV, if_pos h2, sumV, if_pos h1]
  simp only [bsome]
  rw [bal_snoc, sm_snoc, t, w64 (bal l x.f1 + sg x x.f1) (by omega) (by omega), if_pos rfl, w64 (sm l x.f1 x.f0 + x.f2) (by omega) (by omega), if_pos rfl, w64 ((l.length : Int) + 1) (by omega) (by omega), el, B.up, beq_self_eq_true]
theorem FnLedgerAdd (l0 : List Int) (ok0 : CodeOk l0) : ∃ k, laws_FnLedgerAdd.f k l0 = some true := by
  by_cases h1 : (l0.length : Int) > 1048576
  · exact ⟨0, by unfold laws_FnLedgerAdd.f; rw [if_pos h1]⟩
  obtain ⟨l, x, hl, e⟩ := drawLedgerAdd_ok l0 ok0
  obtain ⟨k, hk⟩ : ∃ k : Nat, 400 ≤ k := ⟨400, Nat.le_refl _⟩
  refine ⟨k + 1 + 1, ?_⟩
  unfold laws_FnLedgerAdd.f
  rw [if_neg h1, e _ (by omega)]
  simp only [bsome]
  rw [impl_LedgerAdd_eq l (by omega) _ _ _ _ (by omega), spec_LedgerAdd_eq l (by omega) _ _ _ _ (by omega)]
  have gl := ladd_len l ⟨x.f0, x.f1, x.f2⟩
  simp only [bsome, bne_self_eq_false]
  rw [if_neg (by simp), laws_sameEntries_refl _ (by omega) _ (by omega)]
  simp only [bsome, if_true]
  by_cases g : (ladd l ⟨x.f0, x.f1, x.f2⟩).2 = true
  · obtain ⟨a1, a2, a3⟩ := ladd_true l _ g
    have ox : okE x := (ledger_ok _ a2).2 _ (by simp)
    obtain ⟨o1, o2, o3⟩ := ox
    rw [a3, laws_FnLedgerAdd.j0, if_neg (by simp)]
    have q := FnLedgerAdd_j1 l x a1 a2 k (by omega)
    unfold sg at q
    rw [if_pos rfl] at q
    by_cases c : x.f0 = 1
    · rw [if_pos c] at q ⊢
      exact q
    · rw [if_neg c] at q ⊢
      rw [w64 (-x.f2) (by omega) (by omega)]
      exact q
  · have g' : (ladd l ⟨x.f0, x.f1, x.f2⟩).2 = false := by simpa using g
    rw [g', laws_FnLedgerAdd.j0, if_pos (by rfl), if_pos (by rfl), laws_sameEntries_refl _ (by omega) _ (by omega)]
    simp only [bsome]

end Go.Proofs.Ytacjlhffmoglhaa.Pure
