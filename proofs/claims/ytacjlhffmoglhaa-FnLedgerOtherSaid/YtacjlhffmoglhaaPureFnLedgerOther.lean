/- The pure statement of FnLedgerOther is proved: an entry of one food has no influence on others. Conditions: none. -/
import Derived.Test.YtacjlhffmoglhaaPAllx0
import Derived.Test.YtacjlhffmoglhaaPAllx21
import Derived.Test.YtacjlhffmoglhaaBbase
import Derived.Test.YtacjlhffmoglhaaBwithin
import Derived.Test.YtacjlhffmoglhaaBpick
import Derived.Test.YtacjlhffmoglhaaBentrydef
import Derived.Test.YtacjlhffmoglhaaBrdset
import Derived.Test.YtacjlhffmoglhaaBledgervalid
import Derived.Test.YtacjlhffmoglhaaBledgersum
import Derived.Test.YtacjlhffmoglhaaBledgerleft
import Derived.Test.YtacjlhffmoglhaaBspecledgeradd
import Derived.Test.YtacjlhffmoglhaaBimplledgeradd
import Derived.Test.YtacjlhffmoglhaaBdrawledger
import Derived.Test.YtacjlhffmoglhaaBdrawledgeradd
import Derived.Test.YtacjlhffmoglhaaBsameentries
namespace Go.Proofs.Ytacjlhffmoglhaa.Pure
open Go.RowKit Go.Proofs.Ytacjlhffmoglhaa.PAll Go.Proofs.Ytacjlhffmoglhaa.B Go.Proofs.YtacjlhffmoglhaaW.PrintWords Go.Proofs.YtacjlhffmoglhaaW.PrintLast
set_option linter.unusedVariables false
set_option linter.unusedSimpArgs false

theorem FnLedgerOther_l0 (l : List S40) (x : S40) (h1 : ledgerV l = true) (h2 : ledgerV (l ++ [x]) = true) : ∀ (d : Nat) (f : Int), 1 ≤ f → f + d = 21 → ∀ k, d + 100 ≤ k → laws_FnLedgerOther.l0 k l (l ++ [x]) f x.f0 x.f1 x.f2 = some true := by
  obtain ⟨q1, q2⟩ := ledger_ok l h1
  have el : (l ++ [x]).length = l.length + 1 := by simp
  intro d
  induction d with
  | zero =>
    intro f h0 hf k hk
    obtain ⟨k, rfl, _⟩ := rounds1 (k := k) (B := 99) (by omega)
    rw [laws_FnLedgerOther.l0, if_neg (by omega)]
  | succ d ih =>
    intro f h0 hf k hk
    obtain ⟨k, rfl, _⟩ := rounds1 (k := k) (B := d + 100) (by omega)
    have go := ih (f + 1) (by omega) (by omega) k (by omega)
    rw [laws_FnLedgerOther.l0, if_pos (by omega), w64 (f + 1) (by omega) (by omega), go]
    by_cases c : f = x.f1
    · rw [if_pos c]
    · rw [if_neg c, impl_LedgerLeft_eq _ (by omega) f k (by omega), impl_LedgerLeft_eq l (by omega) f k (by omega), leftV, if_pos h2, leftV, if_pos h1, bal_snoc, sg, if_neg (fun z => c z.symm), Int.add_zero]
      simp only [bsome, if_true]
theorem FnLedgerOther (l0 : List Int) (ok0 : CodeOk l0) : ∃ k, laws_FnLedgerOther.f k l0 = some true := by
  by_cases h1 : (l0.length : Int) > 1048576
  · exact ⟨0, by unfold laws_FnLedgerOther.f; rw [if_pos h1]⟩
  obtain ⟨l, x, hl, e⟩ := drawLedgerAdd_ok l0 ok0
  obtain ⟨k, hk⟩ : ∃ k : Nat, 400 ≤ k := ⟨400, Nat.le_refl _⟩
  refine ⟨k + 1 + 1, ?_⟩
  unfold laws_FnLedgerOther.f
  rw [if_neg h1, e _ (by omega)]
  simp only [bsome]
  rw [impl_LedgerAdd_eq l (by omega) _ _ _ _ (by omega), spec_LedgerAdd_eq l (by omega) _ _ _ _ (by omega)]
  have gl := ladd_len l ⟨x.f0, x.f1, x.f2⟩
  simp only [bsome, bne_self_eq_false]
  rw [if_neg (by simp), laws_sameEntries_refl _ (by omega) _ (by omega)]
  simp only [bsome, if_true]
  by_cases g : (ladd l ⟨x.f0, x.f1, x.f2⟩).2 = true
  · obtain ⟨a1, a2, a3⟩ := ladd_true l _ g
    rw [a3, laws_FnLedgerOther.j0, if_neg (by simp)]
    exact FnLedgerOther_l0 l x a1 a2 20 1 (by omega) (by omega) _ (by omega)
  · have g' : (ladd l ⟨x.f0, x.f1, x.f2⟩).2 = false := by simpa using g
    rw [g', laws_FnLedgerOther.j0, if_pos (by rfl), if_pos (by rfl), laws_sameEntries_refl _ (by omega) _ (by omega)]
    simp only [bsome]

end Go.Proofs.Ytacjlhffmoglhaa.Pure
