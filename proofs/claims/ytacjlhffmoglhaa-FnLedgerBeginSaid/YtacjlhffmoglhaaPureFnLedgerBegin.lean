/- The pure statement of FnLedgerBegin is proved: the beginning of a valid ledger is valid, and nothing is less than nothing in it. Conditions: none. -/
import Derived.Test.YtacjlhffmoglhaaPAllx0
import Derived.Test.YtacjlhffmoglhaaPAllx16
import Derived.Test.YtacjlhffmoglhaaBbase
import Derived.Test.YtacjlhffmoglhaaBwithin
import Derived.Test.YtacjlhffmoglhaaBpick
import Derived.Test.YtacjlhffmoglhaaBentrydef
import Derived.Test.YtacjlhffmoglhaaBrdset
import Derived.Test.YtacjlhffmoglhaaBledgervalid
import Derived.Test.YtacjlhffmoglhaaBledgersum
import Derived.Test.YtacjlhffmoglhaaBledgerleft
import Derived.Test.YtacjlhffmoglhaaBspecledgeradd
import Derived.Test.YtacjlhffmoglhaaBdrawledger
import Derived.Test.YtacjlhffmoglhaaBdrawledgervalid
namespace Go.Proofs.Ytacjlhffmoglhaa.Pure
open Go.RowKit Go.Proofs.Ytacjlhffmoglhaa.PAll Go.Proofs.Ytacjlhffmoglhaa.B Go.Proofs.YtacjlhffmoglhaaW.PrintWords Go.Proofs.YtacjlhffmoglhaaW.PrintLast
set_option linter.unusedVariables false
set_option linter.unusedSimpArgs false

theorem FnLedgerBegin_l0 (x : List S40) (hx : ledgerV x = true) : ∀ (d : Nat) (f : Int), 1 ≤ f → f + d = 4 → ∀ k, d + 100 ≤ k → laws_FnLedgerBegin.l0 k x f = some true := by
  have hl := (ledger_ok x hx).1
  intro d
  induction d with
  | zero =>
    intro f h0 hf k hk
    obtain ⟨k, rfl, _⟩ := rounds1 (k := k) (B := 99) (by omega)
    rw [laws_FnLedgerBegin.l0, if_neg (by omega), impl_LedgerValid_eq x (by omega) k (by omega), hx]
    rfl
  | succ d ih =>
    intro f h0 hf k hk
    obtain ⟨k, rfl, _⟩ := rounds1 (k := k) (B := d + 100) (by omega)
    have b := ledger_bal x hx f x.length (Nat.le_refl _)
    rw [List.take_of_length_le (Nat.le_refl _)] at b
    rw [laws_FnLedgerBegin.l0, if_pos (by omega), impl_LedgerLeft_eq x (by omega) f k (by omega), leftV, if_pos hx]
    simp only [bsome]
    rw [if_neg (by omega), w64 (f + 1) (by omega) (by omega)]
    exact ih (f + 1) (by omega) (by omega) k (by omega)
theorem FnLedgerBegin (l0 : List Int) (ok0 : CodeOk l0) (l1 : List Int) (ok1 : CodeOk l1) : ∃ k, laws_FnLedgerBegin.f k l0 l1 = some true := by
  by_cases h1 : (l0.length : Int) > 1048576
  · exact ⟨0 + 1, by unfold laws_FnLedgerBegin.f; rw [if_pos h1]; simp only [laws_FnLedgerBegin.j0, if_true]⟩
  by_cases h2 : (l1.length : Int) > 1048576
  · exact ⟨0 + 1, by unfold laws_FnLedgerBegin.f; rw [if_neg h1, decide_eq_true h2]; simp only [laws_FnLedgerBegin.j0, if_true]⟩
  obtain ⟨l, hl, e⟩ := drawLedgerValid_ok l0 ok0
  obtain ⟨k, hk⟩ : ∃ k : Nat, 300 ≤ k := ⟨300, Nat.le_refl _⟩
  refine ⟨k + 1 + 1, ?_⟩
  unfold laws_FnLedgerBegin.f
  rw [if_neg h1, decide_eq_false h2, laws_FnLedgerBegin.j0, if_neg (by simp), e _ (by omega)]
  simp only [bsome]
  rw [impl_LedgerValid_eq l (by omega) _ (by omega), spec_LedgerValid_eq l (by omega) _ (by omega)]
  simp only [bsome, bne_self_eq_false]
  rw [if_neg (by simp), laws_FnLedgerBegin.j1]
  cases hv : ledgerV l with
  | false => rfl
  | true =>
    have m0 := Int.emod_nonneg (l1.length : Int) (b := (l.length : Int) + 1) (by omega)
    have m1 := Int.emod_lt_of_pos (l1.length : Int) (b := (l.length : Int) + 1) (by omega)
    rw [if_neg (by simp), w64 ((l.length : Int) + 1) (by omega) (by omega), if_neg (by omega), if_pos m0, if_pos (by omega)]
    exact FnLedgerBegin_l0 _ (ledger_take l hv _ (by omega)) 3 1 (by omega) (by omega) k (by omega)

end Go.Proofs.Ytacjlhffmoglhaa.Pure
