/- The pure statement of FnLedgerEnough is proved: nothing is used that is not there. Conditions: none. -/
import Derived.Test.YtacjlhffmoglhaaPAllx0
import Derived.Test.YtacjlhffmoglhaaPAllx20
import Derived.Test.YtacjlhffmoglhaaBbase
import Derived.Test.YtacjlhffmoglhaaBwithin
import Derived.Test.YtacjlhffmoglhaaBpick
import Derived.Test.YtacjlhffmoglhaaBentrydef
import Derived.Test.YtacjlhffmoglhaaBrdset
import Derived.Test.YtacjlhffmoglhaaBledgervalid
import Derived.Test.YtacjlhffmoglhaaBledgersum
import Derived.Test.YtacjlhffmoglhaaBledgerleft
import Derived.Test.YtacjlhffmoglhaaBspecledgeradd
import Derived.Test.YtacjlhffmoglhaaBimplledgeradd
import Derived.Test.YtacjlhffmoglhaaBdrawledger
import Derived.Test.YtacjlhffmoglhaaBdrawledgeradd
import Derived.Test.YtacjlhffmoglhaaBsameentries
namespace Go.Proofs.Ytacjlhffmoglhaa.Pure
open Go.RowKit Go.Proofs.Ytacjlhffmoglhaa.PAll Go.Proofs.Ytacjlhffmoglhaa.B Go.Proofs.YtacjlhffmoglhaaW.PrintWords Go.Proofs.YtacjlhffmoglhaaW.PrintLast
set_option linter.unusedVariables false
set_option linter.unusedSimpArgs false

theorem FnLedgerEnough_end (l : List S40) (x : S40) (k : Nat) (hk : 200 ≤ k) (hl : l.length ≤ 60) : laws_FnLedgerEnough.j0 (k + 1) l (ladd l x).1 (ladd l x).2 (ladd l x).1 (ladd l x).2 true x.f0 x.f1 x.f2 = some true := by
  have gl := ladd_len l x
  rw [laws_FnLedgerEnough.j0, if_pos rfl, if_pos (beq_self_eq_true _), laws_sameEntries_refl _ (by omega) _ (by omega)]
  simp only [bsome]
theorem FnLedgerEnough (l0 : List Int) (ok0 : CodeOk l0) : ∃ k, laws_FnLedgerEnough.f k l0 = some true := by
  by_cases h1 : (l0.length : Int) > 1048576
  · exact ⟨0, by unfold laws_FnLedgerEnough.f; rw [if_pos h1]⟩
  obtain ⟨l, x, hl, e⟩ := drawLedgerAdd_ok l0 ok0
  obtain ⟨k, hk⟩ : ∃ k : Nat, 400 ≤ k := ⟨400, Nat.le_refl _⟩
  refine ⟨k + 1 + 1, ?_⟩
  unfold laws_FnLedgerEnough.f
  rw [if_neg h1, e _ (by omega)]
  simp only [bsome]
  rw [impl_LedgerAdd_eq l (by omega) _ _ _ _ (by omega), spec_LedgerAdd_eq l (by omega) _ _ _ _ (by omega)]
  have gl := ladd_len l ⟨x.f0, x.f1, x.f2⟩
  simp only [bsome, bne_self_eq_false]
  rw [if_neg (by simp), laws_sameEntries_refl _ (by omega) _ (by omega)]
  simp only [bsome, if_true]
  have E := FnLedgerEnough_end l x (k + 1) (by omega) hl
  rw [spec_LedgerValid_eq l (by omega) _ (by omega)]
  simp only [bsome]
  by_cases hv : ledgerV l = true
  rotate_left
  · rw [if_neg hv]
    exact E
  rw [if_pos hv]
  by_cases h20 : (l.length : Int) = 20
  · rw [if_pos h20]
    exact E
  rw [if_neg h20, spec_LedgerValid_eq _ (by simp) _ (by simp; omega)]
  simp only [bsome]
  by_cases hb : ledgerV [⟨1, x.f1, x.f2⟩] = true
  rotate_left
  · rw [if_neg hb]
    exact E
  rw [if_pos hb]
  by_cases hk1 : x.f0 < 1
  · rw [if_pos hk1]
    exact E
  rw [if_neg hk1]
  by_cases hk3 : x.f0 > 3
  · rw [decide_eq_true hk3]
    exact E
  obtain ⟨q1, q2⟩ := ledger_ok l hv
  have ob : okE (⟨1, x.f1, x.f2⟩ : S40) := (ledger_ok _ hb).2 _ (by simp)
  obtain ⟨_, o2, o3⟩ := ob
  dsimp only at o2 o3
  have ox : okE (⟨x.f0, x.f1, x.f2⟩ : S40) := ⟨⟨by show 1 ≤ x.f0; omega, by show x.f0 ≤ 3; omega⟩, o2, o3⟩
  have b := ledger_bal l hv x.f1 l.length (Nat.le_refl _)
  rw [List.take_of_length_le (Nat.le_refl _)] at b
  have sn := ledger_snoc l hv ⟨x.f0, x.f1, x.f2⟩
  have s : sg (⟨x.f0, x.f1, x.f2⟩ : S40) x.f1 = if x.f0 = 1 then x.f2 else -x.f2 := by rw [sg, if_pos rfl]
  rw [decide_eq_false hk3, laws_FnLedgerEnough.j0, if_neg (by simp)]
  by_cases c : x.f0 = 1
  · rw [if_pos c] at s ⊢
    have v : ledgerV (l ++ [⟨x.f0, x.f1, x.f2⟩]) = true := sn.2 ⟨by omega, ox, by show 0 ≤ bal l x.f1 + sg _ x.f1; omega⟩
    have a : ladd l ⟨x.f0, x.f1, x.f2⟩ = (l ++ [⟨x.f0, x.f1, x.f2⟩], true) := by rw [ladd, if_pos hv, if_pos v]
    rw [a]
    rfl
  · rw [if_neg c] at s ⊢
    rw [impl_LedgerLeft_eq l (by omega) _ _ (by omega), leftV, if_pos hv]
    simp only [bsome]
    by_cases n : x.f2 ≤ bal l x.f1
    · have v : ledgerV (l ++ [⟨x.f0, x.f1, x.f2⟩]) = true := sn.2 ⟨by omega, ox, by show 0 ≤ bal l x.f1 + sg _ x.f1; omega⟩
      have a : ladd l ⟨x.f0, x.f1, x.f2⟩ = (l ++ [⟨x.f0, x.f1, x.f2⟩], true) := by rw [ladd, if_pos hv, if_pos v]
      rw [a, decide_eq_true n]
      rfl
    · have v : ¬ ledgerV (l ++ [⟨x.f0, x.f1, x.f2⟩]) = true := fun z => by
        have := (sn.1 z).2.2
        have : 0 ≤ bal l x.f1 + sg (⟨x.f0, x.f1, x.f2⟩ : S40) x.f1 := this
        omega
      have a : ladd l ⟨x.f0, x.f1, x.f2⟩ = ([], false) := by rw [ladd, if_pos hv, if_neg v]
      rw [a, decide_eq_false n]
      rfl

end Go.Proofs.Ytacjlhffmoglhaa.Pure
