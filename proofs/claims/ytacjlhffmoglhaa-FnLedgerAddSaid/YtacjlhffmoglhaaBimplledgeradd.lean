/- Lemmas about the printed functions (implledgeradd). -/
import Derived.Test.YtacjlhffmoglhaaPAllx0
import Derived.Test.YtacjlhffmoglhaaPAllx10
import Derived.Test.YtacjlhffmoglhaaBbase
import Derived.Test.YtacjlhffmoglhaaBwithin
import Derived.Test.YtacjlhffmoglhaaBentrydef
import Derived.Test.YtacjlhffmoglhaaBrdset
import Derived.Test.YtacjlhffmoglhaaBledgervalid
import Derived.Test.YtacjlhffmoglhaaBspecledgeradd
namespace Go.Proofs.Ytacjlhffmoglhaa.B
open Go.RowKit Go.Proofs.Ytacjlhffmoglhaa.PAll Go.Proofs.YtacjlhffmoglhaaW.PrintWords Go.Proofs.YtacjlhffmoglhaaW.PrintLast
set_option linter.unusedVariables false
set_option linter.unusedSimpArgs false

theorem impl_LedgerAdd_eq (l : List S40) (hl : l.length ≤ 1900000) (a b c : Int) (k : Nat) (hk : 2 * l.length + 4 ≤ k) : impl_LedgerAdd.f k l a b c = some (ladd l ⟨a, b, c⟩) := by
  have el : (l ++ [(⟨a, b, c⟩ : S40)]).length = l.length + 1 := by simp
  have z : ([] : List S40).length = 0 := rfl
  have z1 : ([⟨a, b, c⟩] : List S40).length = 1 := rfl
  unfold impl_LedgerAdd.f ladd
  simp only [bsome, List.nil_append]
  rw [if_pos (by omega), if_pos (by omega), impl_LedgerValid_eq l (by omega) k (by omega), impl_LedgerValid_eq _ (by omega) k (by omega)]
  simp only [bsome]
  by_cases h : ledgerV l = true
  · rw [if_pos h, if_pos h]
    by_cases g : ledgerV (l ++ [⟨a, b, c⟩]) = true
    · rw [if_pos g, if_pos g]
    · rw [if_neg g, if_neg g]
  · rw [if_neg h, if_neg h]
theorem ladd_true (l : List S40) (x : S40) (h : (ladd l x).2 = true) : ledgerV l = true ∧ ledgerV (l ++ [x]) = true ∧ ladd l x = (l ++ [x], true) := by
  unfold ladd at h ⊢
  split at h
  · rename_i h1
    split at h
    · rename_i h2
      rw [if_pos h1, if_pos h2]
      exact ⟨h1, h2, rfl⟩
    · cases h
  · cases h
theorem ladd_len20 (l : List S40) (x : S40) : (ladd l x).1.length ≤ 20 := by
  unfold ladd
  split
  · split
    · rename_i h
      exact (ledger_ok _ h).1
    · simp
  · simp

end Go.Proofs.Ytacjlhffmoglhaa.B
