/- Lemmas about the printed functions (specledgeradd). -/
import Derived.Test.YtacjlhffmoglhaaPAllx0
import Derived.Test.YtacjlhffmoglhaaPAllx7
import Derived.Test.YtacjlhffmoglhaaBbase
import Derived.Test.YtacjlhffmoglhaaBwithin
import Derived.Test.YtacjlhffmoglhaaBentrydef
import Derived.Test.YtacjlhffmoglhaaBrdset
import Derived.Test.YtacjlhffmoglhaaBledgervalid
namespace Go.Proofs.Ytacjlhffmoglhaa.B
open Go.RowKit Go.Proofs.Ytacjlhffmoglhaa.PAll Go.Proofs.YtacjlhffmoglhaaW.PrintWords Go.Proofs.YtacjlhffmoglhaaW.PrintLast
set_option linter.unusedVariables false
set_option linter.unusedSimpArgs false

def ladd (l : List S40) (x : S40) : List S40 × Bool := if ledgerV l = true then (if ledgerV (l ++ [x]) = true then (l ++ [x], true) else ([], false)) else ([], false)
theorem ladd_len (l : List S40) (x : S40) : (ladd l x).1.length ≤ l.length + 1 := by
  unfold ladd
  split
  · split <;> simp
  · simp
theorem spec_LedgerAdd_eq (l : List S40) (hl : l.length ≤ 1900000) (a b c : Int) (k : Nat) (hk : 2 * l.length + 4 ≤ k) : spec_LedgerAdd.f k l a b c = some (ladd l ⟨a, b, c⟩) := by
  have el : (l ++ [(⟨a, b, c⟩ : S40)]).length = l.length + 1 := by simp
  have z : ([] : List S40).length = 0 := rfl
  have z1 : ([⟨a, b, c⟩] : List S40).length = 1 := rfl
  unfold spec_LedgerAdd.f ladd
  simp only [bsome, List.nil_append]
  rw [if_pos (by omega), if_pos (by omega), spec_LedgerValid_eq l (by omega) k (by omega), spec_LedgerValid_eq _ (by omega) k (by omega)]
  simp only [bsome]
  by_cases h : ledgerV l = true
  · rw [if_pos h, if_pos h]
    by_cases g : ledgerV (l ++ [⟨a, b, c⟩]) = true
    · rw [if_pos g, if_pos g]
    · rw [if_neg g, if_neg g]
  · rw [if_neg h, if_neg h]

end Go.Proofs.Ytacjlhffmoglhaa.B
