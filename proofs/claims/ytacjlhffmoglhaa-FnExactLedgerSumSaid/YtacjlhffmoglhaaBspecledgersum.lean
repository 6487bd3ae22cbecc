/- Lemmas about the printed functions (specledgersum). -/
import Derived.Test.YtacjlhffmoglhaaPAllx0
import Derived.Test.YtacjlhffmoglhaaPAllx6
import Derived.Test.YtacjlhffmoglhaaBbase
import Derived.Test.YtacjlhffmoglhaaBwithin
import Derived.Test.YtacjlhffmoglhaaBentrydef
import Derived.Test.YtacjlhffmoglhaaBrdset
import Derived.Test.YtacjlhffmoglhaaBledgervalid
import Derived.Test.YtacjlhffmoglhaaBledgersum
namespace Go.Proofs.Ytacjlhffmoglhaa.B
open Go.RowKit Go.Proofs.Ytacjlhffmoglhaa.PAll Go.Proofs.YtacjlhffmoglhaaW.PrintWords Go.Proofs.YtacjlhffmoglhaaW.PrintLast
set_option linter.unusedVariables false
set_option linter.unusedSimpArgs false

theorem spec_LedgerSum_l0 (l : List S40) (hl : l.length ≤ 1000) (h : ∀ x ∈ l, okE x) (f q : Int) : ∀ (d i : Nat), i + d = l.length → ∀ acc : Int, 0 ≤ acc → acc ≤ 9999 * (i : Int) → ∀ k, d + 1 ≤ k →
    spec_LedgerSum.l0 k l f q acc (i : Int) = some (acc + sm (l.drop i) f q) := by
  intro d
  induction d with
  | zero =>
    intro i hi acc b0 b1 k hk
    obtain ⟨k, rfl, _⟩ := rounds1 hk
    rw [spec_LedgerSum.l0, if_neg (by omega), List.drop_of_length_le (by omega), sm, Int.add_zero]
  | succ d ih =>
    intro i hi acc b0 b1 k hk
    obtain ⟨k, rfl, hk'⟩ := rounds1 hk
    have ok := h _ (List.getElem_mem (by omega : i < l.length))
    rw [← rd_entry l i (by omega)] at ok
    obtain ⟨_, _, o3⟩ := ok
    rw [spec_LedgerSum.l0, if_pos (by omega), if_pos (by omega), w64 (acc + _) (by omega) (by omega), w64 ((i : Int) + 1) (by omega) (by omega), up, drop_entry l i (by omega), sm, sk,
      ih (i + 1) (by omega) _ (by omega) (by omega) k hk', ih (i + 1) (by omega) acc (by omega) (by omega) k hk']
    by_cases c : (rd_T40 l (i : Int)).f1 = f
    · rw [if_pos c, if_pos c]
      by_cases c2 : (rd_T40 l (i : Int)).f0 = q
      · rw [if_pos c2, if_pos c2, Int.add_assoc]
      · rw [if_neg c2, if_neg c2, Int.zero_add]
    · rw [if_neg c, if_neg c, Int.zero_add]
theorem spec_LedgerSum_eq (l : List S40) (hl : l.length ≤ 2000000) (f q : Int) (k : Nat) (hk : 2 * l.length + 2 ≤ k) : spec_LedgerSum.f k l f q = some (sumV l f q) := by
  unfold spec_LedgerSum.f sumV
  rw [spec_LedgerValid_eq l hl k (by omega)]
  simp only [bsome]
  by_cases h : ledgerV l = true
  · obtain ⟨h1, h2⟩ := ledger_ok l h
    have e := spec_LedgerSum_l0 l (by omega) h2 f q l.length 0 (by omega) 0 (by omega) (by omega) k (by omega)
    rw [List.drop_zero, Int.zero_add] at e
    rw [if_pos h, if_pos h]
    exact e
  · rw [if_neg h, if_neg h]

end Go.Proofs.Ytacjlhffmoglhaa.B
