/- Lemmas about the printed functions (ledgersum). -/
import Derived.Test.YtacjlhffmoglhaaPAllx0
import Derived.Test.YtacjlhffmoglhaaPAllx6
import Derived.Test.YtacjlhffmoglhaaBbase
import Derived.Test.YtacjlhffmoglhaaBentrydef
namespace Go.Proofs.Ytacjlhffmoglhaa.B
open Go.RowKit Go.Proofs.Ytacjlhffmoglhaa.PAll Go.Proofs.YtacjlhffmoglhaaW.PrintWords Go.Proofs.YtacjlhffmoglhaaW.PrintLast
set_option linter.unusedVariables false
set_option linter.unusedSimpArgs false

/-! #### sums of entries -/
theorem impl_ledgerSum_l0 (l : List S40) (hl : l.length ≤ 1000) (h : ∀ x ∈ l, okE x) (f q : Int) : ∀ (d i : Nat), i + d = l.length → ∀ acc : Int, 0 ≤ acc → acc ≤ 9999 * (i : Int) → ∀ k, d + 1 ≤ k →
    impl_ledgerSum.l0 k f q acc l (l.length : Int) (i : Int) = some (acc + sm (l.drop i) f q) := by
  intro d
  induction d with
  | zero =>
    intro i hi acc b0 b1 k hk
    obtain ⟨k, rfl, _⟩ := rounds1 hk
    rw [impl_ledgerSum.l0, if_neg (by omega), List.drop_of_length_le (by omega), sm, Int.add_zero]
  | succ d ih =>
    intro i hi acc b0 b1 k hk
    obtain ⟨k, rfl, hk'⟩ := rounds1 hk
    have ok := h _ (List.getElem_mem (by omega : i < l.length))
    rw [← rd_entry l i (by omega)] at ok
    obtain ⟨_, _, o3⟩ := ok
    rw [impl_ledgerSum.l0, if_pos (by omega), if_pos (by omega), if_pos (by omega), w64 (acc + _) (by omega) (by omega), w64 ((i : Int) + 1) (by omega) (by omega), up, drop_entry l i (by omega), sm, sk,
      ih (i + 1) (by omega) _ (by omega) (by omega) k hk', ih (i + 1) (by omega) acc (by omega) (by omega) k hk']
    by_cases c : (rd_T40 l (i : Int)).f1 = f
    · rw [if_pos c, if_pos c]
      by_cases c2 : (rd_T40 l (i : Int)).f0 = q
      · rw [if_pos c2, if_pos c2, Int.add_assoc]
      · rw [if_neg c2, if_neg c2, Int.zero_add]
    · rw [if_neg c, if_neg c, Int.zero_add]
theorem impl_ledgerSum_eq (l : List S40) (hl : l.length ≤ 1000) (h : ∀ x ∈ l, okE x) (f q : Int) (k : Nat) (hk : l.length + 1 ≤ k) : impl_ledgerSum.f k l f q = some (sm l f q) := by
  unfold impl_ledgerSum.f
  have e := impl_ledgerSum_l0 l hl h f q l.length 0 (by omega) 0 (by omega) (by omega) k hk
  rw [List.drop_zero, Int.zero_add] at e
  exact e
def leftV (l : List S40) (f : Int) : Int := if ledgerV l = true then bal l f else -1
def sumV (l : List S40) (f q : Int) : Int := if ledgerV l = true then sm l f q else -1

end Go.Proofs.Ytacjlhffmoglhaa.B
