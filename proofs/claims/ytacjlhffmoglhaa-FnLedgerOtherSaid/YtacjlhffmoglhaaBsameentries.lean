/- Lemmas about the printed functions (sameentries). -/
import Derived.Test.YtacjlhffmoglhaaPAllx0
import Derived.Test.YtacjlhffmoglhaaPAllx12
import Derived.Test.YtacjlhffmoglhaaBbase
namespace Go.Proofs.Ytacjlhffmoglhaa.B
open Go.RowKit Go.Proofs.Ytacjlhffmoglhaa.PAll Go.Proofs.YtacjlhffmoglhaaW.PrintWords Go.Proofs.YtacjlhffmoglhaaW.PrintLast
set_option linter.unusedVariables false
set_option linter.unusedSimpArgs false

theorem laws_sameEntries_l0 (l : List S40) (hl : l.length ≤ 1000000000) : ∀ (d : Nat) (i : Int), 0 ≤ i → i + d = l.length → ∀ k, d + 1 ≤ k → laws_sameEntries.l0 k l l i = some true := by
  intro d
  induction d with
  | zero =>
    intro i h0 hi k hk
    obtain ⟨k, rfl, _⟩ := rounds1 hk
    rw [laws_sameEntries.l0, if_neg (by omega)]
  | succ d ih =>
    intro i h0 hi k hk
    obtain ⟨k, rfl, hk'⟩ := rounds1 hk
    rw [laws_sameEntries.l0, if_pos (by omega), if_pos h0, if_pos (by omega), if_neg (by simp), w64 _ (by omega) (by omega), ih (i + 1) (by omega) (by omega) k hk']
theorem laws_sameEntries_refl (l : List S40) (hl : l.length ≤ 1000000000) (k : Nat) (hk : l.length + 1 ≤ k) : laws_sameEntries.f k l l = some true := by
  unfold laws_sameEntries.f
  rw [if_pos rfl]
  exact laws_sameEntries_l0 l hl l.length 0 (by omega) (by omega) k hk

end Go.Proofs.Ytacjlhffmoglhaa.B
