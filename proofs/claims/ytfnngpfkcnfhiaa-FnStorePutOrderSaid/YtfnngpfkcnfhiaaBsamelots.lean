/- Lemmas about the printed functions (samelots). -/
import Derived.Test.YtfnngpfkcnfhiaaPAllx0
import Derived.Test.YtfnngpfkcnfhiaaPAllx12
import Derived.Test.YtfnngpfkcnfhiaaBbase
import Derived.Test.YtfnngpfkcnfhiaaBlots
namespace Go.Proofs.Ytfnngpfkcnfhiaa.B
open Go.RowKit Go.Proofs.Ytfnngpfkcnfhiaa.PAll Go.Proofs.YtfnngpfkcnfhiaaW.PrintWords Go.Proofs.YtfnngpfkcnfhiaaW.PrintLast
set_option linter.unusedVariables false
set_option linter.unusedSimpArgs false

theorem laws_sameLots_l0 (l : List S30) (hl : l.length ≤ 1000000000) : ∀ (d : Nat) (i : Int), 0 ≤ i → i + d = l.length → ∀ k, d + 1 ≤ k → laws_sameLots.l0 k l l i = some true := by
  intro d
  induction d with
  | zero =>
    intro i h0 hi k hk
    obtain ⟨k, rfl, _⟩ := rounds1 hk
    rw [laws_sameLots.l0, if_neg (by omega)]
  | succ d ih =>
    intro i h0 hi k hk
    obtain ⟨k, rfl, hk'⟩ := rounds1 hk
    rw [laws_sameLots.l0, if_pos (by omega), if_pos h0, if_pos (by omega), if_neg (by simp), w64 _ (by omega) (by omega), ih (i + 1) (by omega) (by omega) k hk']
theorem laws_sameLots_refl (l : List S30) (hl : l.length ≤ 1000000000) (k : Nat) (hk : l.length + 1 ≤ k) : laws_sameLots.f k l l = some true := by
  unfold laws_sameLots.f
  rw [if_pos rfl]
  exact laws_sameLots_l0 l hl l.length 0 (by omega) (by omega) k hk

end Go.Proofs.Ytfnngpfkcnfhiaa.B
