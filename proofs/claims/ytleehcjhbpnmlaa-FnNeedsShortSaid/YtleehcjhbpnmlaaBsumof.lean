/- Lemmas about the printed functions (sumof). -/
import Derived.Test.YtleehcjhbpnmlaaPAllx0
import Derived.Test.YtleehcjhbpnmlaaPAllx13
import Derived.Test.YtleehcjhbpnmlaaBbase
namespace Go.Proofs.Ytleehcjhbpnmlaa.B
open Go.RowKit Go.Proofs.Ytleehcjhbpnmlaa.PAll Go.Proofs.YtleehcjhbpnmlaaW.PrintWords Go.Proofs.YtleehcjhbpnmlaaW.PrintLast
set_option linter.unusedVariables false
set_option linter.unusedSimpArgs false

/-! the sum of noughts -/
theorem laws_sumOf_zero (x : List Int) (hl : x.length ≤ 1000000) (h : ∀ i : Int, 0 ≤ i → i < x.length → rd x i = 0) (k : Nat) (hk : x.length + 1 ≤ k) : laws_sumOf.f k x = some 0 := by
  have go : ∀ (d : Nat) (i : Int), 0 ≤ i → i + d = x.length → ∀ k, d + 1 ≤ k → laws_sumOf.l0 k x 0 i = some 0 := by
    intro d
    induction d with
    | zero =>
      intro i h0 hi k hk
      obtain ⟨k, rfl, _⟩ := rounds1 hk
      rw [laws_sumOf.l0, if_neg (by omega)]
    | succ d ih =>
      intro i h0 hi k hk
      obtain ⟨k, rfl, hk'⟩ := rounds1 hk
      rw [laws_sumOf.l0, if_pos (by omega), if_pos h0, h i h0 (by omega), w64 (i + 1) (by omega) (by omega), w64 (0 + 0) (by omega) (by omega), Int.add_zero, ih (i + 1) (by omega) (by omega) k hk']
  unfold laws_sumOf.f
  exact go x.length 0 (by omega) (by omega) k hk

end Go.Proofs.Ytleehcjhbpnmlaa.B
