/- Lemmas about the printed functions (markany). -/
import Derived.Test.YtleehcjhbpnmlaaPAllx0
import Derived.Test.YtleehcjhbpnmlaaPAllx14
import Derived.Test.YtleehcjhbpnmlaaBbase
import Derived.Test.YtleehcjhbpnmlaaBints
namespace Go.Proofs.Ytleehcjhbpnmlaa.B
open Go.RowKit Go.Proofs.Ytleehcjhbpnmlaa.PAll Go.Proofs.YtleehcjhbpnmlaaW.PrintWords Go.Proofs.YtleehcjhbpnmlaaW.PrintLast
set_option linter.unusedVariables false
set_option linter.unusedSimpArgs false

/-! marks in whole numbers from any number on: only the count matters -/
theorem laws_markIntS_any_l0 : ∀ (d i : Nat) (x : List Int), i + d = x.length → x.length ≤ 2000000 → ∀ n : Int, 0 ≤ n → n ≤ 100000000 + i → ∀ k, d + 1 ≤ k →
    ∃ y : List Int, laws_markIntS.l0 k x n (i : Int) = some (n + d, y) := by
  intro d
  induction d with
  | zero =>
    intro i x hi hl n n0 n1 k hk
    obtain ⟨k, rfl, _⟩ := rounds1 hk
    refine ⟨x, ?_⟩
    rw [laws_markIntS.l0, if_neg (by omega)]
    simp
  | succ d ih =>
    intro i x hi hl n n0 n1 k hk
    obtain ⟨k, rfl, hk'⟩ := rounds1 hk
    rw [laws_markIntS.l0, if_pos (by omega), if_pos (by omega), w64 (n + 1) (by omega) (by omega), w64 ((i : Int) + 1) (by omega) (by omega), show ((i : Int) + 1) = ((i + 1 : Nat) : Int) by omega]
    obtain ⟨y, e⟩ := ih (i + 1) (x.set (i : Int).toNat n) (by rw [List.length_set]; omega) (by rw [List.length_set]; omega) (n + 1) (by omega) (by omega) k hk'
    exact ⟨y, by rw [e, show n + 1 + (d : Int) = n + ((d + 1 : Nat) : Int) by omega]⟩
theorem laws_markIntS_any (x : List Int) (hl : x.length ≤ 2000000) (n : Int) (n0 : 0 ≤ n) (n1 : n ≤ 100000000) (k : Nat) (hk : x.length + 1 ≤ k) : ∃ y : List Int, laws_markIntS.f k x n = some (n + x.length, y) := by
  unfold laws_markIntS.f
  exact laws_markIntS_any_l0 x.length 0 x (by omega) hl n n0 (by omega) k hk

end Go.Proofs.Ytleehcjhbpnmlaa.B
