/- Lemmas about the printed functions (markfoods). -/
import Derived.Test.YtleehcjhbpnmlaaPAllx0
import Derived.Test.YtleehcjhbpnmlaaPAllx14
import Derived.Test.YtleehcjhbpnmlaaBbase
import Derived.Test.YtleehcjhbpnmlaaBints
namespace Go.Proofs.Ytleehcjhbpnmlaa.B
open Go.RowKit Go.Proofs.Ytleehcjhbpnmlaa.PAll Go.Proofs.YtleehcjhbpnmlaaW.PrintWords Go.Proofs.YtleehcjhbpnmlaaW.PrintLast
set_option linter.unusedVariables false
set_option linter.unusedSimpArgs false

/-! #### marks in foods: only the count matters -/
theorem laws_markFoodS_l0 : ∀ (d i : Nat) (x : List S29), i + d = x.length → x.length ≤ 2000000 → ∀ n : Int, 0 ≤ n → n ≤ 10000000 + 6 * i → ∀ k, d + 1 ≤ k →
    ∃ y : List S29, laws_markFoodS.l0 k x n (i : Int) = some (n + 6 * d, y) ∧ y.length = x.length := by
  intro d
  induction d with
  | zero =>
    intro i x hi hl n n0 n1 k hk
    obtain ⟨k, rfl, _⟩ := rounds1 hk
    refine ⟨x, ?_, rfl⟩
    rw [laws_markFoodS.l0, if_neg (by omega)]
    simp
  | succ d ih =>
    intro i x hi hl n n0 n1 k hk
    obtain ⟨k, rfl, hk'⟩ := rounds1 hk
    have key : ∀ X : List S29, X.length = x.length → ∃ y : List S29, laws_markFoodS.l0 k X (n + 1 + 1 + 1 + 1 + 1 + 1) ((i + 1 : Nat) : Int) = some (n + 6 * ((d + 1 : Nat) : Int), y) ∧ y.length = x.length := by
      intro X hX
      obtain ⟨y, e, hy⟩ := ih (i + 1) X (by omega) (by omega) (n + 1 + 1 + 1 + 1 + 1 + 1) (by omega) (by omega) k hk'
      exact ⟨y, by rw [e, show n + 1 + 1 + 1 + 1 + 1 + 1 + 6 * (d : Int) = n + 6 * ((d + 1 : Nat) : Int) by omega], by omega⟩
    rw [laws_markFoodS.l0, if_pos (by omega), if_pos (by omega), w64 (n + 1) (by omega) (by omega), w64 (n + 1 + 1) (by omega) (by omega), w64 (n + 1 + 1 + 1) (by omega) (by omega), w64 (n + 1 + 1 + 1 + 1) (by omega) (by omega), w64 (n + 1 + 1 + 1 + 1 + 1) (by omega) (by omega), w64 (n + 1 + 1 + 1 + 1 + 1 + 1) (by omega) (by omega), w64 ((i : Int) + 1) (by omega) (by omega), show ((i : Int) + 1) = ((i + 1 : Nat) : Int) by omega]
    simp only [bsome]
    exact key _ (by simp only [List.length_set])
theorem laws_markFoodS_ok (x : List S29) (hl : x.length ≤ 2000000) (k : Nat) (hk : x.length + 1 ≤ k) : ∃ y : List S29, laws_markFoodS.f k x 1 = some (1 + 6 * (x.length : Int), y) := by
  obtain ⟨y, e, _⟩ := laws_markFoodS_l0 x.length 0 x (by omega) hl 1 (by omega) (by omega) k hk
  exact ⟨y, e⟩

end Go.Proofs.Ytleehcjhbpnmlaa.B
