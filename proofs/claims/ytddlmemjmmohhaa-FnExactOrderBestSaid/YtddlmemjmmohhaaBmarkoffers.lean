/- Lemmas about the printed functions (markoffers). -/
import Derived.Test.YtddlmemjmmohhaaPAllx0
import Derived.Test.YtddlmemjmmohhaaPAllx15
import Derived.Test.YtddlmemjmmohhaaBbase
import Derived.Test.YtddlmemjmmohhaaBints
namespace Go.Proofs.Ytddlmemjmmohhaa.B
open Go.RowKit Go.Proofs.Ytddlmemjmmohhaa.PAll Go.Proofs.YtddlmemjmmohhaaW.PrintWords Go.Proofs.YtddlmemjmmohhaaW.PrintLast
set_option linter.unusedVariables false
set_option linter.unusedSimpArgs false

theorem laws_markOfferS_l0 : ∀ (d : Nat) (x : List S37) (n i : Int), 0 ≤ i → i + d = x.length → x.length ≤ 1000000000 → 0 ≤ n → n ≤ 10 * i + 10 → ∀ k, d + 1 ≤ k →
    ∃ (n' : Int) (y : List S37), laws_markOfferS.l0 k x n i = some (n', y) ∧ 0 ≤ n' := by
  intro d
  induction d with
  | zero =>
    intro x n i h0 hi hl hn hn2 k hk
    obtain ⟨k, rfl, _⟩ := rounds1 hk
    refine ⟨n, x, ?_, hn⟩
    simp only [laws_markOfferS.l0]
    rw [if_neg (by omega)]
  | succ d ih =>
    intro x n i h0 hi hl hn hn2 k hk
    obtain ⟨k, rfl, hk'⟩ := rounds1 hk
    simp only [laws_markOfferS.l0]
    rw [if_pos (by omega), if_pos h0]
    simp only [bsome]
    rw [w64 (n + 1) (by omega) (by omega), w64 (n + 1 + 1) (by omega) (by omega), w64 (i + 1) (by omega) (by omega)]
    exact ih _ _ _ (by omega) (by rw [List.length_set, List.length_set]; omega) (by rw [List.length_set, List.length_set]; omega) (by omega) (by omega) k hk'
theorem laws_markOfferS_ok (x : List S37) (hl : x.length ≤ 1000000000) (k : Nat) (hk : x.length + 1 ≤ k) : ∃ (n' : Int) (y : List S37), laws_markOfferS.f k x 1 = some (n', y) ∧ 0 ≤ n' :=
  laws_markOfferS_l0 x.length x 1 0 (by omega) (by omega) hl (by omega) (by omega) k hk

end Go.Proofs.Ytddlmemjmmohhaa.B
