/- Lemmas about the printed functions (drawleast). -/
import Derived.Test.YtddlmemjmmohhaaPAllx0
import Derived.Test.YtddlmemjmmohhaaPAllx9
import Derived.Test.YtddlmemjmmohhaaBbase
import Derived.Test.YtddlmemjmmohhaaBpick
import Derived.Test.YtddlmemjmmohhaaBoffers
import Derived.Test.YtddlmemjmmohhaaBdrawoffers
namespace Go.Proofs.Ytddlmemjmmohhaa.B
open Go.RowKit Go.Proofs.Ytddlmemjmmohhaa.PAll Go.Proofs.YtddlmemjmmohhaaW.PrintWords Go.Proofs.YtddlmemjmmohhaaW.PrintLast
set_option linter.unusedVariables false
set_option linter.unusedSimpArgs false

theorem drawOrderLeast_ok (l : List Int) (ok : CodeOk l) : ∃ l' n, OffersB l' ∧ -1 ≤ n ∧ n ≤ 100 ∧ ∀ k, 5 ≤ k → spec_DrawOrderLeast.f k l = some (l', n) := by
  obtain ⟨b, hb, e⟩ := open_ok l ok
  obtain ⟨l', p', hB, q0, q1, e2⟩ := l92Offers_ok hb 0 (by omega) (by omega)
  obtain ⟨v, a1, a2, _, e3⟩ := pick_ok hb p' 12 q0 (by omega)
  by_cases c : v = 0
  · obtain ⟨u, b1, b2, _, e4⟩ := pick_ok hb (p' + 1) 4 (by omega) (by omega)
    have hr : -1 ≤ rd [(-1), 0, 99, 100] u ∧ rd [(-1), 0, 99, 100] u ≤ 100 := by
      rcases (by omega : u = 0 ∨ u = 1 ∨ u = 2 ∨ u = 3) with rfl | rfl | rfl | rfl <;> simp [rd]
    refine ⟨l', rd [(-1), 0, 99, 100] u, hB, hr.1, hr.2, fun k hk => ?_⟩
    unfold spec_DrawOrderLeast.f
    rw [e]
    simp only [bsome]
    rw [e2 k hk]
    simp only [bsome]
    rw [e3 k (by omega)]
    simp only [bsome]
    rw [if_pos c, e4 k (by omega)]
    simp only [bsome]
    rw [if_pos b1, if_pos (show u < (([(-1), 0, 99, 100] : List Int).length : Int) from b2 (by omega))]
  · obtain ⟨u, b1, b2, _, e4⟩ := pick_ok hb (p' + 1) 60 (by omega) (by omega)
    refine ⟨l', u, hB, by omega, by omega, fun k hk => ?_⟩
    unfold spec_DrawOrderLeast.f
    rw [e]
    simp only [bsome]
    rw [e2 k hk]
    simp only [bsome]
    rw [e3 k (by omega)]
    simp only [bsome]
    rw [if_neg c, e4 k (by omega)]
    simp only [bsome]

end Go.Proofs.Ytddlmemjmmohhaa.B
