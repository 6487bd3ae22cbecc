/- Lemmas about the printed functions (drawbest). -/
import Derived.Test.YtddlmemjmmohhaaPAllx0
import Derived.Test.YtddlmemjmmohhaaPAllx15
import Derived.Test.YtddlmemjmmohhaaBbase
import Derived.Test.YtddlmemjmmohhaaBpick
import Derived.Test.YtddlmemjmmohhaaBoffers
import Derived.Test.YtddlmemjmmohhaaBdrawoffers
import Derived.Test.YtddlmemjmmohhaaBdrawleast
namespace Go.Proofs.Ytddlmemjmmohhaa.B
open Go.RowKit Go.Proofs.Ytddlmemjmmohhaa.PAll Go.Proofs.YtddlmemjmmohhaaW.PrintWords Go.Proofs.YtddlmemjmmohhaaW.PrintLast
set_option linter.unusedVariables false
set_option linter.unusedSimpArgs false

theorem drawOrderBest_ok (l : List Int) (ok : CodeOk l) : ∃ l' n, OffersB l' ∧ -1 ≤ n ∧ n ≤ 100 ∧ ∀ k, 5 ≤ k → spec_DrawOrderBest.f k l = some (l', n) := by
  obtain ⟨l', n, hB, n0, n1, e⟩ := drawOrderLeast_ok l ok
  refine ⟨l', n, hB, n0, n1, fun k hk => ?_⟩
  unfold spec_DrawOrderBest.f
  rw [e k hk]
  simp only [bsome]

end Go.Proofs.Ytddlmemjmmohhaa.B
