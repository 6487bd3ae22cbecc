/- Lemmas about the printed functions (drawoffersvalid). -/
import Derived.Test.YtddlmemjmmohhaaPAllx0
import Derived.Test.YtddlmemjmmohhaaPAllx2
import Derived.Test.YtddlmemjmmohhaaBbase
import Derived.Test.YtddlmemjmmohhaaBpick
import Derived.Test.YtddlmemjmmohhaaBoffers
import Derived.Test.YtddlmemjmmohhaaBdrawoffers
namespace Go.Proofs.Ytddlmemjmmohhaa.B
open Go.RowKit Go.Proofs.Ytddlmemjmmohhaa.PAll Go.Proofs.YtddlmemjmmohhaaW.PrintWords Go.Proofs.YtddlmemjmmohhaaW.PrintLast
set_option linter.unusedVariables false
set_option linter.unusedSimpArgs false

theorem drawOffersValid_ok (l : List Int) (ok : CodeOk l) : ∃ l', OffersB l' ∧ ∀ k, 5 ≤ k → spec_DrawOffersValid.f k l = some l' := by
  obtain ⟨b, hb, e⟩ := open_ok l ok
  obtain ⟨l', p', hB, _, _, e2⟩ := l92Offers_ok hb 0 (by omega) (by omega)
  refine ⟨l', hB, fun k hk => ?_⟩
  unfold spec_DrawOffersValid.f
  rw [e]
  simp only [bsome]
  rw [e2 k hk]
  rfl

end Go.Proofs.Ytddlmemjmmohhaa.B
