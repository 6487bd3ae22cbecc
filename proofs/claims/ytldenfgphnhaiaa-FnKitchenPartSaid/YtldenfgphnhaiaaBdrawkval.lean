/- Lemmas about the printed functions (drawkval). -/
import Derived.Test.YtldenfgphnhaiaaPAllx0
import Derived.Test.YtldenfgphnhaiaaPAllx3
import Derived.Test.YtldenfgphnhaiaaBbase
import Derived.Test.YtldenfgphnhaiaaBpick
import Derived.Test.YtldenfgphnhaiaaBdrawkitchen
namespace Go.Proofs.Ytldenfgphnhaiaa.B
open Go.RowKit Go.Proofs.Ytldenfgphnhaiaa.PAll Go.Proofs.YtldenfgphnhaiaaW.PrintWords Go.Proofs.YtldenfgphnhaiaaW.PrintLast
set_option linter.unusedVariables false
set_option linter.unusedSimpArgs false

theorem drawKitchenValid_ok (l0 : List Int) (ok : CodeOk l0) : ∃ (h : Int) (t : List Int), t.length ≤ 4 ∧ ∀ k, 1 ≤ k → spec_DrawKitchenValid.f k l0 = some (h, t) := by
  obtain ⟨b, hb, e⟩ := open_ok l0 ok
  obtain ⟨h, t, p', ht, _, _, e1⟩ := l92Kitchen_ok hb 0 (by omega) (by omega)
  refine ⟨h, t, ht, fun k hk => ?_⟩
  unfold spec_DrawKitchenValid.f
  rw [e]
  simp only [bsome]
  rw [e1 k hk]
  simp only [bsome]

end Go.Proofs.Ytldenfgphnhaiaa.B
