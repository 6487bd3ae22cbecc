/- Lemmas about the printed functions (drawneeds1). -/
import Derived.Test.YtleehcjhbpnmlaaPAllx0
import Derived.Test.YtleehcjhbpnmlaaPAllx3
import Derived.Test.YtleehcjhbpnmlaaBbase
import Derived.Test.YtleehcjhbpnmlaaBpick
import Derived.Test.YtleehcjhbpnmlaaBdrawneeds
namespace Go.Proofs.Ytleehcjhbpnmlaa.B
open Go.RowKit Go.Proofs.Ytleehcjhbpnmlaa.PAll Go.Proofs.YtleehcjhbpnmlaaW.PrintWords Go.Proofs.YtleehcjhbpnmlaaW.PrintLast
set_option linter.unusedVariables false
set_option linter.unusedSimpArgs false

theorem drawNeedsValid_ok (l : List Int) (ok : CodeOk l) : ∃ l' : List S29, ∃ c : List Int, l'.length ≤ 7 ∧ c.length ≤ 8 ∧ ∀ k, 120 ≤ k → spec_DrawNeedsValid.f k l = some (l', c) := by
  obtain ⟨b, hb, e⟩ := open_ok l ok
  obtain ⟨l', p, h1, p0, p1, e1⟩ := l91Foods_ok hb
  obtain ⟨c, q, h2, q0, q1, e2⟩ := l91Needs_ok hb l' h1 p p0 (by omega)
  refine ⟨l', c, h1, h2, fun k hk => ?_⟩
  unfold spec_DrawNeedsValid.f
  rw [e]
  simp only [bsome]
  rw [e1 k hk]
  simp only [bsome]
  rw [e2 k (by omega)]
  simp only [bsome]

end Go.Proofs.Ytleehcjhbpnmlaa.B
