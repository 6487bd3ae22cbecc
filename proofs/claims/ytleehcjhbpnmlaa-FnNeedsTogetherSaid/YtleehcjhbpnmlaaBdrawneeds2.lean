/- Lemmas about the printed functions (drawneeds2). -/
import Derived.Test.YtleehcjhbpnmlaaPAllx0
import Derived.Test.YtleehcjhbpnmlaaPAllx10
import Derived.Test.YtleehcjhbpnmlaaBbase
import Derived.Test.YtleehcjhbpnmlaaBpick
import Derived.Test.YtleehcjhbpnmlaaBdrawneeds
namespace Go.Proofs.Ytleehcjhbpnmlaa.B
open Go.RowKit Go.Proofs.Ytleehcjhbpnmlaa.PAll Go.Proofs.YtleehcjhbpnmlaaW.PrintWords Go.Proofs.YtleehcjhbpnmlaaW.PrintLast
set_option linter.unusedVariables false
set_option linter.unusedSimpArgs false

theorem drawNeedsAdd_ok (l : List Int) (ok : CodeOk l) : ∃ l' : List S29, ∃ a b : List Int, l'.length ≤ 7 ∧ a.length ≤ 8 ∧ b.length ≤ 8 ∧ ∀ k, 120 ≤ k → spec_DrawNeedsAdd.f k l = some (l', a, b) := by
  obtain ⟨b, hb, e⟩ := open_ok l ok
  obtain ⟨l', p, h1, p0, p1, e1⟩ := l91Foods_ok hb
  obtain ⟨c, q, h2, q0, q1, e2⟩ := l91Needs_ok hb l' h1 p p0 (by omega)
  obtain ⟨c', q', h3, q2, q3, e3⟩ := l91Needs_ok hb l' h1 q q0 (by omega)
  refine ⟨l', c, c', h1, h2, h3, fun k hk => ?_⟩
  unfold spec_DrawNeedsAdd.f
  rw [e]
  simp only [bsome]
  rw [e1 k hk]
  simp only [bsome]
  rw [e2 k (by omega)]
  simp only [bsome]
  rw [e3 k (by omega)]
  simp only [bsome]

end Go.Proofs.Ytleehcjhbpnmlaa.B
