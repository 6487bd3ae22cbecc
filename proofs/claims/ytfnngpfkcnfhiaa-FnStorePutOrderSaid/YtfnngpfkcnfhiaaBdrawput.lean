/- Lemmas about the printed functions (drawput). -/
import Derived.Test.YtfnngpfkcnfhiaaPAllx0
import Derived.Test.YtfnngpfkcnfhiaaPAllx12
import Derived.Test.YtfnngpfkcnfhiaaBbase
import Derived.Test.YtfnngpfkcnfhiaaBwithin
import Derived.Test.YtfnngpfkcnfhiaaBpick
import Derived.Test.YtfnngpfkcnfhiaaBlots
import Derived.Test.YtfnngpfkcnfhiaaBstorespec
import Derived.Test.YtfnngpfkcnfhiaaBdrawlot
namespace Go.Proofs.Ytfnngpfkcnfhiaa.B
open Go.RowKit Go.Proofs.Ytfnngpfkcnfhiaa.PAll Go.Proofs.YtfnngpfkcnfhiaaW.PrintWords Go.Proofs.YtfnngpfkcnfhiaaW.PrintLast
set_option linter.unusedVariables false
set_option linter.unusedSimpArgs false

theorem drawStorePut_ok (l0 : List Int) (ok : CodeOk l0) : ∃ (l : List S30) (a b c : Int), l.length ≤ 12 ∧ ∀ k, 130 ≤ k → spec_DrawStorePut.f k l0 = some (l, a, b, c) := by
  obtain ⟨b, hb, e⟩ := open_ok l0 ok
  obtain ⟨l, p, hl, p0, p1, e1⟩ := l92Store_ok hb 0 (by omega) (by omega)
  obtain ⟨x, y, z, p', _, _, e2⟩ := l92Lot_ok hb p p0 (by omega)
  refine ⟨l, x, y, z, hl, fun k hk => ?_⟩
  unfold spec_DrawStorePut.f
  rw [e]
  simp only [bsome]
  rw [e1 k hk]
  simp only [bsome]
  rw [e2 k (by omega)]
  simp only [bsome]

end Go.Proofs.Ytfnngpfkcnfhiaa.B
