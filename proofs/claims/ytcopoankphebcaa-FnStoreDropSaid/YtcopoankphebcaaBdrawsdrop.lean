/- Lemmas about the printed functions (drawsdrop). -/
import Derived.Test.YtcopoankphebcaaPAllx0
import Derived.Test.YtcopoankphebcaaPAllx16
import Derived.Test.YtcopoankphebcaaBbase
import Derived.Test.YtcopoankphebcaaBpick
import Derived.Test.YtcopoankphebcaaBlots
import Derived.Test.YtcopoankphebcaaBstorespec
import Derived.Test.YtcopoankphebcaaBdrawlot
namespace Go.Proofs.Ytcopoankphebcaa.B
open Go.RowKit Go.Proofs.Ytcopoankphebcaa.PAll Go.Proofs.YtcopoankphebcaaW.PrintWords Go.Proofs.YtcopoankphebcaaW.PrintLast
set_option linter.unusedVariables false
set_option linter.unusedSimpArgs false

theorem drawStoreDrop_ok (l0 : List Int) (ok : CodeOk l0) : ∃ (l : List S30) (day : Int), l.length ≤ 12 ∧ ∀ k, 130 ≤ k → spec_DrawStoreDrop.f k l0 = some (l, day) := by
  obtain ⟨b, hb, e⟩ := open_ok l0 ok
  obtain ⟨l, p, hl, h0, h1, e1⟩ := l92Store_ok hb 0 (by omega) (by omega)
  obtain ⟨v1, _, _, _, e2⟩ := pick_ok hb p 8 h0 (by omega)
  refine ⟨l, v1, hl, fun k hk => ?_⟩
  unfold spec_DrawStoreDrop.f
  rw [e]
  simp only [bsome]
  rw [e1 k hk]
  simp only [bsome]
  rw [e2 k (by omega)]
  simp only [bsome]

end Go.Proofs.Ytcopoankphebcaa.B
