/- Lemmas about the printed functions (drawshas). -/
import Derived.Test.YtcopoankphebcaaPAllx0
import Derived.Test.YtcopoankphebcaaPAllx16
import Derived.Test.YtcopoankphebcaaBbase
import Derived.Test.YtcopoankphebcaaBpick
import Derived.Test.YtcopoankphebcaaBlots
import Derived.Test.YtcopoankphebcaaBstorespec
import Derived.Test.YtcopoankphebcaaBdrawlot
namespace Go.Proofs.Ytcopoankphebcaa.B
open Go.RowKit Go.Proofs.Ytcopoankphebcaa.PAll Go.Proofs.YtcopoankphebcaaW.PrintWords Go.Proofs.YtcopoankphebcaaW.PrintLast
set_option linter.unusedVariables false
set_option linter.unusedSimpArgs false

theorem drawStoreHas_ok (l0 : List Int) (ok : CodeOk l0) : ∃ (l : List S30) (id day : Int), l.length ≤ 12 ∧ (0 ≤ day ∧ day ≤ 7) ∧ ∀ k, 130 ≤ k → spec_DrawStoreHas.f k l0 = some (l, id, day) := by
  obtain ⟨b, hb, e⟩ := open_ok l0 ok
  obtain ⟨l, p, hl, h0, h1, e1⟩ := l92Store_ok hb 0 (by omega) (by omega)
  obtain ⟨v1, _, _, _, e2⟩ := pick_ok hb p 5 h0 (by omega)
  obtain ⟨v2, a2, b2, _, e3⟩ := pick_ok hb (p + 1) 8 (by omega) (by omega)
  have := b2 (by omega)
  refine ⟨l, v1, v2, hl, by omega, fun k hk => ?_⟩
  unfold spec_DrawStoreHas.f
  rw [e]
  simp only [bsome]
  rw [e1 k hk]
  simp only [bsome]
  rw [e2 k (by omega)]
  simp only [bsome]
  rw [e3 k (by omega)]
  simp only [bsome]

end Go.Proofs.Ytcopoankphebcaa.B
