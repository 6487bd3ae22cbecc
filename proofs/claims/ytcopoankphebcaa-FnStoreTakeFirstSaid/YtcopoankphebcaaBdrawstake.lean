/- Lemmas about the printed functions (drawstake). -/
import Derived.Test.YtcopoankphebcaaPAllx0
import Derived.Test.YtcopoankphebcaaPAllx13
import Derived.Test.YtcopoankphebcaaBbase
import Derived.Test.YtcopoankphebcaaBwithin
import Derived.Test.YtcopoankphebcaaBpick
import Derived.Test.YtcopoankphebcaaBlots
import Derived.Test.YtcopoankphebcaaBstorespec
import Derived.Test.YtcopoankphebcaaBstoreimpl
import Derived.Test.YtcopoankphebcaaBstorehas
import Derived.Test.YtcopoankphebcaaBdrawlot
namespace Go.Proofs.Ytcopoankphebcaa.B
open Go.RowKit Go.Proofs.Ytcopoankphebcaa.PAll Go.Proofs.YtcopoankphebcaaW.PrintWords Go.Proofs.YtcopoankphebcaaW.PrintLast
set_option linter.unusedVariables false
set_option linter.unusedSimpArgs false

theorem drawStoreTake_ok (l0 : List Int) (ok : CodeOk l0) : ∃ (l : List S30) (id n day : Int), l.length ≤ 12 ∧ (1 ≤ id ∧ id ≤ 3) ∧ ∀ k, 130 ≤ k → spec_DrawStoreTake.f k l0 = some (l, id, n, day) := by
  obtain ⟨b, hb, e⟩ := open_ok l0 ok
  obtain ⟨l, p, hl, h0, h1, e1⟩ := l92Store_ok hb 0 (by omega) (by omega)
  obtain ⟨v1, a1, b1, _, e2⟩ := pick_ok hb p 3 h0 (by omega)
  obtain ⟨v2, _, _, _, e3⟩ := pick_ok hb (p + 1) 4 (by omega) (by omega)
  have i1 := b1 (by omega)
  obtain ⟨v3, _, _, _, e4⟩ := pick_ok hb (p + 1 + 1) (wrap64 ((mx (hasV l (1 + v1) v2) 0) + 1)) (by omega) (by omega)
  obtain ⟨v4, _, _, _, e5⟩ := pick_ok hb (p + 1 + 1 + 1) 12 (by omega) (by omega)
  obtain ⟨v5, a5, b5, _, e6⟩ := pick_ok hb (p + 1 + 1 + 1 + 1) 3 (by omega) (by omega)
  by_cases c : v4 = 0
  · refine ⟨l, 1 + v1, rd [(-1), mx (hasV l (1 + v1) v2) 0, wrap64 ((mx (hasV l (1 + v1) v2) 0) + 1)] v5, v2, hl, by omega, fun k hk => ?_⟩
    unfold spec_DrawStoreTake.f
    rw [e]
    simp only [bsome]
    rw [e1 k hk]
    simp only [bsome]
    rw [e2 k (by omega)]
    simp only [bsome]
    rw [e3 k (by omega)]
    simp only [bsome]
    rw [w64 (1 + v1) (by omega) (by omega), spec_StoreHas_eq l (by omega) (1 + v1) v2 k (by omega)]
    simp only [bsome]
    rw [e4 k (by omega)]
    simp only [bsome]
    rw [e5 k (by omega)]
    simp only [bsome]
    rw [if_pos c, e6 k (by omega)]
    simp only [bsome]
    rw [if_pos a5, if_pos (show v5 < (([(-1), mx (hasV l (1 + v1) v2) 0, wrap64 ((mx (hasV l (1 + v1) v2) 0) + 1)] : List Int).length : Int) from b5 (by omega))]
  · refine ⟨l, 1 + v1, v3, v2, hl, by omega, fun k hk => ?_⟩
    unfold spec_DrawStoreTake.f
    rw [e]
    simp only [bsome]
    rw [e1 k hk]
    simp only [bsome]
    rw [e2 k (by omega)]
    simp only [bsome]
    rw [e3 k (by omega)]
    simp only [bsome]
    rw [w64 (1 + v1) (by omega) (by omega), spec_StoreHas_eq l (by omega) (1 + v1) v2 k (by omega)]
    simp only [bsome]
    rw [e4 k (by omega)]
    simp only [bsome]
    rw [e5 k (by omega)]
    simp only [bsome]
    rw [if_neg c]

end Go.Proofs.Ytcopoankphebcaa.B
