/- Lemmas about the printed functions (rdset). -/
import Derived.Test.YthmgfeokhjelmaaPAllx0
import Derived.Test.YthmgfeokhjelmaaBbase
namespace Go.Proofs.Ythmgfeokhjelmaa.B
open Go.RowKit Go.Proofs.Ythmgfeokhjelmaa.PAll Go.Proofs.YthmgfeokhjelmaaW.PrintWords Go.Proofs.YthmgfeokhjelmaaW.PrintLast
set_option linter.unusedVariables false
set_option linter.unusedSimpArgs false

theorem rd_set_at (c : List Int) (m : Int) (v : Int) (h0 : 0 ≤ m) (h1 : m < c.length) (j : Int) (hj : 0 ≤ j) : rd (c.set m.toNat v) j = if j = m then v else rd c j := by
  unfold rd
  rw [List.getD_eq_getElem?_getD, List.getD_eq_getElem?_getD]
  by_cases e : j = m
  · subst e
    rw [if_pos rfl, List.getElem?_set_self (by omega)]
    rfl
  · rw [if_neg e, List.getElem?_set_ne (by omega)]

end Go.Proofs.Ythmgfeokhjelmaa.B
