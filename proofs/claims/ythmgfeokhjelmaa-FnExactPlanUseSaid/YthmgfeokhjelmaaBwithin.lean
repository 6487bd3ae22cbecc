/- Lemmas about the printed functions (within). -/
import Derived.Test.YthmgfeokhjelmaaPAllx0
import Derived.Test.YthmgfeokhjelmaaPAllx1
import Derived.Test.YthmgfeokhjelmaaPAllx5
import Derived.Test.YthmgfeokhjelmaaBbase
namespace Go.Proofs.Ythmgfeokhjelmaa.B
open Go.RowKit Go.Proofs.Ythmgfeokhjelmaa.PAll Go.Proofs.YthmgfeokhjelmaaW.PrintWords Go.Proofs.YthmgfeokhjelmaaW.PrintLast
set_option linter.unusedVariables false
set_option linter.unusedSimpArgs false

theorem within_eq (a b c : Int) : impl_within.f a b c = some (decide (b ≤ a ∧ a ≤ c)) := by
  unfold impl_within.f
  by_cases h : b ≤ a <;> simp [h]
theorem l6In_eq (a b c : Int) : spec_l6In.f a b c = some (decide (b ≤ a ∧ a ≤ c)) := by
  unfold spec_l6In.f
  by_cases h : b ≤ a <;> simp [h]

end Go.Proofs.Ythmgfeokhjelmaa.B
