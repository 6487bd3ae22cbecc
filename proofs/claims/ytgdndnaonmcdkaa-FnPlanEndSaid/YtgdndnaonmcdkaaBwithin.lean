/- Lemmas about the printed functions (within). -/
import Derived.Test.YtgdndnaonmcdkaaPAllx0
import Derived.Test.YtgdndnaonmcdkaaPAllx4
import Derived.Test.YtgdndnaonmcdkaaPAllx13
import Derived.Test.YtgdndnaonmcdkaaBbase
namespace Go.Proofs.Ytgdndnaonmcdkaa.B
open Go.RowKit Go.Proofs.Ytgdndnaonmcdkaa.PAll Go.Proofs.YtgdndnaonmcdkaaW.PrintWords Go.Proofs.YtgdndnaonmcdkaaW.PrintLast
set_option linter.unusedVariables false
set_option linter.unusedSimpArgs false

theorem within_eq (a b c : Int) : impl_within.f a b c = some (decide (b ≤ a ∧ a ≤ c)) := by
  unfold impl_within.f
  by_cases h : b ≤ a <;> simp [h]
theorem l6In_eq (a b c : Int) : spec_l6In.f a b c = some (decide (b ≤ a ∧ a ≤ c)) := by
  unfold spec_l6In.f
  by_cases h : b ≤ a <;> simp [h]

end Go.Proofs.Ytgdndnaonmcdkaa.B
