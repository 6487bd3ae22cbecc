/- Lemmas about the printed functions (putdef). -/
import Derived.Test.YtfnngpfkcnfhiaaPAllx0
import Derived.Test.YtfnngpfkcnfhiaaBbase
import Derived.Test.YtfnngpfkcnfhiaaBlots
import Derived.Test.YtfnngpfkcnfhiaaBstorespec
namespace Go.Proofs.Ytfnngpfkcnfhiaa.B
open Go.RowKit Go.Proofs.Ytfnngpfkcnfhiaa.PAll Go.Proofs.YtfnngpfkcnfhiaaW.PrintWords Go.Proofs.YtfnngpfkcnfhiaaW.PrintLast
set_option linter.unusedVariables false
set_option linter.unusedSimpArgs false

/-! #### a lot is put into a store -/
def sameDay (y x : S30) : Prop := y.f0 = x.f0 ∧ y.f1 = x.f1
instance (y x : S30) : Decidable (sameDay y x) := by unfold sameDay; infer_instance
def putL (x : S30) : List S30 → List S30
  | [] => [x]
  | y :: r => if sameDay y x then ⟨y.f0, y.f1, wrap64 (y.f2 + x.f2)⟩ :: r else if befL x y then x :: y :: r else y :: putL x r
theorem putL_len (x : S30) : ∀ l : List S30, (putL x l).length ≤ l.length + 1
  | [] => Nat.le_refl _
  | y :: r => by
    have := putL_len x r
    rw [putL]
    split
    · simp
    · split
      · simp
      · simp only [List.length_cons]
        omega
def putV (l : List S30) (x : S30) : List S30 × Bool := if storeV l = true ∧ okL x ∧ storeV (putL x l) = true then (putL x l, true) else ([], false)
theorem putV_len (l : List S30) (x : S30) : (putV l x).1.length ≤ 12 := by
  unfold putV
  split
  · rename_i h
    exact ((storeV_iff _).1 h.2.2).1
  · exact Nat.zero_le _

end Go.Proofs.Ytfnngpfkcnfhiaa.B
