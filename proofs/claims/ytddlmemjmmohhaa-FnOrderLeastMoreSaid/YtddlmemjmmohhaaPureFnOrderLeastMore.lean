/- The pure statement of FnOrderLeastMore is proved: one unit less is not dearer, and at most a first package cheaper. Conditions: none. -/
import Derived.Test.YtddlmemjmmohhaaPAllx0
import Derived.Test.YtddlmemjmmohhaaPAllx11
import Derived.Test.YtddlmemjmmohhaaBbase
import Derived.Test.YtddlmemjmmohhaaBpick
import Derived.Test.YtddlmemjmmohhaaBoffers
import Derived.Test.YtddlmemjmmohhaaBdrawoffers
import Derived.Test.YtddlmemjmmohhaaBdrawleast
import Derived.Test.YtddlmemjmmohhaaBleast
namespace Go.Proofs.Ytddlmemjmmohhaa.Pure
open Go.RowKit Go.Proofs.Ytddlmemjmmohhaa.PAll Go.Proofs.Ytddlmemjmmohhaa.B Go.Proofs.YtddlmemjmmohhaaW.PrintWords Go.Proofs.YtddlmemjmmohhaaW.PrintLast
set_option linter.unusedVariables false
set_option linter.unusedSimpArgs false

theorem FnOrderLeastMore (l0 : List Int) (ok0 : CodeOk l0) : ∃ k, laws_FnOrderLeastMore.f k l0 = some true := by
  by_cases h1 : (l0.length : Int) > 1048576
  · exact ⟨0, by unfold laws_FnOrderLeastMore.f; rw [if_pos h1]⟩
  obtain ⟨l, n, hB, n0, n1, e⟩ := drawOrderLeast_ok l0 ok0
  have hl := hB.1
  obtain ⟨k, hk⟩ : ∃ k : Nat, 2000 ≤ k := ⟨2000, Nat.le_refl _⟩
  refine ⟨k, ?_⟩
  unfold laws_FnOrderLeastMore.f
  rw [if_neg h1, e k (by omega)]
  simp only [bsome]
  rw [impl_OrderLeast_eq l (by omega) n k (by omega), spec_OrderLeast_eq l (by omega) n k (by omega), w64 (n - 1) (by omega) (by omega), impl_OrderLeast_eq l (by omega) (n - 1) k (by omega)]
  simp only [bsome, if_true, beq_self_eq_true]
  by_cases c : orderLeastV l n < 0
  · rw [if_pos c]
  rw [if_neg c]
  by_cases c0 : n = 0
  · rw [if_pos c0]
  rw [if_neg c0]
  have hv : offersV l = true := by
    cases hv : offersV l with
    | true => rfl
    | false => rw [orderLeastV, hv] at c; simp at c
  have hn : 0 ≤ n ∧ n ≤ 99 := by
    rw [orderLeastV, if_pos hv] at c
    by_cases hn : 0 ≤ n ∧ n ≤ 99
    · exact hn
    · rw [if_neg hn] at c; simp at c
  obtain ⟨hs, hne⟩ := sound_of l hv
  have e1 : orderLeastV l n = lv l n := by rw [orderLeastV, if_pos hv, if_pos hn]
  have e2 : orderLeastV l (n - 1) = lv l (n - 1) := by rw [orderLeastV, if_pos hv, if_pos (by omega)]
  have p1 := lv_pos l hs hne n hn.1
  have p2 := lv_pos l hs hne (n - 1) (by omega)
  have m1 := lv_le_of l hs hne (n - 1) n (by omega) (by omega)
  have hb := hs.2 0 (by omega) (by omega)
  have q := lv_le l hs n 0 (by omega) (by omega) (by omega)
  have a := mx0 (n - (rd_T37 l 0).f0)
  have m2 := lv_le_of l hs hne (mx (n - (rd_T37 l 0).f0) 0) (n - 1) a.1 (by omega)
  unfold own at q
  rw [e1, e2, if_pos (by omega), if_pos m1, if_pos (by omega), w64 _ (by omega) (by omega)]
  rw [decide_eq_true (by omega : lv l n ≤ lv l (n - 1) + (rd_T37 l 0).f1)]

end Go.Proofs.Ytddlmemjmmohhaa.Pure
