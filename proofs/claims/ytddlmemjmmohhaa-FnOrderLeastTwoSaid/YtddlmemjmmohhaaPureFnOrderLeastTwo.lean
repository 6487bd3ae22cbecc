/- The pure statement of FnOrderLeastTwo is proved: units ordered at once are not dearer than in two orders. Conditions: none. -/
import Derived.Test.YtddlmemjmmohhaaPAllx0
import Derived.Test.YtddlmemjmmohhaaPAllx11
import Derived.Test.YtddlmemjmmohhaaBbase
import Derived.Test.YtddlmemjmmohhaaBpick
import Derived.Test.YtddlmemjmmohhaaBoffers
import Derived.Test.YtddlmemjmmohhaaBdrawoffers
import Derived.Test.YtddlmemjmmohhaaBdrawleast
import Derived.Test.YtddlmemjmmohhaaBleast
namespace Go.Proofs.Ytddlmemjmmohhaa.Pure
open Go.RowKit Go.Proofs.Ytddlmemjmmohhaa.PAll Go.Proofs.Ytddlmemjmmohhaa.B Go.Proofs.YtddlmemjmmohhaaW.PrintWords Go.Proofs.YtddlmemjmmohhaaW.PrintLast
set_option linter.unusedVariables false
set_option linter.unusedSimpArgs false

theorem lv_sub (l : List S37) (hs : Sound l) (hne : 0 < l.length) (b : Int) (hb : 0 ≤ b) : ∀ (a : Nat), lv l ((a : Int) + b) ≤ lv l a + lv l b := by
  intro a
  induction a using Nat.strongRecOn with
  | ind a ih =>
    by_cases h : a = 0
    · subst h
      rw [show lv l ((0 : Nat) : Int) = 0 from rfl, show ((0 : Nat) : Int) + b = b by omega]
      omega
    · obtain ⟨i, h0, h1, e⟩ := lv_ex l hs hne a (by omega)
      have hi := hs.2 i h0 h1
      have q := lv_le l hs (a + b) i (by omega) h0 h1
      unfold own at e q
      by_cases c : (rd_T37 l i).f0 ≤ a
      · have e1 : mx ((a : Int) - (rd_T37 l i).f0) 0 = (a : Int) - (rd_T37 l i).f0 := by unfold mx; rw [if_neg (by omega)]
        have e2 : mx ((a : Int) + b - (rd_T37 l i).f0) 0 = ((a : Int) - (rd_T37 l i).f0) + b := by unfold mx; rw [if_neg (by omega)]; omega
        have := ih ((a : Int) - (rd_T37 l i).f0).toNat (by omega)
        rw [Int.toNat_of_nonneg (by omega)] at this
        rw [e1] at e
        rw [e2] at q
        omega
      · have e1 : mx ((a : Int) - (rd_T37 l i).f0) 0 = 0 := by unfold mx; rw [if_pos (by omega)]
        have z := mx0 ((a : Int) + b - (rd_T37 l i).f0)
        have := lv_le_of l hs hne (mx ((a : Int) + b - (rd_T37 l i).f0) 0) b z.1 (by omega)
        rw [e1, lv_zero] at e
        omega
theorem FnOrderLeastTwo (l0 : List Int) (ok0 : CodeOk l0) (l1 : List Int) (ok1 : CodeOk l1) : ∃ k, laws_FnOrderLeastTwo.f k l0 l1 = some true := by
  by_cases h1 : (l0.length : Int) > 1048576
  · exact ⟨0 + 1, by unfold laws_FnOrderLeastTwo.f; rw [if_pos h1]; simp only [laws_FnOrderLeastTwo.j0, if_true]⟩
  by_cases h2 : (l1.length : Int) > 1048576
  · exact ⟨0 + 1, by unfold laws_FnOrderLeastTwo.f; rw [if_neg h1, decide_eq_true h2]; simp only [laws_FnOrderLeastTwo.j0, if_true]⟩
  obtain ⟨l, n, hB, n0, n1, e⟩ := drawOrderLeast_ok l0 ok0
  have hl := hB.1
  obtain ⟨k, hk⟩ : ∃ k : Nat, 2000 ≤ k := ⟨2000, Nat.le_refl _⟩
  refine ⟨k + 1 + 1, ?_⟩
  unfold laws_FnOrderLeastTwo.f
  rw [if_neg h1, decide_eq_false h2]
  simp only [laws_FnOrderLeastTwo.j0]
  rw [if_neg (by simp), e _ (by omega)]
  simp only [bsome]
  rw [impl_OrderLeast_eq l (by omega) n _ (by omega), spec_OrderLeast_eq l (by omega) n _ (by omega)]
  simp only [bsome, if_true]
  simp only [laws_FnOrderLeastTwo.j1]
  by_cases c : orderLeastV l n < 0
  · rw [decide_eq_true c, if_pos rfl, beq_self_eq_true]
  rw [decide_eq_false c, if_neg (by simp), w64 (n + 1) (by omega) (by omega)]
  have hv : offersV l = true := by
    cases hv : offersV l with
    | true => rfl
    | false => rw [orderLeastV, hv] at c; simp at c
  have hn : 0 ≤ n ∧ n ≤ 99 := by
    rw [orderLeastV, if_pos hv] at c
    by_cases hn : 0 ≤ n ∧ n ≤ 99
    · exact hn
    · rw [if_neg hn] at c; simp at c
  obtain ⟨hs, hne⟩ := sound_of l hv
  have a1 := Int.emod_nonneg (l1.length : Int) (b := n + 1) (by omega)
  have a2 := Int.emod_lt_of_pos (l1.length : Int) (b := n + 1) (by omega)
  generalize (l1.length : Int) % (n + 1) = a at a1 a2
  rw [if_neg (by omega), w64 (n - a) (by omega) (by omega), impl_OrderLeast_eq l (by omega) a _ (by omega)]
  simp only [bsome]
  rw [impl_OrderLeast_eq l (by omega) (n - a) _ (by omega)]
  simp only [bsome]
  have e1 : orderLeastV l n = lv l n := by rw [orderLeastV, if_pos hv, if_pos hn]
  have e2 : orderLeastV l a = lv l a := by rw [orderLeastV, if_pos hv, if_pos (by omega)]
  have e3 : orderLeastV l (n - a) = lv l (n - a) := by rw [orderLeastV, if_pos hv, if_pos (by omega)]
  have p2 := lv_pos l hs hne a a1
  have p3 := lv_pos l hs hne (n - a) (by omega)
  have q := lv_sub l hs hne (n - a) (by omega) a.toNat
  rw [Int.toNat_of_nonneg a1, show a + (n - a) = n by omega] at q
  rw [e1, e2, e3, w64 _ (by omega) (by omega), decide_eq_true q]

end Go.Proofs.Ytddlmemjmmohhaa.Pure
