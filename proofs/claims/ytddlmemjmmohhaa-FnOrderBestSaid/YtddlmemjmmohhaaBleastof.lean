/- Lemmas about the printed functions (leastof). -/
import Derived.Test.YtddlmemjmmohhaaPAllx0
import Derived.Test.YtddlmemjmmohhaaBbase
import Derived.Test.YtddlmemjmmohhaaBoffers
import Derived.Test.YtddlmemjmmohhaaBleast
import Derived.Test.YtddlmemjmmohhaaBsums
import Derived.Test.YtddlmemjmmohhaaBcounts
namespace Go.Proofs.Ytddlmemjmmohhaa.B
open Go.RowKit Go.Proofs.Ytddlmemjmmohhaa.PAll Go.Proofs.YtddlmemjmmohhaaW.PrintWords Go.Proofs.YtddlmemjmmohhaaW.PrintLast
set_option linter.unusedVariables false
set_option linter.unusedSimpArgs false

/-! no order is cheaper than the least price -/
theorem lv_rep (l : List S37) (hs : Sound l) (hne : 0 < l.length) (i : Int) (h0 : 0 ≤ i) (h1 : i < l.length) : ∀ (c : Nat) (m : Int), 0 ≤ m → lv l m ≤ c * (rd_T37 l i).f1 + lv l (mx (m - c * (rd_T37 l i).f0) 0) := by
  have hi := hs.2 i h0 h1
  intro c
  induction c with
  | zero =>
    intro m hm
    have : mx (m - ((0 : Nat) : Int) * (rd_T37 l i).f0) 0 = m := by
      rw [show ((0 : Nat) : Int) * (rd_T37 l i).f0 = 0 from Int.zero_mul _]
      unfold mx
      rw [if_neg (by omega)]
      omega
    rw [this, show ((0 : Nat) : Int) * (rd_T37 l i).f1 = 0 from Int.zero_mul _]
    omega
  | succ c ih =>
    intro m hm
    have e1 : ((c + 1 : Nat) : Int) * (rd_T37 l i).f1 = c * (rd_T37 l i).f1 + (rd_T37 l i).f1 := by rw [Int.natCast_succ, Int.add_mul, Int.one_mul]
    have e2 : ((c + 1 : Nat) : Int) * (rd_T37 l i).f0 = c * (rd_T37 l i).f0 + (rd_T37 l i).f0 := by rw [Int.natCast_succ, Int.add_mul, Int.one_mul]
    have n1 : 0 ≤ (c : Int) * (rd_T37 l i).f1 := Int.mul_nonneg (by omega) (by omega)
    have n2 : 0 ≤ (c : Int) * (rd_T37 l i).f0 := Int.mul_nonneg (by omega) (by omega)
    by_cases hz : m = 0
    · subst hz
      rw [lv_zero, e1]
      have := lv_pos l hs hne _ (mx0 (0 - ((c + 1 : Nat) : Int) * (rd_T37 l i).f0)).1
      omega
    · have q := lv_le l hs m i (by omega) h0 h1
      unfold own at q
      have a := mx0 (m - (rd_T37 l i).f0)
      have := ih (mx (m - (rd_T37 l i).f0) 0) a.1
      have e3 : mx (mx (m - (rd_T37 l i).f0) 0 - c * (rd_T37 l i).f0) 0 = mx (m - ((c + 1 : Nat) : Int) * (rd_T37 l i).f0) 0 := by
        rw [e2]
        generalize (c : Int) * (rd_T37 l i).f0 = P at n2
        unfold mx
        repeat' split
        all_goals omega
      rw [e3] at this
      rw [e1]
      omega
theorem lv_order (l : List S37) (hs : Sound l) (hne : 0 < l.length) (c : List Int) (hv : countsV l c = true) : ∀ (d : Nat) (i : Int), 0 ≤ i → i + d = l.length → ∀ m, 0 ≤ m → m ≤ sumFrom (szOf l c) d i → lv l m ≤ sumFrom (prOf l c) d i := by
  obtain ⟨a1, a2, a3⟩ := (countsV_iff l c).1 hv
  intro d
  induction d with
  | zero =>
    intro i h0 hi m hm h
    simp only [sumFrom] at h ⊢
    obtain rfl : m = 0 := by omega
    exact Int.le_refl _
  | succ d ih =>
    intro i h0 hi m hm h
    simp only [sumFrom] at h ⊢
    have hc := a3 i h0 (by omega)
    have r := lv_rep l hs hne i h0 (by omega) (rd c i).toNat m hm
    rw [Int.toNat_of_nonneg hc.1] at r
    have t := (sumFrom_range (szOf l c) 4950 d (i + 1) (fun j h2 h3 => (terms_range l c hv j (by omega) (by omega)).1)).1
    have e1 : szOf l c i = rd c i * (rd_T37 l i).f0 := Int.mul_comm _ _
    have e2 : prOf l c i = rd c i * (rd_T37 l i).f1 := Int.mul_comm _ _
    have a := mx0 (m - rd c i * (rd_T37 l i).f0)
    have := ih (i + 1) (by omega) (by omega) (mx (m - rd c i * (rd_T37 l i).f0) 0) a.1 (by omega)
    omega

end Go.Proofs.Ytddlmemjmmohhaa.B
