/- Lemmas about the printed functions (bestimpl). -/
import Derived.Test.YtddlmemjmmohhaaPAllx0
import Derived.Test.YtddlmemjmmohhaaPAllx14
import Derived.Test.YtddlmemjmmohhaaBbase
import Derived.Test.YtddlmemjmmohhaaBoffers
import Derived.Test.YtddlmemjmmohhaaBleast
import Derived.Test.YtddlmemjmmohhaaBsums
import Derived.Test.YtddlmemjmmohhaaBcounts
import Derived.Test.YtddlmemjmmohhaaBleastof
import Derived.Test.YtddlmemjmmohhaaBbest
namespace Go.Proofs.Ytddlmemjmmohhaa.B
open Go.RowKit Go.Proofs.Ytddlmemjmmohhaa.PAll Go.Proofs.YtddlmemjmmohhaaW.PrintWords Go.Proofs.YtddlmemjmmohhaaW.PrintLast
set_option linter.unusedVariables false
set_option linter.unusedSimpArgs false

theorem impl_OrderBest_l1 (l : List S37) (hs : Sound l) (i : Nat) (hi : i < l.length) (n : Nat) (hn : n ≤ 99) (out : List Int) (ho : out.length = i) : ∀ (d : Nat), (cnt (l.drop i) n : Int) + d ≤ lv (l.drop i) n → ((cnt (l.drop i) n : Int) + d) * (rd_T37 l i).f1 ≤ lv (l.drop i) n → ∀ k,
    impl_OrderBest.l1 (k + d + 1) l n (lv (l.drop i) n) out (tab (l.drop (i + 1)) n) ((cnt (l.drop i) n : Int) + d) l (l.length : Int) (i : Int) (rd_T37 l i).f0 (rd_T37 l i).f1 =
      impl_OrderBest.l0 k l (mx ((n : Int) - (cnt (l.drop i) n : Int) * (rd_T37 l i).f0) 0) (lv (l.drop i) n - (cnt (l.drop i) n : Int) * (rd_T37 l i).f1) (out ++ [(cnt (l.drop i) n : Int)]) l (l.length : Int) ((i : Int) + 1) := by
  have hl := hs.1
  have hd := sound_drop l hs i
  have hne : 0 < (l.drop i).length := by rw [List.length_drop]; omega
  have er : rd_T37 (l.drop i) 0 = rd_T37 l i := by rw [rd_drop l i 0 (by omega), Int.add_zero]
  have hb := hs.2 i (by omega) (by omega)
  obtain ⟨s1, s2, s3⟩ := cnt_spec (l.drop i) hd hne n
  have rest := cnt_rest (l.drop i) hd hne n
  have pv := lv_pos (l.drop i) hd hne n (by omega)
  have dd : (l.drop i).drop 1 = l.drop (i + 1) := by rw [List.drop_drop]
  rw [er, dd] at rest
  rw [er] at s1
  intro d
  induction d with
  | zero =>
    intro h1 h2 k
    have m1 := mul_range (a := (cnt (l.drop i) n : Int)) (b := (rd_T37 l i).f0) (A := 99) (B := 50) (by omega) (by omega) (by omega) (by omega)
    have m2 := mul_range (a := (cnt (l.drop i) n : Int)) (b := (rd_T37 l i).f1) (A := 99) (B := 999) (by omega) (by omega) (by omega) (by omega)
    have a := mx0 ((n : Int) - (cnt (l.drop i) n : Int) * (rd_T37 l i).f0)
    rw [show (cnt (l.drop i) n : Int) + ((0 : Nat) : Int) = (cnt (l.drop i) n : Int) by omega]
    rw [impl_OrderBest.l1, w64 ((cnt (l.drop i) n : Int) * (rd_T37 l i).f0) (by omega) (by omega), w64 ((n : Int) - _) (by omega) (by omega), w64 ((cnt (l.drop i) n : Int) * (rd_T37 l i).f1) (by omega) (by omega), w64 (lv (l.drop i) n - _) (by omega) (by omega)]
    rw [if_pos a.1, if_pos (by rw [tab_len]; omega), rd_tab _ n _ a.1 (by omega), if_pos (by omega), if_pos (by omega), w64 ((i : Int) + 1) (by omega) (by omega)]
  | succ d ih =>
    intro h1 h2 k
    have cd : ((cnt (l.drop i) n : Int) + ((d + 1 : Nat) : Int)) = ((cnt (l.drop i) n + (d + 1) : Nat) : Int) := by omega
    have mg := cnt_max (l.drop i) hd hne n (cnt (l.drop i) n + (d + 1)) (by omega)
    rw [er] at mg
    rw [cd] at h1 h2 ⊢
    generalize hc : cnt (l.drop i) n + (d + 1) = c at *
    have m1 := mul_range (a := (c : Int)) (b := (rd_T37 l i).f0) (A := 99000) (B := 50) (by omega) (by omega) (by omega) (by omega)
    have m2 : 0 ≤ (c : Int) * (rd_T37 l i).f1 := Int.mul_nonneg (by omega) (by omega)
    have a := mx0 ((n : Int) - (c : Int) * (rd_T37 l i).f0)
    have e := ih (by omega) (by
      have : ((cnt (l.drop i) n : Int) + (d : Int)) * (rd_T37 l i).f1 ≤ (c : Int) * (rd_T37 l i).f1 := Int.mul_le_mul_of_nonneg_right (by omega) (by omega)
      omega) k
    rw [show k + (d + 1) + 1 = (k + d + 1) + 1 by omega]
    generalize k + d + 1 = q at e ⊢
    have ne : ¬ lv (l.drop (i + 1)) (mx ((n : Int) - (c : Int) * (rd_T37 l i).f0) 0) = lv (l.drop i) n - (c : Int) * (rd_T37 l i).f1 := by
      intro h
      by_cases w : i + 1 < l.length
      · have up := lv_drop_ge' (l.drop i) hd 1 (by rw [List.length_drop]; omega) _ a.1
        rw [dd] at up
        omega
      · have e0 : l.drop (i + 1) = [] := List.drop_of_length_le (by omega)
        rw [e0] at h
        by_cases z : mx ((n : Int) - (c : Int) * (rd_T37 l i).f0) 0 = 0
        · rw [z, lv_zero] at h mg
          omega
        · rw [lv_none _ (by omega)] at h
          omega
    rw [impl_OrderBest.l1, w64 ((c : Int) * (rd_T37 l i).f0) (by omega) (by omega), w64 ((n : Int) - _) (by omega) (by omega), w64 ((c : Int) * (rd_T37 l i).f1) (by omega) (by omega), w64 (lv (l.drop i) n - _) (by omega) (by omega)]
    rw [if_pos a.1, if_pos (by rw [tab_len]; omega), rd_tab _ n _ a.1 (by omega), if_neg ne, w64 ((c : Int) - 1) (by omega) (by omega), show (c : Int) - 1 = (cnt (l.drop i) n : Int) + (d : Int) by omega]
    exact e
theorem impl_OrderBest_l0 (l : List S37) (hs : Sound l) : ∀ (d i : Nat), i + d = l.length → ∀ (n : Nat) (out : List Int), n ≤ 99 → out.length = i → 0 ≤ lv (l.drop i) n → lv (l.drop i) n ≤ 99000 → ∀ k : Nat, 110000 * d + 2000 ≤ k →
    impl_OrderBest.l0 k l n (lv (l.drop i) n) out l (l.length : Int) (i : Int) = some (out ++ G (l.drop i) n, true) := by
  have hl := hs.1
  intro d
  induction d with
  | zero =>
    intro i hi n out hn ho _ _ k hk
    obtain ⟨k, rfl, _⟩ := rounds1 (k := k) (B := 0) (by omega)
    rw [impl_OrderBest.l0, if_neg (by omega), List.drop_of_length_le (by omega), G, List.append_nil]
  | succ d ih =>
    intro i hi n out hn ho hp hp2 k hk
    obtain ⟨k, rfl, _⟩ := rounds1 (k := k) (B := 0) (by omega)
    have hd := sound_drop l hs i
    have hd1 := sound_drop l hs (i + 1)
    have hne : 0 < (l.drop i).length := by rw [List.length_drop]; omega
    have er : rd_T37 (l.drop i) 0 = rd_T37 l i := by rw [rd_drop l i 0 (by omega), Int.add_zero]
    have hb := hs.2 i (by omega) (by omega)
    obtain ⟨s1, s2, s3⟩ := cnt_spec (l.drop i) hd hne n
    have rest := cnt_rest (l.drop i) hd hne n
    have dd : (l.drop i).drop 1 = l.drop (i + 1) := by rw [List.drop_drop]
    rw [er, dd] at rest
    rw [er] at s1
    have a := mx0 ((n : Int) - (cnt (l.drop i) n : Int) * (rd_T37 l i).f0)
    have pr := lv_pos (l.drop i) hd hne _ a.1
    -- the count from which the loop comes down
    have t0 : 0 ≤ Int.tdiv (lv (l.drop i) n) (rd_T37 l i).f1 := Int.tdiv_nonneg hp (by omega)
    have t1 : Int.tdiv (lv (l.drop i) n) (rd_T37 l i).f1 ≤ lv (l.drop i) n := Int.tdiv_le_self _ hp
    have te : Int.tdiv (lv (l.drop i) n) (rd_T37 l i).f1 = lv (l.drop i) n / (rd_T37 l i).f1 := Int.tdiv_eq_ediv_of_nonneg hp
    have t2 : Int.tdiv (lv (l.drop i) n) (rd_T37 l i).f1 * (rd_T37 l i).f1 ≤ lv (l.drop i) n := by
      rw [te]
      exact Int.ediv_mul_le _ (by omega)
    have t3 : (cnt (l.drop i) n : Int) ≤ Int.tdiv (lv (l.drop i) n) (rd_T37 l i).f1 := by
      rw [te]
      exact Int.le_ediv_of_mul_le (by omega) (by omega)
    obtain ⟨t, ht⟩ : ∃ t, Int.tdiv (lv (l.drop i) n) (rd_T37 l i).f1 = t := ⟨_, rfl⟩
    rw [ht] at t0 t1 t2 t3
    obtain ⟨e, rfl⟩ : ∃ e : Nat, t = (cnt (l.drop i) n : Int) + e := ⟨(t - (cnt (l.drop i) n : Int)).toNat, by omega⟩
    rw [impl_OrderBest.l0, if_pos (by omega), if_pos (by omega), if_pos (by omega), w64 ((i : Int) + 1) (by omega) (by omega), if_pos (by omega), if_pos (by omega), show ((i : Int) + 1).toNat = i + 1 by omega, impl_leastPrices_eq _ hd1 n (by omega) (by omega) k (by omega)]
    simp only [bsome]
    obtain ⟨k2, rfl⟩ : ∃ q, k = q + e + 1 := ⟨k - e - 1, by omega⟩
    rw [if_neg (by omega), ht, w64 ((cnt (l.drop i) n : Int) + (e : Int)) (by omega) (by omega), Int.toNat_natCast, impl_OrderBest_l1 l hs i (by omega) n hn out ho e t1 t2 k2]
    obtain ⟨m, hm⟩ : ∃ m : Nat, mx ((n : Int) - (cnt (l.drop i) n : Int) * (rd_T37 l i).f0) 0 = (m : Int) := ⟨_, (Int.toNat_of_nonneg a.1).symm⟩
    have m1 := mul_range (a := (cnt (l.drop i) n : Int)) (b := (rd_T37 l i).f1) (A := 99) (B := 999) (by omega) (by omega) (by omega) (by omega)
    have m0 : 0 ≤ (cnt (l.drop i) n : Int) * (rd_T37 l i).f0 := Int.mul_nonneg (by omega) (by omega)
    have pe : lv (l.drop i) n - (cnt (l.drop i) n : Int) * (rd_T37 l i).f1 = lv (l.drop (i + 1)) m := by
      rw [← hm, ← rest]
      omega
    have gd := G_drop l i (by omega) n
    rw [hm] at gd rest pr ⊢
    rw [pe, show (i : Int) + 1 = ((i + 1 : Nat) : Int) by omega, ih (i + 1) (by omega) m _ (by omega) (by rw [List.length_append, List.length_singleton, ho]) (by omega) (by omega) k2 (by omega), gd, List.append_assoc, List.singleton_append]
theorem impl_OrderBest_eq (l : List S37) (hl : l.length ≤ 1000000000) (n : Int) (k : Nat) (hk : l.length + 340000 ≤ k) : impl_OrderBest.f k l n = some (if offersV l = true then (if 0 ≤ n ∧ n ≤ 99 then (G l n, true) else ([], false)) else ([], false)) := by
  unfold impl_OrderBest.f
  rw [impl_OrderLeast_eq l hl n k (by omega)]
  simp only [bsome]
  unfold orderLeastV
  cases hv : offersV l with
  | false => simp
  | true =>
    rw [if_pos rfl, if_pos rfl]
    by_cases hn : 0 ≤ n ∧ n ≤ 99
    · obtain ⟨hs, hne⟩ := sound_of l hv
      have p := lv_pos l hs hne n hn.1
      have h3 := hs.1
      have e := impl_OrderBest_l0 l hs l.length 0 (by omega) n.toNat [] (by omega) rfl (by rw [List.drop_zero, Int.toNat_of_nonneg hn.1]; exact p.1) (by rw [List.drop_zero, Int.toNat_of_nonneg hn.1]; omega) k (by omega)
      rw [List.drop_zero, Int.toNat_of_nonneg hn.1, List.nil_append] at e
      rw [if_pos hn, if_pos hn, if_neg (by omega)]
      exact e
    · rw [if_neg hn, if_neg hn]
      simp

end Go.Proofs.Ytddlmemjmmohhaa.B
