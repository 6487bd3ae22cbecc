/- Lemmas about the printed functions (bestlaws). -/
import Derived.Test.YtddlmemjmmohhaaPAllx0
import Derived.Test.YtddlmemjmmohhaaBbase
import Derived.Test.YtddlmemjmmohhaaBoffers
import Derived.Test.YtddlmemjmmohhaaBleast
import Derived.Test.YtddlmemjmmohhaaBsums
import Derived.Test.YtddlmemjmmohhaaBcounts
import Derived.Test.YtddlmemjmmohhaaBleastof
import Derived.Test.YtddlmemjmmohhaaBbest
namespace Go.Proofs.Ytddlmemjmmohhaa.B
open Go.RowKit Go.Proofs.Ytddlmemjmmohhaa.PAll Go.Proofs.YtddlmemjmmohhaaW.PrintWords Go.Proofs.YtddlmemjmmohhaaW.PrintLast
set_option linter.unusedVariables false
set_option linter.unusedSimpArgs false

/-! what the best order is good for -/
theorem sumFrom_shift (f g : Int → Int) : ∀ (d : Nat) (i : Int), (∀ j, i ≤ j → j < i + d → f (j + 1) = g j) → sumFrom f d (i + 1) = sumFrom g d i := by
  intro d
  induction d with
  | zero => exact fun _ _ => rfl
  | succ d ih =>
    intro i h
    simp only [sumFrom]
    rw [h i (by omega) (by omega), ih (i + 1) fun j h1 h2 => h j (by omega) (by omega)]
theorem rd_cons_succ (x : Int) (xs : List Int) (j : Int) (h : 0 ≤ j) : rd (x :: xs) (j + 1) = rd xs j := by
  unfold rd
  rw [show (j + 1).toNat = j.toNat + 1 by omega]
  rfl
theorem rdo_cons_succ (x : S37) (xs : List S37) (j : Int) (h : 0 ≤ j) : rd_T37 (x :: xs) (j + 1) = rd_T37 xs j := by
  unfold rd_T37
  rw [show (j + 1).toNat = j.toNat + 1 by omega]
  rfl
theorem G_sums : ∀ (l : List S37), Sound l → ∀ (n : Nat), 0 ≤ lv l n → sumFrom (prOf l (G l n)) l.length 0 = lv l n ∧ (n : Int) ≤ sumFrom (szOf l (G l n)) l.length 0 ∧ ∀ i : Int, 0 ≤ i → i < l.length → 0 ≤ rd (G l n) i ∧ rd (G l n) i ≤ n := by
  intro l
  induction l with
  | nil =>
    intro hs n hp
    by_cases h : n = 0
    · subst h
      exact ⟨rfl, by simp [sumFrom], fun i h0 h1 => by simp at h1; omega⟩
    · rw [lv_none n (by omega)] at hp
      omega
  | cons o r ih =>
    intro hs n hp
    have hne : 0 < (o :: r).length := by simp
    have hsr : Sound r := by
      have := sound_drop (o :: r) hs 1
      exact this
    obtain ⟨s1, s2, _⟩ := cnt_spec (o :: r) hs hne n
    have rest := cnt_rest (o :: r) hs hne n
    have er : rd_T37 (o :: r) 0 = o := rfl
    have ed : (o :: r).drop 1 = r := rfl
    rw [er] at s1
    rw [er, ed] at rest
    have a := mx0 ((n : Int) - (cnt (o :: r) n : Int) * o.f0)
    have pr := lv_pos (o :: r) hs hne _ a.1
    obtain ⟨m, hm⟩ : ∃ m : Nat, mx ((n : Int) - (cnt (o :: r) n : Int) * o.f0) 0 = (m : Int) := ⟨_, (Int.toNat_of_nonneg a.1).symm⟩
    rw [hm] at s1 rest a pr
    obtain ⟨i1, i2, i3⟩ := ih hsr m (by omega)
    have hb := hs.2 0 (by omega) (by omega)
    rw [er] at hb
    have c0 : 0 ≤ (cnt (o :: r) n : Int) * o.f0 := Int.mul_nonneg (by omega) (by omega)
    have g : G (o :: r) n = (cnt (o :: r) n : Int) :: G r m := by rw [G, hm]
    rw [g]
    simp only [List.length_cons, sumFrom]
    have z1 : prOf (o :: r) ((cnt (o :: r) n : Int) :: G r m) 0 = (cnt (o :: r) n : Int) * o.f1 := Int.mul_comm _ _
    have z2 : szOf (o :: r) ((cnt (o :: r) n : Int) :: G r m) 0 = (cnt (o :: r) n : Int) * o.f0 := Int.mul_comm _ _
    rw [z1, z2, sumFrom_shift (prOf (o :: r) ((cnt (o :: r) n : Int) :: G r m)) (prOf r (G r m)) r.length 0 (fun j j0 _ => by unfold prOf; rw [rd_cons_succ _ _ _ j0, rdo_cons_succ _ _ _ j0]),
      sumFrom_shift (szOf (o :: r) ((cnt (o :: r) n : Int) :: G r m)) (szOf r (G r m)) r.length 0 (fun j j0 _ => by unfold szOf; rw [rd_cons_succ _ _ _ j0, rdo_cons_succ _ _ _ j0])]
    refine ⟨by omega, by omega, fun i h0 h1 => ?_⟩
    by_cases e : i = 0
    · subst e
      show 0 ≤ (cnt (o :: r) n : Int) ∧ (cnt (o :: r) n : Int) ≤ n
      omega
    · have := i3 (i - 1) (by omega) (by omega)
      rw [show i = (i - 1) + 1 by omega, rd_cons_succ _ _ _ (by omega)]
      omega
theorem G_counts (l : List S37) (hv : offersV l = true) (n : Int) (h0 : 0 ≤ n) (h1 : n ≤ 99) : countsV l (G l n) = true ∧ orderPriceV l (G l n) = lv l n ∧ n ≤ orderSizeV l (G l n) := by
  obtain ⟨hs, hne⟩ := sound_of l hv
  have p := lv_pos l hs hne n h0
  have s := G_sums l hs n.toNat (by rw [Int.toNat_of_nonneg h0]; exact p.1)
  rw [Int.toNat_of_nonneg h0] at s
  obtain ⟨s1, s2, s3⟩ := s
  have hc : countsV l (G l n) = true := by
    rw [countsV_iff]
    refine ⟨hv, G_len l n, fun i i0 i1 => ?_⟩
    rw [G_len] at i1
    have := s3 i i0 i1
    omega
  exact ⟨hc, by rw [orderPriceV, if_pos hc, s1], by rw [orderSizeV, if_pos hc]; exact s2⟩

end Go.Proofs.Ytddlmemjmmohhaa.B
