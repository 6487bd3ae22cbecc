/- Lemmas about the printed functions (early). -/
import Derived.Test.YthkmimiijemniaaPAllx0
import Derived.Test.YthkmimiijemniaaPAllx6
import Derived.Test.YthkmimiijemniaaBbase
import Derived.Test.YthkmimiijemniaaBwithin
import Derived.Test.YthkmimiijemniaaBstepsv
import Derived.Test.YthkmimiijemniaaBmaxfrom
namespace Go.Proofs.Ythkmimiijemniaa.B
open Go.RowKit Go.Proofs.Ythkmimiijemniaa.PAll Go.Proofs.YthkmimiijemniaaW.PrintWords Go.Proofs.YthkmimiijemniaaW.PrintLast
set_option linter.unusedVariables false
set_option linter.unusedSimpArgs false

/-! #### the earliest starts, both ways -/
theorem rd_snoc_old (xs : List Int) (x : Int) (j : Int) (h0 : 0 ≤ j) (h1 : j < xs.length) : rd (xs ++ [x]) j = rd xs j := by
  unfold rd
  rw [List.getD_eq_getElem?_getD, List.getD_eq_getElem?_getD, List.getElem?_append_left (by omega)]
theorem rd_snoc_new (xs : List Int) (x : Int) (j : Int) (h : j = xs.length) : rd (xs ++ [x]) j = x := by
  unfold rd
  rw [List.getD_eq_getElem?_getD, List.getElem?_append_right (by omega), show j.toNat - xs.length = 0 by omega]
  rfl
def endIn (l : List S40) (g : Int → Int) (i j : Int) : Int := g (rd (rd_T40 l i).f3 j) + (rd_T40 l (rd (rd_T40 l i).f3 j)).f0
def early (l : List S40) : Nat → List Int
  | 0 => []
  | n + 1 => early l n ++ [maxFrom (endIn l (rd (early l n)) n) (rd_T40 l n).f3.length 0 0]
theorem early_len (l : List S40) : ∀ n, (early l n).length = n := by
  intro n
  induction n with
  | zero => rfl
  | succ n ih => rw [early, List.length_append, ih]; rfl
def ev (l : List S40) (i : Int) : Int := rd (early l (i.toNat + 1)) i
theorem rd_early (l : List S40) : ∀ (n : Nat) (j : Int), 0 ≤ j → j < n → rd (early l n) j = ev l j := by
  intro n
  induction n with
  | zero => intro j h0 h1; omega
  | succ n ih =>
    intro j h0 h1
    by_cases e : j = (n : Int)
    · subst e
      unfold ev
      rw [Int.toNat_natCast]
    · rw [early, rd_snoc_old _ _ _ h0 (by rw [early_len]; omega)]
      exact ih j h0 (by omega)
theorem ev_eq (l : List S40) (hv : stepsV l = true) (i : Int) (h0 : 0 ≤ i) (hi : i < l.length) : ev l i = maxFrom (endIn l (ev l) i) (rd_T40 l i).f3.length 0 0 := by
  obtain ⟨_, h⟩ := (stepsV_iff l).1 hv
  obtain ⟨n, rfl⟩ := Int.eq_ofNat_of_zero_le h0
  unfold ev
  rw [Int.toNat_natCast, early, rd_snoc_new _ _ _ (by rw [early_len])]
  refine maxFrom_congr _ _ _ _ _ fun j j0 j1 => ?_
  have := ((h n h0 hi).2.2.2 j j0 (by omega)).1
  unfold endIn
  rw [rd_early l n _ this.1 this.2]
  rfl
theorem ev_range (l : List S40) (hv : stepsV l = true) : ∀ (n : Nat), (n : Int) < l.length → 0 ≤ ev l n ∧ ev l n ≤ 100 * n := by
  obtain ⟨_, h⟩ := (stepsV_iff l).1 hv
  intro n
  induction n using Nat.strongRecOn with
  | ind n ih =>
    intro hn
    rw [ev_eq l hv n (by omega) hn]
    refine ⟨(maxFrom_spec _ _ _ _).1, maxFrom_le _ _ _ _ _ (by omega) fun j j0 j1 => ?_⟩
    have a := ((h n (by omega) hn).2.2.2 j j0 (by omega)).1
    have b := ih (rd (rd_T40 l n).f3 j).toNat (by omega) (by omega)
    rw [Int.toNat_of_nonneg a.1] at b
    have c := (h (rd (rd_T40 l n).f3 j) a.1 (by omega)).1
    unfold endIn
    omega
theorem ev_range' (l : List S40) (hv : stepsV l = true) (i : Int) (h0 : 0 ≤ i) (hi : i < l.length) : 0 ≤ ev l i ∧ ev l i ≤ 100 * i := by
  have := ev_range l hv i.toNat (by omega)
  rwa [Int.toNat_of_nonneg h0] at this
theorem after_len (l : List S40) (hv : stepsV l = true) (i : Int) (h0 : 0 ≤ i) (hi : i < l.length) : ((rd_T40 l i).f3.length : Int) ≤ i := by
  obtain ⟨h8, h⟩ := (stepsV_iff l).1 hv
  have hs := h i h0 hi
  have up : ∀ m : Nat, m < (rd_T40 l i).f3.length → (m : Int) ≤ rd (rd_T40 l i).f3 m := by
    intro m
    induction m with
    | zero => exact fun hm => (hs.2.2.2 0 (by omega) (by omega)).1.1
    | succ m ihm =>
      intro hm
      have p := ihm (by omega)
      have q := (hs.2.2.2 ((m + 1 : Nat) : Int) (by omega) (by omega)).2 (by omega)
      rw [show ((m + 1 : Nat) : Int) - 1 = (m : Int) by omega] at q
      omega
  by_cases z : (rd_T40 l i).f3.length = 0
  · omega
  · have p := up ((rd_T40 l i).f3.length - 1) (by omega)
    have q := (hs.2.2.2 (((rd_T40 l i).f3.length - 1 : Nat) : Int) (by omega) (by omega)).1
    omega
theorem impl_stepsEarly_l1 (l : List S40) (hv : stepsV l = true) (n : Nat) (hn : n < l.length) : ∀ (d : Nat) (j acc : Int), 0 ≤ j → j + d = (rd_T40 l n).f3.length → ∀ k,
    impl_stepsEarly.l1 (k + d + 1) l (early l n) acc l (l.length : Int) n (rd_T40 l n).f3 ((rd_T40 l n).f3.length : Int) j = impl_stepsEarly.l0 k l (early l n ++ [maxFrom (endIn l (rd (early l n)) n) d j acc]) l (l.length : Int) ((n : Int) + 1) := by
  obtain ⟨h8, h⟩ := (stepsV_iff l).1 hv
  have hs := h n (by omega) (by omega)
  intro d
  induction d with
  | zero =>
    intro j acc j0 hj k
    rw [Nat.add_zero, impl_stepsEarly.l1, if_neg (by omega), if_pos (by rw [early_len]; omega), w64 _ (by omega) (by omega)]
    rfl
  | succ d ih =>
    intro j acc j0 hj k
    have e := fun acc => ih (j + 1) acc (by omega) (by omega) k
    have a := (hs.2.2.2 j j0 (by omega)).1
    have r := rd_early l n _ a.1 a.2
    have rr := ev_range' l hv _ a.1 (by omega)
    have c := (h (rd (rd_T40 l n).f3 j) a.1 (by omega)).1
    rw [show k + (d + 1) + 1 = (k + d + 1) + 1 by omega]
    have jb := after_len l hv n (by omega) (by omega)
    generalize k + d + 1 = q at e ⊢
    rw [impl_stepsEarly.l1, if_pos (by omega), if_pos j0, if_pos (by omega), if_pos a.1, if_pos (by rw [early_len]; exact a.2), if_pos (by omega), w64 (rd (early l n) (rd (rd_T40 l n).f3 j) + _) (by omega) (by omega), w64 (j + 1) (by omega) (by omega), e]
    rfl
theorem impl_stepsEarly_l0 (l : List S40) (hv : stepsV l = true) (M : Nat) (hM : Inner l M) : ∀ (d n : Nat), n + d = l.length → ∀ k, (M + 4) * d + 1 ≤ k → impl_stepsEarly.l0 k l (early l n) l (l.length : Int) n = some (early l l.length) := by
  intro d
  induction d with
  | zero =>
    intro n hn k hk
    obtain ⟨k, rfl, _⟩ := rounds1 (k := k) (B := 0) (by omega)
    rw [impl_stepsEarly.l0, if_neg (by omega), show n = l.length by omega]
  | succ d ih =>
    intro n hn k hk
    rw [mul_step] at hk
    have hm := hM.2.2 n (by omega) (by omega)
    obtain ⟨k, rfl⟩ : ∃ q, k = (q + (rd_T40 l n).f3.length + 1) + 1 := ⟨k - (rd_T40 l n).f3.length - 2, by omega⟩
    have e := ih (n + 1) (by omega) k (by omega)
    rw [impl_stepsEarly.l0, if_pos (by omega), if_pos (by omega), if_pos (by omega), impl_stepsEarly_l1 l hv n (by omega) _ 0 0 (by omega) (by omega) k]
    rw [early, Int.natCast_succ] at e
    exact e
theorem impl_stepsEarly_eq (l : List S40) (hv : stepsV l = true) (M : Nat) (hM : Inner l M) (k : Nat) (hk : (M + 4) * l.length + 1 ≤ k) : impl_stepsEarly.f k l = some (early l l.length) := by
  unfold impl_stepsEarly.f
  exact impl_stepsEarly_l0 l hv M hM l.length 0 (by omega) k hk
def earlyV (l : List S40) : List Int := if stepsV l = true then early l l.length else []
theorem impl_StepsEarly_eq (l : List S40) (M : Nat) (hM : Inner l M) (k : Nat) (hk : (M + 4) * l.length + 1 ≤ k) : impl_StepsEarly.f k l = some (earlyV l) := by
  unfold impl_StepsEarly.f earlyV
  rw [impl_StepsValid_eq l M hM k hk]
  simp only [bsome]
  by_cases hv : stepsV l = true
  · rw [if_pos hv, if_pos hv, impl_stepsEarly_eq l hv M hM k hk]
    simp only [bsome]
  · rw [if_neg hv, if_neg hv]

end Go.Proofs.Ythkmimiijemniaa.B
