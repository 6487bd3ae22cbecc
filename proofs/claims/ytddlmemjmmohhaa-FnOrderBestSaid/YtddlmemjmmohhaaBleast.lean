/- Lemmas about the printed functions (least). -/
import Derived.Test.YtddlmemjmmohhaaPAllx0
import Derived.Test.YtddlmemjmmohhaaPAllx7
import Derived.Test.YtddlmemjmmohhaaPAllx8
import Derived.Test.YtddlmemjmmohhaaBbase
import Derived.Test.YtddlmemjmmohhaaBoffers
namespace Go.Proofs.Ytddlmemjmmohhaa.B
open Go.RowKit Go.Proofs.Ytddlmemjmmohhaa.PAll Go.Proofs.YtddlmemjmmohhaaW.PrintWords Go.Proofs.YtddlmemjmmohhaaW.PrintLast
set_option linter.unusedVariables false
set_option linter.unusedSimpArgs false

/-! #### least prices: one table, both ways -/
theorem mx0 (a : Int) : 0 ≤ mx a 0 ∧ a ≤ mx a 0 ∧ (mx a 0 = 0 ∨ mx a 0 = a) := by
  unfold mx
  split <;> omega
theorem rd_snoc_old (xs : List Int) (x : Int) (j : Int) (h0 : 0 ≤ j) (h1 : j < xs.length) : rd (xs ++ [x]) j = rd xs j := by
  unfold rd
  rw [List.getD_eq_getElem?_getD, List.getD_eq_getElem?_getD, List.getElem?_append_left (by omega)]
theorem rd_snoc_new (xs : List Int) (x : Int) (j : Int) (h : j = xs.length) : rd (xs ++ [x]) j = x := by
  unfold rd
  rw [List.getD_eq_getElem?_getD, List.getElem?_append_right (by omega), show j.toNat - xs.length = 0 by omega]
  rfl
/-- offers in range, perhaps none -/
def Sound (l : List S37) : Prop := l.length ≤ 3 ∧ ∀ i : Int, 0 ≤ i → i < l.length → 1 ≤ (rd_T37 l i).f0 ∧ (rd_T37 l i).f0 ≤ 50 ∧ 1 ≤ (rd_T37 l i).f1 ∧ (rd_T37 l i).f1 ≤ 999
theorem sound_of (l : List S37) (h : offersV l = true) : Sound l ∧ 0 < l.length := by
  obtain ⟨h1, h2⟩ := (offersV_iff l).1 h
  refine ⟨⟨h1.2, fun i h0 hi => ?_⟩, by omega⟩
  have := h2 i h0 hi
  simp only [okOffer, Bool.and_eq_true, decide_eq_true_eq] at this
  omega
def own (g : Int → Int) (l : List S37) (m i : Int) : Int := (rd_T37 l i).f1 + g (mx (m - (rd_T37 l i).f0) 0)
def bestFrom (g : Int → Int) (l : List S37) (m : Int) : Nat → Int → Int → Int
  | 0, _, b => b
  | d + 1, i, b => bestFrom g l m d (i + 1) (if b < 0 then own g l m i else if own g l m i < b then own g l m i else b)
def tab (l : List S37) : Nat → List Int
  | 0 => [0]
  | n + 1 => tab l n ++ [bestFrom (rd (tab l n)) l ((n : Int) + 1) l.length 0 (-1)]
theorem tab_len (l : List S37) : ∀ n, (tab l n).length = n + 1 := by
  intro n
  induction n with
  | zero => rfl
  | succ n ih => rw [tab, List.length_append, ih]; rfl
def lv (l : List S37) (m : Int) : Int := rd (tab l m.toNat) m
theorem rd_tab (l : List S37) : ∀ (n : Nat) (j : Int), 0 ≤ j → j ≤ n → rd (tab l n) j = lv l j := by
  intro n
  induction n with
  | zero =>
    intro j h0 h1
    obtain rfl : j = 0 := by omega
    rfl
  | succ n ih =>
    intro j h0 h1
    by_cases e : j = ((n + 1 : Nat) : Int)
    · subst e
      unfold lv
      rw [Int.toNat_natCast]
    · rw [tab, rd_snoc_old _ _ _ h0 (by rw [tab_len]; omega)]
      exact ih j h0 (by omega)
theorem lv_zero (l : List S37) : lv l 0 = 0 := rfl
theorem bestFrom_congr (g g' : Int → Int) (l : List S37) (m : Int) : ∀ (d : Nat) (i b : Int), (∀ j, i ≤ j → j < i + d → own g l m j = own g' l m j) → bestFrom g l m d i b = bestFrom g' l m d i b := by
  intro d
  induction d with
  | zero => exact fun _ _ _ => rfl
  | succ d ih =>
    intro i b h
    simp only [bestFrom]
    rw [h i (by omega) (by omega)]
    exact ih _ _ fun j h1 h2 => h j (by omega) (by omega)
theorem own_at (l : List S37) (hs : Sound l) (m i : Int) (hm : 1 ≤ m) (h0 : 0 ≤ i) (h1 : i < l.length) : 0 ≤ mx (m - (rd_T37 l i).f0) 0 ∧ mx (m - (rd_T37 l i).f0) 0 < m := by
  have h := hs.2 i h0 h1
  have := mx0 (m - (rd_T37 l i).f0)
  omega
theorem lv_succ (l : List S37) (hs : Sound l) (m : Int) (hm : 1 ≤ m) : lv l m = bestFrom (lv l) l m l.length 0 (-1) := by
  obtain ⟨n, rfl⟩ : ∃ n : Nat, m = (n : Int) + 1 := ⟨(m - 1).toNat, by omega⟩
  unfold lv
  rw [show ((n : Int) + 1).toNat = n + 1 by omega, tab, rd_snoc_new _ _ _ (by rw [tab_len]; omega)]
  refine bestFrom_congr _ _ _ _ _ _ _ fun j h0 h1 => ?_
  have := own_at l hs ((n : Int) + 1) j (by omega) h0 (by omega)
  unfold own
  rw [rd_tab l n _ this.1 (by omega)]
  rfl
theorem best_spec (g : Int → Int) (l : List S37) (m : Int) : ∀ (d : Nat) (i b : Int), (∀ j, i ≤ j → j < i + d → 0 ≤ own g l m j) → -1 ≤ b → (d = 0 → 0 ≤ b) →
    0 ≤ bestFrom g l m d i b ∧ (∀ j, i ≤ j → j < i + d → bestFrom g l m d i b ≤ own g l m j) ∧ (0 ≤ b → bestFrom g l m d i b ≤ b) ∧ (0 ≤ b ∧ bestFrom g l m d i b = b ∨ ∃ j, i ≤ j ∧ j < i + d ∧ bestFrom g l m d i b = own g l m j) := by
  intro d
  induction d with
  | zero => exact fun i b _ _ hb => ⟨hb rfl, fun j h1 h2 => by omega, fun _ => Int.le_refl _, .inl ⟨hb rfl, rfl⟩⟩
  | succ d ih =>
    intro i b ho hb _
    have o0 := ho i (by omega) (by omega)
    simp only [bestFrom]
    obtain ⟨b', hb'⟩ : ∃ b', (if b < 0 then own g l m i else if own g l m i < b then own g l m i else b) = b' := ⟨_, rfl⟩
    have f : 0 ≤ b' ∧ b' ≤ own g l m i ∧ (0 ≤ b → b' ≤ b) ∧ (b' = own g l m i ∨ 0 ≤ b ∧ b' = b) := by
      rw [← hb']
      split
      · omega
      · split <;> omega
    rw [hb']
    obtain ⟨a1, a2, a3, a4⟩ := ih (i + 1) b' (fun j h1 h2 => ho j (by omega) (by omega)) (by omega) (fun _ => f.1)
    refine ⟨a1, fun j h1 h2 => ?_, fun h => Int.le_trans (a3 f.1) (f.2.2.1 h), ?_⟩
    · by_cases e : j = i
      · subst e
        exact Int.le_trans (a3 f.1) f.2.1
      · exact a2 j (by omega) (by omega)
    · rcases a4 with ⟨_, h⟩ | ⟨j, h1, h2, h3⟩
      · rcases f.2.2.2 with h' | ⟨h', h''⟩
        · exact .inr ⟨i, by omega, by omega, by rw [h, h']⟩
        · exact .inl ⟨h', by rw [h, h'']⟩
      · exact .inr ⟨j, by omega, by omega, h3⟩
theorem lv_bound (l : List S37) (hs : Sound l) (hne : 0 < l.length) : ∀ (n : Nat), 0 ≤ lv l n ∧ lv l n ≤ 1000 * n := by
  intro n
  induction n using Nat.strongRecOn with
  | ind n ih =>
    by_cases hn : n = 0
    · subst hn
      exact ⟨Int.le_refl _, Int.le_refl _⟩
    · have ho : ∀ j : Int, 0 ≤ j → j < 0 + (l.length : Int) → 0 ≤ own (lv l) l n j ∧ own (lv l) l n j ≤ 1000 * n := by
        intro j h0 h1
        obtain ⟨a1, a2⟩ := own_at l hs n j (by omega) h0 (by omega)
        have hb := hs.2 j h0 (by omega)
        have := ih (mx ((n : Int) - (rd_T37 l j).f0) 0).toNat (by omega)
        rw [Int.toNat_of_nonneg a1] at this
        unfold own
        omega
      rw [lv_succ l hs n (by omega)]
      obtain ⟨b1, b2, _, b4⟩ := best_spec (lv l) l n l.length 0 (-1) (fun j h0 h1 => (ho j h0 h1).1) (by omega) (by omega)
      refine ⟨b1, ?_⟩
      have := b2 0 (by omega) (by omega)
      have := (ho 0 (by omega) (by omega)).2
      omega
theorem lv_pos (l : List S37) (hs : Sound l) (hne : 0 < l.length) (m : Int) (h : 0 ≤ m) : 0 ≤ lv l m ∧ lv l m ≤ 1000 * m := by
  have := lv_bound l hs hne m.toNat
  rwa [Int.toNat_of_nonneg h] at this
theorem lv_le (l : List S37) (hs : Sound l) (m i : Int) (hm : 1 ≤ m) (h0 : 0 ≤ i) (h1 : i < l.length) : lv l m ≤ own (lv l) l m i := by
  rw [lv_succ l hs m hm]
  refine (best_spec (lv l) l m l.length 0 (-1) (fun j a b => ?_) (by omega) (by omega)).2.1 i (by omega) (by omega)
  have := own_at l hs m j hm a (by omega)
  have h := hs.2 j a (by omega)
  have := (lv_pos l hs (by omega) _ this.1).1
  unfold own
  omega
theorem lv_ex (l : List S37) (hs : Sound l) (hne : 0 < l.length) (m : Int) (hm : 1 ≤ m) : ∃ i : Int, 0 ≤ i ∧ i < l.length ∧ lv l m = own (lv l) l m i := by
  rw [lv_succ l hs m hm]
  rcases (best_spec (lv l) l m l.length 0 (-1) (fun j a b => by
      have := own_at l hs m j hm a (by omega)
      have h := hs.2 j a (by omega)
      have := (lv_pos l hs (by omega) _ this.1).1
      unfold own
      omega) (by omega) (by omega)).2.2.2 with ⟨h, _⟩ | ⟨j, h1, h2, h3⟩
  · omega
  · exact ⟨j, h1, by omega, h3⟩
theorem lv_none (m : Int) (hm : 1 ≤ m) : lv ([] : List S37) m = -1 := by
  rw [lv_succ [] ⟨by simp, fun i h0 h1 => by simp at h1; omega⟩ m hm]
  rfl
theorem lv_range (l : List S37) (hs : Sound l) (m : Int) (h : 0 ≤ m) : -1 ≤ lv l m ∧ lv l m ≤ 1000 * m := by
  by_cases hne : 0 < l.length
  · have := lv_pos l hs hne m h
    omega
  · have : l = [] := List.eq_nil_of_length_eq_zero (by omega)
    subst this
    by_cases e : m = 0
    · subst e
      rw [lv_zero]
      omega
    · rw [lv_none m (by omega)]
      omega
/-- what the loops' guards ask of the table -/
theorem tab_rd_range (l : List S37) (hs : Sound l) (n : Nat) (hn : n ≤ 1000) (j : Int) (h0 : 0 ≤ j) (h1 : j ≤ n) : -1 ≤ rd (tab l n) j ∧ rd (tab l n) j ≤ 1000000 := by
  rw [rd_tab l n j h0 h1]
  have := lv_range l hs j h0
  omega
theorem spec_l22Least_l1 (l : List S37) (hs : Sound l) (n : Int) (o : Nat) (ho : o ≤ 200) (m : Int) (hm : m = (o : Int) + 1) : ∀ (d : Nat) (i b : Int), 0 ≤ i → i + d = l.length → ∀ k,
    spec_l22Least.l1 (k + d + 1) l n (tab l o) m b i = spec_l22Least.l0 k l n (tab l o ++ [bestFrom (rd (tab l o)) l m d i b]) (m + 1) := by
  intro d
  induction d with
  | zero =>
    intro i b h0 hi k
    simp only [spec_l22Least.l1, bestFrom, Nat.add_zero]
    rw [if_neg (by omega), if_pos (by rw [tab_len]; omega), w64 (m + 1) (by omega) (by omega)]
  | succ d ih =>
    intro i b h0 hi k
    have e := fun b => ih (i + 1) b (by omega) (by omega) k
    obtain ⟨g1, g2⟩ := own_at l hs m i (by omega) h0 (by omega)
    have hb := hs.2 i h0 (by omega)
    have hr := tab_rd_range l hs o (by omega) _ g1 (by omega)
    have hl := hs.1
    rw [show k + (d + 1) + 1 = (k + d + 1) + 1 by omega]
    generalize k + d + 1 = q at e ⊢
    simp only [spec_l22Least.l1, bestFrom]
    rw [w64 (m - (rd_T37 l i).f0) (by omega) (by omega), w64 _ (by omega) (by omega), w64 (i + 1) (by omega) (by omega)]
    rw [if_pos (by omega), if_pos h0, if_pos g1, if_pos (by rw [tab_len]; omega)]
    rw [e, e]
    simp only [← apply_ite (fun b => spec_l22Least.l0 k l n (tab l o ++ [bestFrom (rd (tab l o)) l m d (i + 1) b]) (m + 1))]
    rfl
theorem spec_l22Least_l0 (l : List S37) (hs : Sound l) (N : Nat) (hN : N ≤ 200) : ∀ (d o : Nat), o + d = N → ∀ m : Int, m = (o : Int) + 1 → ∀ k, 5 * d + 1 ≤ k → spec_l22Least.l0 k l N (tab l o) m = some (tab l N) := by
  intro d
  induction d with
  | zero =>
    intro o ho m hm k hk
    obtain ⟨k, rfl, _⟩ := rounds1 hk
    simp only [spec_l22Least.l0]
    rw [if_neg (by omega), show o = N by omega]
  | succ d ih =>
    intro o ho m hm k hk
    have hl := hs.1
    obtain ⟨k, rfl⟩ : ∃ k', k = (k' + l.length + 1) + 1 := ⟨k - l.length - 2, by omega⟩
    simp only [spec_l22Least.l0]
    rw [if_pos (by omega), spec_l22Least_l1 l hs N o (by omega) m hm l.length 0 (-1) (by omega) (by omega)]
    have e := ih (o + 1) (by omega) (m + 1) (by omega) k (by omega)
    rw [tab, ← hm] at e
    exact e
theorem impl_leastPrices_l1 (l : List S37) (hs : Sound l) (n : Int) (o : Nat) (ho : o ≤ 200) (m : Int) (hm : m = (o : Int) + 1) : ∀ (d : Nat) (i b : Int), 0 ≤ i → i + d = l.length → ∀ k,
    impl_leastPrices.l1 (k + d + 1) l n (tab l o) m b l (l.length : Int) i = impl_leastPrices.l0 k l n (tab l o ++ [bestFrom (rd (tab l o)) l m d i b]) (m + 1) := by
  intro d
  induction d with
  | zero =>
    intro i b h0 hi k
    simp only [impl_leastPrices.l1, bestFrom, Nat.add_zero]
    rw [if_neg (by omega), if_pos (by rw [tab_len]; omega), w64 (m + 1) (by omega) (by omega)]
  | succ d ih =>
    intro i b h0 hi k
    have e := fun b => ih (i + 1) b (by omega) (by omega) k
    obtain ⟨g1, g2⟩ := own_at l hs m i (by omega) h0 (by omega)
    have hb := hs.2 i h0 (by omega)
    have hr := tab_rd_range l hs o (by omega) _ g1 (by omega)
    have hl := hs.1
    rw [show k + (d + 1) + 1 = (k + d + 1) + 1 by omega]
    generalize k + d + 1 = q at e ⊢
    simp only [impl_leastPrices.l1, bestFrom]
    rw [w64 (m - (rd_T37 l i).f0) (by omega) (by omega), w64 _ (by omega) (by omega), w64 (i + 1) (by omega) (by omega)]
    rw [if_pos (by omega), if_pos h0, if_pos (by omega), if_pos g1, if_pos (by rw [tab_len]; omega)]
    rw [e, e]
    simp only [← apply_ite (fun b => impl_leastPrices.l0 k l n (tab l o ++ [bestFrom (rd (tab l o)) l m d (i + 1) b]) (m + 1))]
    rfl
theorem impl_leastPrices_l0 (l : List S37) (hs : Sound l) (N : Nat) (hN : N ≤ 200) : ∀ (d o : Nat), o + d = N → ∀ m : Int, m = (o : Int) + 1 → ∀ k, 5 * d + 1 ≤ k → impl_leastPrices.l0 k l N (tab l o) m = some (tab l N) := by
  intro d
  induction d with
  | zero =>
    intro o ho m hm k hk
    obtain ⟨k, rfl, _⟩ := rounds1 hk
    simp only [impl_leastPrices.l0]
    rw [if_neg (by omega), show o = N by omega]
  | succ d ih =>
    intro o ho m hm k hk
    have hl := hs.1
    obtain ⟨k, rfl⟩ : ∃ k', k = (k' + l.length + 1) + 1 := ⟨k - l.length - 2, by omega⟩
    simp only [impl_leastPrices.l0]
    rw [if_pos (by omega), impl_leastPrices_l1 l hs N o (by omega) m hm l.length 0 (-1) (by omega) (by omega)]
    have e := ih (o + 1) (by omega) (m + 1) (by omega) k (by omega)
    rw [tab, ← hm] at e
    exact e
theorem spec_l22Least_eq (l : List S37) (hs : Sound l) (n : Int) (h0 : 0 ≤ n) (h1 : n ≤ 200) (k : Nat) (hk : 1001 ≤ k) : spec_l22Least.f k l n = some (tab l n.toNat) := by
  unfold spec_l22Least.f
  have e := spec_l22Least_l0 l hs n.toNat (by omega) n.toNat 0 (by omega) 1 (by omega) k (by omega)
  rw [Int.toNat_of_nonneg h0] at e
  exact e
theorem impl_leastPrices_eq (l : List S37) (hs : Sound l) (n : Int) (h0 : 0 ≤ n) (h1 : n ≤ 200) (k : Nat) (hk : 1001 ≤ k) : impl_leastPrices.f k l n = some (tab l n.toNat) := by
  unfold impl_leastPrices.f
  have e := impl_leastPrices_l0 l hs n.toNat (by omega) n.toNat 0 (by omega) 1 (by omega) k (by omega)
  rw [Int.toNat_of_nonneg h0] at e
  exact e
def orderLeastV (l : List S37) (n : Int) : Int := if offersV l = true then (if 0 ≤ n ∧ n ≤ 99 then lv l n else -1) else -1
theorem impl_OrderLeast_eq (l : List S37) (hl : l.length ≤ 1000000000) (n : Int) (k : Nat) (hk : l.length + 1001 ≤ k) : impl_OrderLeast.f k l n = some (orderLeastV l n) := by
  unfold impl_OrderLeast.f orderLeastV
  rw [impl_OffersValid_eq l hl k (by omega)]
  simp only [bsome]
  cases hv : offersV l with
  | false => simp
  | true =>
    rw [within_eq]
    simp only [bsome, if_true, decide_eq_true_eq]
    by_cases hn : 0 ≤ n ∧ n ≤ 99
    · obtain ⟨hs, hne⟩ := sound_of l hv
      rw [if_pos hn, if_pos hn, impl_leastPrices_eq l hs n hn.1 (by omega) k (by omega)]
      simp only [bsome]
      rw [if_pos hn.1, if_pos (by rw [tab_len]; omega)]
      rfl
    · rw [if_neg hn, if_neg hn]
theorem spec_OrderLeast_eq (l : List S37) (hl : l.length ≤ 1000000000) (n : Int) (k : Nat) (hk : l.length + 1001 ≤ k) : spec_OrderLeast.f k l n = some (orderLeastV l n) := by
  unfold spec_OrderLeast.f orderLeastV
  rw [spec_OffersValid_eq l hl k (by omega)]
  simp only [bsome]
  cases hv : offersV l with
  | false => simp
  | true =>
    rw [l6In_eq]
    simp only [bsome, if_true, decide_eq_true_eq]
    by_cases hn : 0 ≤ n ∧ n ≤ 99
    · obtain ⟨hs, hne⟩ := sound_of l hv
      rw [if_pos hn, if_pos hn, spec_l22Least_eq l hs n hn.1 (by omega) k (by omega)]
      simp only [bsome]
      rw [if_pos hn.1, if_pos (by rw [tab_len]; omega)]
      rfl
    · rw [if_neg hn, if_neg hn]
/-! the least price's laws -/
theorem lv_mono (l : List S37) (hs : Sound l) (hne : 0 < l.length) : ∀ (n : Nat), lv l n ≤ lv l ((n : Int) + 1) := by
  intro n
  induction n using Nat.strongRecOn with
  | ind n ih =>
    by_cases hn : n = 0
    · subst hn
      rw [show lv l ((0 : Nat) : Int) = 0 from rfl]
      exact (lv_pos l hs hne _ (by omega)).1
    · obtain ⟨i, h0, h1, e⟩ := lv_ex l hs hne ((n : Int) + 1) (by omega)
      have h2 := lv_le l hs n i (by omega) h0 h1
      have hb := hs.2 i h0 h1
      rw [e]
      refine Int.le_trans h2 ?_
      unfold own
      have a := mx0 ((n : Int) - (rd_T37 l i).f0)
      have b := mx0 ((n : Int) + 1 - (rd_T37 l i).f0)
      have : lv l (mx ((n : Int) - (rd_T37 l i).f0) 0) ≤ lv l (mx ((n : Int) + 1 - (rd_T37 l i).f0) 0) := by
        by_cases c : 0 ≤ (n : Int) - (rd_T37 l i).f0
        · have e1 : mx ((n : Int) - (rd_T37 l i).f0) 0 = (n : Int) - (rd_T37 l i).f0 := by unfold mx; rw [if_neg (by omega)]
          have e2 : mx ((n : Int) + 1 - (rd_T37 l i).f0) 0 = (n : Int) - (rd_T37 l i).f0 + 1 := by unfold mx; rw [if_neg (by omega)]; omega
          have := ih ((n : Int) - (rd_T37 l i).f0).toNat (by omega)
          rw [Int.toNat_of_nonneg c] at this
          rw [e1, e2]
          exact this
        · have e1 : mx ((n : Int) - (rd_T37 l i).f0) 0 = 0 := by unfold mx; rw [if_pos (by omega)]
          rw [e1, lv_zero]
          exact (lv_pos l hs hne _ b.1).1
      omega
theorem lv_mono_le (l : List S37) (hs : Sound l) (hne : 0 < l.length) : ∀ (d : Nat) (a : Int), 0 ≤ a → lv l a ≤ lv l (a + d) := by
  intro d
  induction d with
  | zero => exact fun a _ => by simp
  | succ d ih =>
    intro a h
    have h1 := ih a h
    have h2 := lv_mono l hs hne (a + d).toNat
    rw [Int.toNat_of_nonneg (by omega)] at h2
    rw [show a + ((d + 1 : Nat) : Int) = a + d + 1 by omega]
    omega
theorem lv_le_of (l : List S37) (hs : Sound l) (hne : 0 < l.length) (a b : Int) (h0 : 0 ≤ a) (h : a ≤ b) : lv l a ≤ lv l b := by
  have := lv_mono_le l hs hne (b - a).toNat a h0
  rwa [show a + ((b - a).toNat : Int) = b by omega] at this

end Go.Proofs.Ytddlmemjmmohhaa.B
