/- Lemmas about the printed functions (planall). -/
import Derived.Test.YtgdndnaonmcdkaaPAllx0
import Derived.Test.YtgdndnaonmcdkaaPAllx3
import Derived.Test.YtgdndnaonmcdkaaPAllx6
import Derived.Test.YtgdndnaonmcdkaaPAllx7
import Derived.Test.YtgdndnaonmcdkaaPAllx8
import Derived.Test.YtgdndnaonmcdkaaPAllx9
import Derived.Test.YtgdndnaonmcdkaaPAllx10
import Derived.Test.YtgdndnaonmcdkaaPAllx11
import Derived.Test.YtgdndnaonmcdkaaPAllx12
import Derived.Test.YtgdndnaonmcdkaaPAllx13
import Derived.Test.YtgdndnaonmcdkaaPAllx15
import Derived.Test.YtgdndnaonmcdkaaPAllx16
import Derived.Test.YtgdndnaonmcdkaaBbase
import Derived.Test.YtgdndnaonmcdkaaBpick
import Derived.Test.YtgdndnaonmcdkaaBstepsv
import Derived.Test.YtgdndnaonmcdkaaBdrawsteps
import Derived.Test.YtgdndnaonmcdkaaBwithin
import Derived.Test.YtgdndnaonmcdkaaBmaxfrom
namespace Go.Proofs.Ytgdndnaonmcdkaa.B
open Go.RowKit Go.Proofs.Ytgdndnaonmcdkaa.PAll Go.Proofs.YtgdndnaonmcdkaaW.PrintWords Go.Proofs.YtgdndnaonmcdkaaW.PrintLast
set_option linter.unusedVariables false
set_option linter.unusedSimpArgs false

theorem inner_of {l : List S29} (h : StepsB l) : Inner l 10 := ⟨by have := h.1; omega, by omega, fun _ h0 h1 => h.2 _ (rdStep_mem h0 h1)⟩
/-! #### the earliest starts, both ways -/
theorem rd_snoc_old (xs : List Int) (x : Int) (j : Int) (h0 : 0 ≤ j) (h1 : j < xs.length) : rd (xs ++ [x]) j = rd xs j := by
  unfold rd
  rw [List.getD_eq_getElem?_getD, List.getD_eq_getElem?_getD, List.getElem?_append_left (by omega)]
theorem rd_snoc_new (xs : List Int) (x : Int) (j : Int) (h : j = xs.length) : rd (xs ++ [x]) j = x := by
  unfold rd
  rw [List.getD_eq_getElem?_getD, List.getElem?_append_right (by omega), show j.toNat - xs.length = 0 by omega]
  rfl
def endIn (l : List S29) (g : Int → Int) (i j : Int) : Int := g (rd (rd_T29 l i).f3 j) + (rd_T29 l (rd (rd_T29 l i).f3 j)).f0
def early (l : List S29) : Nat → List Int
  | 0 => []
  | n + 1 => early l n ++ [maxFrom (endIn l (rd (early l n)) n) (rd_T29 l n).f3.length 0 0]
theorem early_len (l : List S29) : ∀ n, (early l n).length = n := by
  intro n
  induction n with
  | zero => rfl
  | succ n ih => rw [early, List.length_append, ih]; rfl
def ev (l : List S29) (i : Int) : Int := rd (early l (i.toNat + 1)) i
theorem rd_early (l : List S29) : ∀ (n : Nat) (j : Int), 0 ≤ j → j < n → rd (early l n) j = ev l j := by
  intro n
  induction n with
  | zero => intro j h0 h1; omega
  | succ n ih =>
    intro j h0 h1
    by_cases e : j = (n : Int)
    · subst e
      unfold ev
      rw [Int.toNat_natCast]
    · rw [early, rd_snoc_old _ _ _ h0 (by rw [early_len]; omega)]
      exact ih j h0 (by omega)
theorem ev_eq (l : List S29) (hv : stepsV l = true) (i : Int) (h0 : 0 ≤ i) (hi : i < l.length) : ev l i = maxFrom (endIn l (ev l) i) (rd_T29 l i).f3.length 0 0 := by
  obtain ⟨_, h⟩ := (stepsV_iff l).1 hv
  obtain ⟨n, rfl⟩ := Int.eq_ofNat_of_zero_le h0
  unfold ev
  rw [Int.toNat_natCast, early, rd_snoc_new _ _ _ (by rw [early_len])]
  refine maxFrom_congr _ _ _ _ _ fun j j0 j1 => ?_
  have := ((h n h0 hi).2.2.2 j j0 (by omega)).1
  unfold endIn
  rw [rd_early l n _ this.1 this.2]
  rfl
theorem ev_range (l : List S29) (hv : stepsV l = true) : ∀ (n : Nat), (n : Int) < l.length → 0 ≤ ev l n ∧ ev l n ≤ 100 * n := by
  obtain ⟨_, h⟩ := (stepsV_iff l).1 hv
  intro n
  induction n using Nat.strongRecOn with
  | ind n ih =>
    intro hn
    rw [ev_eq l hv n (by omega) hn]
    refine ⟨(maxFrom_spec _ _ _ _).1, maxFrom_le _ _ _ _ _ (by omega) fun j j0 j1 => ?_⟩
    have a := ((h n (by omega) hn).2.2.2 j j0 (by omega)).1
    have b := ih (rd (rd_T29 l n).f3 j).toNat (by omega) (by omega)
    rw [Int.toNat_of_nonneg a.1] at b
    have c := (h (rd (rd_T29 l n).f3 j) a.1 (by omega)).1
    unfold endIn
    omega
theorem ev_range' (l : List S29) (hv : stepsV l = true) (i : Int) (h0 : 0 ≤ i) (hi : i < l.length) : 0 ≤ ev l i ∧ ev l i ≤ 100 * i := by
  have := ev_range l hv i.toNat (by omega)
  rwa [Int.toNat_of_nonneg h0] at this
theorem after_len (l : List S29) (hv : stepsV l = true) (i : Int) (h0 : 0 ≤ i) (hi : i < l.length) : ((rd_T29 l i).f3.length : Int) ≤ i := by
  obtain ⟨h8, h⟩ := (stepsV_iff l).1 hv
  have hs := h i h0 hi
  have up : ∀ m : Nat, m < (rd_T29 l i).f3.length → (m : Int) ≤ rd (rd_T29 l i).f3 m := by
    intro m
    induction m with
    | zero => exact fun hm => (hs.2.2.2 0 (by omega) (by omega)).1.1
    | succ m ihm =>
      intro hm
      have p := ihm (by omega)
      have q := (hs.2.2.2 ((m + 1 : Nat) : Int) (by omega) (by omega)).2 (by omega)
      rw [show ((m + 1 : Nat) : Int) - 1 = (m : Int) by omega] at q
      omega
  by_cases z : (rd_T29 l i).f3.length = 0
  · omega
  · have p := up ((rd_T29 l i).f3.length - 1) (by omega)
    have q := (hs.2.2.2 (((rd_T29 l i).f3.length - 1 : Nat) : Int) (by omega) (by omega)).1
    omega
def earlyV (l : List S29) : List Int := if stepsV l = true then early l l.length else []
theorem spec_StepsEarly_l1 (l : List S29) (hv : stepsV l = true) (n : Nat) (hn : n < l.length) : ∀ (d : Nat) (j acc : Int), 0 ≤ j → j + d = (rd_T29 l n).f3.length → ∀ k,
    spec_StepsEarly.l1 (k + d + 1) l (early l n) n acc j = spec_StepsEarly.l0 k l (early l n ++ [maxFrom (endIn l (rd (early l n)) n) d j acc]) ((n : Int) + 1) := by
  obtain ⟨h8, h⟩ := (stepsV_iff l).1 hv
  have hs := h n (by omega) (by omega)
  intro d
  induction d with
  | zero =>
    intro j acc j0 hj k
    rw [Nat.add_zero, spec_StepsEarly.l1, if_pos (by omega), if_pos (by omega), if_neg (by omega), if_pos (by rw [early_len]; omega), w64 _ (by omega) (by omega)]
    rfl
  | succ d ih =>
    intro j acc j0 hj k
    have e := fun acc => ih (j + 1) acc (by omega) (by omega) k
    have a := (hs.2.2.2 j j0 (by omega)).1
    have r := rd_early l n _ a.1 a.2
    have rr := ev_range' l hv _ a.1 (by omega)
    have c := (h (rd (rd_T29 l n).f3 j) a.1 (by omega)).1
    rw [show k + (d + 1) + 1 = (k + d + 1) + 1 by omega]
    have jb := after_len l hv n (by omega) (by omega)
    generalize k + d + 1 = q at e ⊢
    rw [spec_StepsEarly.l1, if_pos (by omega), if_pos (by omega), if_pos (by omega), if_pos j0, if_pos a.1, if_pos (by rw [early_len]; exact a.2), if_pos (by omega), w64 (rd (early l n) (rd (rd_T29 l n).f3 j) + _) (by omega) (by omega), w64 (j + 1) (by omega) (by omega), e]
    rfl
theorem spec_StepsEarly_l0 (l : List S29) (hv : stepsV l = true) (M : Nat) (hM : Inner l M) : ∀ (d n : Nat), n + d = l.length → ∀ k, (M + 4) * d + (M + 4) * l.length + 3 ≤ k → spec_StepsEarly.l0 k l (early l n) n = some (early l l.length) := by
  intro d
  induction d with
  | zero =>
    intro n hn k hk
    obtain ⟨k, rfl⟩ : ∃ q, k = q + 1 + 1 := ⟨k - 2, by omega⟩
    rw [spec_StepsEarly.l0, if_neg (by omega), spec_StepsEarly.j1, if_neg (by simp), show n = l.length by omega]
  | succ d ih =>
    intro n hn k hk
    rw [mul_step] at hk
    have hm := hM.2.2 n (by omega) (by omega)
    obtain ⟨k, rfl⟩ : ∃ q, k = (q + (rd_T29 l n).f3.length + 1) + 1 + 1 := ⟨k - (rd_T29 l n).f3.length - 3, by omega⟩
    have e := ih (n + 1) (by omega) k (by omega)
    rw [spec_StepsEarly.l0, if_pos (by omega), spec_StepsValid_eq l M hM _ (by omega)]
    simp only [bsome]
    rw [spec_StepsEarly.j1, if_pos hv, spec_StepsEarly_l1 l hv n (by omega) _ 0 0 (by omega) (by omega) k]
    rw [early, Int.natCast_succ] at e
    exact e
theorem spec_StepsEarly_eq (l : List S29) (M : Nat) (hM : Inner l M) (k : Nat) (hk : (M + 4) * l.length + (M + 4) * l.length + 3 ≤ k) : spec_StepsEarly.f k l = some (earlyV l) := by
  unfold spec_StepsEarly.f earlyV
  by_cases hv : stepsV l = true
  · rw [if_pos hv]
    exact spec_StepsEarly_l0 l hv M hM l.length 0 (by omega) k hk
  · rw [if_neg hv]
    obtain ⟨k, rfl⟩ : ∃ q, k = q + 1 + 1 := ⟨k - 2, by omega⟩
    rw [spec_StepsEarly.l0]
    by_cases h : (0 : Int) < (l.length : Int)
    · rw [if_pos h, spec_StepsValid_eq l M hM _ (by omega)]
      simp only [bsome]
      rw [spec_StepsEarly.j1, if_neg hv]
    · rw [if_neg h, spec_StepsEarly.j1, if_neg (by simp)]
theorem impl_endOf_l0 (l : List S29) (hl : l.length ≤ 1000000) (s : List Int) (hs : s.length ≤ l.length) (hr : ∀ i : Int, 0 ≤ i → i < s.length → (0 ≤ rd s i ∧ rd s i ≤ 100000) ∧ (0 ≤ (rd_T29 l i).f0 ∧ (rd_T29 l i).f0 ≤ 100000)) : ∀ (d : Nat) (i acc : Int), 0 ≤ i → i + d = s.length → ∀ k, d + 1 ≤ k →
    impl_endOf.l0 k l acc s (s.length : Int) i = some (maxFrom (fun i => rd s i + (rd_T29 l i).f0) d i acc) := by
  intro d
  induction d with
  | zero =>
    intro i acc h0 hi k hk
    obtain ⟨k, rfl, _⟩ := rounds1 (k := k) (B := 0) (by omega)
    rw [impl_endOf.l0, if_neg (by omega), maxFrom]
  | succ d ih =>
    intro i acc h0 hi k hk
    obtain ⟨k, rfl, hk'⟩ := rounds1 hk
    have h := hr i h0 (by omega)
    rw [impl_endOf.l0, if_pos (by omega), if_pos h0, if_pos (by omega), if_pos (by omega), w64 (rd s i + _) (by omega) (by omega), w64 (i + 1) (by omega) (by omega), ih (i + 1) _ (by omega) (by omega) k hk', maxFrom]
theorem impl_endOf_eq (l : List S29) (hl : l.length ≤ 1000000) (s : List Int) (hs : s.length ≤ l.length) (hr : ∀ i : Int, 0 ≤ i → i < s.length → (0 ≤ rd s i ∧ rd s i ≤ 100000) ∧ (0 ≤ (rd_T29 l i).f0 ∧ (rd_T29 l i).f0 ≤ 100000)) (k : Nat) (hk : s.length + 1 ≤ k) :
    impl_endOf.f k l s = some (maxFrom (fun i => rd s i + (rd_T29 l i).f0) s.length 0 0) := by
  unfold impl_endOf.f
  exact impl_endOf_l0 l hl s hs hr s.length 0 0 (by omega) (by omega) k hk
/-! #### starts of steps -/
def okStart (c : List Int) (i : Int) : Bool := decide (0 ≤ rd c i ∧ rd c i ≤ 999)
def startsV (l : List S29) (c : List Int) : Bool := allFrom (okStart c) c.length 0 && (stepsV l && decide ((c.length : Int) = (l.length : Int)))
theorem isStart_eq (a : Int) : impl_isStart.f a = some (decide (0 ≤ a ∧ a ≤ 999)) := by
  unfold impl_isStart.f
  rw [within_eq]
  simp only [bsome]
theorem spec_l32Starts_l0 (l : List S29) (M : Nat) (hM : Inner l M) (c : List Int) (hc : c.length ≤ 1000000000) : ∀ (d : Nat) (i : Int), 0 ≤ i → i + d = c.length → ∀ k, d + (M + 4) * l.length + 2 ≤ k →
    spec_l32Starts.l0 k l c i = some (allFrom (okStart c) d i && (stepsV l && decide ((c.length : Int) = (l.length : Int)))) := by
  intro d
  induction d with
  | zero =>
    intro i h0 hi k hk
    obtain ⟨k, rfl, _⟩ := rounds1 (k := k) (B := (M + 4) * l.length + 1) (by omega)
    rw [spec_l32Starts.l0, if_neg (by omega), spec_StepsValid_eq l M hM k (by omega), allFrom, Bool.true_and]
    simp only [bsome]
    cases stepsV l with
    | false => rfl
    | true =>
      rw [if_pos rfl, Bool.true_and]
      by_cases e : (c.length : Int) = (l.length : Int)
      · rw [e, beq_self_eq_true, decide_eq_true rfl]
      · rw [beq_eq_false_iff_ne.2 e, decide_eq_false e]
  | succ d ih =>
    intro i h0 hi k hk
    obtain ⟨k, rfl, hk'⟩ := rounds1 (k := k) (B := d + (M + 4) * l.length + 2) (by omega)
    rw [spec_l32Starts.l0, if_pos (by omega), if_pos h0, l6In_eq, w64 (i + 1) (by omega) (by omega), ih (i + 1) (by omega) (by omega) k hk', allFrom]
    simp only [bsome]
    by_cases h : 0 ≤ rd c i ∧ rd c i ≤ 999
    · rw [okStart, decide_eq_true h, if_pos rfl, Bool.true_and]
    · rw [okStart, decide_eq_false h, if_neg (by simp), Bool.false_and, Bool.false_and]
theorem spec_l32Starts_eq (l : List S29) (M : Nat) (hM : Inner l M) (c : List Int) (hc : c.length ≤ 1000000000) (k : Nat) (hk : c.length + (M + 4) * l.length + 2 ≤ k) : spec_l32Starts.f k l c = some (startsV l c) := by
  unfold spec_l32Starts.f startsV
  exact spec_l32Starts_l0 l M hM c hc c.length 0 (by omega) (by omega) k hk
theorem impl_startsValid_l0 (c : List Int) (hc : c.length ≤ 1000000000) : ∀ (d : Nat) (i : Int), 0 ≤ i → i + d = c.length → ∀ k, d + 1 ≤ k →
    ∃ r, impl_startsValid.l0 k c i = some r ∧ (!(decide (0 ≤ r))) = allFrom (okStart c) d i := by
  intro d
  induction d with
  | zero =>
    intro i h0 hi k hk
    obtain ⟨k, rfl, _⟩ := rounds1 hk
    refine ⟨-1, ?_, rfl⟩
    rw [impl_startsValid.l0, if_neg (by omega)]
  | succ d ih =>
    intro i h0 hi k hk
    obtain ⟨k, rfl, hk'⟩ := rounds1 hk
    by_cases h : 0 ≤ rd c i ∧ rd c i ≤ 999
    · obtain ⟨r, e, hr⟩ := ih (i + 1) (by omega) (by omega) k hk'
      refine ⟨r, ?_, ?_⟩
      · rw [impl_startsValid.l0, if_pos (by omega), if_pos h0, isStart_eq, w64 (i + 1) (by omega) (by omega), e]
        simp only [bsome]
        rw [decide_eq_true h, if_pos rfl]
      · rw [hr, allFrom, okStart, decide_eq_true h, Bool.true_and]
    · refine ⟨i, ?_, ?_⟩
      · rw [impl_startsValid.l0, if_pos (by omega), if_pos h0, isStart_eq]
        simp only [bsome]
        rw [decide_eq_false h, if_neg (by simp)]
      · rw [allFrom, okStart, decide_eq_false h, decide_eq_true h0]
        rfl
theorem impl_startsValid_eq (l : List S29) (M : Nat) (hM : Inner l M) (c : List Int) (hc : c.length ≤ 1000000000) (k : Nat) (hk : c.length + (M + 4) * l.length + 2 ≤ k) : impl_startsValid.f k l c = some (startsV l c) := by
  unfold impl_startsValid.f startsV
  rw [impl_StepsValid_eq l M hM k (by omega)]
  simp only [bsome]
  cases stepsV l with
  | false => simp
  | true =>
    rw [if_pos rfl, Bool.true_and]
    by_cases e : (c.length : Int) = (l.length : Int)
    · obtain ⟨r, e1, hr⟩ := impl_startsValid_l0 c hc c.length 0 (by omega) (by omega) k (by omega)
      rw [if_pos e, e1]
      simp only [bsome]
      rw [hr, decide_eq_true e, Bool.and_true]
    · rw [if_neg e, decide_eq_false e, Bool.and_false]
theorem startsV_iff (l : List S29) (c : List Int) : startsV l c = true ↔ stepsV l = true ∧ (c.length : Int) = (l.length : Int) ∧ ∀ i : Int, 0 ≤ i → i < c.length → 0 ≤ rd c i ∧ rd c i ≤ 999 := by
  unfold startsV
  rw [Bool.and_eq_true, Bool.and_eq_true, allFrom_iff, decide_eq_true_eq]
  constructor
  · rintro ⟨h1, h2, h3⟩
    refine ⟨h2, h3, fun i h0 hi => ?_⟩
    have := h1 i h0 (by omega)
    unfold okStart at this
    exact of_decide_eq_true this
  · rintro ⟨h1, h2, h3⟩
    exact ⟨fun i h0 hi => decide_eq_true (h3 i h0 (by omega)), h1, h2⟩
theorem rd_set_at (c : List Int) (m : Int) (v : Int) (h0 : 0 ≤ m) (h1 : m < c.length) (j : Int) (hj : 0 ≤ j) : rd (c.set m.toNat v) j = if j = m then v else rd c j := by
  unfold rd
  rw [List.getD_eq_getElem?_getD, List.getD_eq_getElem?_getD]
  by_cases e : j = m
  · subst e
    rw [if_pos rfl, List.getElem?_set_self (by omega)]
    rfl
  · rw [if_neg e, List.getElem?_set_ne (by omega)]
/-! #### the end of a plan -/
def planEndV (l : List S29) (c : List Int) : Int := if startsV l c = true then maxFrom (fun i => rd c i + (rd_T29 l i).f0) l.length 0 0 else -1
theorem starts_ready (l : List S29) (c : List Int) (hv : startsV l c = true) : ∀ i : Int, 0 ≤ i → i < c.length → (0 ≤ rd c i ∧ rd c i ≤ 100000) ∧ (0 ≤ (rd_T29 l i).f0 ∧ (rd_T29 l i).f0 ≤ 100000) := by
  intro i h0 hi
  obtain ⟨h1, h2, h3⟩ := (startsV_iff l c).1 hv
  have a := h3 i h0 hi
  have b := (((stepsV_iff l).1 h1).2 i h0 (by omega)).1
  omega
theorem impl_PlanEnd_eq (l : List S29) (M : Nat) (hM : Inner l M) (c : List Int) (hc : c.length ≤ 1000000000) (k : Nat) (hk : c.length + (M + 4) * l.length + 2 ≤ k) : impl_PlanEnd.f k l c = some (planEndV l c) := by
  unfold impl_PlanEnd.f planEndV
  rw [impl_startsValid_eq l M hM c hc k (by omega)]
  simp only [bsome]
  by_cases hv : startsV l c = true
  · obtain ⟨h1, h2, h3⟩ := (startsV_iff l c).1 hv
    have h8 := ((stepsV_iff l).1 h1).1
    have e : c.length = l.length := by omega
    rw [if_pos hv, if_pos hv, impl_endOf_eq l (by omega) c (by omega) (starts_ready l c hv) k (by omega), e]
    simp only [bsome]
  · rw [if_neg hv, if_neg hv]
theorem spec_PlanEnd_l0 (l : List S29) (c : List Int) (hv : startsV l c = true) : ∀ (d : Nat) (i acc : Int), 0 ≤ i → i + d = l.length → ∀ k, d + 1 ≤ k → spec_PlanEnd.l0 k l c acc i = some (maxFrom (fun i => rd c i + (rd_T29 l i).f0) d i acc) := by
  obtain ⟨h1, h2, h3⟩ := (startsV_iff l c).1 hv
  have h8 := ((stepsV_iff l).1 h1).1
  intro d
  induction d with
  | zero =>
    intro i acc h0 hi k hk
    obtain ⟨k, rfl, _⟩ := rounds1 hk
    rw [spec_PlanEnd.l0, if_neg (by omega), maxFrom]
  | succ d ih =>
    intro i acc h0 hi k hk
    obtain ⟨k, rfl, hk'⟩ := rounds1 hk
    have h := starts_ready l c hv i h0 (by omega)
    rw [spec_PlanEnd.l0, if_pos (by omega), if_pos h0, if_pos (by omega), w64 (rd c i + _) (by omega) (by omega), w64 (i + 1) (by omega) (by omega), ih (i + 1) _ (by omega) (by omega) k hk', maxFrom]
theorem spec_PlanEnd_eq (l : List S29) (M : Nat) (hM : Inner l M) (c : List Int) (hc : c.length ≤ 1000000000) (k : Nat) (hk : c.length + (M + 4) * l.length + l.length + 2 ≤ k) : spec_PlanEnd.f k l c = some (planEndV l c) := by
  unfold spec_PlanEnd.f planEndV
  rw [spec_l32Starts_eq l M hM c hc k (by omega)]
  simp only [bsome]
  by_cases hv : startsV l c = true
  · rw [if_pos hv, if_pos hv, spec_PlanEnd_l0 l c hv l.length 0 0 (by omega) (by omega) k (by omega)]
  · rw [if_neg hv, if_neg hv]
/-! #### what is on at a minute -/
def isOn (l : List S29) (s : List Int) (m i : Int) : Bool := decide (rd s i ≤ m ∧ m < rd s i + (rd_T29 l i).f0)
/-- small numbers: hands below 5 i, tools below i + 1 -/
def Small (i h : Int) (t : List Int) : Prop := 0 ≤ i ∧ 0 ≤ h ∧ h ≤ 4 * i ∧ t.length = 4 ∧ ∀ j : Int, 0 ≤ j → j < 4 → 0 ≤ rd t j ∧ rd t j ≤ i
theorem small_skip {i h : Int} {t : List Int} (s : Small i h t) : Small (i + 1) h t := by
  obtain ⟨a, b, c, d, e⟩ := s
  exact ⟨by omega, b, by omega, d, fun j j0 j1 => by have := e j j0 j1; omega⟩
theorem small_take {i h q v : Int} {t : List Int} (s : Small i h t) (q0 : 0 ≤ q) (q1 : q ≤ 4) (v1 : v ≤ 4) : Small (i + 1) (h + q) (if v > 0 then t.set (v - 1).toNat (rd t (v - 1) + 1) else t) := by
  obtain ⟨a, b, c, d, e⟩ := s
  by_cases p : v > 0
  · rw [if_pos p]
    refine ⟨by omega, by omega, by omega, by rw [List.length_set]; exact d, fun j j0 j1 => ?_⟩
    rw [rd_set_at t (v - 1) _ (by omega) (by omega) j j0]
    have := e j j0 j1
    have := e (v - 1) (by omega) (by omega)
    split <;> omega
  · rw [if_neg p]
    exact ⟨by omega, by omega, by omega, d, fun j j0 j1 => by have := e j j0 j1; omega⟩
theorem small_zero : Small 0 0 (List.replicate 4 0) := by
  refine ⟨by omega, by omega, by omega, by simp, fun j j0 j1 => ?_⟩
  rcases (by omega : j = 0 ∨ j = 1 ∨ j = 2 ∨ j = 3) with rfl | rfl | rfl | rfl <;> simp [rd, List.replicate]
/-! #### kitchens -/
def okPlace (c : List Int) (i : Int) : Bool := decide (0 ≤ rd c i ∧ rd c i ≤ 3)
def kitchenV (h : Int) (c : List Int) : Bool := allFrom (okPlace c) c.length 0 && (decide (0 ≤ h ∧ h ≤ 9) && decide ((c.length : Int) = 4))
theorem spec_KitchenValid_l0 (h : Int) (c : List Int) (hc : c.length ≤ 1000000000) : ∀ (d : Nat) (i : Int), 0 ≤ i → i + d = c.length → ∀ k, d + 1 ≤ k →
    spec_KitchenValid.l0 k i h c = some (allFrom (okPlace c) d i && (decide (0 ≤ h ∧ h ≤ 9) && decide ((c.length : Int) = 4))) := by
  intro d
  induction d with
  | zero =>
    intro i h0 hi k hk
    obtain ⟨k, rfl, _⟩ := rounds1 hk
    rw [spec_KitchenValid.l0, if_neg (by omega), l6In_eq, allFrom, Bool.true_and]
    simp only [bsome]
    by_cases g : 0 ≤ h ∧ h ≤ 9
    · rw [decide_eq_true g, if_pos rfl, Bool.true_and]
      by_cases e : (c.length : Int) = 4
      · rw [e, beq_self_eq_true, decide_eq_true rfl]
      · rw [beq_eq_false_iff_ne.2 e, decide_eq_false e]
    · rw [decide_eq_false g, if_neg (by simp), Bool.false_and]
  | succ d ih =>
    intro i h0 hi k hk
    obtain ⟨k, rfl, hk'⟩ := rounds1 hk
    rw [spec_KitchenValid.l0, if_pos (by omega), if_pos h0, l6In_eq, w64 (i + 1) (by omega) (by omega), ih (i + 1) (by omega) (by omega) k hk', allFrom]
    simp only [bsome]
    by_cases g : 0 ≤ rd c i ∧ rd c i ≤ 3
    · rw [okPlace, decide_eq_true g, if_pos rfl, Bool.true_and]
    · rw [okPlace, decide_eq_false g, if_neg (by simp), Bool.false_and, Bool.false_and]
theorem spec_KitchenValid_eq (h : Int) (c : List Int) (hc : c.length ≤ 1000000000) (k : Nat) (hk : c.length + 1 ≤ k) : spec_KitchenValid.f k h c = some (kitchenV h c) := by
  unfold spec_KitchenValid.f kitchenV
  exact spec_KitchenValid_l0 h c hc c.length 0 (by omega) (by omega) k hk
theorem l92Kitchen_ok {b : List Int} (hb : Bytes b) (p : Int) (h0 : 0 ≤ p) (h1 : p ≤ 900000) : ∃ (h : Int) (t : List Int) (p' : Int), t.length ≤ 4 ∧ 0 ≤ p' ∧ p' ≤ p + 8 ∧ ∀ k, 1 ≤ k → spec_l92Kitchen.f k b p = some (h, t, p') := by
  obtain ⟨v1, a1, _, _, e1⟩ := pick_ok hb p 4 h0 (by omega)
  obtain ⟨v2, a2, _, _, e2⟩ := pick_ok hb (p + 1) 3 (by omega) (by omega)
  obtain ⟨v3, a3, _, _, e3⟩ := pick_ok hb (p + 1 + 1) 2 (by omega) (by omega)
  obtain ⟨v4, a4, _, _, e4⟩ := pick_ok hb (p + 1 + 1 + 1) 2 (by omega) (by omega)
  obtain ⟨v5, a5, _, _, e5⟩ := pick_ok hb (p + 1 + 1 + 1 + 1) 3 (by omega) (by omega)
  obtain ⟨v6, a6, _, _, e6⟩ := pick_ok hb (p + 1 + 1 + 1 + 1 + 1) 30 (by omega) (by omega)
  obtain ⟨v7, a7, b7, _, e7⟩ := pick_ok hb (p + 1 + 1 + 1 + 1 + 1 + 1) 3 (by omega) (by omega)
  obtain ⟨v8, a8, b8, _, e8⟩ := pick_ok hb (p + 1 + 1 + 1 + 1 + 1 + 1) 4 (by omega) (by omega)
  obtain ⟨v9, a9, b9, _, e9⟩ := pick_ok hb (p + 1 + 1 + 1 + 1 + 1 + 1 + 1) 3 (by omega) (by omega)
  have n7 := b7 (by omega)
  have n8 := b8 (by omega)
  have n9 := b9 (by omega)
  obtain ⟨y, hy⟩ : ∃ y : List Int, y = [wrap64 (1 + v2), wrap64 (1 + v3), wrap64 (1 + v4), v5] := ⟨_, rfl⟩
  have yl : (y.length : Int) = 4 := by rw [hy]; rfl
  have st : ∀ k, 1 ≤ k → spec_l92Kitchen.f k b p = (if v6 = 0 then some (rd [(-1), 0, 10] v7, y, p + 1 + 1 + 1 + 1 + 1 + 1 + 1) else if v6 = 1 then some (wrap64 (3 + v1), y.set v8.toNat (rd [(-1), 0, 4] v9), p + 1 + 1 + 1 + 1 + 1 + 1 + 1 + 1) else if v6 = 2 then some (wrap64 (3 + v1), y.take v8.toNat, p + 1 + 1 + 1 + 1 + 1 + 1 + 1) else some (wrap64 (3 + v1), y, p + 1 + 1 + 1 + 1 + 1 + 1)) := by
    intro k hk
    unfold spec_l92Kitchen.f
    rw [e1 k hk]
    simp only [bsome]
    rw [e2 k hk]
    simp only [bsome]
    rw [e3 k hk]
    simp only [bsome]
    rw [e4 k hk]
    simp only [bsome]
    rw [e5 k hk]
    simp only [bsome]
    rw [e6 k hk, ← hy]
    simp only [bsome]
    rw [e7 k hk, e8 k hk]
    simp only [bsome]
    rw [e9 k hk]
    simp only [bsome]
    have l1 : v7 < (([(-1), 0, 10] : List Int).length : Int) := n7
    have l2 : v9 < (([(-1), 0, 4] : List Int).length : Int) := n9
    rw [if_pos a7, if_pos l1, if_pos a9, if_pos l2, if_pos a8, if_pos (show v8 < (y.length : Int) by omega), if_pos (show v8 ≤ (y.length : Int) by omega)]
    simp only [a8, if_true]
  by_cases c0 : v6 = 0
  · exact ⟨_, y, p + 1 + 1 + 1 + 1 + 1 + 1 + 1, by omega, by omega, by omega, fun k hk => by rw [st k hk, if_pos c0]⟩
  · by_cases c1 : v6 = 1
    · exact ⟨_, y.set v8.toNat (rd [(-1), 0, 4] v9), p + 1 + 1 + 1 + 1 + 1 + 1 + 1 + 1, by rw [List.length_set]; omega, by omega, by omega, fun k hk => by rw [st k hk, if_neg c0, if_pos c1]⟩
    · by_cases c2 : v6 = 2
      · exact ⟨_, y.take v8.toNat, p + 1 + 1 + 1 + 1 + 1 + 1 + 1, by rw [List.length_take]; omega, by omega, by omega, fun k hk => by rw [st k hk, if_neg c0, if_neg c1, if_pos c2]⟩
      · exact ⟨_, y, p + 1 + 1 + 1 + 1 + 1 + 1, by omega, by omega, by omega, fun k hk => by rw [st k hk, if_neg c0, if_neg c1, if_neg c2]⟩
/-! #### PlanMake ends: behind all ends there is room for a step that can be done alone -/
def Starts (l : List S29) (s : List Int) : Prop := s.length ≤ l.length ∧ ∀ j : Int, 0 ≤ j → j < s.length → 0 ≤ rd s j ∧ rd s j ≤ 99 * j
/-- no step before the last is on -/
def Quiet (l : List S29) (s : List Int) (n m : Int) : Prop := ∀ j : Int, 0 ≤ j → j < n → rd s j + (rd_T29 l j).f0 ≤ m
def Wide (s : List Int) : Prop := ∀ j : Int, 0 ≤ j → j < s.length → 0 ≤ rd s j ∧ rd s j ≤ 900
theorem use_l0 (l : List S29) (hv : stepsV l = true) (s : List Int) (hw : Wide s) (hl : s.length ≤ l.length) (n : Int) (n0 : 0 ≤ n) (hn : n + 1 = s.length) (m : Int) : ∀ (d : Nat) (i h : Int) (t : List Int), i + d = s.length → Small i h t → ∀ k, d + 1 ≤ k →
    ∃ h' t', spec_l32Use.l0 k l s m h t i = some (h', t') ∧ t'.length = 4 ∧ (d = 0 → h' = h ∧ t' = t) ∧ (Quiet l s n m → h' ≤ h + (rd_T29 l n).f1 ∧ ∀ x : Int, 0 ≤ x → x < 4 → rd t' x ≤ rd t x + (if x = (rd_T29 l n).f2 - 1 then 1 else 0)) := by
  obtain ⟨v4, v5⟩ := (stepsV_iff l).1 hv
  intro d
  induction d with
  | zero =>
    intro i h t hi sm k hk
    obtain ⟨k, rfl, _⟩ := rounds1 hk
    refine ⟨h, t, by rw [spec_l32Use.l0, if_neg (by omega)], sm.2.2.2.1, fun _ => ⟨rfl, rfl⟩, fun _ => ?_⟩
    have := v5 n n0 (by omega)
    exact ⟨by omega, fun x _ _ => by split <;> omega⟩
  | succ d ih =>
    intro i h t hi sm k hk
    obtain ⟨k, rfl, hk'⟩ := rounds1 hk
    have i0 := sm.1
    have st := hw i i0 (by omega)
    have sp := v5 i i0 (by omega)
    have sk := small_skip sm
    have tk := small_take (q := (rd_T29 l i).f1) (v := (rd_T29 l i).f2) sm (by omega) (by omega) (by omega)
    have go1 := ih (i + 1) h t (by omega) sk k hk'
    have go2 := ih (i + 1) _ _ (by omega) tk k hk'
    obtain ⟨_, h0, h1, t4, tr⟩ := sm
    have on : spec_l32On.f (rd_T29 l i).f0 (rd_T29 l i).f1 (rd_T29 l i).f2 (rd_T29 l i).f3 (rd s i) m = some (isOn l s m i) := by
      unfold spec_l32On.f isOn
      rw [w64 (rd s i + _) (by omega) (by omega)]
      by_cases c : rd s i ≤ m
      · rw [if_pos c]
        congr 1
        by_cases c2 : m < rd s i + (rd_T29 l i).f0
        · rw [decide_eq_true c2, decide_eq_true ⟨c, c2⟩]
        · rw [decide_eq_false c2, decide_eq_false (fun z => c2 z.2)]
      · rw [if_neg c, decide_eq_false (fun z => c z.1)]
    rw [spec_l32Use.l0, if_pos (by omega), if_pos i0, if_pos (by omega), on]
    simp only [bsome]
    rw [w64 (i + 1) (by omega) (by omega)]
    by_cases c : isOn l s m i = true
    · rw [if_pos c, w64 (h + _) (by omega) (by omega)]
      obtain ⟨h', t', e, l4, z, _⟩ := go2
      refine ⟨h', t', ?_, l4, fun q => by omega, fun q => ?_⟩
      · by_cases p : (rd_T29 l i).f2 > 0
        · have q := tr ((rd_T29 l i).f2 - 1) (by omega) (by omega)
          rw [if_pos p] at e ⊢
          rw [w64 ((rd_T29 l i).f2 - 1) (by omega) (by omega), if_pos (by omega), if_pos (by omega), w64 (rd t _ + 1) (by omega) (by omega), e]
        · rw [if_neg p] at e ⊢
          exact e
      · unfold isOn at c
        have c' := of_decide_eq_true c
        have en : i = n := by
          by_cases a : i < n
          · have := q i i0 a
            omega
          · omega
        subst en
        obtain ⟨z1, z2⟩ := z (by omega)
        subst z1
        subst z2
        refine ⟨Int.le_refl _, fun x x0 x1 => ?_⟩
        by_cases p : (rd_T29 l i).f2 > 0
        · rw [if_pos p, rd_set_at t _ _ (by omega) (by omega) x x0]
          split
          · rename_i g
            rw [g]
            omega
          · omega
        · rw [if_neg p]
          split <;> omega
    · rw [if_neg c]
      obtain ⟨h', t', e, l4, z, q⟩ := go1
      exact ⟨h', t', e, l4, fun q => by omega, q⟩
theorem use_eq (l : List S29) (hv : stepsV l = true) (s : List Int) (hw : Wide s) (hl : s.length ≤ l.length) (n : Int) (n0 : 0 ≤ n) (hn : n + 1 = s.length) (m : Int) (k : Nat) (hk : s.length + 1 ≤ k) :
    ∃ h' t', spec_l32Use.f k l s m = some (h', t') ∧ t'.length = 4 ∧ (Quiet l s n m → h' ≤ (rd_T29 l n).f1 ∧ ∀ x : Int, 0 ≤ x → x < 4 → rd t' x ≤ (if x = (rd_T29 l n).f2 - 1 then 1 else 0)) := by
  obtain ⟨h', t', e, l4, _, q⟩ := use_l0 l hv s hw hl n n0 hn m s.length 0 0 (List.replicate 4 0) (by omega) small_zero k hk
  refine ⟨h', t', ?_, l4, fun qq => ?_⟩
  · unfold spec_l32Use.f
    rw [if_pos (by omega)]
    exact e
  · obtain ⟨a, b⟩ := q qq
    refine ⟨by omega, fun x x0 x1 => ?_⟩
    have c := b x x0 x1
    have z : rd (List.replicate 4 0) x = 0 := by
      rcases (by omega : x = 0 ∨ x = 1 ∨ x = 2 ∨ x = 3) with rfl | rfl | rfl | rfl <;> simp [rd, List.replicate]
    rw [z] at c
    omega
def aloneV (l : List S29) (n h : Int) (t : List Int) : Prop := (rd_T29 l n).f1 ≤ h ∧ ((rd_T29 l n).f2 = 0 ∨ rd t ((rd_T29 l n).f2 - 1) > 0)
theorem room_l1 (l : List S29) (s : List Int) (n m : Int) (t g : List Int) (ht : t.length = 4) (hg : g.length = 4) (h : Int) : ∀ (d : Nat) (x : Int), 0 ≤ x → x + d = 4 → ∀ k,
    (spec_l32Room.l1 (k + d + 1) l s n m t x h g = some false ∧ ∃ y : Int, 0 ≤ y ∧ y < 4 ∧ rd t y > rd g y) ∨ spec_l32Room.l1 (k + d + 1) l s n m t x h g = spec_l32Room.l0 k l s n (wrap64 (m + 1)) h g := by
  intro d
  induction d with
  | zero =>
    intro x x0 hx k
    right
    rw [Nat.add_zero, spec_l32Room.l1, if_neg (by omega)]
  | succ d ih =>
    intro x x0 hx k
    have e := ih (x + 1) (by omega) (by omega) k
    rw [show k + (d + 1) + 1 = (k + d + 1) + 1 by omega]
    generalize k + d + 1 = q at e ⊢
    rw [spec_l32Room.l1, if_pos (by omega), if_pos x0, if_pos (by omega)]
    by_cases c : rd t x > rd g x
    · left
      exact ⟨by rw [if_pos c], x, x0, by omega, c⟩
    · rw [if_neg c, w64 (x + 1) (by omega) (by omega)]
      exact e
theorem room_l0 (l : List S29) (hv : stepsV l = true) (s : List Int) (hw : Wide s) (hl : s.length ≤ l.length) (n : Int) (n0 : 0 ≤ n) (hn : n + 1 = s.length) (h : Int) (g : List Int) (hg : g.length = 4) : ∀ (d : Nat) (m : Int), 0 ≤ m → m + d = rd s n + (rd_T29 l n).f0 → ∀ k, 6 * d + 20 ≤ k →
    ∃ b, spec_l32Room.l0 k l s n m h g = some b ∧ (Quiet l s n m → aloneV l n h g → (∀ x : Int, 0 ≤ x → x < 4 → 0 ≤ rd g x) → b = true) := by
  obtain ⟨v4, v5⟩ := (stepsV_iff l).1 hv
  have sp := v5 n n0 (by omega)
  have st := hw n n0 (by omega)
  intro d
  induction d with
  | zero =>
    intro m m0 hm k hk
    obtain ⟨k, rfl, _⟩ := rounds1 (k := k) (B := 0) (by omega)
    refine ⟨true, ?_, fun _ _ _ => rfl⟩
    rw [spec_l32Room.l0, if_pos n0, if_pos (by omega), if_pos (by omega), w64 (rd s n + _) (by omega) (by omega), if_neg (by omega)]
  | succ d ih =>
    intro m m0 hm k hk
    obtain ⟨k, rfl⟩ : ∃ q, k = (q + 4 + 1) + 1 := ⟨k - 6, by omega⟩
    obtain ⟨b, e, hb⟩ := ih (m + 1) (by omega) (by omega) k (by omega)
    obtain ⟨h', t', e2, l4, q2⟩ := use_eq l hv s hw hl n n0 hn m (k + 4 + 1) (by omega)
    rw [spec_l32Room.l0, if_pos n0, if_pos (by omega), if_pos (by omega), w64 (rd s n + _) (by omega) (by omega), if_pos (by omega), e2]
    simp only [bsome]
    by_cases c : h' > h
    · refine ⟨false, by rw [if_pos c], fun q al gg => ?_⟩
      have := (q2 q).1
      have := al.1
      omega
    · rw [if_neg c]
      rcases room_l1 l s n m t' g l4 hg h 4 0 (by omega) (by omega) k with ⟨e3, y, y0, y1, y2⟩ | e3
      · refine ⟨false, e3, fun q al gg => ?_⟩
        have a := (q2 q).2 y y0 y1
        have gy := gg y y0 y1
        split at a
        · rename_i u
          rcases al.2 with z | z
          · omega
          · rw [← u] at z
            omega
        · omega
      · rw [e3, w64 (m + 1) (by omega) (by omega)]
        exact ⟨b, e, fun q al gg => hb (fun j j0 j1 => by have := q j j0 j1; omega) al gg⟩
theorem room_eq (l : List S29) (hv : stepsV l = true) (s : List Int) (hw : Wide s) (hl : s.length ≤ l.length) (n : Int) (n0 : 0 ≤ n) (hn : n + 1 = s.length) (h : Int) (g : List Int) (hg : g.length = 4) (k : Nat) (hk : 700 ≤ k) :
    ∃ b, spec_l32Room.f k l h g s = some b ∧ (Quiet l s n (rd s n) → aloneV l n h g → (∀ x : Int, 0 ≤ x → x < 4 → 0 ≤ rd g x) → b = true) := by
  obtain ⟨v4, v5⟩ := (stepsV_iff l).1 hv
  have sp := v5 n n0 (by omega)
  have st := hw n n0 (by omega)
  obtain ⟨b, e, hb⟩ := room_l0 l hv s hw hl n n0 hn h g hg (rd_T29 l n).f0.toNat (rd s n) st.1 (by omega) k (by omega)
  refine ⟨b, ?_, hb⟩
  unfold spec_l32Room.f
  rw [w64 _ (by omega) (by omega), show ((s.length : Int) - 1) = n by omega, if_pos n0, if_pos (by omega)]
  exact e
theorem after_l0 (l : List S29) (hv : stepsV l = true) (n : Int) (n0 : 0 ≤ n) (hn : n < l.length) (s : List Int) (hs : Starts l s) (hl : n = s.length) : ∀ (d : Nat) (j acc : Int), 0 ≤ j → j + d = (rd_T29 l n).f3.length → 0 ≤ acc → acc ≤ 99 * n → ∀ k, d + 1 ≤ k →
    ∃ r, spec_l32After.l0 k l s n acc j = some r ∧ 0 ≤ r ∧ r ≤ 99 * n := by
  obtain ⟨h8, h⟩ := (stepsV_iff l).1 hv
  have ha := h n n0 hn
  intro d
  induction d with
  | zero =>
    intro j acc j0 hj a0 a1 k hk
    obtain ⟨k, rfl, _⟩ := rounds1 hk
    exact ⟨acc, by rw [spec_l32After.l0, if_pos n0, if_pos hn, if_neg (by omega)], a0, a1⟩
  | succ d ih =>
    intro j acc j0 hj a0 a1 k hk
    obtain ⟨k, rfl, hk'⟩ := rounds1 hk
    have a := (ha.2.2.2 j j0 (by omega)).1
    have r := hs.2 _ a.1 (by omega)
    have c := (h (rd (rd_T29 l n).f3 j) a.1 (by omega)).1
    have jb := after_len l hv n n0 hn
    have mxs := mx_spec acc (rd s (rd (rd_T29 l n).f3 j) + (rd_T29 l (rd (rd_T29 l n).f3 j)).f0)
    obtain ⟨r', e, r0, r1⟩ := ih (j + 1) (mx acc (rd s (rd (rd_T29 l n).f3 j) + (rd_T29 l (rd (rd_T29 l n).f3 j)).f0)) (by omega) (by omega) (by omega) (by omega) k hk'
    refine ⟨r', ?_, r0, r1⟩
    rw [spec_l32After.l0, if_pos n0, if_pos hn, if_pos (by omega), if_pos j0, if_pos a.1, if_pos (by omega), if_pos (by omega), w64 (rd s (rd (rd_T29 l n).f3 j) + _) (by omega) (by omega), w64 (j + 1) (by omega) (by omega), e]
theorem starts_snoc {l : List S29} {s : List Int} (h : Starts l s) (h1 : s.length < l.length) {x : Int} (x0 : 0 ≤ x) (x1 : x ≤ 99 * s.length) : Starts l (s ++ [x]) := by
  refine ⟨by simp; omega, fun j j0 j1 => ?_⟩
  rw [List.length_append, List.length_singleton] at j1
  by_cases c : j < s.length
  · rw [rd_snoc_old s x j j0 c]
    exact h.2 j j0 c
  · rw [rd_snoc_new s x j (by omega)]
    omega
theorem starts_wide {l : List S29} {s : List Int} (h : Starts l s) (h8 : l.length ≤ 8) : Wide s := fun j j0 j1 => by
  have := h.1
  have := h.2 j j0 j1
  omega
theorem make_l1 (l : List S29) (hv : stepsV l = true) (n : Nat) (hn : n < l.length) (s : List Int) (hs : Starts l s) (hl : s.length = n) (h : Int) (g : List Int) (hg : g.length = 4) (al : aloneV l n h g) (gg : ∀ x : Int, 0 ≤ x → x < 4 → 0 ≤ rd g x) : ∀ (d : Nat) (x : Int), 0 ≤ x → x + d = 99 * n → ∀ k, 900 + d ≤ k →
    ∃ (x' : Int) (k' : Nat), 0 ≤ x' ∧ x' ≤ 99 * n ∧ k ≤ k' + d + 1 ∧ spec_PlanMake.l1 k l s n x h g = spec_PlanMake.l0 k' l (s ++ [x']) ((n : Int) + 1) h g := by
  obtain ⟨h8, v5⟩ := (stepsV_iff l).1 hv
  have hit : ∀ (x : Int) (k : Nat), 0 ≤ x → x ≤ 99 * n → 800 ≤ k → ∃ b, spec_PlanMake.l1 (k + 1) l s n x h g = (if b = true then spec_PlanMake.l0 k l (s ++ [x]) ((n : Int) + 1) h g else spec_PlanMake.l1 k l s n (x + 1) h g) ∧ (x = 99 * n → b = true) := by
    intro x k x0 x1 hk
    have hsn := starts_snoc hs (by omega) x0 (by omega)
    have lsn : (s ++ [x]).length = n + 1 := by simp [hl]
    obtain ⟨b, e, hb⟩ := room_eq l hv (s ++ [x]) (starts_wide hsn h8) (by omega) n (by omega) (by omega) h g hg k (by omega)
    refine ⟨b, ?_, fun xe => hb (fun j j0 j1 => ?_) al gg⟩
    · rw [spec_PlanMake.l1]
      simp only [bsome]
      rw [if_pos (by simp; omega), if_pos (by simp; omega), List.nil_append, e]
      simp only [bsome]
      rw [if_pos (show s.length + [x].length < 17592186044416 by simp; omega), w64 ((n : Int) + 1) (by omega) (by omega), w64 (x + 1) (by omega) (by omega)]
    · rw [rd_snoc_old s x j j0 (by omega), rd_snoc_new s x n (by omega), xe]
      have := hs.2 j j0 (by omega)
      have := v5 j j0 (by omega)
      omega
  intro d
  induction d with
  | zero =>
    intro x x0 hx k hk
    obtain ⟨k, rfl, hk'⟩ := rounds1 (k := k) (B := 899) (by omega)
    obtain ⟨b, e, hb⟩ := hit x k x0 (by omega) (by omega)
    rw [hb (by omega), if_pos rfl] at e
    exact ⟨x, k, x0, by omega, by omega, e⟩
  | succ d ih =>
    intro x x0 hx k hk
    obtain ⟨k, rfl, hk'⟩ := rounds1 (k := k) (B := 900 + d) (by omega)
    obtain ⟨b, e, _⟩ := hit x k x0 (by omega) (by omega)
    by_cases c : b = true
    · rw [if_pos c] at e
      exact ⟨x, k, x0, by omega, by omega, e⟩
    · rw [if_neg c] at e
      obtain ⟨x', k', a1, a2, a3, a4⟩ := ih (x + 1) (by omega) (by omega) k hk'
      exact ⟨x', k', a1, a2, by omega, by rw [e, a4]⟩
theorem make_l0 (l : List S29) (hv : stepsV l = true) (h : Int) (g : List Int) (hg : g.length = 4) (gg : ∀ x : Int, 0 ≤ x → x < 4 → 0 ≤ rd g x) : ∀ (d n : Nat), n + d = l.length → ∀ (s : List Int), Starts l s → s.length = n → ∀ k, 1000 * d + 2000 ≤ k →
    ∃ s' b, spec_PlanMake.l0 k l s n h g = some (s', b) ∧ s'.length ≤ 8 := by
  obtain ⟨h8, v5⟩ := (stepsV_iff l).1 hv
  intro d
  induction d with
  | zero =>
    intro n hn s hs hl k hk
    obtain ⟨k, rfl, hk'⟩ := rounds1 (k := k) (B := 1999) (by omega)
    exact ⟨s, true, by rw [spec_PlanMake.l0, if_neg (by omega)], by omega⟩
  | succ d ih =>
    intro n hn s hs hl k hk
    obtain ⟨k, rfl, hk'⟩ := rounds1 (k := k) (B := 1000 * d + 2999) (by omega)
    have sp := v5 n (by omega) (by omega)
    have ale : ∃ b, spec_l32Alone.f (rd_T29 l n).f0 (rd_T29 l n).f1 (rd_T29 l n).f2 (rd_T29 l n).f3 h g = some b ∧ (b = true → aloneV l n h g) := by
      unfold spec_l32Alone.f aloneV
      by_cases c : (rd_T29 l n).f1 ≤ h
      · rw [if_pos c]
        by_cases c2 : (rd_T29 l n).f2 = 0
        · rw [if_pos c2]
          exact ⟨true, rfl, fun _ => ⟨c, .inl c2⟩⟩
        · rw [if_neg c2, w64 _ (by omega) (by omega), if_pos (by omega), if_pos (by omega)]
          exact ⟨_, rfl, fun z => ⟨c, .inr (of_decide_eq_true z)⟩⟩
      · rw [if_neg c]
        exact ⟨false, rfl, fun z => by cases z⟩
    obtain ⟨b, ale, hb⟩ := ale
    rw [spec_PlanMake.l0, if_pos (by omega), if_pos (by omega), ale]
    simp only [bsome]
    by_cases c0 : b = true
    · have c := hb c0
      have al := after_len l hv n (by omega) (by omega)
      obtain ⟨r, e, r0, r1⟩ := after_l0 l hv n (by omega) (by omega) s hs (by omega) (rd_T29 l n).f3.length 0 0 (by omega) (by omega) (by omega) (by omega) k (by omega)
      rw [if_pos c0]
      unfold spec_l32After.f
      rw [e]
      simp only [bsome]
      obtain ⟨x', k', x0, x1, kk, e2⟩ := make_l1 l hv n (by omega) s hs hl h g hg c gg (99 * n - r).toNat r r0 (by omega) k (by omega)
      rw [e2]
      have := ih (n + 1) (by omega) (s ++ [x']) (starts_snoc hs (by omega) x0 (by omega)) (by simp [hl]) k' (by omega)
      rw [Int.natCast_succ] at this
      exact this
    · rw [if_neg c0]
      exact ⟨[], false, rfl, by simp⟩
theorem make_eq (l : List S29) (M : Nat) (hM : Inner l M) (hl9 : l.length ≤ 9) (h : Int) (g : List Int) (hg : g.length ≤ 4) (k : Nat) (hk : (M + 4) * l.length + 12000 ≤ k) : ∃ s b, spec_PlanMake.f k l h g = some (s, b) ∧ s.length ≤ 8 := by
  unfold spec_PlanMake.f
  simp only [bsome]
  rw [spec_KitchenValid_eq h g (by omega) k (by omega)]
  simp only [bsome]
  obtain ⟨k, rfl, hk'⟩ := rounds1 (k := k) (B := (M + 4) * l.length + 11999) (by omega)
  by_cases c : kitchenV h g = true
  · rw [if_pos c, spec_StepsValid_eq l M hM _ (by omega)]
    simp only [bsome]
    rw [spec_PlanMake.j0]
    by_cases c2 : stepsV l = true
    · rw [c2, if_neg (by simp)]
      unfold kitchenV at c
      rw [Bool.and_eq_true, Bool.and_eq_true, decide_eq_true_eq, decide_eq_true_eq, allFrom_iff] at c
      refine make_l0 l c2 h g (by omega) (fun x x0 x1 => ?_) l.length 0 (by omega) [] ⟨by simp, fun j j0 j1 => by simp at j1; omega⟩ rfl k (by omega)
      have := c.1 x x0 (by omega)
      unfold okPlace at this
      exact (of_decide_eq_true this).1
    · rw [Bool.eq_false_iff.2 c2, if_pos (by simp)]
      exact ⟨[], false, rfl, by simp⟩
  · rw [if_neg c, spec_PlanMake.j0, if_pos rfl]
    exact ⟨[], false, rfl, by simp⟩
theorem l92Plan_ok {b : List Int} (hb : Bytes b) (k : Nat) (hk : 20000 ≤ k) : ∃ (l : List S29) (h : Int) (g s : List Int) (p : Int), StepsB l ∧ s.length ≤ 9 ∧ 0 ≤ p ∧ p ≤ 2000 ∧ spec_l92Plan.f k b 0 = some (l, h, g, s, p) := by
  obtain ⟨l, p1, hl, a0, a1, e1⟩ := l92Steps_ok hb 0 (by omega) (by omega)
  obtain ⟨h, g, p2, hg, b0, b1, e2⟩ := l92Kitchen_ok hb p1 a0 (by omega)
  have hM := inner_of hl
  have hl9 := hl.1
  obtain ⟨s, ok, e3, hs⟩ := make_eq l 10 hM hl9 h g hg k (by omega)
  have hlen : (earlyV l).length ≤ 9 := by
    unfold earlyV
    split
    · rw [early_len]; exact hl.1
    · exact Nat.zero_le _
  unfold spec_l92Plan.f
  rw [e1 k (by omega)]
  simp only [bsome]
  rw [e2 k (by omega)]
  simp only [bsome]
  rw [e3]
  simp only [bsome]
  by_cases c : ok = true
  · rw [if_pos c]
    exact ⟨l, h, g, s, p2, hl, by omega, b0, by omega, rfl⟩
  · rw [if_neg c, spec_StepsEarly_eq l 10 hM k (by omega)]
    simp only [bsome]
    exact ⟨l, h, g, earlyV l, p2, hl, hlen, b0, by omega, rfl⟩
theorem drawPlanValid_ok (l0 : List Int) (ok : CodeOk l0) (k : Nat) (hk : 20001 ≤ k) : ∃ (l : List S29) (h : Int) (g s : List Int), StepsB l ∧ s.length ≤ 9 ∧ spec_DrawPlanValid.f k l0 = some (l, h, g, s) := by
  obtain ⟨b, hb, e⟩ := open_ok l0 ok
  obtain ⟨l, h, g, s, p, hl, hs, p0, p1, e1⟩ := l92Plan_ok hb k (by omega)
  unfold spec_DrawPlanValid.f
  rw [e]
  simp only [bsome]
  rw [e1]
  simp only [bsome]
  by_cases c : (s.length : Int) > 0
  · obtain ⟨v1, a1, c1, _, e2⟩ := pick_ok hb p s.length p0 (by omega)
    obtain ⟨v2, a2, c2, _, e3⟩ := pick_ok hb (p + 1) 8 (by omega) (by omega)
    obtain ⟨v3, a3, c3, _, e4⟩ := pick_ok hb (p + 1 + 1) 6 (by omega) (by omega)
    have q1 := c1 (by omega)
    rw [if_pos c, e2 k (by omega)]
    simp only [bsome]
    rw [e3 k (by omega)]
    simp only [bsome]
    obtain ⟨k, rfl, hk'⟩ := rounds1 (k := k) (B := 20000) (by omega)
    have j0 : ∀ bb : Bool, ∃ (l' : List S29) (h' : Int) (g' s' : List Int), StepsB l' ∧ s'.length ≤ 9 ∧ spec_DrawPlanValid.j0 (k + 1) l s v1 v2 bb b (p + 1 + 1) h g = some (l', h', g', s') := by
      intro bb
      rw [spec_DrawPlanValid.j0]
      by_cases u1 : bb = true
      · rw [if_pos u1, if_pos a1, if_pos q1, e4 k (by omega)]
        simp only [bsome]
        exact ⟨l, h, g, _, hl, by rw [List.length_set]; exact hs, rfl⟩
      · rw [if_neg u1]
        by_cases u2 : v2 = 2
        · rw [if_pos u2, if_pos a1, if_pos q1]
          exact ⟨l, h, g, _, hl, by rw [List.length_set]; exact hs, rfl⟩
        · rw [if_neg u2]
          by_cases u3 : v2 = 3
          · rw [if_pos u3, if_pos (by omega)]
            exact ⟨l, h, g, _, hl, by rw [List.length_drop]; omega, rfl⟩
          · rw [if_neg u3]
            exact ⟨l, h, g, s, hl, hs, rfl⟩
    by_cases u : v2 = 0
    · rw [if_pos u]
      exact j0 _
    · rw [if_neg u]
      exact j0 _
  · rw [if_neg c]
    exact ⟨l, h, g, s, hl, hs, rfl⟩
theorem drawPlanEnd_ok (l0 : List Int) (ok : CodeOk l0) (k : Nat) (hk : 20001 ≤ k) : ∃ (l : List S29) (s : List Int), StepsB l ∧ s.length ≤ 9 ∧ spec_DrawPlanEnd.f k l0 = some (l, s) := by
  obtain ⟨l, h, g, s, hl, hs, e⟩ := drawPlanValid_ok l0 ok k hk
  unfold spec_DrawPlanEnd.f
  rw [e]
  simp only [bsome]
  exact ⟨l, s, hl, hs, rfl⟩

end Go.Proofs.Ytgdndnaonmcdkaa.B
