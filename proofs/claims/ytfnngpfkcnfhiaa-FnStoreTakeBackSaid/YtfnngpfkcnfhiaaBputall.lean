/- Lemmas about the printed functions (putall). -/
import Derived.Test.YtfnngpfkcnfhiaaPAllx0
import Derived.Test.YtfnngpfkcnfhiaaPAllx2
import Derived.Test.YtfnngpfkcnfhiaaPAllx3
import Derived.Test.YtfnngpfkcnfhiaaPAllx4
import Derived.Test.YtfnngpfkcnfhiaaPAllx5
import Derived.Test.YtfnngpfkcnfhiaaPAllx6
import Derived.Test.YtfnngpfkcnfhiaaPAllx7
import Derived.Test.YtfnngpfkcnfhiaaPAllx8
import Derived.Test.YtfnngpfkcnfhiaaPAllx11
import Derived.Test.YtfnngpfkcnfhiaaPAllx12
import Derived.Test.YtfnngpfkcnfhiaaPAllx13
import Derived.Test.YtfnngpfkcnfhiaaPAllx14
import Derived.Test.YtfnngpfkcnfhiaaPAllx15
import Derived.Test.YtfnngpfkcnfhiaaPAllx16
import Derived.Test.YtfnngpfkcnfhiaaBbase
import Derived.Test.YtfnngpfkcnfhiaaBwithin
import Derived.Test.YtfnngpfkcnfhiaaBpick
namespace Go.Proofs.Ytfnngpfkcnfhiaa.B
open Go.RowKit Go.Proofs.Ytfnngpfkcnfhiaa.PAll Go.Proofs.YtfnngpfkcnfhiaaW.PrintWords Go.Proofs.YtfnngpfkcnfhiaaW.PrintLast
set_option linter.unusedVariables false
set_option linter.unusedSimpArgs false

/-! #### lots: reading, what is valid -/
theorem rd_lot (l : List S30) (i : Nat) (h : i < l.length) : rd_T30 l (i : Int) = l[i] := by
  unfold rd_T30
  rw [Int.toNat_natCast, List.getD_eq_getElem?_getD, List.getElem?_eq_getElem h]
  rfl
theorem drop_lot (l : List S30) (i : Nat) (h : i < l.length) : l.drop i = rd_T30 l (i : Int) :: l.drop (i + 1) := by
  rw [rd_lot l i h, List.drop_eq_getElem_cons h]
theorem up (i : Nat) : (i : Int) + 1 = ((i + 1 : Nat) : Int) := by omega
def okL (x : S30) : Prop := (1 ≤ x.f0 ∧ x.f0 ≤ 20) ∧ (0 ≤ x.f1 ∧ x.f1 ≤ 99) ∧ (1 ≤ x.f2 ∧ x.f2 ≤ 9999)
def befL (x y : S30) : Prop := x.f0 < y.f0 ∨ (x.f0 = y.f0 ∧ x.f1 < y.f1)
instance (x : S30) : Decidable (okL x) := by unfold okL; infer_instance
instance (x y : S30) : Decidable (befL x y) := by unfold befL; infer_instance
theorem befL_trans {x y z : S30} (h : befL x y) (g : befL y z) : befL x z := by
  unfold befL at *
  omega
def okLotAt (l : List S30) (i : Int) : Bool := decide (okL (rd_T30 l i)) && (decide (i ≤ 0) || decide (befL (rd_T30 l (i - 1)) (rd_T30 l i)))
def storeV (l : List S30) : Bool := allFrom (okLotAt l) l.length 0 && decide ((l.length : Int) ≤ 12)
theorem storeV_iff (l : List S30) : storeV l = true ↔ l.length ≤ 12 ∧ (∀ x ∈ l, okL x) ∧ l.Pairwise befL := by
  unfold storeV
  rw [Bool.and_eq_true, allFrom_iff, decide_eq_true_eq]
  constructor
  · rintro ⟨h1, h2⟩
    have a : ∀ i : Nat, ∀ h : i < l.length, okL l[i] ∧ ∀ h0 : 0 < i, befL (l[i - 1]'(by omega)) l[i] := by
      intro i h
      have q := h1 i (by omega) (by omega)
      unfold okLotAt at q
      rw [Bool.and_eq_true, Bool.or_eq_true, decide_eq_true_eq, decide_eq_true_eq, decide_eq_true_eq, rd_lot l i h] at q
      refine ⟨q.1, fun h0 => ?_⟩
      rcases q.2 with c | c
      · omega
      · rw [show (i : Int) - 1 = ((i - 1 : Nat) : Int) by omega, rd_lot l (i - 1) (by omega)] at c
        exact c
    refine ⟨by omega, fun x hx => ?_, List.pairwise_iff_getElem.2 ?_⟩
    · obtain ⟨i, h, rfl⟩ := List.getElem_of_mem hx
      exact (a i h).1
    · intro i j
      induction j with
      | zero => intro _ _ h; omega
      | succ j ih =>
        intro hi hj h
        have b := (a (j + 1) hj).2 (by omega)
        by_cases c : i = j
        · subst c
          exact b
        · exact befL_trans (ih hi (by omega) (by omega)) b
  · rintro ⟨h1, h2, h3⟩
    refine ⟨fun i h0 hi => ?_, by omega⟩
    obtain ⟨i, rfl⟩ := Int.eq_ofNat_of_zero_le h0
    unfold okLotAt
    rw [Bool.and_eq_true, Bool.or_eq_true, decide_eq_true_eq, decide_eq_true_eq, decide_eq_true_eq, rd_lot l i (by omega)]
    refine ⟨h2 _ (List.getElem_mem _), ?_⟩
    by_cases c : (i : Int) ≤ 0
    · exact .inl c
    · rw [show (i : Int) - 1 = ((i - 1 : Nat) : Int) by omega, rd_lot l (i - 1) (by omega)]
      exact .inr (List.pairwise_iff_getElem.1 h3 (i - 1) i (by omega) (by omega) (by omega))
theorem l21Lot_eq (x : S30) : spec_l21Lot.f x.f0 x.f1 x.f2 = some (decide (okL x)) := by
  unfold spec_l21Lot.f
  rw [l6In_eq, l6In_eq, l6In_eq]
  simp only [bsome]
  by_cases h : okL x
  · rw [decide_eq_true h, decide_eq_true h.1, decide_eq_true h.2.1, if_pos rfl, if_pos rfl, decide_eq_true h.2.2]
  · rw [decide_eq_false h]
    by_cases h1 : 1 ≤ x.f0 ∧ x.f0 ≤ 20
    · by_cases h2 : 0 ≤ x.f1 ∧ x.f1 ≤ 99
      · rw [decide_eq_true h1, decide_eq_true h2, if_pos rfl, if_pos rfl, decide_eq_false (fun h3 => h ⟨h1, h2, h3⟩)]
      · rw [decide_eq_true h1, decide_eq_false h2, if_pos rfl, if_neg (by simp)]
    · rw [decide_eq_false h1, if_neg (by simp)]
theorem l21Before_eq (x y : S30) : spec_l21Before.f x.f0 x.f1 x.f2 y.f0 y.f1 y.f2 = some (decide (befL x y)) := by
  unfold spec_l21Before.f
  by_cases h1 : x.f0 < y.f0
  · rw [if_pos h1, decide_eq_true (show befL x y from Or.inl h1)]
  · rw [if_neg h1]
    by_cases h2 : x.f0 = y.f0
    · rw [if_pos h2]
      by_cases h3 : x.f1 < y.f1
      · rw [decide_eq_true h3, decide_eq_true (show befL x y from Or.inr ⟨h2, h3⟩)]
      · rw [decide_eq_false h3, decide_eq_false (show ¬ befL x y from fun h => by rcases h with h | h <;> omega)]
    · rw [if_neg h2, decide_eq_false (show ¬ befL x y from fun h => by rcases h with h | h <;> omega)]
theorem spec_StoreValid_l0 (l : List S30) (hl : l.length ≤ 1000000000) : ∀ (d : Nat) (i : Int), 0 ≤ i → i + d = l.length → ∀ k, d + 1 ≤ k → spec_StoreValid.l0 k l i = some (allFrom (okLotAt l) d i && decide ((l.length : Int) ≤ 12)) := by
  intro d
  induction d with
  | zero =>
    intro i h0 hi k hk
    obtain ⟨k, rfl, _⟩ := rounds1 hk
    rw [spec_StoreValid.l0, if_neg (by omega), allFrom, Bool.true_and]
  | succ d ih =>
    intro i h0 hi k hk
    obtain ⟨k, rfl, hk'⟩ := rounds1 hk
    have e := ih (i + 1) (by omega) (by omega) k hk'
    rw [spec_StoreValid.l0, if_pos (by omega), if_pos h0, l21Lot_eq]
    simp only [bsome]
    rw [allFrom, okLotAt]
    by_cases c : okL (rd_T30 l i)
    · rw [decide_eq_true c, if_pos rfl, Bool.true_and, w64 (i + 1) (by omega) (by omega)]
      by_cases c0 : i > 0
      · rw [if_pos c0, w64 (i - 1) (by omega) (by omega), if_pos (by omega), if_pos (by omega), l21Before_eq, decide_eq_false (show ¬ (i ≤ 0) by omega), Bool.false_or]
        simp only [bsome]
        by_cases c1 : befL (rd_T30 l (i - 1)) (rd_T30 l i)
        · rw [decide_eq_true c1, if_pos rfl, e, Bool.true_and]
        · rw [decide_eq_false c1, if_neg (by simp), Bool.false_and, Bool.false_and]
      · rw [if_neg c0, e, decide_eq_true (show i ≤ 0 by omega), Bool.true_or, Bool.true_and]
    · rw [decide_eq_false c, if_neg (by simp), Bool.false_and, Bool.false_and, Bool.false_and]
theorem spec_StoreValid_eq (l : List S30) (hl : l.length ≤ 1000000000) (k : Nat) (hk : l.length + 1 ≤ k) : spec_StoreValid.f k l = some (storeV l) := by
  unfold spec_StoreValid.f storeV
  exact spec_StoreValid_l0 l hl l.length 0 (by omega) (by omega) k hk
theorem lotValid_eq (x : S30) : impl_lotValid.f x.f0 x.f1 x.f2 = some (decide (okL x)) := by
  unfold impl_lotValid.f impl_isId.f
  rw [within_eq, within_eq, within_eq]
  simp only [bsome]
  by_cases h : okL x
  · rw [decide_eq_true h, decide_eq_true h.1, decide_eq_true h.2.1, if_pos rfl, if_pos rfl, decide_eq_true h.2.2]
  · rw [decide_eq_false h]
    by_cases h1 : 1 ≤ x.f0 ∧ x.f0 ≤ 20
    · by_cases h2 : 0 ≤ x.f1 ∧ x.f1 ≤ 99
      · rw [decide_eq_true h1, decide_eq_true h2, if_pos rfl, if_pos rfl, decide_eq_false (fun h3 => h ⟨h1, h2, h3⟩)]
      · rw [decide_eq_true h1, decide_eq_false h2, if_pos rfl, if_neg (by simp)]
    · rw [decide_eq_false h1, if_neg (by simp)]
def cmpI (a b : Int) : Int := if a < b then -1 else if a > b then 1 else 0
theorem compare_eq (a b : Int) : cmp_Compare_int.f a b = some (cmpI a b) := by
  unfold cmp_Compare_int.f cmp_isNaN_int.f cmpI
  simp only [bsome, bne_self_eq_false, Bool.false_eq_true, if_false]
  split
  · rfl
  · split <;> rfl
theorem or_eq (a b : Int) (k : Nat) (hk : 3 ≤ k) : cmp_Or_int.f k [a, b] = some (if a = 0 then b else a) := by
  obtain ⟨k, rfl⟩ : ∃ q, k = q + 1 + 1 + 1 := ⟨k - 3, by omega⟩
  unfold cmp_Or_int.f
  generalize hq : k + 1 + 1 = q
  have e2 : (([a, b] : List Int).length : Int) = 2 := rfl
  have r0 : rd [a, b] 0 = a := rfl
  have r1 : rd [a, b] 1 = b := rfl
  rw [e2, cmp_Or_int.l0, if_pos (by omega), if_pos (by omega), if_pos (by omega), r0]
  by_cases h : a = 0
  · rw [if_pos h, if_pos h, show wrap64 (0 + 1) = 1 by have := w64 (0 + 1) (by omega) (by omega); omega, ← hq]
    generalize hq' : k + 1 = q'
    rw [cmp_Or_int.l0, if_pos (by omega), if_pos (by omega), if_pos (by rw [e2]; omega), r1]
    by_cases g : b = 0
    · rw [if_pos g, show wrap64 (1 + 1) = 2 by have := w64 (1 + 1) (by omega) (by omega); omega, ← hq', cmp_Or_int.l0, if_neg (by omega), g]
    · rw [if_neg g]
  · rw [if_neg h, if_neg h]
theorem compareLots_eq (x y : S30) : ∃ v : Int, (∀ k, 3 ≤ k → impl_compareLots.f k x.f0 x.f1 x.f2 y.f0 y.f1 y.f2 = some v) ∧ (v ≥ 0 ↔ ¬ befL x y) := by
  refine ⟨if cmpI x.f0 y.f0 = 0 then cmpI x.f1 y.f1 else cmpI x.f0 y.f0, fun k hk => ?_, ?_⟩
  · unfold impl_compareLots.f
    rw [compare_eq, compare_eq]
    simp only [bsome]
    rw [or_eq _ _ k hk]
    simp only [bsome]
  · unfold cmpI befL
    by_cases a : x.f0 < y.f0
    · rw [if_pos a, if_neg (by omega)]
      omega
    · rw [if_neg a]
      by_cases b : x.f0 > y.f0
      · rw [if_pos b, if_neg (by omega)]
        omega
      · rw [if_neg b, if_pos rfl]
        by_cases c : x.f1 < y.f1
        · rw [if_pos c]
          omega
        · rw [if_neg c]
          by_cases d : x.f1 > y.f1
          · rw [if_pos d]
            omega
          · rw [if_neg d]
            omega
theorem impl_StoreValid_l0 (l : List S30) (hl : l.length ≤ 1000000000) : ∀ (d : Nat) (i : Int), 0 ≤ i → i + d = l.length → ∀ k, d + 4 ≤ k → impl_StoreValid.l0 k l l (l.length : Int) i = some (allFrom (okLotAt l) d i && decide ((l.length : Int) ≤ 12)) := by
  intro d
  induction d with
  | zero =>
    intro i h0 hi k hk
    obtain ⟨k, rfl, _⟩ := rounds1 (k := k) (B := 3) (by omega)
    rw [impl_StoreValid.l0, if_neg (by omega), allFrom, Bool.true_and]
  | succ d ih =>
    intro i h0 hi k hk
    obtain ⟨k, rfl, hk'⟩ := rounds1 (k := k) (B := d + 4) (by omega)
    have e := ih (i + 1) (by omega) (by omega) k hk'
    rw [impl_StoreValid.l0, if_pos (by omega), if_pos h0, if_pos (by omega), lotValid_eq]
    simp only [bsome]
    rw [allFrom, okLotAt]
    by_cases c : okL (rd_T30 l i)
    · rw [decide_eq_true c, if_pos rfl, Bool.true_and, w64 (i + 1) (by omega) (by omega)]
      by_cases c0 : i > 0
      · obtain ⟨v, ev, hv⟩ := compareLots_eq (rd_T30 l (i - 1)) (rd_T30 l i)
        rw [if_pos c0, w64 (i - 1) (by omega) (by omega), if_pos (by omega), if_pos (by omega), ev k (by omega), decide_eq_false (show ¬ (i ≤ 0) by omega), Bool.false_or]
        simp only [bsome]
        by_cases c1 : befL (rd_T30 l (i - 1)) (rd_T30 l i)
        · rw [decide_eq_true c1, if_neg (fun h => hv.1 h c1), e, Bool.true_and]
        · rw [decide_eq_false c1, if_pos (hv.2 c1), Bool.false_and, Bool.false_and]
      · rw [if_neg c0, e, decide_eq_true (show i ≤ 0 by omega), Bool.true_or, Bool.true_and]
    · rw [decide_eq_false c, if_neg (by simp), Bool.false_and, Bool.false_and, Bool.false_and]
theorem impl_StoreValid_eq (l : List S30) (hl : l.length ≤ 1000000000) (k : Nat) (hk : l.length + 4 ≤ k) : impl_StoreValid.f k l = some (storeV l) := by
  unfold impl_StoreValid.f storeV
  exact impl_StoreValid_l0 l hl l.length 0 (by omega) (by omega) k hk
/-! #### how much of a food is there -/
def hasL (id day : Int) : List S30 → Int
  | [] => 0
  | x :: xs => (if x.f0 = id ∧ x.f1 ≥ day then x.f2 else 0) + hasL id day xs
theorem hasL_range (id day : Int) : ∀ l : List S30, (∀ x ∈ l, okL x) → 0 ≤ hasL id day l ∧ hasL id day l ≤ 9999 * l.length := by
  intro l
  induction l with
  | nil => intro _; simp [hasL]
  | cons x xs ih =>
    intro h
    have a := ih fun y hy => h y (List.mem_cons_of_mem _ hy)
    have b := h x (List.mem_cons_self ..)
    unfold okL at b
    rw [hasL, List.length_cons]
    split <;> omega
def hasV (l : List S30) (id day : Int) : Int := if storeV l = true then hasL id day l else -1
theorem impl_StoreHas_l0 (l : List S30) (hv : storeV l = true) (id day : Int) : ∀ (d i : Nat), i + d = l.length → ∀ (acc : Int), 0 ≤ acc → acc ≤ 9999 * i → ∀ k, d + 1 ≤ k → impl_StoreHas.l0 k id day acc l (l.length : Int) i = some (acc + hasL id day (l.drop i)) := by
  obtain ⟨h1, h2, h3⟩ := (storeV_iff l).1 hv
  intro d
  induction d with
  | zero =>
    intro i hi acc b0 b1 k hk
    obtain ⟨k, rfl, _⟩ := rounds1 hk
    rw [impl_StoreHas.l0, if_neg (by omega), List.drop_of_length_le (by omega), hasL, Int.add_zero]
  | succ d ih =>
    intro i hi acc b0 b1 k hk
    obtain ⟨k, rfl, hk'⟩ := rounds1 hk
    have ok := h2 _ (List.getElem_mem (by omega : i < l.length))
    rw [← rd_lot l i (by omega)] at ok
    unfold okL at ok
    rw [impl_StoreHas.l0, if_pos (by omega), if_pos (by omega), if_pos (by omega), w64 ((i : Int) + 1) (by omega) (by omega), up, drop_lot l i (by omega), hasL, w64 (acc + _) (by omega) (by omega)]
    by_cases c1 : (rd_T30 l (i : Int)).f0 = id
    · by_cases c2 : (rd_T30 l (i : Int)).f1 ≥ day
      · rw [if_pos c1, if_pos c2, if_pos ⟨c1, c2⟩, ih (i + 1) (by omega) _ (by omega) (by omega) k hk', Int.add_assoc]
      · rw [if_pos c1, if_neg c2, if_neg (fun h => c2 h.2), Int.zero_add]
        exact ih (i + 1) (by omega) _ (by omega) (by omega) k hk'
    · rw [if_neg c1, if_neg (fun h => c1 h.1), Int.zero_add]
      exact ih (i + 1) (by omega) _ (by omega) (by omega) k hk'
theorem impl_StoreHas_eq (l : List S30) (hl : l.length ≤ 1000000000) (id day : Int) (k : Nat) (hk : l.length + 4 ≤ k) : impl_StoreHas.f k l id day = some (hasV l id day) := by
  unfold impl_StoreHas.f hasV
  rw [impl_StoreValid_eq l hl k hk]
  simp only [bsome]
  by_cases hv : storeV l = true
  · have e := impl_StoreHas_l0 l hv id day l.length 0 (by omega) 0 (by omega) (by omega) k (by omega)
    rw [List.drop_zero, Int.zero_add] at e
    rw [if_pos hv, if_pos hv]
    exact e
  · rw [if_neg hv, if_neg hv]
theorem spec_StoreHas_l0 (l : List S30) (hv : storeV l = true) (id day : Int) : ∀ (d i : Nat), i + d = l.length → ∀ (acc : Int), 0 ≤ acc → acc ≤ 9999 * i → ∀ k, d + 1 ≤ k → spec_StoreHas.l0 k l id day acc i = some (acc + hasL id day (l.drop i)) := by
  obtain ⟨h1, h2, h3⟩ := (storeV_iff l).1 hv
  intro d
  induction d with
  | zero =>
    intro i hi acc b0 b1 k hk
    obtain ⟨k, rfl, _⟩ := rounds1 hk
    rw [spec_StoreHas.l0, if_neg (by omega), List.drop_of_length_le (by omega), hasL, Int.add_zero]
  | succ d ih =>
    intro i hi acc b0 b1 k hk
    obtain ⟨k, rfl, hk'⟩ := rounds1 hk
    have ok := h2 _ (List.getElem_mem (by omega : i < l.length))
    rw [← rd_lot l i (by omega)] at ok
    unfold okL at ok
    rw [spec_StoreHas.l0, if_pos (by omega), if_pos (by omega), w64 ((i : Int) + 1) (by omega) (by omega), up, drop_lot l i (by omega), hasL, w64 (acc + _) (by omega) (by omega)]
    by_cases c1 : (rd_T30 l (i : Int)).f0 = id
    · by_cases c2 : (rd_T30 l (i : Int)).f1 ≥ day
      · rw [if_pos c1, if_pos c2, if_pos ⟨c1, c2⟩, ih (i + 1) (by omega) _ (by omega) (by omega) k hk', Int.add_assoc]
      · rw [if_pos c1, if_neg c2, if_neg (fun h => c2 h.2), Int.zero_add]
        exact ih (i + 1) (by omega) _ (by omega) (by omega) k hk'
    · rw [if_neg c1, if_neg (fun h => c1 h.1), Int.zero_add]
      exact ih (i + 1) (by omega) _ (by omega) (by omega) k hk'
theorem spec_StoreHas_eq (l : List S30) (hl : l.length ≤ 1000000000) (id day : Int) (k : Nat) (hk : l.length + 1 ≤ k) : spec_StoreHas.f k l id day = some (hasV l id day) := by
  unfold spec_StoreHas.f hasV
  rw [spec_StoreValid_eq l hl k hk]
  simp only [bsome]
  by_cases hv : storeV l = true
  · have e := spec_StoreHas_l0 l hv id day l.length 0 (by omega) 0 (by omega) (by omega) k (by omega)
    rw [List.drop_zero, Int.zero_add] at e
    rw [if_pos hv, if_pos hv]
    exact e
  · rw [if_neg hv, if_neg hv]
/-! #### taking from a store -/
theorem mn_cases (a b : Int) : (mn a b = a ∧ a ≤ b) ∨ (mn a b = b ∧ b ≤ a) := by
  unfold mn
  split <;> omega
def qOf (id day n : Int) (x : S30) : Int := if x.f0 = id ∧ x.f1 ≥ day then mn x.f2 n else 0
def restOf (x : S30) (q : Int) : List S30 := if x.f2 - q > 0 then [⟨x.f0, x.f1, x.f2 - q⟩] else []
def partOf (x : S30) (q : Int) : List S30 := if q > 0 then [⟨x.f0, x.f1, q⟩] else []
def takeL (id day : Int) : Int → List S30 → List S30 × List S30
  | _, [] => ([], [])
  | n, x :: xs => (restOf x (qOf id day n x) ++ (takeL id day (n - qOf id day n x) xs).1, partOf x (qOf id day n x) ++ (takeL id day (n - qOf id day n x) xs).2)
def takeV (l : List S30) (id n day : Int) : List S30 × List S30 × Bool :=
  if storeV l = true ∧ (0 ≤ n ∧ n ≤ 999999) ∧ n ≤ hasL id day l then ((takeL id day n l).1, (takeL id day n l).2, true) else ([], [], false)
theorem qOf_range (id day n : Int) (x : S30) (hx : okL x) (hn : 0 ≤ n) : 0 ≤ qOf id day n x ∧ qOf id day n x ≤ x.f2 ∧ qOf id day n x ≤ n := by
  have h := hx.2.2
  unfold qOf
  split
  · rcases mn_cases x.f2 n with m | m <;> omega
  · omega
theorem restOf_len (x : S30) (q : Int) : (restOf x q).length ≤ 1 := by
  unfold restOf
  split
  · exact Nat.le_refl _
  · exact Nat.zero_le _
theorem partOf_len (x : S30) (q : Int) : (partOf x q).length ≤ 1 := by
  unfold partOf
  split
  · exact Nat.le_refl _
  · exact Nat.zero_le _
theorem takeL_len (id day : Int) : ∀ (xs : List S30) (n : Int), (takeL id day n xs).1.length ≤ xs.length ∧ (takeL id day n xs).2.length ≤ xs.length := by
  intro xs
  induction xs with
  | nil => intro n; exact ⟨Nat.zero_le _, Nat.zero_le _⟩
  | cons x xs ih =>
    intro n
    have a := ih (n - qOf id day n x)
    have b := restOf_len x (qOf id day n x)
    have c := partOf_len x (qOf id day n x)
    rw [takeL, List.length_cons, List.length_append, List.length_append]
    omega
theorem takeV_len (l : List S30) (id n day : Int) : (takeV l id n day).1.length ≤ l.length ∧ (takeV l id n day).2.1.length ≤ l.length := by
  unfold takeV
  split
  · exact takeL_len id day l n
  · exact ⟨Nat.zero_le _, Nat.zero_le _⟩
theorem spec_take_step (l : List S30) (id day n : Int) (n0 : 0 ≤ n) (n1 : n ≤ 999999) (i : Nat) (hi : i < l.length) (hl : l.length ≤ 12) (hx : okL (rd_T30 l (i : Int))) (a b : List S30) (ha : a.length ≤ i) (hb : b.length ≤ i) (k : Nat) :
    spec_StoreTake.l0 (k + 1 + 1) l id n day a b i = spec_StoreTake.l0 k l id (n - qOf id day n (rd_T30 l (i : Int))) day (a ++ restOf (rd_T30 l (i : Int)) (qOf id day n (rd_T30 l (i : Int)))) (b ++ partOf (rd_T30 l (i : Int)) (qOf id day n (rd_T30 l (i : Int)))) ((i + 1 : Nat) : Int) := by
  generalize hk : k + 1 = k1
  rw [spec_StoreTake.l0, if_pos (by omega), if_pos (by omega), ← hk]
  generalize hxx : rd_T30 l (i : Int) = x at hx
  have h2 := hx.2.2
  have q := qOf_range id day n x hx n0
  have off : qOf id day n x = 0 → spec_StoreTake.j2 (k + 1) l id n day a b i false x.f0 x.f1 x.f2 = spec_StoreTake.l0 k l id (n - qOf id day n x) day (a ++ restOf x (qOf id day n x)) (b ++ partOf x (qOf id day n x)) ((i + 1 : Nat) : Int) := by
    intro z
    rw [spec_StoreTake.j2, if_neg (by simp), if_pos (by omega), if_pos (by omega), w64 ((i : Int) + 1) (by omega) (by omega), up, z, restOf, if_pos (by omega), partOf, if_neg (by omega), Int.sub_zero, Int.sub_zero, List.append_nil]
  by_cases c1 : x.f0 = id
  · by_cases c2 : x.f1 ≥ day
    · have qe : qOf id day n x = mn x.f2 n := by rw [qOf, if_pos ⟨c1, c2⟩]
      rw [if_pos c1, if_pos c2]
      by_cases c3 : n > 0
      · have me : mn n x.f2 = qOf id day n x := by
          rw [qe]
          rcases mn_cases x.f2 n with m | m <;> rcases mn_cases n x.f2 with m' | m' <;> omega
        have qp : qOf id day n x > 0 := by
          rw [qe]
          rcases mn_cases x.f2 n with m | m <;> omega
        rw [decide_eq_true c3, spec_StoreTake.j2, if_pos rfl, me, if_pos (by omega), w64 (x.f2 - qOf id day n x) (by omega) (by omega), w64 (n - qOf id day n x) (by omega) (by omega), w64 ((i : Int) + 1) (by omega) (by omega), up, partOf, if_pos qp, restOf]
        simp only [bsome]
        by_cases c4 : x.f2 - qOf id day n x > 0
        · rw [if_pos c4, if_pos c4, if_pos (by omega)]
        · rw [if_neg c4, if_neg c4, List.append_nil]
      · rw [decide_eq_false c3]
        exact off (by rw [qe]; rcases mn_cases x.f2 n with m | m <;> omega)
    · rw [if_pos c1, if_neg c2]
      exact off (by rw [qOf, if_neg (fun h => c2 h.2)])
  · rw [if_neg c1]
    exact off (by rw [qOf, if_neg (fun h => c1 h.1)])
theorem spec_StoreTake_l0 (l : List S30) (hv : storeV l = true) (id day : Int) : ∀ (d i : Nat), i + d = l.length → ∀ (n : Int) (a b : List S30), 0 ≤ n → n ≤ 999999 → a.length ≤ i → b.length ≤ i → ∀ k, 2 * d + 1 ≤ k →
    spec_StoreTake.l0 k l id n day a b i = some (a ++ (takeL id day n (l.drop i)).1, b ++ (takeL id day n (l.drop i)).2, true) := by
  obtain ⟨h1, h2, h3⟩ := (storeV_iff l).1 hv
  intro d
  induction d with
  | zero =>
    intro i hi n a b n0 n1 ha hb k hk
    obtain ⟨k, rfl, _⟩ := rounds1 (k := k) (B := 0) (by omega)
    rw [spec_StoreTake.l0, if_neg (by omega), List.drop_of_length_le (by omega), takeL, List.append_nil, List.append_nil]
  | succ d ih =>
    intro i hi n a b n0 n1 ha hb k hk
    obtain ⟨k, rfl⟩ : ∃ q, k = q + 1 + 1 := ⟨k - 2, by omega⟩
    have ok := h2 _ (List.getElem_mem (by omega : i < l.length))
    rw [← rd_lot l i (by omega)] at ok
    have q := qOf_range id day n _ ok n0
    have r := restOf_len (rd_T30 l (i : Int)) (qOf id day n (rd_T30 l (i : Int)))
    have p := partOf_len (rd_T30 l (i : Int)) (qOf id day n (rd_T30 l (i : Int)))
    rw [spec_take_step l id day n n0 n1 i (by omega) h1 ok a b ha hb k, ih (i + 1) (by omega) _ _ _ (by omega) (by omega) (by rw [List.length_append]; omega) (by rw [List.length_append]; omega) k (by omega), drop_lot l i (by omega), takeL, List.append_assoc, List.append_assoc]
theorem impl_take_step (l : List S30) (id day n : Int) (n0 : 0 ≤ n) (n1 : n ≤ 999999) (i : Nat) (hi : i < l.length) (hl : l.length ≤ 12) (hx : okL (rd_T30 l (i : Int))) (a b : List S30) (ha : a.length ≤ i) (hb : b.length ≤ i) (k : Nat) :
    impl_StoreTake.l0 (k + 1 + 1 + 1) id n day a b l (l.length : Int) i = impl_StoreTake.l0 k id (n - qOf id day n (rd_T30 l (i : Int))) day (a ++ restOf (rd_T30 l (i : Int)) (qOf id day n (rd_T30 l (i : Int)))) (b ++ partOf (rd_T30 l (i : Int)) (qOf id day n (rd_T30 l (i : Int)))) l (l.length : Int) ((i + 1 : Nat) : Int) := by
  generalize hk2 : k + 1 + 1 = k2
  rw [impl_StoreTake.l0, if_pos (by omega), if_pos (by omega), if_pos (by omega), ← hk2]
  generalize hxx : rd_T30 l (i : Int) = x at hx
  have h2 := hx.2.2
  have q := qOf_range id day n x hx n0
  have j3 : impl_StoreTake.j3 (k + 1) id n day a b (qOf id day n x) l (l.length : Int) i x.f0 x.f1 x.f2 = impl_StoreTake.l0 k id (n - qOf id day n x) day (a ++ restOf x (qOf id day n x)) (b ++ partOf x (qOf id day n x)) l (l.length : Int) ((i + 1 : Nat) : Int) := by
    generalize qOf id day n x = z at q ⊢
    rw [impl_StoreTake.j3, w64 (n - z) (by omega) (by omega), w64 (x.f2 - z) (by omega) (by omega), w64 ((i : Int) + 1) (by omega) (by omega), up, restOf, partOf]
    by_cases c : z > 0
    · rw [if_pos c, if_pos c, if_pos (by omega)]
      simp only [bsome]
      by_cases c4 : x.f2 > z
      · rw [if_pos c4, if_pos (by omega), if_pos (by omega)]
      · rw [if_neg c4, if_neg (by omega), List.append_nil]
    · rw [if_neg c, if_neg c, List.append_nil]
      by_cases c4 : x.f2 > z
      · rw [if_pos c4, if_pos (by omega), if_pos (by omega)]
      · rw [if_neg c4, if_neg (by omega), List.append_nil]
  by_cases c1 : x.f0 = id
  · rw [if_pos c1]
    generalize hk1 : k + 1 = k1 at j3 ⊢
    by_cases c2 : x.f1 ≥ day
    · rw [decide_eq_true c2, impl_StoreTake.j2, if_pos rfl, ← j3, qOf, if_pos ⟨c1, c2⟩]
    · rw [decide_eq_false c2, impl_StoreTake.j2, if_neg (by simp), ← j3, qOf, if_neg (fun h => c2 h.2)]
  · rw [if_neg c1]
    generalize hk1 : k + 1 = k1 at j3 ⊢
    rw [impl_StoreTake.j2, if_neg (by simp), ← j3, qOf, if_neg (fun h => c1 h.1)]
theorem impl_StoreTake_l0 (l : List S30) (hv : storeV l = true) (id day : Int) : ∀ (d i : Nat), i + d = l.length → ∀ (n : Int) (a b : List S30), 0 ≤ n → n ≤ 999999 → a.length ≤ i → b.length ≤ i → ∀ k, 3 * d + 1 ≤ k →
    impl_StoreTake.l0 k id n day a b l (l.length : Int) i = some (a ++ (takeL id day n (l.drop i)).1, b ++ (takeL id day n (l.drop i)).2, true) := by
  obtain ⟨h1, h2, h3⟩ := (storeV_iff l).1 hv
  intro d
  induction d with
  | zero =>
    intro i hi n a b n0 n1 ha hb k hk
    obtain ⟨k, rfl, _⟩ := rounds1 (k := k) (B := 0) (by omega)
    rw [impl_StoreTake.l0, if_neg (by omega), List.drop_of_length_le (by omega), takeL, List.append_nil, List.append_nil]
  | succ d ih =>
    intro i hi n a b n0 n1 ha hb k hk
    obtain ⟨k, rfl⟩ : ∃ q, k = q + 1 + 1 + 1 := ⟨k - 3, by omega⟩
    have ok := h2 _ (List.getElem_mem (by omega : i < l.length))
    rw [← rd_lot l i (by omega)] at ok
    have q := qOf_range id day n _ ok n0
    have r := restOf_len (rd_T30 l (i : Int)) (qOf id day n (rd_T30 l (i : Int)))
    have p := partOf_len (rd_T30 l (i : Int)) (qOf id day n (rd_T30 l (i : Int)))
    rw [impl_take_step l id day n n0 n1 i (by omega) h1 ok a b ha hb k, ih (i + 1) (by omega) _ _ _ (by omega) (by omega) (by rw [List.length_append]; omega) (by rw [List.length_append]; omega) k (by omega), drop_lot l i (by omega), takeL, List.append_assoc, List.append_assoc]
theorem spec_StoreTake_eq (l : List S30) (hl : l.length ≤ 1000000000) (id n day : Int) (k : Nat) (hk : 2 * l.length + 2 ≤ k) : spec_StoreTake.f k l id n day = some (takeV l id n day) := by
  unfold spec_StoreTake.f takeV
  rw [spec_StoreValid_eq l hl k (by omega)]
  simp only [bsome]
  obtain ⟨k, rfl, _⟩ := rounds1 (k := k) (B := 2 * l.length + 1) (by omega)
  by_cases hv : storeV l = true
  · rw [if_pos hv, l6In_eq]
    simp only [bsome]
    by_cases c : 0 ≤ n ∧ n ≤ 999999
    · rw [decide_eq_true c, if_pos rfl, spec_StoreHas_eq l hl id day _ (by omega)]
      simp only [bsome]
      rw [hasV, if_pos hv]
      by_cases g : n ≤ hasL id day l
      · have e := spec_StoreTake_l0 l hv id day l.length 0 (by omega) n [] [] c.1 c.2 (Nat.le_refl _) (Nat.le_refl _) k (by omega)
        rw [List.drop_zero, List.nil_append, List.nil_append] at e
        rw [decide_eq_false (by omega), spec_StoreTake.j0, if_neg (by simp), if_pos ⟨hv, c, g⟩]
        exact e
      · rw [decide_eq_true (by omega), spec_StoreTake.j0, if_pos rfl, if_neg (fun h => g h.2.2)]
    · rw [decide_eq_false c, if_neg (by simp), spec_StoreTake.j0, if_pos rfl, if_neg (fun h => c h.2.1)]
  · rw [if_neg hv, spec_StoreTake.j0, if_pos rfl, if_neg (fun h => hv h.1)]
theorem impl_StoreTake_eq (l : List S30) (hl : l.length ≤ 1000000000) (id n day : Int) (k : Nat) (hk : 3 * l.length + 5 ≤ k) : impl_StoreTake.f k l id n day = some (takeV l id n day) := by
  unfold impl_StoreTake.f takeV
  rw [within_eq]
  simp only [bsome]
  obtain ⟨k, rfl, _⟩ := rounds1 (k := k) (B := 3 * l.length + 4) (by omega)
  by_cases c : 0 ≤ n ∧ n ≤ 999999
  · rw [decide_eq_true c, if_pos rfl, impl_StoreHas_eq l hl id day _ (by omega)]
    simp only [bsome]
    by_cases hv : storeV l = true
    · rw [hasV, if_pos hv]
      by_cases g : n ≤ hasL id day l
      · have e := impl_StoreTake_l0 l hv id day l.length 0 (by omega) n [] [] c.1 c.2 (Nat.le_refl _) (Nat.le_refl _) k (by omega)
        rw [List.drop_zero, List.nil_append, List.nil_append] at e
        rw [decide_eq_false (by omega), impl_StoreTake.j0, if_neg (by simp), if_pos ⟨hv, c, g⟩]
        exact e
      · rw [decide_eq_true (by omega), impl_StoreTake.j0, if_pos rfl, if_neg (fun h => g h.2.2)]
    · rw [hasV, if_neg hv, decide_eq_true (by omega), impl_StoreTake.j0, if_pos rfl, if_neg (fun h => hv h.1)]
  · rw [decide_eq_false c, if_neg (by simp), impl_StoreTake.j0, if_pos rfl, if_neg (fun h => c h.2.1)]
/-- the sum of all lots -/
def sumL : List S30 → Int
  | [] => 0
  | x :: xs => x.f2 + sumL xs
theorem sumL_append (a b : List S30) : sumL (a ++ b) = sumL a + sumL b := by
  induction a with
  | nil => rw [List.nil_append, sumL, Int.zero_add]
  | cons x xs ih => rw [List.cons_append, sumL, sumL, ih, Int.add_assoc]
theorem sumL_range : ∀ l : List S30, (∀ x ∈ l, 0 ≤ x.f2 ∧ x.f2 ≤ 9999) → 0 ≤ sumL l ∧ sumL l ≤ 9999 * l.length := by
  intro l
  induction l with
  | nil => intro _; simp [sumL]
  | cons x xs ih =>
    intro h
    have a := ih fun y hy => h y (List.mem_cons_of_mem _ hy)
    have b := h x (List.mem_cons_self ..)
    rw [sumL, List.length_cons]
    omega
theorem laws_sumLots_l0 (l : List S30) (hl : l.length ≤ 1000) (h : ∀ x ∈ l, 0 ≤ x.f2 ∧ x.f2 ≤ 9999) : ∀ (d i : Nat), i + d = l.length → ∀ (acc : Int), 0 ≤ acc → acc ≤ 9999 * i → ∀ k, d + 1 ≤ k → laws_sumLots.l0 k l 0 acc i = some (acc + sumL (l.drop i)) := by
  intro d
  induction d with
  | zero =>
    intro i hi acc b0 b1 k hk
    obtain ⟨k, rfl, _⟩ := rounds1 hk
    rw [laws_sumLots.l0, if_neg (by omega), List.drop_of_length_le (by omega), sumL, Int.add_zero]
  | succ d ih =>
    intro i hi acc b0 b1 k hk
    obtain ⟨k, rfl, hk'⟩ := rounds1 hk
    have ok := h _ (List.getElem_mem (by omega : i < l.length))
    rw [← rd_lot l i (by omega)] at ok
    rw [laws_sumLots.l0, if_pos (by omega), if_pos rfl, if_pos (by omega), w64 (acc + _) (by omega) (by omega), w64 ((i : Int) + 1) (by omega) (by omega), up, drop_lot l i (by omega), sumL, ih (i + 1) (by omega) _ (by omega) (by omega) k hk', Int.add_assoc]
theorem laws_sumLots_eq (l : List S30) (hl : l.length ≤ 1000) (h : ∀ x ∈ l, 0 ≤ x.f2 ∧ x.f2 ≤ 9999) (k : Nat) (hk : l.length + 1 ≤ k) : laws_sumLots.f k l 0 = some (sumL l) := by
  unfold laws_sumLots.f
  have e := laws_sumLots_l0 l hl h l.length 0 (by omega) 0 (by omega) (by omega) k hk
  rw [List.drop_zero, Int.zero_add] at e
  exact e
/-! #### what is left, and what is taken -/
theorem restOf_mem {x : S30} {q : Int} (hx : okL x) (h0 : 0 ≤ q) (h1 : q ≤ x.f2) {y : S30} (hy : y ∈ restOf x q) : y.f0 = x.f0 ∧ y.f1 = x.f1 ∧ y.f2 = x.f2 - q ∧ q < x.f2 := by
  unfold restOf at hy
  split at hy
  · rw [List.mem_singleton.1 hy]
    exact ⟨rfl, rfl, rfl, by omega⟩
  · exact absurd hy (List.not_mem_nil)
theorem partOf_mem {x : S30} {q : Int} {y : S30} (hy : y ∈ partOf x q) : y.f0 = x.f0 ∧ y.f1 = x.f1 ∧ y.f2 = q ∧ 0 < q := by
  unfold partOf at hy
  split at hy
  · rw [List.mem_singleton.1 hy]
    exact ⟨rfl, rfl, rfl, by assumption⟩
  · exact absurd hy (List.not_mem_nil)
theorem takeL_rest (id day : Int) : ∀ (xs : List S30) (n : Int), 0 ≤ n → (∀ x ∈ xs, okL x) → ∀ y ∈ (takeL id day n xs).1, ∃ x ∈ xs, y.f0 = x.f0 ∧ y.f1 = x.f1 ∧ 1 ≤ y.f2 ∧ y.f2 ≤ x.f2 := by
  intro xs
  induction xs with
  | nil => intro n _ _ y hy; exact absurd hy (List.not_mem_nil)
  | cons x xs ih =>
    intro n n0 h y hy
    have hx := h x (List.mem_cons_self ..)
    have q := qOf_range id day n x hx n0
    rw [takeL] at hy
    rcases List.mem_append.1 hy with hy | hy
    · have a := restOf_mem hx q.1 q.2.1 hy
      exact ⟨x, List.mem_cons_self .., a.1, a.2.1, by omega, by omega⟩
    · obtain ⟨z, hz, r⟩ := ih _ (by omega) (fun z hz => h z (List.mem_cons_of_mem _ hz)) y hy
      exact ⟨z, List.mem_cons_of_mem _ hz, r⟩
theorem takeL_rest_ok (id day : Int) (xs : List S30) (n : Int) (n0 : 0 ≤ n) (h : ∀ x ∈ xs, okL x) : ∀ y ∈ (takeL id day n xs).1, okL y := by
  intro y hy
  obtain ⟨x, hx, a, b, c, d⟩ := takeL_rest id day xs n n0 h y hy
  have := h x hx
  unfold okL at *
  omega
theorem takeL_pair (id day : Int) : ∀ (xs : List S30) (n : Int), 0 ≤ n → (∀ x ∈ xs, okL x) → xs.Pairwise befL → (takeL id day n xs).1.Pairwise befL := by
  intro xs
  induction xs with
  | nil => intro n _ _ _; exact List.Pairwise.nil
  | cons x xs ih =>
    intro n n0 h hp
    have hx := h x (List.mem_cons_self ..)
    have q := qOf_range id day n x hx n0
    have ht : ∀ z ∈ xs, okL z := fun z hz => h z (List.mem_cons_of_mem _ hz)
    obtain ⟨p1, p2⟩ := List.pairwise_cons.1 hp
    rw [takeL]
    refine List.pairwise_append.2 ⟨?_, ih _ (by omega) ht p2, fun y hy z hz => ?_⟩
    · unfold restOf
      split
      · exact List.pairwise_singleton _ _
      · exact List.Pairwise.nil
    · have a := restOf_mem hx q.1 q.2.1 hy
      obtain ⟨w, hw, b1, b2, _⟩ := takeL_rest id day xs _ (by omega) ht z hz
      have b := p1 w hw
      unfold befL at *
      omega
theorem takeL_valid (l : List S30) (hv : storeV l = true) (id day n : Int) (n0 : 0 ≤ n) : storeV (takeL id day n l).1 = true := by
  obtain ⟨h1, h2, h3⟩ := (storeV_iff l).1 hv
  have a := (takeL_len id day l n).1
  exact (storeV_iff _).2 ⟨by omega, takeL_rest_ok id day l n n0 h2, takeL_pair id day l n n0 h2 h3⟩
theorem hasL_append (id day : Int) (a b : List S30) : hasL id day (a ++ b) = hasL id day a + hasL id day b := by
  induction a with
  | nil => rw [List.nil_append, hasL, Int.zero_add]
  | cons x xs ih => rw [List.cons_append, hasL, hasL, ih, Int.add_assoc]
theorem hasL_rest (id day : Int) (x : S30) (q : Int) (h0 : 0 ≤ q) (h1 : q ≤ x.f2) : hasL id day (restOf x q) = if x.f0 = id ∧ x.f1 ≥ day then x.f2 - q else 0 := by
  unfold restOf
  by_cases c : x.f2 - q > 0
  · rw [if_pos c, hasL, hasL, Int.add_zero]
  · rw [if_neg c, hasL]
    split <;> omega
theorem sumL_rest (x : S30) (q : Int) (h0 : 0 ≤ q) (h1 : q ≤ x.f2) : sumL (restOf x q) = x.f2 - q := by
  unfold restOf
  by_cases c : x.f2 - q > 0
  · rw [if_pos c, sumL, sumL, Int.add_zero]
  · rw [if_neg c, sumL]
    omega
theorem sumL_part (x : S30) (q : Int) (h0 : 0 ≤ q) : sumL (partOf x q) = q := by
  unfold partOf
  by_cases c : q > 0
  · rw [if_pos c, sumL, sumL, Int.add_zero]
  · rw [if_neg c, sumL]
    omega
theorem takeL_sums (id day : Int) : ∀ (xs : List S30) (n : Int), 0 ≤ n → (∀ x ∈ xs, okL x) → n ≤ hasL id day xs → hasL id day (takeL id day n xs).1 = hasL id day xs - n ∧ sumL (takeL id day n xs).2 = n ∧ sumL (takeL id day n xs).1 + n = sumL xs := by
  intro xs
  induction xs with
  | nil =>
    intro n n0 _ h
    rw [hasL] at h
    rw [takeL, hasL, sumL]
    omega
  | cons x xs ih =>
    intro n n0 h hn
    have hx := h x (List.mem_cons_self ..)
    have ht : ∀ z ∈ xs, okL z := fun z hz => h z (List.mem_cons_of_mem _ hz)
    have q := qOf_range id day n x hx n0
    have g := (hasL_range id day xs ht).1
    have hle : n - qOf id day n x ≤ hasL id day xs := by
      rw [hasL] at hn
      unfold qOf at *
      split at hn
      · rename_i c
        rw [if_pos c] at *
        rcases mn_cases x.f2 n with m | m <;> omega
      · rename_i c
        rw [if_neg c] at *
        omega
    have i := ih _ (by omega) ht hle
    rw [takeL, hasL_append, sumL_append, sumL_append, hasL_rest id day x _ q.1 q.2.1, sumL_rest x _ q.1 q.2.1, sumL_part x _ q.1, i.1, i.2.1, hasL, sumL]
    have i3 := i.2.2
    have zero : ¬ (x.f0 = id ∧ x.f1 ≥ day) → qOf id day n x = 0 := fun c => by rw [qOf, if_neg c]
    refine ⟨?_, by omega, by omega⟩
    by_cases c : x.f0 = id ∧ x.f1 ≥ day
    · rw [if_pos c, if_pos c]
      omega
    · rw [if_neg c, if_neg c, zero c]
      omega
theorem takeL_none (id day : Int) : ∀ xs : List S30, (∀ x ∈ xs, okL x) → (takeL id day 0 xs).2 = [] := by
  intro xs
  induction xs with
  | nil => intro _; rfl
  | cons x xs ih =>
    intro h
    have hx := h x (List.mem_cons_self ..)
    have q := qOf_range id day 0 x hx (by omega)
    have z : qOf id day 0 x = 0 := by omega
    rw [takeL, z, Int.sub_zero, ih fun z hz => h z (List.mem_cons_of_mem _ hz), partOf, if_neg (by omega)]
    rfl
theorem takeL_part (id day : Int) : ∀ (xs : List S30) (n : Int), 0 ≤ n → (∀ x ∈ xs, okL x) → ∀ y ∈ (takeL id day n xs).2, y.f0 = id ∧ y.f1 ≥ day ∧ (1 ≤ y.f2 ∧ y.f2 ≤ 9999) ∧ ∃ x ∈ xs, y.f0 = x.f0 ∧ y.f1 = x.f1 := by
  intro xs
  induction xs with
  | nil => intro n _ _ y hy; exact absurd hy (List.not_mem_nil)
  | cons x xs ih =>
    intro n n0 h y hy
    have hx := h x (List.mem_cons_self ..)
    have q := qOf_range id day n x hx n0
    rw [takeL] at hy
    rcases List.mem_append.1 hy with hy | hy
    · have a := partOf_mem hy
      have c : x.f0 = id ∧ x.f1 ≥ day := by
        by_cases c : x.f0 = id ∧ x.f1 ≥ day
        · exact c
        · have : qOf id day n x = 0 := by rw [qOf, if_neg c]
          omega
      have := hx.2.2
      exact ⟨by omega, by omega, by omega, x, List.mem_cons_self .., a.1, a.2.1⟩
    · obtain ⟨b1, b2, b3, z, hz, r⟩ := ih _ (by omega) (fun z hz => h z (List.mem_cons_of_mem _ hz)) y hy
      exact ⟨b1, b2, b3, z, List.mem_cons_of_mem _ hz, r⟩
/-- what is taken is no later than what is left of the food -/
theorem takeL_first (id day : Int) : ∀ (xs : List S30) (n : Int), 0 ≤ n → (∀ x ∈ xs, okL x) → xs.Pairwise befL → ∀ y ∈ (takeL id day n xs).1, y.f0 = id → y.f1 ≥ day → ∀ z ∈ (takeL id day n xs).2, z.f1 ≤ y.f1 := by
  intro xs
  induction xs with
  | nil => intro n _ _ _ y hy; exact absurd hy (List.not_mem_nil)
  | cons x xs ih =>
    intro n n0 h hp y hy y0 y1 z hz
    have hx := h x (List.mem_cons_self ..)
    have ht : ∀ z ∈ xs, okL z := fun z hz => h z (List.mem_cons_of_mem _ hz)
    obtain ⟨p1, p2⟩ := List.pairwise_cons.1 hp
    have q := qOf_range id day n x hx n0
    rw [takeL] at hy hz
    rcases List.mem_append.1 hy with hy | hy
    · have a := restOf_mem hx q.1 q.2.1 hy
      have qn : n - qOf id day n x = 0 := by
        have : qOf id day n x = mn x.f2 n := by rw [qOf, if_pos ⟨by omega, by omega⟩]
        rcases mn_cases x.f2 n with m | m <;> omega
      rcases List.mem_append.1 hz with hz | hz
      · have b := partOf_mem hz
        omega
      · rw [qn, takeL_none id day xs ht] at hz
        exact absurd hz (List.not_mem_nil)
    · rcases List.mem_append.1 hz with hz | hz
      · have b := partOf_mem hz
        obtain ⟨w, hw, c1, c2, _⟩ := takeL_rest id day xs _ (by omega) ht y hy
        have p := p1 w hw
        have xid : x.f0 = id := by
          by_cases c : x.f0 = id ∧ x.f1 ≥ day
          · exact c.1
          · have : qOf id day n x = 0 := by rw [qOf, if_neg c]
            omega
        unfold befL at p
        omega
      · exact ih _ (by omega) ht p2 y hy y0 y1 z hz
/-! #### stores that are drawn -/
theorem l21Put_l0 (l : List S30) (hl : l.length ≤ 1000) (a b c : Int) : ∀ (d i : Nat), i + d = l.length → ∀ (x : List S30) (f : Bool), x.length ≤ 2 * i → ∃ r : List S30, r.length ≤ 2 * l.length + 1 ∧ ∀ k, 2 * d + 1 ≤ k → spec_l21Put.l0 k l x f i a b c = some r := by
  intro d
  induction d with
  | zero =>
    intro i hi x f hx
    cases f with
    | true =>
      refine ⟨x, by omega, fun k hk => ?_⟩
      obtain ⟨k, rfl, _⟩ := rounds1 (k := k) (B := 0) (by omega)
      rw [spec_l21Put.l0, if_neg (by omega), if_pos rfl]
    | false =>
      refine ⟨x ++ [⟨a, b, c⟩], by rw [List.length_append, List.length_singleton]; omega, fun k hk => ?_⟩
      obtain ⟨k, rfl, _⟩ := rounds1 (k := k) (B := 0) (by omega)
      rw [spec_l21Put.l0, if_neg (by omega), if_neg (by simp), if_pos (by omega)]
  | succ d ih =>
    intro i hi x f hx
    have j1 : ∀ (g : Bool) (p q s : Int), ∃ r : List S30, r.length ≤ 2 * l.length + 1 ∧ ∀ k, 2 * d + 2 ≤ k → spec_l21Put.j1 k l x f i g a b c p q s = some r := by
      intro g p q s
      have one : ∀ (y : S30) (f' : Bool), ∃ r : List S30, r.length ≤ 2 * l.length + 1 ∧ ∀ k, 2 * d + 1 ≤ k → spec_l21Put.l0 k l (x ++ [y]) f' (wrap64 ((i : Int) + 1)) a b c = some r := by
        intro y f'
        rw [w64 _ (by omega) (by omega), show ((i : Int) + 1) = ((i + 1 : Nat) : Int) by omega]
        exact ih (i + 1) (by omega) _ f' (by rw [List.length_append, List.length_singleton]; omega)
      have two : ∀ (y z : S30) (f' : Bool), ∃ r : List S30, r.length ≤ 2 * l.length + 1 ∧ ∀ k, 2 * d + 1 ≤ k → spec_l21Put.l0 k l (x ++ [y] ++ [z]) f' (wrap64 ((i : Int) + 1)) a b c = some r := by
        intro y z f'
        rw [w64 _ (by omega) (by omega), show ((i : Int) + 1) = ((i + 1 : Nat) : Int) by omega]
        exact ih (i + 1) (by omega) _ f' (by rw [List.length_append, List.length_append, List.length_singleton, List.length_singleton]; omega)
      by_cases hg : g = true
      · obtain ⟨r, hr, e⟩ := one ⟨p, q, wrap64 (s + c)⟩ true
        refine ⟨r, hr, fun k hk => ?_⟩
        obtain ⟨k, rfl, hk'⟩ := rounds1 (k := k) (B := 2 * d + 1) (by omega)
        rw [spec_l21Put.j1, if_pos hg, if_pos (by omega), e k hk']
      · by_cases hf : f = true
        · obtain ⟨r, hr, e⟩ := one ⟨p, q, s⟩ f
          refine ⟨r, hr, fun k hk => ?_⟩
          obtain ⟨k, rfl, hk'⟩ := rounds1 (k := k) (B := 2 * d + 1) (by omega)
          rw [spec_l21Put.j1, if_neg hg, if_pos hf, if_pos (by omega), e k hk']
        · have be := l21Before_eq (⟨a, b, c⟩ : S30) ⟨p, q, s⟩
          dsimp only at be
          by_cases hb : befL (⟨a, b, c⟩ : S30) ⟨p, q, s⟩
          · obtain ⟨r, hr, e⟩ := two ⟨a, b, c⟩ ⟨p, q, s⟩ true
            refine ⟨r, hr, fun k hk => ?_⟩
            obtain ⟨k, rfl, hk'⟩ := rounds1 (k := k) (B := 2 * d + 1) (by omega)
            rw [spec_l21Put.j1, if_neg hg, if_neg hf, be, decide_eq_true hb]
            simp only [bsome, if_true]
            rw [if_pos (by omega), if_pos (by rw [List.length_append, List.length_singleton]; omega), e k hk']
          · obtain ⟨r, hr, e⟩ := one ⟨p, q, s⟩ f
            refine ⟨r, hr, fun k hk => ?_⟩
            obtain ⟨k, rfl, hk'⟩ := rounds1 (k := k) (B := 2 * d + 1) (by omega)
            rw [spec_l21Put.j1, if_neg hg, if_neg hf, be, decide_eq_false hb]
            simp only [bsome, Bool.false_eq_true, if_false]
            rw [if_pos (by omega), e k hk']
    by_cases hf : f = true
    · obtain ⟨r, hr, e⟩ := j1 false (rd_T30 l (i : Int)).f0 (rd_T30 l (i : Int)).f1 (rd_T30 l (i : Int)).f2
      refine ⟨r, hr, fun k hk => ?_⟩
      obtain ⟨k, rfl, hk'⟩ := rounds1 (k := k) (B := 2 * d + 2) (by omega)
      rw [spec_l21Put.l0, if_pos (by omega), if_pos (by omega), if_pos hf, e k hk']
    · by_cases h0 : (rd_T30 l (i : Int)).f0 = a
      · obtain ⟨r, hr, e⟩ := j1 ((rd_T30 l (i : Int)).f1 == b) (rd_T30 l (i : Int)).f0 (rd_T30 l (i : Int)).f1 (rd_T30 l (i : Int)).f2
        refine ⟨r, hr, fun k hk => ?_⟩
        obtain ⟨k, rfl, hk'⟩ := rounds1 (k := k) (B := 2 * d + 2) (by omega)
        rw [spec_l21Put.l0, if_pos (by omega), if_pos (by omega), if_neg hf, if_pos h0, e k hk']
      · obtain ⟨r, hr, e⟩ := j1 false (rd_T30 l (i : Int)).f0 (rd_T30 l (i : Int)).f1 (rd_T30 l (i : Int)).f2
        refine ⟨r, hr, fun k hk => ?_⟩
        obtain ⟨k, rfl, hk'⟩ := rounds1 (k := k) (B := 2 * d + 2) (by omega)
        rw [spec_l21Put.l0, if_pos (by omega), if_pos (by omega), if_neg hf, if_neg h0, e k hk']
theorem l21Put_ok (l : List S30) (hl : l.length ≤ 1000) (a b c : Int) : ∃ r : List S30, r.length ≤ 2 * l.length + 1 ∧ ∀ k, 2 * l.length + 1 ≤ k → spec_l21Put.f k l a b c = some r := by
  obtain ⟨r, hr, e⟩ := l21Put_l0 l hl a b c l.length 0 (by omega) [] false (by simp)
  exact ⟨r, hr, fun k hk => by unfold spec_l21Put.f; exact e k hk⟩
theorem spec_StorePut_ok (l : List S30) (hl : l.length ≤ 12) (a b c : Int) : ∃ (r : List S30) (g : Bool), r.length ≤ 12 ∧ ∀ k, 60 ≤ k → spec_StorePut.f k l a b c = some (r, g) := by
  obtain ⟨r, hr, e⟩ := l21Put_ok l (by omega) a b c
  have ee : ∀ k, 59 ≤ k → spec_StorePut.j0 (k + 1) l false a b c = some (if storeV r = true then (r, true) else ([], false)) := by
    intro k hk
    rw [spec_StorePut.j0, if_neg (by simp), e k (by omega)]
    simp only [bsome]
    rw [spec_StoreValid_eq r (by omega) k (by omega)]
    simp only [bsome]
    split <;> rfl
  have en : ∀ k, spec_StorePut.j0 (k + 1) l true a b c = some ([], false) := fun k => by rw [spec_StorePut.j0, if_pos rfl]
  have lot := l21Lot_eq (⟨a, b, c⟩ : S30)
  dsimp only at lot
  by_cases hv : storeV l = true
  · by_cases ok : okL (⟨a, b, c⟩ : S30)
    · refine ⟨if storeV r = true then r else [], storeV r, ?_, fun k hk => ?_⟩
      · split
        · rename_i h
          exact ((storeV_iff r).1 h).1
        · exact Nat.zero_le _
      · obtain ⟨k, rfl, hk'⟩ := rounds1 (k := k) (B := 59) (by omega)
        unfold spec_StorePut.f
        rw [spec_StoreValid_eq l (by omega) _ (by omega)]
        simp only [bsome]
        rw [if_pos hv, lot, decide_eq_true ok]
        simp only [bsome]
        rw [Bool.not_true, ee k hk']
        by_cases h : storeV r = true
        · rw [if_pos h, if_pos h, h]
        · rw [if_neg h, if_neg h, Bool.eq_false_iff.2 h]
    · refine ⟨[], false, Nat.zero_le _, fun k hk => ?_⟩
      obtain ⟨k, rfl, hk'⟩ := rounds1 (k := k) (B := 59) (by omega)
      unfold spec_StorePut.f
      rw [spec_StoreValid_eq l (by omega) _ (by omega)]
      simp only [bsome]
      rw [if_pos hv, lot, decide_eq_false ok]
      simp only [bsome]
      rw [Bool.not_false, en k]
  · refine ⟨[], false, Nat.zero_le _, fun k hk => ?_⟩
    obtain ⟨k, rfl, hk'⟩ := rounds1 (k := k) (B := 59) (by omega)
    unfold spec_StorePut.f
    rw [spec_StoreValid_eq l (by omega) _ (by omega)]
    simp only [bsome]
    rw [if_neg hv, en k]
theorem l92Lot_ok {b : List Int} (hb : Bytes b) (p : Int) (h0 : 0 ≤ p) (h1 : p ≤ 900000) : ∃ (x y z p' : Int), 0 ≤ p' ∧ p' ≤ p + 5 ∧ ∀ k, 1 ≤ k → spec_l92Lot.f k b p = some (x, y, z, p') := by
  obtain ⟨v1, a1, _, _, e1⟩ := pick_ok hb p 3 h0 (by omega)
  obtain ⟨v2, a2, _, _, e2⟩ := pick_ok hb (p + 1) 6 (by omega) (by omega)
  obtain ⟨v3, a3, _, _, e3⟩ := pick_ok hb (p + 1 + 1) 40 (by omega) (by omega)
  obtain ⟨v4, a4, _, _, e4⟩ := pick_ok hb (p + 1 + 1 + 1) 30 (by omega) (by omega)
  obtain ⟨v5, a5, _, _, e5⟩ := pick_ok hb (p + 1 + 1 + 1 + 1) 2 (by omega) (by omega)
  obtain ⟨v6, a6, b6, _, e6⟩ := pick_ok hb (p + 1 + 1 + 1 + 1) 3 (by omega) (by omega)
  have st : ∀ k, 1 ≤ k → spec_l92Lot.f k b p = (if v4 = 0 then some (wrap64 (v5 * 21), v2, wrap64 (1 + v3), p + 1 + 1 + 1 + 1 + 1) else if v4 = 1 then some (wrap64 (1 + v1), rd [(-1), 99, 100] v6, wrap64 (1 + v3), p + 1 + 1 + 1 + 1 + 1) else if v4 = 2 then some (wrap64 (1 + v1), v2, rd [0, 9999, 10000] v6, p + 1 + 1 + 1 + 1 + 1) else some (wrap64 (1 + v1), v2, wrap64 (1 + v3), p + 1 + 1 + 1 + 1)) := by
    intro k hk
    unfold spec_l92Lot.f
    rw [e1 k hk]
    simp only [bsome]
    rw [e2 k hk]
    simp only [bsome]
    rw [e3 k hk]
    simp only [bsome]
    rw [e4 k hk]
    simp only [bsome]
    rw [e5 k hk, e6 k hk]
    simp only [bsome]
    have l1 : v6 < (([(-1), 99, 100] : List Int).length : Int) := b6 (by omega)
    have l2 : v6 < (([0, 9999, 10000] : List Int).length : Int) := b6 (by omega)
    rw [if_pos a6, if_pos l1, if_pos a6, if_pos l2]
  by_cases c0 : v4 = 0
  · exact ⟨_, _, _, p + 1 + 1 + 1 + 1 + 1, by omega, by omega, fun k hk => by rw [st k hk, if_pos c0]⟩
  · by_cases c1 : v4 = 1
    · exact ⟨_, _, _, p + 1 + 1 + 1 + 1 + 1, by omega, by omega, fun k hk => by rw [st k hk, if_neg c0, if_pos c1]⟩
    · by_cases c2 : v4 = 2
      · exact ⟨_, _, _, p + 1 + 1 + 1 + 1 + 1, by omega, by omega, fun k hk => by rw [st k hk, if_neg c0, if_neg c1, if_pos c2]⟩
      · exact ⟨_, _, _, p + 1 + 1 + 1 + 1, by omega, by omega, fun k hk => by rw [st k hk, if_neg c0, if_neg c1, if_neg c2]⟩
theorem l92Store_l0 {b : List Int} (hb : Bytes b) (n : Int) (hn : 0 ≤ n ∧ n ≤ 60) : ∀ (d : Nat) (i : Int), 0 ≤ i → i + d = n → ∀ (l : List S30) (p : Int), l.length ≤ 12 → 0 ≤ p → p ≤ 100 + 5 * i →
    ∃ (l' : List S30) (p' : Int), l'.length ≤ 12 ∧ 0 ≤ p' ∧ p' ≤ 500 ∧ ∀ k, d + 61 ≤ k → spec_l92Store.l0 k l n i b p = some (l', p') := by
  intro d
  induction d with
  | zero =>
    intro i h0 hi l p hl p0 p1
    by_cases c : (l.length : Int) > 0
    · obtain ⟨v1, a1, _, _, e1⟩ := pick_ok hb p 30 p0 (by omega)
      by_cases c1 : v1 = 0
      · obtain ⟨v2, a2, b2, _, e2⟩ := pick_ok hb (p + 1) (l.length : Int) (by omega) (by omega)
        refine ⟨l.set (v2 : Int).toNat ⟨(rd_T30 l v2).f0, (rd_T30 l v2).f1, 0⟩, p + 1 + 1, by rw [List.length_set]; exact hl, by omega, by omega, fun k hk => ?_⟩
        obtain ⟨k, rfl, _⟩ := rounds1 (k := k) (B := 60) (by omega)
        rw [spec_l92Store.l0, if_neg (by omega), if_pos c, e1 k (by omega)]
        simp only [bsome]
        rw [if_pos c1, e2 k (by omega)]
        simp only [bsome]
        rw [if_pos a2, if_pos (b2 (by omega))]
      · refine ⟨l, p + 1, hl, by omega, by omega, fun k hk => ?_⟩
        obtain ⟨k, rfl, _⟩ := rounds1 (k := k) (B := 60) (by omega)
        rw [spec_l92Store.l0, if_neg (by omega), if_pos c, e1 k (by omega)]
        simp only [bsome]
        rw [if_neg c1]
    · refine ⟨l, p, hl, by omega, by omega, fun k hk => ?_⟩
      obtain ⟨k, rfl, _⟩ := rounds1 (k := k) (B := 60) (by omega)
      rw [spec_l92Store.l0, if_neg (by omega), if_neg c]
  | succ d ih =>
    intro i h0 hi l p hl p0 p1
    obtain ⟨x, y, z, p', q0, q1, e1⟩ := l92Lot_ok hb p p0 (by omega)
    obtain ⟨r, g, hr, e2⟩ := spec_StorePut_ok l hl x y z
    by_cases hg : g = true
    · obtain ⟨l', p2, u1, u2, u3, e3⟩ := ih (i + 1) (by omega) (by omega) r p' hr q0 (by omega)
      refine ⟨l', p2, u1, u2, u3, fun k hk => ?_⟩
      obtain ⟨k, rfl, hk'⟩ := rounds1 (k := k) (B := d + 61) (by omega)
      rw [spec_l92Store.l0, if_pos (by omega), e1 k (by omega)]
      simp only [bsome]
      rw [e2 k (by omega)]
      simp only [bsome]
      rw [if_pos hg, w64 (i + 1) (by omega) (by omega), e3 k hk']
    · obtain ⟨l', p2, u1, u2, u3, e3⟩ := ih (i + 1) (by omega) (by omega) l p' hl q0 (by omega)
      refine ⟨l', p2, u1, u2, u3, fun k hk => ?_⟩
      obtain ⟨k, rfl, hk'⟩ := rounds1 (k := k) (B := d + 61) (by omega)
      rw [spec_l92Store.l0, if_pos (by omega), e1 k (by omega)]
      simp only [bsome]
      rw [e2 k (by omega)]
      simp only [bsome]
      rw [if_neg hg, w64 (i + 1) (by omega) (by omega), e3 k hk']
theorem l92Store_ok {b : List Int} (hb : Bytes b) (p : Int) (h0 : 0 ≤ p) (h1 : p ≤ 50) : ∃ (l' : List S30) (p' : Int), l'.length ≤ 12 ∧ 0 ≤ p' ∧ p' ≤ 500 ∧ ∀ k, 130 ≤ k → spec_l92Store.f k b p = some (l', p') := by
  obtain ⟨v1, a1, b1, _, e1⟩ := pick_ok hb p 14 h0 (by omega)
  obtain ⟨v2, a2, _, _, e2⟩ := pick_ok hb (p + 1) 8 (by omega) (by omega)
  have m1 := b1 (by omega)
  by_cases c : v2 = 0
  · obtain ⟨l', p2, u1, u2, u3, e3⟩ := l92Store_l0 hb 60 (by omega) 60 0 (by omega) (by omega) [] (p + 1 + 1) (Nat.zero_le _) (by omega) (by omega)
    refine ⟨l', p2, u1, u2, u3, fun k hk => ?_⟩
    obtain ⟨k, rfl, hk'⟩ := rounds1 (k := k) (B := 129) (by omega)
    unfold spec_l92Store.f
    rw [bsome, e1 _ (by omega)]
    simp only [bsome]
    rw [e2 _ (by omega)]
    simp only [bsome]
    rw [if_pos c, spec_l92Store.j0]
    exact e3 k (by omega)
  · obtain ⟨l', p2, u1, u2, u3, e3⟩ := l92Store_l0 hb v1 (by omega) v1.toNat 0 (by omega) (by omega) [] (p + 1 + 1) (Nat.zero_le _) (by omega) (by omega)
    refine ⟨l', p2, u1, u2, u3, fun k hk => ?_⟩
    obtain ⟨k, rfl, hk'⟩ := rounds1 (k := k) (B := 129) (by omega)
    unfold spec_l92Store.f
    rw [bsome, e1 _ (by omega)]
    simp only [bsome]
    rw [e2 _ (by omega)]
    simp only [bsome]
    rw [if_neg c, spec_l92Store.j0]
    exact e3 k (by omega)
theorem drawStoreTake_ok (l0 : List Int) (ok : CodeOk l0) : ∃ (l : List S30) (id n day : Int), l.length ≤ 12 ∧ (1 ≤ id ∧ id ≤ 3) ∧ ∀ k, 130 ≤ k → spec_DrawStoreTake.f k l0 = some (l, id, n, day) := by
  obtain ⟨b, hb, e⟩ := open_ok l0 ok
  obtain ⟨l, p, hl, h0, h1, e1⟩ := l92Store_ok hb 0 (by omega) (by omega)
  obtain ⟨v1, a1, b1, _, e2⟩ := pick_ok hb p 3 h0 (by omega)
  obtain ⟨v2, _, _, _, e3⟩ := pick_ok hb (p + 1) 4 (by omega) (by omega)
  have i1 := b1 (by omega)
  obtain ⟨v3, _, _, _, e4⟩ := pick_ok hb (p + 1 + 1) (wrap64 ((mx (hasV l (1 + v1) v2) 0) + 1)) (by omega) (by omega)
  obtain ⟨v4, _, _, _, e5⟩ := pick_ok hb (p + 1 + 1 + 1) 12 (by omega) (by omega)
  obtain ⟨v5, a5, b5, _, e6⟩ := pick_ok hb (p + 1 + 1 + 1 + 1) 3 (by omega) (by omega)
  by_cases c : v4 = 0
  · refine ⟨l, 1 + v1, rd [(-1), mx (hasV l (1 + v1) v2) 0, wrap64 ((mx (hasV l (1 + v1) v2) 0) + 1)] v5, v2, hl, by omega, fun k hk => ?_⟩
    unfold spec_DrawStoreTake.f
    rw [e]
    simp only [bsome]
    rw [e1 k hk]
    simp only [bsome]
    rw [e2 k (by omega)]
    simp only [bsome]
    rw [e3 k (by omega)]
    simp only [bsome]
    rw [w64 (1 + v1) (by omega) (by omega), spec_StoreHas_eq l (by omega) (1 + v1) v2 k (by omega)]
    simp only [bsome]
    rw [e4 k (by omega)]
    simp only [bsome]
    rw [e5 k (by omega)]
    simp only [bsome]
    rw [if_pos c, e6 k (by omega)]
    simp only [bsome]
    rw [if_pos a5, if_pos (show v5 < (([(-1), mx (hasV l (1 + v1) v2) 0, wrap64 ((mx (hasV l (1 + v1) v2) 0) + 1)] : List Int).length : Int) from b5 (by omega))]
  · refine ⟨l, 1 + v1, v3, v2, hl, by omega, fun k hk => ?_⟩
    unfold spec_DrawStoreTake.f
    rw [e]
    simp only [bsome]
    rw [e1 k hk]
    simp only [bsome]
    rw [e2 k (by omega)]
    simp only [bsome]
    rw [e3 k (by omega)]
    simp only [bsome]
    rw [w64 (1 + v1) (by omega) (by omega), spec_StoreHas_eq l (by omega) (1 + v1) v2 k (by omega)]
    simp only [bsome]
    rw [e4 k (by omega)]
    simp only [bsome]
    rw [e5 k (by omega)]
    simp only [bsome]
    rw [if_neg c]
theorem laws_sameLots_l0 (l : List S30) (hl : l.length ≤ 1000000000) : ∀ (d : Nat) (i : Int), 0 ≤ i → i + d = l.length → ∀ k, d + 1 ≤ k → laws_sameLots.l0 k l l i = some true := by
  intro d
  induction d with
  | zero =>
    intro i h0 hi k hk
    obtain ⟨k, rfl, _⟩ := rounds1 hk
    rw [laws_sameLots.l0, if_neg (by omega)]
  | succ d ih =>
    intro i h0 hi k hk
    obtain ⟨k, rfl, hk'⟩ := rounds1 hk
    rw [laws_sameLots.l0, if_pos (by omega), if_pos h0, if_pos (by omega), if_neg (by simp), w64 _ (by omega) (by omega), ih (i + 1) (by omega) (by omega) k hk']
theorem laws_sameLots_refl (l : List S30) (hl : l.length ≤ 1000000000) (k : Nat) (hk : l.length + 1 ≤ k) : laws_sameLots.f k l l = some true := by
  unfold laws_sameLots.f
  rw [if_pos rfl]
  exact laws_sameLots_l0 l hl l.length 0 (by omega) (by omega) k hk
/-! #### a lot is put into a store -/
def sameDay (y x : S30) : Prop := y.f0 = x.f0 ∧ y.f1 = x.f1
instance (y x : S30) : Decidable (sameDay y x) := by unfold sameDay; infer_instance
def putL (x : S30) : List S30 → List S30
  | [] => [x]
  | y :: r => if sameDay y x then ⟨y.f0, y.f1, wrap64 (y.f2 + x.f2)⟩ :: r else if befL x y then x :: y :: r else y :: putL x r
theorem putL_len (x : S30) : ∀ l : List S30, (putL x l).length ≤ l.length + 1
  | [] => Nat.le_refl _
  | y :: r => by
    have := putL_len x r
    rw [putL]
    split
    · simp
    · split
      · simp
      · simp only [List.length_cons]
        omega
def putV (l : List S30) (x : S30) : List S30 × Bool := if storeV l = true ∧ okL x ∧ storeV (putL x l) = true then (putL x l, true) else ([], false)
theorem putV_len (l : List S30) (x : S30) : (putV l x).1.length ≤ 12 := by
  unfold putV
  split
  · rename_i h
    exact ((storeV_iff _).1 h.2.2).1
  · exact Nat.zero_le _
theorem spec_l21Put_l0 (l : List S30) (hl : l.length ≤ 1048576) (x : S30) : ∀ (d i : Nat), i + d = l.length → ∀ (acc : List S30) (f : Bool), acc.length ≤ 2 * i → ∀ k, 2 * d + 1 ≤ k →
    spec_l21Put.l0 k l acc f i x.f0 x.f1 x.f2 = some (acc ++ (if f = true then l.drop i else putL x (l.drop i))) := by
  intro d
  induction d with
  | zero =>
    intro i hi acc f hx k hk
    obtain ⟨k, rfl, _⟩ := rounds1 (k := k) (B := 0) (by omega)
    rw [List.drop_eq_nil_of_le (by omega), spec_l21Put.l0, if_neg (by omega)]
    cases f with
    | true => rw [if_pos rfl, if_pos rfl, List.append_nil]
    | false =>
      rw [if_neg (by simp), if_pos (by omega), if_neg (by simp)]
      rfl
  | succ d ih =>
    intro i hi acc f hx k hk
    obtain ⟨k, rfl⟩ : ∃ q, k = q + 1 + 1 := ⟨k - 2, by omega⟩
    have di := drop_lot l i (by omega)
    generalize hy : rd_T30 l (i : Int) = y at di
    have one : ∀ (z : S30) (f' : Bool), spec_l21Put.l0 k l (acc ++ [z]) f' (wrap64 ((i : Int) + 1)) x.f0 x.f1 x.f2 = some (acc ++ [z] ++ (if f' = true then l.drop (i + 1) else putL x (l.drop (i + 1)))) := by
      intro z f'
      rw [w64 _ (by omega) (by omega), up]
      exact ih (i + 1) (by omega) _ f' (by rw [List.length_append, List.length_singleton]; omega) k (by omega)
    have two : ∀ (z z' : S30) (f' : Bool), spec_l21Put.l0 k l (acc ++ [z] ++ [z']) f' (wrap64 ((i : Int) + 1)) x.f0 x.f1 x.f2 = some (acc ++ [z] ++ [z'] ++ (if f' = true then l.drop (i + 1) else putL x (l.drop (i + 1)))) := by
      intro z z' f'
      rw [w64 _ (by omega) (by omega), up]
      exact ih (i + 1) (by omega) _ f' (by rw [List.length_append, List.length_append, List.length_singleton, List.length_singleton]; omega) k (by omega)
    have be := l21Before_eq x y
    have j1 : ∀ g : Bool, (f = true → g = false) → (f = false → (g = true ↔ sameDay y x)) → spec_l21Put.j1 (k + 1) l acc f i g x.f0 x.f1 x.f2 y.f0 y.f1 y.f2 = some (acc ++ (if f = true then l.drop i else putL x (l.drop i))) := by
      intro g hf hg
      rw [spec_l21Put.j1, di, putL]
      cases f with
      | true =>
        rw [hf rfl, if_neg (by simp), if_pos rfl, if_pos (by omega), one, if_pos rfl, if_pos rfl, List.append_assoc]
        rfl
      | false =>
        have hg' := hg rfl
        by_cases c : sameDay y x
        · rw [hg'.2 c, if_pos rfl, if_pos (by omega), one, if_pos rfl, if_neg (by simp), if_pos c, List.append_assoc]
          rfl
        · have g0 : g = false := Bool.eq_false_iff.2 fun h => c (hg'.1 h)
          rw [g0, if_neg (by simp), if_neg (by simp), be]
          simp only [bsome]
          by_cases b : befL x y
          · rw [decide_eq_true b, if_pos rfl, if_pos (by omega), if_pos (by rw [List.length_append, List.length_singleton]; omega), two, if_pos rfl, if_neg (by simp), if_neg c, if_pos b, List.append_assoc, List.append_assoc]
            rfl
          · rw [decide_eq_false b, if_neg (by simp), if_pos (by omega), one, if_neg (by simp), if_neg (by simp), if_neg c, if_neg b, List.append_assoc]
            rfl
    rw [spec_l21Put.l0, if_pos (by omega), if_pos (by omega), hy]
    cases f with
    | true => rw [if_pos rfl]; exact j1 false (fun _ => rfl) (fun h => by cases h)
    | false =>
      rw [if_neg (by simp)]
      by_cases c : y.f0 = x.f0
      · rw [if_pos c]
        refine j1 _ (fun h => by cases h) (fun _ => ?_)
        rw [beq_iff_eq]
        exact ⟨fun h => ⟨c, h⟩, fun h => h.2⟩
      · rw [if_neg c]
        exact j1 false (fun _ => rfl) (fun _ => ⟨fun h => (by cases h), fun h => absurd h.1 c⟩)
theorem spec_l21Put_eq (l : List S30) (hl : l.length ≤ 1048576) (x : S30) (k : Nat) (hk : 2 * l.length + 1 ≤ k) : spec_l21Put.f k l x.f0 x.f1 x.f2 = some (putL x l) := by
  unfold spec_l21Put.f
  exact spec_l21Put_l0 l hl x l.length 0 (by omega) [] false (by simp) k hk
theorem spec_StorePut_eq (l : List S30) (hl : l.length ≤ 1048576) (x : S30) (k : Nat) (hk : 2 * l.length + 4 ≤ k) : spec_StorePut.f k l x.f0 x.f1 x.f2 = some (putV l x) := by
  obtain ⟨k, rfl, hk'⟩ := rounds1 (k := k) (B := 2 * l.length + 3) (by omega)
  have lot := l21Lot_eq x
  have pl := putL_len x l
  unfold spec_StorePut.f putV
  rw [spec_StoreValid_eq l (by omega) _ (by omega)]
  simp only [bsome]
  by_cases hv : storeV l = true
  · rw [if_pos hv, lot]
    simp only [bsome]
    by_cases ok : okL x
    · rw [decide_eq_true ok, Bool.not_true, spec_StorePut.j0, if_neg (by simp), spec_l21Put_eq l hl x k (by omega)]
      simp only [bsome]
      rw [spec_StoreValid_eq _ (by omega) k (by omega)]
      simp only [bsome]
      by_cases h : storeV (putL x l) = true
      · rw [if_pos h, if_pos ⟨hv, ok, h⟩]
      · rw [if_neg h, if_neg (fun z => h z.2.2)]
    · rw [decide_eq_false ok, Bool.not_false, spec_StorePut.j0, if_pos rfl, if_neg (fun z => ok z.2.1)]
  · rw [if_neg hv, spec_StorePut.j0, if_pos rfl, if_neg (fun z => hv z.1)]
theorem compareLots_val (x y : S30) : ∃ v : Int, (∀ k, 3 ≤ k → impl_compareLots.f k x.f0 x.f1 x.f2 y.f0 y.f1 y.f2 = some v) ∧ (v < 0 ↔ befL x y) ∧ (v = 0 ↔ sameDay x y) := by
  refine ⟨if cmpI x.f0 y.f0 = 0 then cmpI x.f1 y.f1 else cmpI x.f0 y.f0, fun k hk => ?_, ?_⟩
  · unfold impl_compareLots.f
    rw [compare_eq, compare_eq]
    simp only [bsome]
    rw [or_eq _ _ k hk]
    simp only [bsome]
  · unfold cmpI befL sameDay
    by_cases a : x.f0 < y.f0
    · rw [if_pos a, if_neg (by omega)]
      omega
    · rw [if_neg a]
      by_cases b : x.f0 > y.f0
      · rw [if_pos b, if_neg (by omega)]
        omega
      · rw [if_neg b, if_pos rfl]
        by_cases c : x.f1 < y.f1
        · rw [if_pos c]
          omega
        · rw [if_neg c]
          by_cases d : x.f1 > y.f1
          · rw [if_pos d]
            omega
          · rw [if_neg d]
            omega
/-- what comes before x stands before i, all else behind -/
def Bound (l : List S30) (x : S30) (lo hi : Nat) : Prop := (∀ j, j < lo → befL (rd_T30 l (j : Int)) x) ∧ (∀ j, hi ≤ j → j < l.length → ¬ befL (rd_T30 l (j : Int)) x)
theorem search_l0 (l : List S30) (hp : l.Pairwise befL) (x : S30) : ∀ (d lo hi : Nat), hi ≤ lo + d → lo ≤ hi → hi ≤ l.length → Bound l x lo hi → ∀ k, d + 4 ≤ k → ∃ i, searchLots.l0 k l x.f0 x.f1 x.f2 lo hi = some i ∧ i ≤ l.length ∧ Bound l x i i := by
  have mono : ∀ a b : Nat, a ≤ b → b < l.length → befL (rd_T30 l (b : Int)) x → befL (rd_T30 l (a : Int)) x := by
    intro a b h1 h2 h3
    by_cases e : a = b
    · rw [e]; exact h3
    · refine befL_trans ?_ h3
      rw [rd_lot l a (by omega), rd_lot l b h2]
      exact List.pairwise_iff_getElem.1 hp a b (by omega) h2 (by omega)
  intro d
  induction d with
  | zero =>
    intro lo hi h1 h2 h3 hb k hk
    obtain ⟨k, rfl, _⟩ := rounds1 (k := k) (B := 3) (by omega)
    obtain rfl : lo = hi := by omega
    exact ⟨lo, by rw [searchLots.l0, if_neg (by omega)], h3, hb⟩
  | succ d ih =>
    intro lo hi h1 h2 h3 hb k hk
    obtain ⟨k, rfl, hk'⟩ := rounds1 (k := k) (B := d + 4) (by omega)
    by_cases c : lo < hi
    · obtain ⟨v, ev, v0, _⟩ := compareLots_val (rd_T30 l (((lo + hi) / 2 : Nat) : Int)) x
      rw [searchLots.l0, if_pos c, ev k (by omega)]
      simp only [bsome]
      have hm : lo ≤ (lo + hi) / 2 ∧ (lo + hi) / 2 < hi := by omega
      by_cases c2 : v < 0
      · rw [if_pos c2]
        refine ih _ _ (by omega) (by omega) h3 ⟨fun j hj => ?_, hb.2⟩ k hk'
        exact mono j _ (by omega) (by omega) (v0.1 c2)
      · rw [if_neg c2]
        refine ih _ _ (by omega) (by omega) (by omega) ⟨hb.1, fun j hj hjl hbj => ?_⟩ k hk'
        exact c2 (v0.2 (mono _ j hj hjl hbj))
    · obtain rfl : lo = hi := by omega
      exact ⟨lo, by rw [searchLots.l0, if_neg c], h3, hb⟩
theorem befL_irr {x y : S30} (h : befL x y) (g : befL y x) : False := by
  unfold befL at *
  omega
theorem befL_same {x y : S30} (h : befL x y) (g : sameDay x y) : False := by
  unfold befL sameDay at *
  omega
theorem befL_else {x y : S30} (h : ¬ befL x y) (g : ¬ sameDay x y) : befL y x := by
  unfold befL sameDay at *
  omega
theorem put_at (x : S30) : ∀ (l : List S30) (i : Nat) (q : Bool), i ≤ l.length → Bound l x i i → (q = true ↔ i < l.length ∧ sameDay (rd_T30 l (i : Int)) x) → impl_StorePut.put l (i, q) x = putL x l
  | [], i, q, hi, hb, hq => by
    have h0 : i = 0 := by simpa using hi
    subst h0
    have q0 : q = false := Bool.eq_false_iff.2 fun h => by have := (hq.1 h).1; simp at this
    subst q0
    rfl
  | y :: r, 0, q, hi, hb, hq => by
    have nb : ¬ befL y x := hb.2 0 (Nat.le_refl _) (by simp)
    have hq' : q = true ↔ sameDay y x := ⟨fun h => (hq.1 h).2, fun h => hq.2 ⟨by simp, h⟩⟩
    rw [putL]
    by_cases c : sameDay y x
    · rw [hq'.2 c, if_pos c]
      rfl
    · have q0 : q = false := Bool.eq_false_iff.2 fun h => c (hq'.1 h)
      rw [q0, if_neg c, if_pos (befL_else nb c)]
      rfl
  | y :: r, i + 1, q, hi, hb, hq => by
    have e : ∀ j : Nat, rd_T30 (y :: r) ((j + 1 : Nat) : Int) = rd_T30 r (j : Int) := fun j => rfl
    have by_ : befL y x := hb.1 0 (by omega)
    have ih := put_at x r i q (by simpa using hi) ⟨fun j hj => by have := hb.1 (j + 1) (by omega); rwa [e] at this, fun j hj hjl => by have := hb.2 (j + 1) (by omega) (by simpa using hjl); rwa [e] at this⟩ (by rw [hq, e]; simp)
    rw [putL, if_neg (fun z => befL_same by_ z), if_neg (fun z => befL_irr by_ z), ← ih]
    unfold impl_StorePut.put
    dsimp only
    rw [e]
    cases q with
    | true => rfl
    | false => rfl
theorem impl_StorePut_eq (l : List S30) (hl : l.length ≤ 1048576) (x : S30) (k : Nat) (hk : 2 * l.length + 8 ≤ k) : impl_StorePut.f k l x.f0 x.f1 x.f2 = some (putV l x) := by
  have lot := lotValid_eq x
  have pl := putL_len x l
  unfold impl_StorePut.f putV
  rw [impl_StoreValid_eq l (by omega) _ (by omega)]
  simp only [bsome]
  by_cases hv : storeV l = true
  · obtain ⟨_, _, hp⟩ := (storeV_iff l).1 hv
    rw [if_pos hv, lot]
    simp only [bsome]
    by_cases ok : okL x
    · rw [decide_eq_true ok, if_pos rfl, if_pos (by omega)]
      obtain ⟨i, e, hi, hb⟩ := search_l0 l hp x l.length 0 l.length (by omega) (by omega) (Nat.le_refl _) ⟨fun j hj => by omega, fun j h1 h2 => by omega⟩ k (by omega)
      have es : ∃ q : Bool, searchLots.f k l x.f0 x.f1 x.f2 = some (i, q) ∧ (q = true ↔ i < l.length ∧ sameDay (rd_T30 l (i : Int)) x) := by
        unfold searchLots.f
        rw [e]
        simp only [bsome]
        by_cases c : i < l.length
        · obtain ⟨v, ev, _, v1⟩ := compareLots_val (rd_T30 l (i : Int)) x
          rw [if_pos c, ev k (by omega)]
          simp only [bsome]
          refine ⟨_, rfl, ?_⟩
          rw [beq_iff_eq, v1]
          exact ⟨fun h => ⟨c, h⟩, fun h => h.2⟩
        · rw [if_neg c]
          exact ⟨false, rfl, fun h => (by cases h), fun h => absurd h.1 c⟩
      obtain ⟨q, es, hq⟩ := es
      rw [es]
      simp only [bsome]
      rw [put_at x l i q hi hb hq, impl_StoreValid_eq _ (by omega) k (by omega)]
      simp only [bsome]
      by_cases h : storeV (putL x l) = true
      · rw [if_pos h, if_pos ⟨hv, ok, h⟩]
      · rw [if_neg h, if_neg (fun z => h z.2.2)]
    · rw [decide_eq_false ok, if_neg (by simp), if_neg (fun z => ok z.2.1)]
  · rw [if_neg hv, if_neg (fun z => hv z.1)]
/-! #### amounts of a food and day; two stores of the same amounts are one -/
def amt (a b : Int) : List S30 → Int
  | [] => 0
  | x :: r => (if x.f0 = a ∧ x.f1 = b then x.f2 else 0) + amt a b r
def Pos (l : List S30) : Prop := ∀ x ∈ l, 1 ≤ x.f2
theorem amt_nonneg (a b : Int) : ∀ l : List S30, Pos l → 0 ≤ amt a b l
  | [], _ => Int.le_refl _
  | x :: r, h => by
    have i := amt_nonneg a b r (fun z hz => h z (List.mem_cons_of_mem _ hz))
    have := h x (List.mem_cons_self ..)
    rw [amt]
    split <;> omega
theorem amt_app (a b : Int) : ∀ l m : List S30, amt a b (l ++ m) = amt a b l + amt a b m
  | [], m => (Int.zero_add _).symm
  | x :: r, m => by
    rw [List.cons_append, amt, amt, amt_app a b r m]
    omega
/-- all else comes behind: nothing of this food and day -/
theorem amt_none (x : S30) : ∀ r : List S30, (∀ z ∈ r, befL x z) → amt x.f0 x.f1 r = 0
  | [], _ => rfl
  | y :: r, h => by
    have hy := h y (List.mem_cons_self ..)
    rw [amt, amt_none x r (fun z hz => h z (List.mem_cons_of_mem _ hz)), if_neg (by unfold befL at hy; omega)]
    rfl
theorem amt_head {x : S30} {r : List S30} (hp : (x :: r).Pairwise befL) : amt x.f0 x.f1 (x :: r) = x.f2 := by
  rw [amt, amt_none x r (List.pairwise_cons.1 hp).1, if_pos ⟨rfl, rfl⟩]
  omega
theorem amt_mem {l : List S30} (hp : l.Pairwise befL) {y : S30} (hy : y ∈ l) : amt y.f0 y.f1 l = y.f2 := by
  induction l with
  | nil => cases hy
  | cons x r ih =>
    rcases List.mem_cons.1 hy with rfl | hy
    · exact amt_head hp
    · have := (List.pairwise_cons.1 hp).1 y hy
      rw [amt, ih (List.pairwise_cons.1 hp).2 hy, if_neg (by unfold befL at this; omega)]
      omega
theorem amt_some (a b : Int) : ∀ l : List S30, 0 < amt a b l → ∃ x ∈ l, x.f0 = a ∧ x.f1 = b
  | [], h => by cases h
  | x :: r, h => by
    by_cases c : x.f0 = a ∧ x.f1 = b
    · exact ⟨x, List.mem_cons_self .., c⟩
    · rw [amt, if_neg c, Int.zero_add] at h
      obtain ⟨z, hz, e⟩ := amt_some a b r h
      exact ⟨z, List.mem_cons_of_mem _ hz, e⟩
theorem befL_tri (x y : S30) : befL x y ∨ befL y x ∨ (x.f0 = y.f0 ∧ x.f1 = y.f1) := by
  unfold befL
  omega
theorem below_all {x y : S30} {r : List S30} (hp : (y :: r).Pairwise befL) (h : befL x y) : ∀ z ∈ y :: r, befL x z := by
  intro z hz
  rcases List.mem_cons.1 hz with rfl | hz
  · exact h
  · exact befL_trans h ((List.pairwise_cons.1 hp).1 z hz)
/-- a store of no more than another's amounts -/
theorem amt_dom : ∀ (l m : List S30), l.Pairwise befL → m.Pairwise befL → Pos l → Pos m → (∀ a b, amt a b l ≤ amt a b m) → l.length ≤ m.length
  | [], m, _, _, _, _, _ => Nat.zero_le _
  | x :: r, [], hl, hm, pl, _, h => by
    have := h x.f0 x.f1
    rw [amt_head hl] at this
    have := pl x (List.mem_cons_self ..)
    simp only [amt] at *
    omega
  | x :: r, y :: s, hl, hm, pl, pm, h => by
    have prl : Pos r := fun z hz => pl z (List.mem_cons_of_mem _ hz)
    have prm : Pos s := fun z hz => pm z (List.mem_cons_of_mem _ hz)
    have hlr := List.pairwise_cons.1 hl
    have hmr := List.pairwise_cons.1 hm
    rcases befL_tri x y with c | c | c
    · exfalso
      have := h x.f0 x.f1
      rw [amt_head hl, amt_none x (y :: s) (below_all hm c)] at this
      have := pl x (List.mem_cons_self ..)
      omega
    · have : (x :: r).length ≤ s.length := amt_dom (x :: r) s hl hmr.2 pl prm (fun a b => by
        have q := h a b
        by_cases e : y.f0 = a ∧ y.f1 = b
        · obtain ⟨rfl, rfl⟩ := e
          rw [amt_none y (x :: r) (below_all hl c)]
          exact amt_nonneg _ _ s prm
        · rw [show amt a b (y :: s) = (if y.f0 = a ∧ y.f1 = b then y.f2 else 0) + amt a b s from rfl, if_neg e, Int.zero_add] at q
          exact q)
      simp only [List.length_cons] at *
      omega
    · have : r.length ≤ s.length := amt_dom r s hlr.2 hmr.2 prl prm (fun a b => by
        have q := h a b
        by_cases e : x.f0 = a ∧ x.f1 = b
        · obtain ⟨rfl, rfl⟩ := e
          rw [amt_none x r hlr.1]
          exact amt_nonneg _ _ s prm
        · rw [amt, amt, if_neg e, if_neg (by rw [← c.1, ← c.2]; exact e), Int.zero_add, Int.zero_add] at q
          exact q)
      simp only [List.length_cons]
      omega
theorem amt_one : ∀ (l m : List S30), l.Pairwise befL → m.Pairwise befL → Pos l → Pos m → (∀ a b, amt a b l = amt a b m) → l = m
  | [], [], _, _, _, _, _ => rfl
  | x :: r, [], hl, hm, pl, _, h => by
    have := h x.f0 x.f1
    rw [amt_head hl] at this
    have := pl x (List.mem_cons_self ..)
    simp only [amt] at *
    omega
  | [], y :: s, hl, hm, pl, pm, h => by
    have := h y.f0 y.f1
    rw [amt_head hm] at this
    have := pm y (List.mem_cons_self ..)
    simp only [amt] at *
    omega
  | x :: r, y :: s, hl, hm, pl, pm, h => by
    have prl : Pos r := fun z hz => pl z (List.mem_cons_of_mem _ hz)
    have prm : Pos s := fun z hz => pm z (List.mem_cons_of_mem _ hz)
    have hlr := List.pairwise_cons.1 hl
    have hmr := List.pairwise_cons.1 hm
    rcases befL_tri x y with c | c | c
    · exfalso
      have := h x.f0 x.f1
      rw [amt_head hl, amt_none x (y :: s) (below_all hm c)] at this
      have := pl x (List.mem_cons_self ..)
      omega
    · exfalso
      have := h y.f0 y.f1
      rw [amt_head hm, amt_none y (x :: r) (below_all hl c)] at this
      have := pm y (List.mem_cons_self ..)
      omega
    · have q := h x.f0 x.f1
      rw [amt_head hl, c.1, c.2, amt_head hm] at q
      have exy : x = y := by
        obtain ⟨x0, x1, x2⟩ := x
        obtain ⟨y0, y1, y2⟩ := y
        simp only at c q
        rw [c.1, c.2, q]
      subst exy
      congr 1
      refine amt_one r s hlr.2 hmr.2 prl prm (fun a b => ?_)
      have q := h a b
      rw [amt, amt] at q
      omega
/-- lots that are put: small numbers -/
def Mild (l : List S30) : Prop := ∀ x ∈ l, 1 ≤ x.f2 ∧ x.f2 ≤ 100000
theorem ok_mild {l : List S30} (h : ∀ x ∈ l, okL x) : Mild l := fun x hx => by
  have := (h x hx).2.2
  omega
theorem put_mem (x : S30) (hx : 1 ≤ x.f2 ∧ x.f2 ≤ 9999) : ∀ l : List S30, Mild l → ∀ z ∈ putL x l, (z.f0 = x.f0 ∧ z.f1 = x.f1 ∨ ∃ y ∈ l, z.f0 = y.f0 ∧ z.f1 = y.f1) ∧ 1 ≤ z.f2 ∧ z.f2 ≤ 109999
  | [], _, z, hz => by
    have : z = x := by simpa [putL] using hz
    subst this
    exact ⟨.inl ⟨rfl, rfl⟩, by omega⟩
  | y :: r, hl, z, hz => by
    have hy := hl y (List.mem_cons_self ..)
    have hr : Mild r := fun q hq => hl q (List.mem_cons_of_mem _ hq)
    rw [putL] at hz
    split at hz
    · rw [w64 (y.f2 + x.f2) (by omega) (by omega)] at hz
      rcases List.mem_cons.1 hz with rfl | hz
      · exact ⟨.inr ⟨y, List.mem_cons_self .., rfl, rfl⟩, by dsimp only; omega⟩
      · exact ⟨.inr ⟨z, List.mem_cons_of_mem _ hz, rfl, rfl⟩, by have := hr z hz; omega⟩
    · split at hz
      · rcases List.mem_cons.1 hz with rfl | hz
        · exact ⟨.inl ⟨rfl, rfl⟩, by omega⟩
        · exact ⟨.inr ⟨z, hz, rfl, rfl⟩, by have := hl z hz; omega⟩
      · rcases List.mem_cons.1 hz with rfl | hz
        · exact ⟨.inr ⟨z, List.mem_cons_self .., rfl, rfl⟩, by omega⟩
        · obtain ⟨h, h2⟩ := put_mem x hx r hr z hz
          refine ⟨?_, h2⟩
          rcases h with h | ⟨q, hq, e⟩
          · exact .inl h
          · exact .inr ⟨q, List.mem_cons_of_mem _ hq, e⟩
theorem befL_key {x y z : S30} (h : befL x y) (e : z.f0 = y.f0 ∧ z.f1 = y.f1) : befL x z := by
  unfold befL at *
  omega
theorem key_befL {x y z : S30} (h : befL x y) (e : z.f0 = x.f0 ∧ z.f1 = x.f1) : befL z y := by
  unfold befL at *
  omega
theorem befL_rest {x y : S30} (h : ¬ befL x y) (g : ¬ sameDay y x) : befL y x := by
  unfold befL sameDay at *
  omega
theorem put_pair (x : S30) (hx : 1 ≤ x.f2 ∧ x.f2 ≤ 9999) : ∀ l : List S30, Mild l → l.Pairwise befL → (putL x l).Pairwise befL
  | [], _, _ => by simp [putL]
  | y :: r, hl, hp => by
    have hr : Mild r := fun q hq => hl q (List.mem_cons_of_mem _ hq)
    have hpr := List.pairwise_cons.1 hp
    rw [putL]
    split
    · exact List.pairwise_cons.2 ⟨fun z hz => key_befL (hpr.1 z hz) ⟨rfl, rfl⟩, hpr.2⟩
    · rename_i c
      split
      · rename_i b
        exact List.pairwise_cons.2 ⟨below_all hp b, hp⟩
      · rename_i b
        refine List.pairwise_cons.2 ⟨fun z hz => ?_, put_pair x hx r hr hpr.2⟩
        rcases (put_mem x hx r hr z hz).1 with h | ⟨q, hq, h⟩
        · exact befL_key (befL_rest b c) h
        · exact befL_key (hpr.1 q hq) h
theorem put_amt (x : S30) (hx : 1 ≤ x.f2 ∧ x.f2 ≤ 9999) (a b : Int) : ∀ l : List S30, Mild l → amt a b (putL x l) = amt a b l + (if x.f0 = a ∧ x.f1 = b then x.f2 else 0)
  | [], _ => by
    simp only [putL, amt]
    omega
  | y :: r, hl => by
    have hy := hl y (List.mem_cons_self ..)
    have hr : Mild r := fun q hq => hl q (List.mem_cons_of_mem _ hq)
    rw [putL]
    by_cases c : sameDay y x
    · rw [if_pos c, amt, amt, w64 (y.f2 + x.f2) (by omega) (by omega)]
      dsimp only
      have c' := c
      unfold sameDay at c'
      rw [c'.1, c'.2]
      split <;> omega
    · rw [if_neg c]
      by_cases d : befL x y
      · rw [if_pos d, amt]
        omega
      · rw [if_neg d, amt, amt, put_amt x hx a b r hr]
        omega
theorem put_sum (x : S30) (hx : 1 ≤ x.f2 ∧ x.f2 ≤ 9999) : ∀ l : List S30, Mild l → sumL (putL x l) = sumL l + x.f2
  | [], _ => by
    simp only [putL, sumL]
    omega
  | y :: r, hl => by
    have hy := hl y (List.mem_cons_self ..)
    have hr : Mild r := fun q hq => hl q (List.mem_cons_of_mem _ hq)
    rw [putL]
    by_cases c : sameDay y x
    · rw [if_pos c, sumL, sumL, w64 (y.f2 + x.f2) (by omega) (by omega)]
      dsimp only
      omega
    · rw [if_neg c]
      by_cases d : befL x y
      · rw [if_pos d, sumL]
        omega
      · rw [if_neg d, sumL, sumL, put_sum x hx r hr]
        omega
theorem put_has (x : S30) (hx : 1 ≤ x.f2 ∧ x.f2 ≤ 9999) (id day : Int) : ∀ l : List S30, Mild l → hasL id day (putL x l) = hasL id day l + (if x.f0 = id ∧ x.f1 ≥ day then x.f2 else 0)
  | [], _ => by
    simp only [putL, hasL]
    omega
  | y :: r, hl => by
    have hy := hl y (List.mem_cons_self ..)
    have hr : Mild r := fun q hq => hl q (List.mem_cons_of_mem _ hq)
    rw [putL]
    by_cases c : sameDay y x
    · rw [if_pos c, hasL, hasL, w64 (y.f2 + x.f2) (by omega) (by omega)]
      dsimp only
      have c' := c
      unfold sameDay at c'
      rw [c'.1, c'.2]
      split <;> omega
    · rw [if_neg c]
      by_cases d : befL x y
      · rw [if_pos d, hasL]
        omega
      · rw [if_neg d, hasL, hasL, put_has x hx id day r hr]
        omega
/-- a store of no more than a valid store's amounts is valid -/
theorem dom_valid {l m : List S30} (hl : l.Pairwise befL) (pl : Pos l) (hm : storeV m = true) (h : ∀ a b, amt a b l ≤ amt a b m) : storeV l = true := by
  obtain ⟨h12, hok, hp⟩ := (storeV_iff m).1 hm
  have pm : Pos m := fun x hx => (hok x hx).2.2.1
  have hlen := amt_dom l m hl hp pl pm h
  refine (storeV_iff l).2 ⟨by omega, fun x hx => ?_, hl⟩
  have q := h x.f0 x.f1
  rw [amt_mem hl hx] at q
  have px := pl x hx
  obtain ⟨y, hy, e0, e1⟩ := amt_some x.f0 x.f1 m (by omega)
  have oy := hok y hy
  rw [← e0, ← e1, amt_mem hp hy] at q
  unfold okL at *
  omega
theorem put_pos (x : S30) (hx : 1 ≤ x.f2 ∧ x.f2 ≤ 9999) (l : List S30) (hl : Mild l) : Pos (putL x l) := fun z hz => (put_mem x hx l hl z hz).2.1
theorem takeL_amt (id day : Int) (a b : Int) : ∀ (xs : List S30) (n : Int), 0 ≤ n → (∀ x ∈ xs, okL x) → amt a b (takeL id day n xs).1 + amt a b (takeL id day n xs).2 = amt a b xs
  | [], _, _, _ => by rw [takeL]; rfl
  | x :: xs, n, n0, h => by
    have hx := h x (List.mem_cons_self ..)
    have q := qOf_range id day n x hx n0
    have i := takeL_amt id day a b xs (n - qOf id day n x) (by omega) (fun z hz => h z (List.mem_cons_of_mem _ hz))
    generalize hq : qOf id day n x = m at q i
    have r : amt a b (restOf x m) + amt a b (partOf x m) = if x.f0 = a ∧ x.f1 = b then x.f2 else 0 := by
      have z : amt a b [] = 0 := rfl
      have o : ∀ v : S30, amt a b [v] = if v.f0 = a ∧ v.f1 = b then v.f2 else 0 := fun v => by rw [amt, z, Int.add_zero]
      unfold restOf partOf
      by_cases c1 : x.f2 - m > 0
      · by_cases c2 : m > 0
        · rw [if_pos c1, if_pos c2, o, o]
          dsimp only
          split <;> omega
        · rw [if_pos c1, if_neg c2, o, z]
          dsimp only
          split <;> omega
      · by_cases c2 : m > 0
        · rw [if_neg c1, if_pos c2, o, z]
          dsimp only
          split <;> omega
        · rw [if_neg c1, if_neg c2, z]
          split <;> omega
    rw [takeL, hq, amt_app, amt_app, amt]
    omega

end Go.Proofs.Ytfnngpfkcnfhiaa.B
