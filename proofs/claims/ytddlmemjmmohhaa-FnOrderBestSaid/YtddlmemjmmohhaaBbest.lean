/- Lemmas about the printed functions (best). -/
import Derived.Test.YtddlmemjmmohhaaPAllx0
import Derived.Test.YtddlmemjmmohhaaBbase
import Derived.Test.YtddlmemjmmohhaaBoffers
import Derived.Test.YtddlmemjmmohhaaBleast
import Derived.Test.YtddlmemjmmohhaaBsums
import Derived.Test.YtddlmemjmmohhaaBcounts
import Derived.Test.YtddlmemjmmohhaaBleastof
namespace Go.Proofs.Ytddlmemjmmohhaa.B
open Go.RowKit Go.Proofs.Ytddlmemjmmohhaa.PAll Go.Proofs.YtddlmemjmmohhaaW.PrintWords Go.Proofs.YtddlmemjmmohhaaW.PrintLast
set_option linter.unusedVariables false
set_option linter.unusedSimpArgs false

/-! #### the best order: as many packages of the first offer as can be, then of the next -/
theorem rd_drop (l : List S37) (a : Nat) (j : Int) (h : 0 ≤ j) : rd_T37 (l.drop a) j = rd_T37 l ((a : Int) + j) := by
  unfold rd_T37
  rw [List.getD_eq_getElem?_getD, List.getD_eq_getElem?_getD, List.getElem?_drop, show ((a : Int) + j).toNat = a + j.toNat by omega]
theorem sound_drop (l : List S37) (hs : Sound l) (a : Nat) : Sound (l.drop a) := by
  refine ⟨by rw [List.length_drop]; have := hs.1; omega, fun i h0 h1 => ?_⟩
  rw [List.length_drop] at h1
  rw [rd_drop l a i h0]
  exact hs.2 _ (by omega) (by omega)
/-- fewer offers are not cheaper -/
theorem lv_drop_ge (l : List S37) (hs : Sound l) (a : Nat) (ha : a < l.length) : ∀ (n : Nat), lv l n ≤ lv (l.drop a) n := by
  have hd := sound_drop l hs a
  have hne : 0 < (l.drop a).length := by rw [List.length_drop]; omega
  intro n
  induction n using Nat.strongRecOn with
  | ind n ih =>
    by_cases hn : n = 0
    · subst hn
      exact Int.le_refl _
    · obtain ⟨i, h0, h1, e⟩ := lv_ex (l.drop a) hd hne n (by omega)
      rw [List.length_drop] at h1
      have q := lv_le l hs n ((a : Int) + i) (by omega) (by omega) (by omega)
      have b := own_at l hs n ((a : Int) + i) (by omega) (by omega) (by omega)
      have := ih (mx ((n : Int) - (rd_T37 l ((a : Int) + i)).f0) 0).toNat (by omega)
      rw [Int.toNat_of_nonneg b.1] at this
      rw [e]
      unfold own at q ⊢
      rw [rd_drop l a i h0]
      omega
theorem lv_drop_ge' (l : List S37) (hs : Sound l) (a : Nat) (ha : a < l.length) (m : Int) (hm : 0 ≤ m) : lv l m ≤ lv (l.drop a) m := by
  have := lv_drop_ge l hs a ha m.toNat
  rwa [Int.toNat_of_nonneg hm] at this
/-- no offer ahead of a can begin a cheapest order of n units -/
def Inv (l : List S37) (a : Nat) (n : Int) : Prop := ∀ q : Int, 0 ≤ q → q < a → n ≤ 0 ∨ own (lv l) l n q ≠ lv l n
/-- an offer that can not begin one can not be the second one, either -/
theorem excl (l : List S37) (hs : Sound l) (n : Int) (hn : 1 ≤ n) (i q : Int) (i0 : 0 ≤ i) (i1 : i < l.length) (q0 : 0 ≤ q) (q1 : q < l.length) (fi : own (lv l) l n i = lv l n) (fq : own (lv l) l n q ≠ lv l n) :
    mx (n - (rd_T37 l i).f0) 0 ≤ 0 ∨ own (lv l) l (mx (n - (rd_T37 l i).f0) 0) q ≠ lv l (mx (n - (rd_T37 l i).f0) 0) := by
  by_cases c : mx (n - (rd_T37 l i).f0) 0 ≤ 0
  · exact .inl c
  refine .inr fun h => fq ?_
  have hne : 0 < l.length := by omega
  have bi := hs.2 i i0 i1
  have bq := hs.2 q q0 q1
  have e1 : mx (n - (rd_T37 l i).f0) 0 = n - (rd_T37 l i).f0 := by
    have := mx0 (n - (rd_T37 l i).f0)
    omega
  have lo := lv_le l hs n q hn q0 q1
  unfold own at fi fq h lo ⊢
  rw [e1] at fi h c
  have up : lv l (mx (n - (rd_T37 l q).f0) 0) ≤ (rd_T37 l i).f1 + lv l (mx (n - (rd_T37 l i).f0 - (rd_T37 l q).f0) 0) := by
    have p := lv_pos l hs hne _ (mx0 (n - (rd_T37 l i).f0 - (rd_T37 l q).f0)).1
    by_cases z : n - (rd_T37 l q).f0 ≤ 0
    · have : mx (n - (rd_T37 l q).f0) 0 = 0 := by
        have := mx0 (n - (rd_T37 l q).f0)
        omega
      rw [this, lv_zero]
      omega
    · have e2 : mx (n - (rd_T37 l q).f0) 0 = n - (rd_T37 l q).f0 := by
        have := mx0 (n - (rd_T37 l q).f0)
        omega
      have := lv_le l hs (n - (rd_T37 l q).f0) i (by omega) i0 i1
      unfold own at this
      rw [e2]
      rwa [show n - (rd_T37 l q).f0 - (rd_T37 l i).f0 = n - (rd_T37 l i).f0 - (rd_T37 l q).f0 by omega] at this
  omega
theorem inv_next (l : List S37) (hs : Sound l) (n : Int) (hn : 1 ≤ n) (i : Int) (i0 : 0 ≤ i) (i1 : i < l.length) (a : Nat) (ha : a ≤ l.length) (fi : own (lv l) l n i = lv l n) (h : Inv l a n) : Inv l a (mx (n - (rd_T37 l i).f0) 0) := by
  intro q q0 q1
  rcases h q q0 q1 with c | c
  · omega
  · exact excl l hs n hn i q i0 i1 q0 (by omega) fi c
theorem drop_eq (l : List S37) (hs : Sound l) (hne : 0 < l.length) (a : Nat) (ha : a ≤ l.length) : ∀ (n : Nat), Inv l a n → lv l n = lv (l.drop a) n := by
  intro n
  induction n using Nat.strongRecOn with
  | ind n ih =>
    intro hI
    by_cases hn : n = 0
    · subst hn
      rfl
    · obtain ⟨i, h0, h1, e⟩ := lv_ex l hs hne n (by omega)
      have hia : (a : Int) ≤ i := by
        rcases (by omega : i < a ∨ (a : Int) ≤ i) with c | c
        · rcases hI i h0 c with d | d
          · omega
          · exact absurd e.symm d
        · exact c
      have b := own_at l hs n i (by omega) h0 h1
      have e2 := ih (mx ((n : Int) - (rd_T37 l i).f0) 0).toNat (by omega) (by rw [Int.toNat_of_nonneg b.1]; exact inv_next l hs n (by omega) i h0 h1 a ha e.symm hI)
      rw [Int.toNat_of_nonneg b.1] at e2
      have q := lv_le (l.drop a) (sound_drop l hs a) n (i - a) (by omega) (by omega) (by rw [List.length_drop]; omega)
      have up := lv_drop_ge l hs a (by omega) n
      unfold own at q e
      rw [rd_drop l a _ (by omega), show (a : Int) + (i - a) = i by omega] at q
      omega
theorem drop_eq' (l : List S37) (hs : Sound l) (hne : 0 < l.length) (a : Nat) (ha : a ≤ l.length) (n : Int) (hn : 0 ≤ n) (h : Inv l a n) : lv l n = lv (l.drop a) n := by
  have := drop_eq l hs hne a ha n.toNat
  rw [Int.toNat_of_nonneg hn] at this
  exact this h
/-- how many packages of the first offer, one after another, can begin a cheapest order -/
def cc (r : List S37) : Nat → Int → Nat
  | 0, _ => 0
  | f + 1, n => if 0 < n ∧ own (lv r) r n 0 = lv r n then cc r f (mx (n - (rd_T37 r 0).f0) 0) + 1 else 0
def cnt (r : List S37) (n : Int) : Nat := cc r n.toNat n
theorem cc_fuel (r : List S37) (hs : Sound r) (hne : 0 < r.length) : ∀ (f g : Nat) (n : Int), n ≤ f → n ≤ g → cc r f n = cc r g n := by
  have h0 := hs.2 0 (by omega) (by omega)
  intro f
  induction f with
  | zero =>
    intro g n hf hg
    cases g with
    | zero => rfl
    | succ g =>
      simp only [cc]
      rw [if_neg (fun h => by have := h.1; omega)]
  | succ f ih =>
    intro g n hf hg
    cases g with
    | zero =>
      simp only [cc]
      rw [if_neg (fun h => by have := h.1; omega)]
    | succ g =>
      simp only [cc]
      by_cases c : 0 < n ∧ own (lv r) r n 0 = lv r n
      · have := mx0 (n - (rd_T37 r 0).f0)
        rw [if_pos c, if_pos c, ih g _ (by omega) (by omega)]
      · rw [if_neg c, if_neg c]
theorem cnt_yes (r : List S37) (hs : Sound r) (hne : 0 < r.length) (n : Int) (h : 0 < n) (c : own (lv r) r n 0 = lv r n) : cnt r n = cnt r (mx (n - (rd_T37 r 0).f0) 0) + 1 := by
  have h0 := hs.2 0 (by omega) (by omega)
  have := mx0 (n - (rd_T37 r 0).f0)
  unfold cnt
  rw [show n.toNat = (n.toNat - 1) + 1 by omega]
  simp only [cc]
  rw [if_pos ⟨h, c⟩, cc_fuel r hs hne (n.toNat - 1) (mx (n - (rd_T37 r 0).f0) 0).toNat _ (by omega) (by omega)]
theorem cnt_no (r : List S37) (n : Int) (c : ¬ (0 < n ∧ own (lv r) r n 0 = lv r n)) : cnt r n = 0 := by
  unfold cnt
  cases n.toNat with
  | zero => rfl
  | succ f =>
    simp only [cc]
    rw [if_neg c]
theorem mx_mx (n c s : Int) (hs : 0 ≤ s) (hc : 0 ≤ c * s) : mx (mx (n - s) 0 - c * s) 0 = mx (n - (c + 1) * s) 0 := by
  rw [Int.add_mul, Int.one_mul]
  generalize c * s = P at hc
  unfold mx
  repeat' split
  all_goals omega
/-- what the count is good for: it is paid, and no further package can be -/
theorem cnt_spec (r : List S37) (hs : Sound r) (hne : 0 < r.length) : ∀ (n : Nat), (cnt r n : Int) * (rd_T37 r 0).f1 + lv r (mx ((n : Int) - (cnt r n : Int) * (rd_T37 r 0).f0) 0) = lv r n ∧ cnt r n ≤ n ∧
    ¬ (0 < mx ((n : Int) - (cnt r n : Int) * (rd_T37 r 0).f0) 0 ∧ own (lv r) r (mx ((n : Int) - (cnt r n : Int) * (rd_T37 r 0).f0) 0) 0 = lv r (mx ((n : Int) - (cnt r n : Int) * (rd_T37 r 0).f0) 0)) := by
  have h0 := hs.2 0 (by omega) (by omega)
  intro n
  induction n using Nat.strongRecOn with
  | ind n ih =>
    by_cases c : 0 < (n : Int) ∧ own (lv r) r n 0 = lv r n
    · have a := mx0 ((n : Int) - (rd_T37 r 0).f0)
      have i := ih (mx ((n : Int) - (rd_T37 r 0).f0) 0).toNat (by omega)
      rw [Int.toNat_of_nonneg a.1] at i
      rw [cnt_yes r hs hne n c.1 c.2]
      generalize hk : cnt r (mx ((n : Int) - (rd_T37 r 0).f0) 0) = k at i
      have e := mx_mx n k (rd_T37 r 0).f0 (by omega) (Int.mul_nonneg (by omega) (by omega))
      rw [e] at i
      rw [Int.natCast_succ]
      refine ⟨?_, by omega, i.2.2⟩
      have := c.2
      unfold own at this
      rw [Int.add_mul, Int.one_mul]
      omega
    · rw [cnt_no r n c]
      have e : mx ((n : Int) - ((0 : Nat) : Int) * (rd_T37 r 0).f0) 0 = n := by
        rw [show ((0 : Nat) : Int) * (rd_T37 r 0).f0 = 0 from Int.zero_mul _]
        have := mx0 ((n : Int) - 0)
        omega
      rw [e, show ((0 : Nat) : Int) * (rd_T37 r 0).f1 = 0 from Int.zero_mul _]
      exact ⟨by omega, by omega, c⟩
/-- with more packages of the first offer it is dearer -/
theorem cnt_max (r : List S37) (hs : Sound r) (hne : 0 < r.length) (n : Nat) (c2 : Nat) (h : cnt r n < c2) : lv r n < (c2 : Int) * (rd_T37 r 0).f1 + lv r (mx ((n : Int) - (c2 : Int) * (rd_T37 r 0).f0) 0) := by
  have h0 := hs.2 0 (by omega) (by omega)
  obtain ⟨s1, s2, s3⟩ := cnt_spec r hs hne n
  have up := lv_rep r hs hne 0 (by omega) (by omega) c2 n (by omega)
  rcases (by omega : lv r n < (c2 : Int) * (rd_T37 r 0).f1 + lv r (mx ((n : Int) - (c2 : Int) * (rd_T37 r 0).f0) 0) ∨ (c2 : Int) * (rd_T37 r 0).f1 + lv r (mx ((n : Int) - (c2 : Int) * (rd_T37 r 0).f0) 0) ≤ lv r n) with w | w
  · exact w
  exfalso
  apply s3
  generalize hk : cnt r n = k at s1 s2 s3 h
  obtain ⟨d, rfl⟩ : ∃ d, c2 = k + (d + 1) := ⟨c2 - k - 1, by omega⟩
  generalize hm : mx ((n : Int) - (k : Int) * (rd_T37 r 0).f0) 0 = m at s1 ⊢
  have m0 : 0 ≤ m := by
    rw [← hm]
    exact (mx0 _).1
  have kp : 0 ≤ (k : Int) * (rd_T37 r 0).f0 := Int.mul_nonneg (by omega) (by omega)
  have dp : 0 ≤ (d : Int) * (rd_T37 r 0).f0 := Int.mul_nonneg (by omega) (by omega)
  have dq : 0 ≤ (d : Int) * (rd_T37 r 0).f1 := Int.mul_nonneg (by omega) (by omega)
  have x1 : ((k + (d + 1) : Nat) : Int) * (rd_T37 r 0).f1 = (k : Int) * (rd_T37 r 0).f1 + (d : Int) * (rd_T37 r 0).f1 + (rd_T37 r 0).f1 := by
    rw [show ((k + (d + 1) : Nat) : Int) = (k : Int) + (d : Int) + 1 by omega, Int.add_mul, Int.add_mul, Int.one_mul]
  have x0 : ((k + (d + 1) : Nat) : Int) * (rd_T37 r 0).f0 = (k : Int) * (rd_T37 r 0).f0 + (d : Int) * (rd_T37 r 0).f0 + (rd_T37 r 0).f0 := by
    rw [show ((k + (d + 1) : Nat) : Int) = (k : Int) + (d : Int) + 1 by omega, Int.add_mul, Int.add_mul, Int.one_mul]
  have y : mx (mx (m - (rd_T37 r 0).f0) 0 - (d : Int) * (rd_T37 r 0).f0) 0 = mx ((n : Int) - ((k + (d + 1) : Nat) : Int) * (rd_T37 r 0).f0) 0 := by
    rw [x0, ← hm]
    generalize (k : Int) * (rd_T37 r 0).f0 = P at kp
    generalize (d : Int) * (rd_T37 r 0).f0 = Q at dp
    unfold mx
    repeat' split
    all_goals omega
  have z := lv_pos r hs hne _ (mx0 ((n : Int) - ((k + (d + 1) : Nat) : Int) * (rd_T37 r 0).f0)).1
  have mpos : 0 < m := by
    rcases (by omega : 0 < m ∨ m ≤ 0) with g | g
    · exact g
    · obtain rfl : m = 0 := by omega
      rw [lv_zero] at s1
      omega
  have a := mx0 (m - (rd_T37 r 0).f0)
  have rep := lv_rep r hs hne 0 (by omega) (by omega) d (mx (m - (rd_T37 r 0).f0) 0) a.1
  have lo := lv_le r hs m 0 (by omega) (by omega) (by omega)
  rw [y] at rep
  refine ⟨mpos, ?_⟩
  unfold own at lo ⊢
  omega
/-- behind the first offer's packages the others' least price is the least price -/
theorem cnt_rest (r : List S37) (hs : Sound r) (hne : 0 < r.length) (n : Nat) : lv r (mx ((n : Int) - (cnt r n : Int) * (rd_T37 r 0).f0) 0) = lv (r.drop 1) (mx ((n : Int) - (cnt r n : Int) * (rd_T37 r 0).f0) 0) := by
  obtain ⟨_, _, s3⟩ := cnt_spec r hs hne n
  have a := (mx0 ((n : Int) - (cnt r n : Int) * (rd_T37 r 0).f0)).1
  refine drop_eq' r hs hne 1 (by omega) _ a fun q q0 q1 => ?_
  obtain rfl : q = 0 := by omega
  by_cases c : mx ((n : Int) - (cnt r n : Int) * (rd_T37 r 0).f0) 0 ≤ 0
  · exact .inl c
  · exact .inr fun h => s3 ⟨by omega, h⟩
def G : List S37 → Int → List Int
  | [], _ => []
  | o :: r, n => (cnt (o :: r) n : Int) :: G r (mx (n - (cnt (o :: r) n : Int) * o.f0) 0)
theorem G_len : ∀ (l : List S37) (n : Int), (G l n).length = l.length := by
  intro l
  induction l with
  | nil => exact fun _ => rfl
  | cons o r ih =>
    intro n
    rw [G, List.length_cons, List.length_cons, ih]
theorem cnt_zero (r : List S37) : cnt r 0 = 0 := rfl
theorem zip_G_zero : ∀ (l : List S37) (xs : List Int), xs.length = l.length → List.zipWith (fun a b => a + b) xs (G l 0) = xs := by
  intro l
  induction l with
  | nil =>
    intro xs h
    have : xs = [] := List.eq_nil_of_length_eq_zero h
    subst this
    rfl
  | cons o r ih =>
    intro xs h
    cases xs with
    | nil => simp at h
    | cons x xs =>
      have e : mx (0 - ((0 : Nat) : Int) * o.f0) 0 = 0 := by
        rw [show ((0 : Nat) : Int) * o.f0 = 0 from Int.zero_mul _]
        rfl
      rw [G, cnt_zero, e, List.zipWith_cons_cons, ih xs (by simpa using h)]
      simp
theorem drop_cons (l : List S37) (a : Nat) (h : a < l.length) : l.drop a = rd_T37 l a :: l.drop (a + 1) := by
  rw [List.drop_eq_getElem_cons h]
  unfold rd_T37
  rw [Int.toNat_natCast, List.getD_eq_getElem?_getD, List.getElem?_eq_getElem h]
  rfl
theorem G_drop (l : List S37) (a : Nat) (h : a < l.length) (n : Int) : G (l.drop a) n = (cnt (l.drop a) n : Int) :: G (l.drop (a + 1)) (mx (n - (cnt (l.drop a) n : Int) * (rd_T37 l a).f0) 0) := by
  rw [drop_cons l a h, G]

end Go.Proofs.Ytddlmemjmmohhaa.B
