/- Lemmas about the printed functions (late2). -/
import Derived.Test.YthkmimiijemniaaPAllx0
import Derived.Test.YthkmimiijemniaaBbase
import Derived.Test.YthkmimiijemniaaBwithin
import Derived.Test.YthkmimiijemniaaBstepsv
import Derived.Test.YthkmimiijemniaaBmaxfrom
import Derived.Test.YthkmimiijemniaaBearly
import Derived.Test.YthkmimiijemniaaBearlyspec
import Derived.Test.YthkmimiijemniaaBendof
import Derived.Test.YthkmimiijemniaaBlengthspec
namespace Go.Proofs.Ythkmimiijemniaa.B
open Go.RowKit Go.Proofs.Ythkmimiijemniaa.PAll Go.Proofs.YthkmimiijemniaaW.PrintWords Go.Proofs.YthkmimiijemniaaW.PrintLast
set_option linter.unusedVariables false
set_option linter.unusedSimpArgs false

/-! #### the latest starts, both ways -/
theorem rd_set (c : List Int) (m : Int) (v : Int) (h0 : 0 ≤ m) (h1 : m < c.length) (j : Int) (hj : 0 ≤ j) : rd (c.set m.toNat v) j = if j = m then v else rd c j := by
  unfold rd
  rw [List.getD_eq_getElem?_getD, List.getD_eq_getElem?_getD]
  by_cases e : j = m
  · subst e
    rw [if_pos rfl, List.getElem?_set_self (by omega)]
    rfl
  · rw [if_neg e, List.getElem?_set_ne (by omega)]
/-- start i's predecessors, from j on, are moved ahead of it -/
def relax (l : List S40) (i : Int) : Nat → Int → List Int → List Int
  | 0, _, o => o
  | d + 1, j, o => relax l i d (j + 1) (o.set (rd (rd_T40 l i).f3 j).toNat (mn (rd o (rd (rd_T40 l i).f3 j)) (rd o i - (rd_T40 l (rd (rd_T40 l i).f3 j)).f0)))
def lates (l : List S40) : Nat → List Int → List Int
  | 0, o => o
  | n + 1, o => lates l n (relax l n (rd_T40 l n).f3.length 0 o)
def ends (l : List S40) (e : Int) : Nat → List Int
  | 0 => []
  | n + 1 => ends l e n ++ [e - (rd_T40 l n).f0]
theorem ends_len (l : List S40) (e : Int) : ∀ n, (ends l e n).length = n := by
  intro n
  induction n with
  | zero => rfl
  | succ n ih => rw [ends, List.length_append, ih]; rfl
theorem rd_ends (l : List S40) (e : Int) : ∀ (n : Nat) (j : Int), 0 ≤ j → j < n → rd (ends l e n) j = e - (rd_T40 l j).f0 := by
  intro n
  induction n with
  | zero => intro j h0 h1; omega
  | succ n ih =>
    intro j h0 h1
    by_cases c : j = (n : Int)
    · subst c
      rw [ends, rd_snoc_new _ _ _ (by rw [ends_len])]
    · rw [ends, rd_snoc_old _ _ _ h0 (by rw [ends_len]; omega)]
      exact ih j h0 (by omega)
/-- what holds when the steps from n on have been passed, and of step i (= n - 1) the predecessors ahead of place q -/
def LateInv (l : List S40) (e : Int) (n : Int) (o : List Int) : Prop :=
  o.length = l.length ∧ (∀ x : Int, 0 ≤ x → x < l.length → ev l x ≤ rd o x ∧ rd o x + (rd_T40 l x).f0 ≤ e) ∧
  (∀ i : Int, n ≤ i → i < l.length → ∀ q : Int, 0 ≤ q → q < (rd_T40 l i).f3.length → rd o (rd (rd_T40 l i).f3 q) + (rd_T40 l (rd (rd_T40 l i).f3 q)).f0 ≤ rd o i) ∧
  (∀ x : Int, 0 ≤ x → x < l.length → rd o x + (rd_T40 l x).f0 = e ∨ ∃ i q : Int, x < i ∧ n - 1 ≤ i ∧ i < l.length ∧ 0 ≤ q ∧ q < (rd_T40 l i).f3.length ∧ rd (rd_T40 l i).f3 q = x ∧ rd o x + (rd_T40 l x).f0 = rd o i)
/-- one predecessor is moved -/
theorem relax_step (l : List S40) (hv : stepsV l = true) (e : Int) (i : Int) (h0 : 0 ≤ i) (hi : i < l.length) (j : Int) (o : List Int) (j0 : 0 ≤ j) (hj : j < (rd_T40 l i).f3.length) (hI : LateInv l e (i + 1) o)
    (hq : ∀ q : Int, 0 ≤ q → q < j → rd o (rd (rd_T40 l i).f3 q) + (rd_T40 l (rd (rd_T40 l i).f3 q)).f0 ≤ rd o i) (o' : List Int) (ho : o' = o.set (rd (rd_T40 l i).f3 j).toNat (mn (rd o (rd (rd_T40 l i).f3 j)) (rd o i - (rd_T40 l (rd (rd_T40 l i).f3 j)).f0))) :
    LateInv l e (i + 1) o' ∧ ∀ q : Int, 0 ≤ q → q < j + 1 → rd o' (rd (rd_T40 l i).f3 q) + (rd_T40 l (rd (rd_T40 l i).f3 q)).f0 ≤ rd o' i := by
  obtain ⟨h8, h⟩ := (stepsV_iff l).1 hv
  have hs := h i h0 hi
  obtain ⟨a1, a2, a3, a4⟩ := hI
  have hx := (hs.2.2.2 j j0 (by omega)).1
  generalize hxx : rd (rd_T40 l i).f3 j = x at hx ho
  have m := mn_spec (rd o x) (rd o i - (rd_T40 l x).f0)
  generalize mn (rd o x) (rd o i - (rd_T40 l x).f0) = v at m ho
  subst ho
  have set : ∀ y : Int, 0 ≤ y → rd (o.set x.toNat v) y = if y = x then v else rd o y := fun y hy => rd_set o x v hx.1 (by omega) y hy
  have le : ∀ y : Int, 0 ≤ y → rd (o.set x.toNat v) y ≤ rd o y := by
    intro y hy
    rw [set y hy]
    split
    · rename_i c
      subst c
      exact m.1
    · exact Int.le_refl _
  have same : ∀ y : Int, 0 ≤ y → y ≠ x → rd (o.set x.toNat v) y = rd o y := by
    intro y hy c
    rw [set y hy, if_neg c]
  -- x starts early enough for step i
  have evx : ev l x ≤ v := by
    have e1 := (a2 x hx.1 (by omega)).1
    have e2 := (a2 i h0 hi).1
    have e3 : ev l x + (rd_T40 l x).f0 ≤ ev l i := by
      rw [ev_eq l hv i h0 hi]
      have := (maxFrom_spec (endIn l (ev l) i) (rd_T40 l i).f3.length 0 0).2.1 j j0 (by omega)
      unfold endIn at this
      rw [hxx] at this
      exact this
    omega
  refine ⟨⟨by rw [List.length_set]; exact a1, fun y y0 y1 => ?_, fun i' hi' hl' q q0 q1 => ?_, fun y y0 y1 => ?_⟩, fun q q0 q1 => ?_⟩
  · have b := a2 y y0 y1
    by_cases c : y = x
    · subst c
      have := le y y0
      rw [set y y0, if_pos rfl] at this ⊢
      omega
    · rw [same y y0 c]
      exact b
  · have hs' := (h i' (by omega) hl').2.2.2 q q0 q1
    have b := a3 i' (by omega) hl' q q0 q1
    have c := le (rd (rd_T40 l i').f3 q) hs'.1.1
    rw [same i' (by omega) (by omega)]
    omega
  · by_cases c : y = x
    · subst c
      rw [set y y0, if_pos rfl]
      rcases m.2.2 with w | w
      · rcases a4 y y0 y1 with b | ⟨i', q, b1, b2, b3, b4, b5, b6, b7⟩
        · exact .inl (by omega)
        · refine .inr ⟨i', q, b1, b2, b3, b4, b5, b6, ?_⟩
          rw [same i' (by omega) (by omega), w]
          exact b7
      · refine .inr ⟨i, j, by omega, by omega, hi, j0, by omega, hxx, ?_⟩
        rw [same i h0 (by omega), w]
        omega
    · rw [same y y0 c]
      rcases a4 y y0 y1 with b | ⟨i', q, b1, b2, b3, b4, b5, b6, b7⟩
      · exact .inl b
      · refine .inr ⟨i', q, b1, b2, b3, b4, b5, b6, ?_⟩
        rw [same i' (by omega) (by omega)]
        exact b7
  · have hs' := (hs.2.2.2 q q0 (by omega)).1
    rw [same i h0 (by omega)]
    by_cases c : q = j
    · subst c
      rw [hxx, set x hx.1, if_pos rfl]
      omega
    · have b := hq q q0 (by omega)
      have := le (rd (rd_T40 l i).f3 q) hs'.1
      omega
theorem relax_inv (l : List S40) (hv : stepsV l = true) (e : Int) (i : Int) (h0 : 0 ≤ i) (hi : i < l.length) : ∀ (d : Nat) (j : Int) (o : List Int), 0 ≤ j → j + d = (rd_T40 l i).f3.length → LateInv l e (i + 1) o →
    (∀ q : Int, 0 ≤ q → q < j → rd o (rd (rd_T40 l i).f3 q) + (rd_T40 l (rd (rd_T40 l i).f3 q)).f0 ≤ rd o i) → LateInv l e i (relax l i d j o) := by
  obtain ⟨h8, h⟩ := (stepsV_iff l).1 hv
  have hs := h i h0 hi
  intro d
  induction d with
  | zero =>
    intro j o j0 hj hI hq
    obtain ⟨a1, a2, a3, a4⟩ := hI
    refine ⟨a1, a2, fun i' hi' hl' q q0 q1 => ?_, fun x x0 x1 => ?_⟩
    · by_cases c : i' = i
      · subst c
        exact hq q q0 (by omega)
      · exact a3 i' (by omega) hl' q q0 q1
    · rcases a4 x x0 x1 with c | ⟨i', q, b1, b2, b3⟩
      · exact .inl c
      · exact .inr ⟨i', q, b1, by omega, b3⟩
  | succ d ih =>
    intro j o j0 hj hI hq
    have s := relax_step l hv e i h0 hi j o j0 (by omega) hI hq _ rfl
    exact ih (j + 1) _ (by omega) (by omega) s.1 s.2
theorem lates_inv (l : List S40) (hv : stepsV l = true) (e : Int) : ∀ (n : Nat) (o : List Int), n ≤ l.length → LateInv l e n o → LateInv l e 0 (lates l n o) := by
  intro n
  induction n with
  | zero => exact fun o _ h => h
  | succ n ih =>
    intro o hn h
    rw [lates]
    refine ih _ (by omega) (relax_inv l hv e n (by omega) (by omega) _ 0 o (by omega) (by omega) ?_ fun q q0 q1 => by omega)
    rw [Int.natCast_succ] at h
    exact h
def lateOf (l : List S40) (e : Int) : List Int := lates l l.length (ends l e l.length)
theorem lateOf_inv (l : List S40) (hv : stepsV l = true) (e : Int) (he : lengthOf l ≤ e) : LateInv l e 0 (lateOf l e) := by
  refine lates_inv l hv e l.length _ (by omega) ⟨ends_len l e _, fun x x0 x1 => ?_, fun i hi hl q q0 q1 => by omega, fun x x0 x1 => ?_⟩
  · rw [rd_ends l e l.length x x0 x1]
    have := (lengthOf_range l hv).2.2 x x0 x1
    omega
  · rw [rd_ends l e l.length x x0 x1]
    exact .inl (by omega)

end Go.Proofs.Ythkmimiijemniaa.B
