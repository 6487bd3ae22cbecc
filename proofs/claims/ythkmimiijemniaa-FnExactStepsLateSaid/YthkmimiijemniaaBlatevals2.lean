/- Lemmas about the printed functions (latevals2). -/
import Derived.Test.YthkmimiijemniaaPAllx0
import Derived.Test.YthkmimiijemniaaPAllx10
import Derived.Test.YthkmimiijemniaaPAllx12
import Derived.Test.YthkmimiijemniaaBbase
import Derived.Test.YthkmimiijemniaaBwithin
import Derived.Test.YthkmimiijemniaaBstepsv
import Derived.Test.YthkmimiijemniaaBmaxfrom
import Derived.Test.YthkmimiijemniaaBearly
import Derived.Test.YthkmimiijemniaaBearlyspec
import Derived.Test.YthkmimiijemniaaBendof
import Derived.Test.YthkmimiijemniaaBlengthspec
import Derived.Test.YthkmimiijemniaaBlate2
namespace Go.Proofs.Ythkmimiijemniaa.B
open Go.RowKit Go.Proofs.Ythkmimiijemniaa.PAll Go.Proofs.YthkmimiijemniaaW.PrintWords Go.Proofs.YthkmimiijemniaaW.PrintLast
set_option linter.unusedVariables false
set_option linter.unusedSimpArgs false

theorem ends_inv (l : List S40) (hv : stepsV l = true) (e : Int) (he : lengthOf l ≤ e) : LateInv l e l.length (ends l e l.length) := by
  refine ⟨ends_len l e _, fun x x0 x1 => ?_, fun i hi hl q q0 q1 => by omega, fun x x0 x1 => ?_⟩
  · rw [rd_ends l e l.length x x0 x1]
    have := (lengthOf_range l hv).2.2 x x0 x1
    omega
  · rw [rd_ends l e l.length x x0 x1]
    exact .inl (by omega)
def lateV (l : List S40) (e : Int) : List Int × Bool := if stepsV l = true ∧ lengthOf l ≤ e ∧ e ≤ 999 then (lateOf l e, true) else ([], false)
theorem lateV_len (l : List S40) (e : Int) : (lateV l e).1.length ≤ l.length := by
  unfold lateV
  split
  · rename_i h
    exact Nat.le_of_eq (lateOf_inv l h.1 e h.2.1).1
  · exact Nat.zero_le _
theorem impl_StepsLate_l2 (l : List S40) (hv : stepsV l = true) (i : Int) (h0 : 0 ≤ i) (hi : i < l.length) (e : Int) (he : -1000 ≤ e ∧ e ≤ 1000) : ∀ (d : Nat) (j : Int) (o : List Int), 0 ≤ j → j + d = (rd_T40 l i).f3.length → LateInv l e (i + 1) o → (∀ q : Int, 0 ≤ q → q < j → rd o (rd (rd_T40 l i).f3 q) + (rd_T40 l (rd (rd_T40 l i).f3 q)).f0 ≤ rd o i) → ∀ k,
    impl_StepsLate.l2 (k + d + 1) l o i (rd_T40 l i).f3 ((rd_T40 l i).f3.length : Int) j = impl_StepsLate.l1 k l (relax l i d j o) (i - 1) := by
  obtain ⟨h8, h⟩ := (stepsV_iff l).1 hv
  have hs := h i h0 hi
  have al := after_len l hv i h0 hi
  intro d
  induction d with
  | zero =>
    intro j o j0 hj hI hq k
    rw [Nat.add_zero, impl_StepsLate.l2, if_neg (by omega), w64 (i - 1) (by omega) (by omega), relax]
  | succ d ih =>
    intro j o j0 hj hI hq k
    have hx := (hs.2.2.2 j j0 (by omega)).1
    have one := relax_inv l hv e i h0 hi (d + 1) j o j0 hj hI hq
    have lx := hI.2.1 (rd (rd_T40 l i).f3 j) hx.1 (by omega)
    have li := hI.2.1 i h0 hi
    have vx := ev_range' l hv _ hx.1 (by omega)
    have vi := ev_range' l hv i h0 hi
    have tx := (h _ hx.1 (by omega)).1
    have ti := hs.1
    have ol := hI.1
    rw [show k + (d + 1) + 1 = (k + d + 1) + 1 by omega]
    have step := relax_step l hv e i h0 hi j o j0 (by omega) hI hq _ rfl
    have e' := ih (j + 1) _ (by omega) (by omega) step.1 step.2 k
    generalize k + d + 1 = q at e' ⊢
    rw [impl_StepsLate.l2, if_pos (by omega), if_pos j0, if_pos (by omega), if_pos hx.1, if_pos (by omega), if_pos h0, if_pos (by omega), if_pos (by omega), w64 (rd o i - _) (by omega) (by omega), w64 (j + 1) (by omega) (by omega), e', relax]
theorem impl_StepsLate_l1 (l : List S40) (hv : stepsV l = true) (M : Nat) (hM : Inner l M) (e : Int) (he : -1000 ≤ e ∧ e ≤ 1000) : ∀ (n : Nat) (o : List Int), n ≤ l.length → LateInv l e n o → ∀ k, (M + 4) * n + 1 ≤ k → impl_StepsLate.l1 k l o ((n : Int) - 1) = some (lates l n o, true) := by
  have h8 := ((stepsV_iff l).1 hv).1
  intro n
  induction n with
  | zero =>
    intro o hn hI k hk
    obtain ⟨k, rfl, _⟩ := rounds1 (k := k) (B := 0) (by omega)
    rw [impl_StepsLate.l1, if_neg (by omega), lates]
  | succ n ih =>
    intro o hn hI k hk
    rw [mul_step] at hk
    have hm := hM.2.2 n (by omega) (by omega)
    obtain ⟨k, rfl⟩ : ∃ q, k = (q + (rd_T40 l n).f3.length + 1) + 1 := ⟨k - (rd_T40 l n).f3.length - 2, by omega⟩
    have hI' : LateInv l e ((n : Int) + 1) o := by rw [Int.natCast_succ] at hI; exact hI
    have inv := relax_inv l hv e n (by omega) (by omega) (rd_T40 l n).f3.length 0 o (by omega) (by omega) hI' fun q q0 q1 => by omega
    have c := ih _ (by omega) inv k (by omega)
    have s := impl_StepsLate_l2 l hv n (by omega) (by omega) e he (rd_T40 l n).f3.length 0 o (by omega) (by omega) hI' (fun q q0 q1 => by omega) k
    rw [impl_StepsLate.l1, show ((n + 1 : Nat) : Int) - 1 = (n : Int) by omega, if_pos (by omega), if_pos (by omega), if_pos (by omega), s, c, lates]
theorem impl_StepsLate_l0 (l : List S40) (hv : stepsV l = true) (M : Nat) (hM : Inner l M) (e : Int) (he : lengthOf l ≤ e ∧ e ≤ 1000) : ∀ (d n : Nat), n + d = l.length → ∀ k, (M + 4) * l.length + d + 2 ≤ k → impl_StepsLate.l0 k l e (ends l e n) l (l.length : Int) n = some (lateOf l e, true) := by
  obtain ⟨h8, h⟩ := (stepsV_iff l).1 hv
  have r := lengthOf_range l hv
  intro d
  induction d with
  | zero =>
    intro n hn k hk
    obtain ⟨k, rfl, _⟩ := rounds1 (k := k) (B := (M + 4) * l.length + 1) (by omega)
    rw [impl_StepsLate.l0, if_neg (by omega), w64 _ (by omega) (by omega), show n = l.length by omega, impl_StepsLate_l1 l hv M hM e (by omega) l.length _ (by omega) (ends_inv l hv e he.1) k (by omega)]
    rfl
  | succ d ih =>
    intro n hn k hk
    obtain ⟨k, rfl, hk'⟩ := rounds1 (k := k) (B := (M + 4) * l.length + d + 2) (by omega)
    have hs := (h n (by omega) (by omega)).1
    have c := ih (n + 1) (by omega) k hk'
    rw [Int.natCast_succ, ends] at c
    rw [impl_StepsLate.l0, if_pos (by omega), if_pos (by omega), if_pos (by omega), if_pos (by rw [ends_len]; omega), w64 (e - _) (by omega) (by omega), w64 ((n : Int) + 1) (by omega) (by omega)]
    exact c
theorem impl_StepsLate_eq (l : List S40) (M : Nat) (hM : Inner l M) (e : Int) (k : Nat) (hk : (M + 4) * l.length + l.length + 3 ≤ k) : impl_StepsLate.f k l e = some (lateV l e) := by
  unfold impl_StepsLate.f lateV
  rw [impl_StepsValid_eq l M hM k (by omega)]
  simp only [bsome]
  obtain ⟨k, rfl, hk'⟩ := rounds1 (k := k) (B := (M + 4) * l.length + l.length + 2) (by omega)
  by_cases hv : stepsV l = true
  · rw [if_pos hv, impl_stepsEarly_eq l hv M hM _ (by omega)]
    simp only [bsome]
    rw [end_early l hv _ (by omega)]
    simp only [bsome]
    rw [within_eq]
    simp only [bsome]
    rw [impl_StepsLate.j0]
    by_cases c : lengthOf l ≤ e ∧ e ≤ 999
    · rw [decide_eq_true c, if_neg (by simp), if_pos ⟨hv, c⟩]
      exact impl_StepsLate_l0 l hv M hM e (by omega) l.length 0 (by omega) k (by omega)
    · rw [decide_eq_false c, if_pos (by simp), if_neg fun h => c h.2]
  · rw [if_neg hv, impl_StepsLate.j0, if_pos rfl, if_neg fun h => hv h.1]
theorem spec_StepsLate_l2 (l : List S40) (hv : stepsV l = true) (i : Int) (h0 : 0 ≤ i) (hi : i < l.length) (e : Int) (he : -1000 ≤ e ∧ e ≤ 1000) : ∀ (d : Nat) (j : Int) (o : List Int), 0 ≤ j → j + d = (rd_T40 l i).f3.length → LateInv l e (i + 1) o → (∀ q : Int, 0 ≤ q → q < j → rd o (rd (rd_T40 l i).f3 q) + (rd_T40 l (rd (rd_T40 l i).f3 q)).f0 ≤ rd o i) → ∀ k,
    spec_StepsLate.l2 (k + d + 1) l o i j = spec_StepsLate.l1 k l (relax l i d j o) (i - 1) := by
  obtain ⟨h8, h⟩ := (stepsV_iff l).1 hv
  have hs := h i h0 hi
  have al := after_len l hv i h0 hi
  intro d
  induction d with
  | zero =>
    intro j o j0 hj hI hq k
    rw [Nat.add_zero, spec_StepsLate.l2, if_pos h0, if_pos (by omega), if_neg (by omega), w64 (i - 1) (by omega) (by omega), relax]
  | succ d ih =>
    intro j o j0 hj hI hq k
    have hx := (hs.2.2.2 j j0 (by omega)).1
    have one := relax_inv l hv e i h0 hi (d + 1) j o j0 hj hI hq
    have lx := hI.2.1 (rd (rd_T40 l i).f3 j) hx.1 (by omega)
    have li := hI.2.1 i h0 hi
    have vx := ev_range' l hv _ hx.1 (by omega)
    have vi := ev_range' l hv i h0 hi
    have tx := (h _ hx.1 (by omega)).1
    have ti := hs.1
    have ol := hI.1
    rw [show k + (d + 1) + 1 = (k + d + 1) + 1 by omega]
    have step := relax_step l hv e i h0 hi j o j0 (by omega) hI hq _ rfl
    have e' := ih (j + 1) _ (by omega) (by omega) step.1 step.2 k
    generalize k + d + 1 = q at e' ⊢
    rw [spec_StepsLate.l2, if_pos h0, if_pos (by omega), if_pos (by omega), if_pos j0, if_pos hx.1, if_pos (by omega), if_pos (by omega), if_pos (by omega), w64 (rd o i - _) (by omega) (by omega), w64 (j + 1) (by omega) (by omega), e', relax]
theorem spec_StepsLate_l1 (l : List S40) (hv : stepsV l = true) (M : Nat) (hM : Inner l M) (e : Int) (he : -1000 ≤ e ∧ e ≤ 1000) : ∀ (n : Nat) (o : List Int), n ≤ l.length → LateInv l e n o → ∀ k, (M + 4) * n + 1 ≤ k → spec_StepsLate.l1 k l o ((n : Int) - 1) = some (lates l n o, true) := by
  have h8 := ((stepsV_iff l).1 hv).1
  intro n
  induction n with
  | zero =>
    intro o hn hI k hk
    obtain ⟨k, rfl, _⟩ := rounds1 (k := k) (B := 0) (by omega)
    rw [spec_StepsLate.l1, if_neg (by omega), lates]
  | succ n ih =>
    intro o hn hI k hk
    rw [mul_step] at hk
    have hm := hM.2.2 n (by omega) (by omega)
    obtain ⟨k, rfl⟩ : ∃ q, k = (q + (rd_T40 l n).f3.length + 1) + 1 := ⟨k - (rd_T40 l n).f3.length - 2, by omega⟩
    have hI' : LateInv l e ((n : Int) + 1) o := by rw [Int.natCast_succ] at hI; exact hI
    have inv := relax_inv l hv e n (by omega) (by omega) (rd_T40 l n).f3.length 0 o (by omega) (by omega) hI' fun q q0 q1 => by omega
    have c := ih _ (by omega) inv k (by omega)
    have s := spec_StepsLate_l2 l hv n (by omega) (by omega) e he (rd_T40 l n).f3.length 0 o (by omega) (by omega) hI' (fun q q0 q1 => by omega) k
    rw [spec_StepsLate.l1, show ((n + 1 : Nat) : Int) - 1 = (n : Int) by omega, if_pos (by omega), s, c, lates]
theorem spec_StepsLate_l0 (l : List S40) (hv : stepsV l = true) (M : Nat) (hM : Inner l M) (e : Int) (he : lengthOf l ≤ e ∧ e ≤ 1000) : ∀ (d n : Nat), n + d = l.length → ∀ k, (M + 4) * l.length + d + 2 ≤ k → spec_StepsLate.l0 k l e (ends l e n) n = some (lateOf l e, true) := by
  obtain ⟨h8, h⟩ := (stepsV_iff l).1 hv
  have r := lengthOf_range l hv
  intro d
  induction d with
  | zero =>
    intro n hn k hk
    obtain ⟨k, rfl, _⟩ := rounds1 (k := k) (B := (M + 4) * l.length + 1) (by omega)
    rw [spec_StepsLate.l0, if_neg (by omega), w64 _ (by omega) (by omega), show n = l.length by omega, spec_StepsLate_l1 l hv M hM e (by omega) l.length _ (by omega) (ends_inv l hv e he.1) k (by omega)]
    rfl
  | succ d ih =>
    intro n hn k hk
    obtain ⟨k, rfl, hk'⟩ := rounds1 (k := k) (B := (M + 4) * l.length + d + 2) (by omega)
    have hs := (h n (by omega) (by omega)).1
    have c := ih (n + 1) (by omega) k hk'
    rw [Int.natCast_succ, ends] at c
    rw [spec_StepsLate.l0, if_pos (by omega), if_pos (by omega), if_pos (by rw [ends_len]; omega), w64 (e - _) (by omega) (by omega), w64 ((n : Int) + 1) (by omega) (by omega)]
    exact c
theorem spec_StepsLate_eq (l : List S40) (M : Nat) (hM : Inner l M) (e : Int) (k : Nat) (hk : (M + 4) * l.length + (M + 4) * l.length + l.length + 4 ≤ k) : spec_StepsLate.f k l e = some (lateV l e) := by
  unfold spec_StepsLate.f lateV
  rw [bsome, spec_StepsValid_eq l M hM k (by omega)]
  simp only [bsome]
  obtain ⟨k, rfl, hk'⟩ := rounds1 (k := k) (B := (M + 4) * l.length + (M + 4) * l.length + l.length + 3) (by omega)
  by_cases hv : stepsV l = true
  · rw [if_pos hv, spec_StepsLength_eq l M hM _ (by omega)]
    simp only [bsome]
    rw [l6In_eq]
    simp only [bsome]
    rw [lengthV, if_pos hv, spec_StepsLate.j0]
    by_cases c : lengthOf l ≤ e ∧ e ≤ 999
    · rw [decide_eq_true c, if_neg (by simp), if_pos ⟨hv, c⟩]
      exact spec_StepsLate_l0 l hv M hM e (by omega) l.length 0 (by omega) k (by omega)
    · rw [decide_eq_false c, if_pos (by simp), if_neg fun h => c h.2]
  · rw [if_neg hv, spec_StepsLate.j0, if_pos rfl, if_neg fun h => hv h.1]

end Go.Proofs.Ythkmimiijemniaa.B
