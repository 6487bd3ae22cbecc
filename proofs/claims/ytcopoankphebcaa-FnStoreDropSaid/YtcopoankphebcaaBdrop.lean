/- Lemmas about the printed functions (drop). -/
import Derived.Test.YtcopoankphebcaaPAllx0
import Derived.Test.YtcopoankphebcaaPAllx16
import Derived.Test.YtcopoankphebcaaBbase
import Derived.Test.YtcopoankphebcaaBlots
import Derived.Test.YtcopoankphebcaaBstorespec
import Derived.Test.YtcopoankphebcaaBstoreimpl
namespace Go.Proofs.Ytcopoankphebcaa.B
open Go.RowKit Go.Proofs.Ytcopoankphebcaa.PAll Go.Proofs.YtcopoankphebcaaW.PrintWords Go.Proofs.YtcopoankphebcaaW.PrintLast
set_option linter.unusedVariables false
set_option linter.unusedSimpArgs false

/-! #### lots that keep, and lots that do not -/
def keepL (day : Int) (l : List S30) : List S30 := l.filter fun x => decide (x.f1 ≥ day)
def goneL (day : Int) (l : List S30) : List S30 := l.filter fun x => decide (x.f1 < day)
def dropV (l : List S30) (day : Int) : List S30 × List S30 := if storeV l = true then (keepL day l, goneL day l) else ([], [])
theorem dropV_len (l : List S30) (day : Int) : (dropV l day).1.length ≤ l.length ∧ (dropV l day).2.length ≤ l.length := by
  unfold dropV
  split
  · exact ⟨List.length_filter_le _ _, List.length_filter_le _ _⟩
  · exact ⟨Nat.zero_le _, Nat.zero_le _⟩
theorem keep_cons (day : Int) (x : S30) (xs : List S30) (h : x.f1 ≥ day) : keepL day (x :: xs) = x :: keepL day xs ∧ goneL day (x :: xs) = goneL day xs := by
  unfold keepL goneL
  rw [List.filter_cons_of_pos (by simpa using h), List.filter_cons_of_neg (by simp; omega)]
  exact ⟨rfl, rfl⟩
theorem gone_cons (day : Int) (x : S30) (xs : List S30) (h : ¬ x.f1 ≥ day) : keepL day (x :: xs) = keepL day xs ∧ goneL day (x :: xs) = x :: goneL day xs := by
  unfold keepL goneL
  rw [List.filter_cons_of_neg (by simpa using h), List.filter_cons_of_pos (by simp; omega)]
  exact ⟨rfl, rfl⟩
theorem impl_StoreDrop_l0 (l : List S30) (hl : l.length ≤ 1000000) (day : Int) : ∀ (d i : Nat), i + d = l.length → ∀ (a b : List S30), a.length ≤ i → b.length ≤ i → ∀ k, d + 1 ≤ k → impl_StoreDrop.l0 k day a b l (l.length : Int) i = some (a ++ keepL day (l.drop i), b ++ goneL day (l.drop i)) := by
  intro d
  induction d with
  | zero =>
    intro i hi a b ha hb k hk
    obtain ⟨k, rfl, _⟩ := rounds1 hk
    rw [impl_StoreDrop.l0, if_neg (by omega), List.drop_of_length_le (by omega), keepL, goneL, List.filter_nil, List.filter_nil, List.append_nil, List.append_nil]
  | succ d ih =>
    intro i hi a b ha hb k hk
    obtain ⟨k, rfl, hk'⟩ := rounds1 hk
    rw [impl_StoreDrop.l0, if_pos (by omega), if_pos (by omega), if_pos (by omega), w64 ((i : Int) + 1) (by omega) (by omega), up, drop_lot l i (by omega)]
    by_cases c : (rd_T30 l (i : Int)).f1 ≥ day
    · have e := keep_cons day (rd_T30 l (i : Int)) (l.drop (i + 1)) c
      rw [if_pos c, if_pos (by omega), ih (i + 1) (by omega) _ _ (by rw [List.length_append, List.length_singleton]; omega) (by omega) k hk', e.1, e.2, List.append_assoc]
      rfl
    · have e := gone_cons day (rd_T30 l (i : Int)) (l.drop (i + 1)) c
      rw [if_neg c, if_pos (by omega), ih (i + 1) (by omega) _ _ (by omega) (by rw [List.length_append, List.length_singleton]; omega) k hk', e.1, e.2, List.append_assoc]
      rfl
theorem impl_StoreDrop_eq (l : List S30) (hl : l.length ≤ 1048576) (day : Int) (k : Nat) (hk : l.length + 4 ≤ k) : impl_StoreDrop.f k l day = some (dropV l day) := by
  unfold impl_StoreDrop.f dropV
  simp only [bsome]
  rw [impl_StoreValid_eq l (by omega) k hk]
  simp only [bsome]
  by_cases hv : storeV l = true
  · have h12 := ((storeV_iff l).1 hv).1
    have e := impl_StoreDrop_l0 l (by omega) day l.length 0 (by omega) [] [] (Nat.le_refl _) (Nat.le_refl _) k (by omega)
    rw [List.drop_zero, List.nil_append, List.nil_append] at e
    rw [if_pos hv, if_pos hv]
    exact e
  · rw [if_neg hv, if_neg hv]
theorem spec_StoreDrop_l0 (l : List S30) (hv : storeV l = true) (day : Int) : ∀ (d i : Nat), i + d = l.length → ∀ (a b : List S30), a.length ≤ i → b.length ≤ i → ∀ k, 2 * d + 20 ≤ k → spec_StoreDrop.l0 k l day a b i = some (a ++ keepL day (l.drop i), b ++ goneL day (l.drop i)) := by
  have h12 := ((storeV_iff l).1 hv).1
  intro d
  induction d with
  | zero =>
    intro i hi a b ha hb k hk
    obtain ⟨k, rfl⟩ : ∃ q, k = q + 1 + 1 := ⟨k - 2, by omega⟩
    generalize hq : k + 1 = q
    rw [spec_StoreDrop.l0, if_neg (by omega), ← hq, spec_StoreDrop.j1, if_neg (by simp), List.drop_of_length_le (by omega), keepL, goneL, List.filter_nil, List.filter_nil, List.append_nil, List.append_nil]
  | succ d ih =>
    intro i hi a b ha hb k hk
    obtain ⟨k, rfl⟩ : ∃ q, k = q + 1 + 1 := ⟨k - 2, by omega⟩
    generalize hq : k + 1 = q
    rw [spec_StoreDrop.l0, if_pos (by omega), spec_StoreValid_eq l (by omega) q (by omega), hv]
    simp only [bsome]
    rw [← hq, spec_StoreDrop.j1, if_pos rfl, if_pos (by omega), if_pos (by omega), w64 ((i : Int) + 1) (by omega) (by omega), up, drop_lot l i (by omega)]
    by_cases c : (rd_T30 l (i : Int)).f1 ≥ day
    · have e := keep_cons day (rd_T30 l (i : Int)) (l.drop (i + 1)) c
      rw [if_pos c, if_pos (by omega), ih (i + 1) (by omega) _ _ (by rw [List.length_append, List.length_singleton]; omega) (by omega) k (by omega), e.1, e.2, List.append_assoc]
      rfl
    · have e := gone_cons day (rd_T30 l (i : Int)) (l.drop (i + 1)) c
      rw [if_neg c, if_pos (by omega), ih (i + 1) (by omega) _ _ (by omega) (by rw [List.length_append, List.length_singleton]; omega) k (by omega), e.1, e.2, List.append_assoc]
      rfl
theorem spec_StoreDrop_eq (l : List S30) (hl : l.length ≤ 1048576) (day : Int) (k : Nat) (hk : 2 * l.length + 20 ≤ k) : spec_StoreDrop.f k l day = some (dropV l day) := by
  unfold spec_StoreDrop.f dropV
  by_cases hv : storeV l = true
  · have e := spec_StoreDrop_l0 l hv day l.length 0 (by omega) [] [] (Nat.le_refl _) (Nat.le_refl _) k (by omega)
    rw [List.drop_zero, List.nil_append, List.nil_append] at e
    rw [if_pos hv]
    exact e
  · rw [if_neg hv]
    obtain ⟨k, rfl⟩ : ∃ q, k = q + 1 + 1 := ⟨k - 2, by omega⟩
    generalize hq : k + 1 = q
    rw [spec_StoreDrop.l0]
    by_cases h : (0 : Int) < (l.length : Int)
    · rw [if_pos h, spec_StoreValid_eq l (by omega) q (by omega), Bool.eq_false_iff.2 hv]
      simp only [bsome]
      rw [← hq, spec_StoreDrop.j1, if_neg (by simp)]
    · rw [if_neg h, ← hq, spec_StoreDrop.j1, if_neg (by simp)]

end Go.Proofs.Ytcopoankphebcaa.B
