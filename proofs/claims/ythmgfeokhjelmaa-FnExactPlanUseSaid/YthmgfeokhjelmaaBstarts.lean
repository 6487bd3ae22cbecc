/- Lemmas about the printed functions (starts). -/
import Derived.Test.YthmgfeokhjelmaaPAllx0
import Derived.Test.YthmgfeokhjelmaaPAllx3
import Derived.Test.YthmgfeokhjelmaaPAllx7
import Derived.Test.YthmgfeokhjelmaaBbase
import Derived.Test.YthmgfeokhjelmaaBwithin
import Derived.Test.YthmgfeokhjelmaaBstepsv
namespace Go.Proofs.Ythmgfeokhjelmaa.B
open Go.RowKit Go.Proofs.Ythmgfeokhjelmaa.PAll Go.Proofs.YthmgfeokhjelmaaW.PrintWords Go.Proofs.YthmgfeokhjelmaaW.PrintLast
set_option linter.unusedVariables false
set_option linter.unusedSimpArgs false

/-! #### starts of steps -/
def okStart (c : List Int) (i : Int) : Bool := decide (0 ≤ rd c i ∧ rd c i ≤ 999)
def startsV (l : List S40) (c : List Int) : Bool := allFrom (okStart c) c.length 0 && (stepsV l && decide ((c.length : Int) = (l.length : Int)))
theorem isStart_eq (a : Int) : impl_isStart.f a = some (decide (0 ≤ a ∧ a ≤ 999)) := by
  unfold impl_isStart.f
  rw [within_eq]
  simp only [bsome]
theorem spec_l32Starts_l0 (l : List S40) (M : Nat) (hM : Inner l M) (c : List Int) (hc : c.length ≤ 1000000000) : ∀ (d : Nat) (i : Int), 0 ≤ i → i + d = c.length → ∀ k, d + (M + 4) * l.length + 2 ≤ k →
    spec_l32Starts.l0 k l c i = some (allFrom (okStart c) d i && (stepsV l && decide ((c.length : Int) = (l.length : Int)))) := by
  intro d
  induction d with
  | zero =>
    intro i h0 hi k hk
    obtain ⟨k, rfl, _⟩ := rounds1 (k := k) (B := (M + 4) * l.length + 1) (by omega)
    rw [spec_l32Starts.l0, if_neg (by omega), spec_StepsValid_eq l M hM k (by omega), allFrom, Bool.true_and]
    simp only [bsome]
    cases stepsV l with
    | false => rfl
    | true =>
      rw [if_pos rfl, Bool.true_and]
      by_cases e : (c.length : Int) = (l.length : Int)
      · rw [e, beq_self_eq_true, decide_eq_true rfl]
      · rw [beq_eq_false_iff_ne.2 e, decide_eq_false e]
  | succ d ih =>
    intro i h0 hi k hk
    obtain ⟨k, rfl, hk'⟩ := rounds1 (k := k) (B := d + (M + 4) * l.length + 2) (by omega)
    rw [spec_l32Starts.l0, if_pos (by omega), if_pos h0, l6In_eq, w64 (i + 1) (by omega) (by omega), ih (i + 1) (by omega) (by omega) k hk', allFrom]
    simp only [bsome]
    by_cases h : 0 ≤ rd c i ∧ rd c i ≤ 999
    · rw [okStart, decide_eq_true h, if_pos rfl, Bool.true_and]
    · rw [okStart, decide_eq_false h, if_neg (by simp), Bool.false_and, Bool.false_and]
theorem spec_l32Starts_eq (l : List S40) (M : Nat) (hM : Inner l M) (c : List Int) (hc : c.length ≤ 1000000000) (k : Nat) (hk : c.length + (M + 4) * l.length + 2 ≤ k) : spec_l32Starts.f k l c = some (startsV l c) := by
  unfold spec_l32Starts.f startsV
  exact spec_l32Starts_l0 l M hM c hc c.length 0 (by omega) (by omega) k hk
theorem impl_startsValid_l0 (c : List Int) (hc : c.length ≤ 1000000000) : ∀ (d : Nat) (i : Int), 0 ≤ i → i + d = c.length → ∀ k, d + 1 ≤ k →
    ∃ r, impl_startsValid.l0 k c i = some r ∧ (!(decide (0 ≤ r))) = allFrom (okStart c) d i := by
  intro d
  induction d with
  | zero =>
    intro i h0 hi k hk
    obtain ⟨k, rfl, _⟩ := rounds1 hk
    refine ⟨-1, ?_, rfl⟩
    rw [impl_startsValid.l0, if_neg (by omega)]
  | succ d ih =>
    intro i h0 hi k hk
    obtain ⟨k, rfl, hk'⟩ := rounds1 hk
    by_cases h : 0 ≤ rd c i ∧ rd c i ≤ 999
    · obtain ⟨r, e, hr⟩ := ih (i + 1) (by omega) (by omega) k hk'
      refine ⟨r, ?_, ?_⟩
      · rw [impl_startsValid.l0, if_pos (by omega), if_pos h0, isStart_eq, w64 (i + 1) (by omega) (by omega), e]
        simp only [bsome]
        rw [decide_eq_true h, if_pos rfl]
      · rw [hr, allFrom, okStart, decide_eq_true h, Bool.true_and]
    · refine ⟨i, ?_, ?_⟩
      · rw [impl_startsValid.l0, if_pos (by omega), if_pos h0, isStart_eq]
        simp only [bsome]
        rw [decide_eq_false h, if_neg (by simp)]
      · rw [allFrom, okStart, decide_eq_false h, decide_eq_true h0]
        rfl
theorem impl_startsValid_eq (l : List S40) (M : Nat) (hM : Inner l M) (c : List Int) (hc : c.length ≤ 1000000000) (k : Nat) (hk : c.length + (M + 4) * l.length + 2 ≤ k) : impl_startsValid.f k l c = some (startsV l c) := by
  unfold impl_startsValid.f startsV
  rw [impl_StepsValid_eq l M hM k (by omega)]
  simp only [bsome]
  cases stepsV l with
  | false => simp
  | true =>
    rw [if_pos rfl, Bool.true_and]
    by_cases e : (c.length : Int) = (l.length : Int)
    · obtain ⟨r, e1, hr⟩ := impl_startsValid_l0 c hc c.length 0 (by omega) (by omega) k (by omega)
      rw [if_pos e, e1]
      simp only [bsome]
      rw [hr, decide_eq_true e, Bool.and_true]
    · rw [if_neg e, decide_eq_false e, Bool.and_false]
theorem startsV_iff (l : List S40) (c : List Int) : startsV l c = true ↔ stepsV l = true ∧ (c.length : Int) = (l.length : Int) ∧ ∀ i : Int, 0 ≤ i → i < c.length → 0 ≤ rd c i ∧ rd c i ≤ 999 := by
  unfold startsV
  rw [Bool.and_eq_true, Bool.and_eq_true, allFrom_iff, decide_eq_true_eq]
  constructor
  · rintro ⟨h1, h2, h3⟩
    refine ⟨h2, h3, fun i h0 hi => ?_⟩
    have := h1 i h0 (by omega)
    unfold okStart at this
    exact of_decide_eq_true this
  · rintro ⟨h1, h2, h3⟩
    exact ⟨fun i h0 hi => decide_eq_true (h3 i h0 (by omega)), h1, h2⟩

end Go.Proofs.Ythmgfeokhjelmaa.B
