/- The pure statement of FnStepsLonger is proved: a step that is longer by one makes the length the same or longer by one. Conditions: none. -/
import Derived.Test.YtegfpoagplpjiaaPAllx0
import Derived.Test.YtegfpoagplpjiaaPAllx21
import Derived.Test.YtegfpoagplpjiaaBbase
import Derived.Test.YtegfpoagplpjiaaBpick
import Derived.Test.YtegfpoagplpjiaaBwithin
import Derived.Test.YtegfpoagplpjiaaBstepsv
import Derived.Test.YtegfpoagplpjiaaBdrawsteps
import Derived.Test.YtegfpoagplpjiaaBstepsb
import Derived.Test.YtegfpoagplpjiaaBdrawslength
import Derived.Test.YtegfpoagplpjiaaBmaxfrom
import Derived.Test.YtegfpoagplpjiaaBearly
import Derived.Test.YtegfpoagplpjiaaBearlyspec
import Derived.Test.YtegfpoagplpjiaaBendof
import Derived.Test.YtegfpoagplpjiaaBlength
import Derived.Test.YtegfpoagplpjiaaBsetstep
namespace Go.Proofs.Ytegfpoagplpjiaa.Pure
open Go.RowKit Go.Proofs.Ytegfpoagplpjiaa.PAll Go.Proofs.Ytegfpoagplpjiaa.B Go.Proofs.YtegfpoagplpjiaaW.PrintWords Go.Proofs.YtegfpoagplpjiaaW.PrintLast
set_option linter.unusedVariables false
set_option linter.unusedSimpArgs false

theorem maxFrom_near (f g : Int → Int) : ∀ (d : Nat) (i a b : Int), a ≤ b → b ≤ a + 1 → (∀ j, i ≤ j → j < i + d → f j ≤ g j ∧ g j ≤ f j + 1) → maxFrom f d i a ≤ maxFrom g d i b ∧ maxFrom g d i b ≤ maxFrom f d i a + 1 := by
  intro d
  induction d with
  | zero => exact fun i a b h1 h2 _ => ⟨h1, h2⟩
  | succ d ih =>
    intro i a b h1 h2 h
    have p := h i (by omega) (by omega)
    have m := mx_spec a (f i)
    have n := mx_spec b (g i)
    exact ih (i + 1) (mx a (f i)) (mx b (g i)) (by omega) (by omega) fun j j0 j1 => h j (by omega) (by omega)
def longer (l : List S28) (m : Int) : List S28 := l.set m.toNat ⟨(rd_T28 l m).f0 + 1, (rd_T28 l m).f1, (rd_T28 l m).f2, (rd_T28 l m).f3⟩
theorem longer_len (l : List S28) (m : Int) : (longer l m).length = l.length := List.length_set
theorem longer_f (l : List S28) (m : Int) (h0 : 0 ≤ m) (h1 : m < l.length) (j : Int) (hj : 0 ≤ j) :
    (rd_T28 (longer l m) j).f0 = (rd_T28 l j).f0 + (if j = m then 1 else 0) ∧ (rd_T28 (longer l m) j).f1 = (rd_T28 l j).f1 ∧ (rd_T28 (longer l m) j).f2 = (rd_T28 l j).f2 ∧ (rd_T28 (longer l m) j).f3 = (rd_T28 l j).f3 := by
  unfold longer
  rw [rdStep_set l m _ h0 h1 j hj]
  by_cases e : j = m
  · subst e
    rw [if_pos rfl, if_pos rfl]
    exact ⟨rfl, rfl, rfl, rfl⟩
  · rw [if_neg e, if_neg e]
    exact ⟨by omega, rfl, rfl, rfl⟩
theorem longer_v (l : List S28) (m : Int) (h0 : 0 ≤ m) (h1 : m < l.length) (hv : stepsV l = true) (hm : (rd_T28 l m).f0 ≠ 99) : stepsV (longer l m) = true := by
  obtain ⟨h8, h⟩ := (stepsV_iff l).1 hv
  refine (stepsV_iff _).2 ⟨by rw [longer_len]; exact h8, fun i i0 hi => ?_⟩
  rw [longer_len] at hi
  obtain ⟨f0, f1, f2, f3⟩ := longer_f l m h0 h1 i i0
  have hs := h i i0 hi
  rw [f0, f1, f2, f3]
  refine ⟨?_, hs.2.1, hs.2.2.1, hs.2.2.2⟩
  by_cases e : i = m
  · subst e
    rw [if_pos rfl]
    omega
  · rw [if_neg e]
    omega
theorem ev_longer (l : List S28) (m : Int) (h0 : 0 ≤ m) (h1 : m < l.length) (hv : stepsV l = true) (hv' : stepsV (longer l m) = true) : ∀ (n : Nat), (n : Int) < l.length → ((n : Int) ≤ m → ev (longer l m) n = ev l n) ∧ ev l n ≤ ev (longer l m) n ∧ ev (longer l m) n ≤ ev l n + 1 := by
  obtain ⟨h8, h⟩ := (stepsV_iff l).1 hv
  intro n
  induction n using Nat.strongRecOn with
  | ind n ih =>
    intro hn
    have hs := h n (by omega) hn
    rw [ev_eq l hv n (by omega) hn, ev_eq (longer l m) hv' n (by omega) (by rw [longer_len]; exact hn), (longer_f l m h0 h1 n (by omega)).2.2.2]
    have all : ∀ j : Int, 0 ≤ j → j < (rd_T28 l n).f3.length → ((n : Int) ≤ m → endIn (longer l m) (ev (longer l m)) n j = endIn l (ev l) n j) ∧ endIn l (ev l) n j ≤ endIn (longer l m) (ev (longer l m)) n j ∧ endIn (longer l m) (ev (longer l m)) n j ≤ endIn l (ev l) n j + 1 := by
      intro j j0 j1
      have a := (hs.2.2.2 j j0 j1).1
      unfold endIn
      rw [(longer_f l m h0 h1 n (by omega)).2.2.2]
      generalize rd (rd_T28 l n).f3 j = x at a ⊢
      obtain ⟨y, rfl⟩ := Int.eq_ofNat_of_zero_le a.1
      have q := ih y (by omega) (by omega)
      have f := (longer_f l m h0 h1 (y : Int) (by omega)).1
      by_cases e : (y : Int) = m
      · rw [if_pos e] at f
        have q1 := q.1 (by omega)
        omega
      · rw [if_neg e] at f
        by_cases e' : (n : Int) ≤ m
        · have q1 := q.1 (by omega)
          omega
        · omega
    have near := maxFrom_near _ _ (rd_T28 l n).f3.length 0 0 0 (by omega) (by omega) fun j j0 j1 => (all j j0 (by omega)).2
    refine ⟨fun hle => ?_, near.1, near.2⟩
    exact maxFrom_congr _ _ _ _ _ fun j j0 j1 => (all j j0 (by omega)).1 hle
theorem lengthOf_longer (l : List S28) (m : Int) (h0 : 0 ≤ m) (h1 : m < l.length) (hv : stepsV l = true) (hv' : stepsV (longer l m) = true) : lengthOf l ≤ lengthOf (longer l m) ∧ lengthOf (longer l m) ≤ lengthOf l + 1 := by
  unfold lengthOf
  rw [longer_len]
  refine maxFrom_near _ _ l.length 0 0 0 (by omega) (by omega) fun j j0 j1 => ?_
  obtain ⟨y, rfl⟩ := Int.eq_ofNat_of_zero_le j0
  have q := ev_longer l m h0 h1 hv hv' y (by omega)
  have f := (longer_f l m h0 h1 (y : Int) (by omega)).1
  show ev l (y : Int) + _ ≤ ev (longer l m) (y : Int) + _ ∧ ev (longer l m) (y : Int) + _ ≤ ev l (y : Int) + _ + 1
  by_cases e : (y : Int) = m
  · rw [if_pos e] at f
    have q1 := q.1 (by omega)
    omega
  · rw [if_neg e] at f
    omega
theorem FnStepsLonger (l0 : List Int) (ok0 : CodeOk l0) (l1 : List Int) (ok1 : CodeOk l1) : ∃ k, laws_FnStepsLonger.f k l0 l1 = some true := by
  obtain ⟨l, hB, e⟩ := drawStepsLength_ok l0 ok0
  have hM := inner_of hB
  have hl := hB.1
  obtain ⟨k, hk⟩ : ∃ k : Nat, 2000 ≤ k := ⟨2000, Nat.le_refl _⟩
  refine ⟨k + 1 + 1, ?_⟩
  unfold laws_FnStepsLonger.f
  by_cases h1 : (l0.length : Int) > 1048576
  · rw [if_pos h1, laws_FnStepsLonger.j0, if_pos rfl]
  rw [if_neg h1]
  by_cases h2 : (l1.length : Int) > 1048576
  · rw [decide_eq_true h2, laws_FnStepsLonger.j0, if_pos rfl]
  rw [decide_eq_false h2, laws_FnStepsLonger.j0, if_neg (by simp), e _ (by omega)]
  simp only [bsome]
  rw [impl_StepsLength_eq l 10 hM _ (by omega), spec_StepsLength_eq l 10 hM _ (by omega)]
  simp only [bsome, if_true]
  by_cases hv : stepsV l = true
  · obtain ⟨h8, h⟩ := (stepsV_iff l).1 hv
    obtain ⟨r1, r2, r3⟩ := lengthOf_range l hv
    have hV : lengthV l = lengthOf l := by rw [lengthV, if_pos hv]
    rw [if_neg (by omega), laws_FnStepsLonger.j1]
    by_cases hn : (l.length : Int) = 0
    · rw [if_pos (by simp [hn])]
      simp
    · have m0 := Int.emod_nonneg (l1.length : Int) hn
      have m1 := Int.emod_lt_of_pos (l1.length : Int) (show 0 < (l.length : Int) by omega)
      rw [if_neg (by simpa using hn), if_neg hn, if_pos m0, if_pos m1]
      generalize (l1.length : Int) % (l.length : Int) = m at m0 m1 ⊢
      by_cases h99 : (rd_T28 l m).f0 = 99
      · rw [if_pos h99]
      · have hs := h m m0 m1
        have hv' := longer_v l m m0 m1 hv h99
        have hM' : Inner (longer l m) 10 := ⟨by rw [longer_len]; omega, by omega, fun i i0 hi => by rw [(longer_f l m m0 m1 i i0).2.2.2]; exact hM.2.2 i i0 (by rw [longer_len] at hi; exact hi)⟩
        have q := lengthOf_longer l m m0 m1 hv hv'
        rw [if_neg h99]
        simp only [bsome, List.nil_append, List.length_nil]
        rw [if_pos (by omega), if_pos (by omega), w64 _ (by omega) (by omega)]
        have hx := longer_len l m
        rw [show l.set m.toNat (⟨(rd_T28 l m).f0 + 1, (rd_T28 l m).f1, (rd_T28 l m).f2, (rd_T28 l m).f3⟩ : S28) = longer l m from rfl, impl_StepsLength_eq (longer l m) 10 hM' _ (by omega)]
        simp only [bsome]
        rw [lengthV, if_pos hv', hV, w64 (lengthOf l + 1) (by omega) (by omega)]
        by_cases e : lengthOf (longer l m) = lengthOf l
        · rw [if_pos e]
        · rw [if_neg e, show lengthOf (longer l m) = lengthOf l + 1 by omega]
          simp
  · have hV : lengthV l = -1 := by rw [lengthV, if_neg hv]
    rw [hV, if_pos (by omega), laws_FnStepsLonger.j1]
    simp

end Go.Proofs.Ytegfpoagplpjiaa.Pure
