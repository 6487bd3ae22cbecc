/- Lemmas about the printed functions (useat). -/
import Derived.Test.YthmgfeokhjelmaaPAllx0
import Derived.Test.YthmgfeokhjelmaaPAllx3
import Derived.Test.YthmgfeokhjelmaaPAllx4
import Derived.Test.YthmgfeokhjelmaaPAllx5
import Derived.Test.YthmgfeokhjelmaaPAllx8
import Derived.Test.YthmgfeokhjelmaaPAllx9
import Derived.Test.YthmgfeokhjelmaaBbase
import Derived.Test.YthmgfeokhjelmaaBwithin
import Derived.Test.YthmgfeokhjelmaaBstepsv
import Derived.Test.YthmgfeokhjelmaaBstarts
import Derived.Test.YthmgfeokhjelmaaBrdset
namespace Go.Proofs.Ythmgfeokhjelmaa.B
open Go.RowKit Go.Proofs.Ythmgfeokhjelmaa.PAll Go.Proofs.YthmgfeokhjelmaaW.PrintWords Go.Proofs.YthmgfeokhjelmaaW.PrintLast
set_option linter.unusedVariables false
set_option linter.unusedSimpArgs false

/-! #### what the steps that are on at a minute need -/
def isOn (l : List S40) (s : List Int) (m i : Int) : Bool := decide (rd s i ≤ m ∧ m < rd s i + (rd_T40 l i).f0)
def useFrom (l : List S40) (s : List Int) (m : Int) : Nat → Int → Int → List Int → Int × List Int
  | 0, _, h, t => (h, t)
  | d + 1, i, h, t => if isOn l s m i = true then useFrom l s m d (i + 1) (h + (rd_T40 l i).f1) (if (rd_T40 l i).f2 > 0 then t.set ((rd_T40 l i).f2 - 1).toNat (rd t ((rd_T40 l i).f2 - 1) + 1) else t) else useFrom l s m d (i + 1) h t
def useOf (l : List S40) (s : List Int) (m : Int) : Int × List Int := useFrom l s m l.length 0 0 (List.replicate 4 0)
def planUseV (l : List S40) (s : List Int) (m : Int) : Int × List Int := if startsV l s = true then useOf l s m else (-1, [])
theorem useFrom_len (l : List S40) (s : List Int) (m : Int) : ∀ (d : Nat) (i h : Int) (t : List Int), (useFrom l s m d i h t).2.length = t.length := by
  intro d
  induction d with
  | zero => exact fun _ _ _ => rfl
  | succ d ih =>
    intro i h t
    rw [useFrom]
    split
    · rw [ih]
      split
      · rw [List.length_set]
      · rfl
    · rw [ih]
/-- small numbers: hands below 5 i, tools below i + 1 -/
def Small (i h : Int) (t : List Int) : Prop := 0 ≤ i ∧ 0 ≤ h ∧ h ≤ 4 * i ∧ t.length = 4 ∧ ∀ j : Int, 0 ≤ j → j < 4 → 0 ≤ rd t j ∧ rd t j ≤ i
theorem small_skip {i h : Int} {t : List Int} (s : Small i h t) : Small (i + 1) h t := by
  obtain ⟨a, b, c, d, e⟩ := s
  exact ⟨by omega, b, by omega, d, fun j j0 j1 => by have := e j j0 j1; omega⟩
theorem small_take {i h q v : Int} {t : List Int} (s : Small i h t) (q0 : 0 ≤ q) (q1 : q ≤ 4) (v1 : v ≤ 4) : Small (i + 1) (h + q) (if v > 0 then t.set (v - 1).toNat (rd t (v - 1) + 1) else t) := by
  obtain ⟨a, b, c, d, e⟩ := s
  by_cases p : v > 0
  · rw [if_pos p]
    refine ⟨by omega, by omega, by omega, by rw [List.length_set]; exact d, fun j j0 j1 => ?_⟩
    rw [rd_set_at t (v - 1) _ (by omega) (by omega) j j0]
    have := e j j0 j1
    have := e (v - 1) (by omega) (by omega)
    split <;> omega
  · rw [if_neg p]
    exact ⟨by omega, by omega, by omega, d, fun j j0 j1 => by have := e j j0 j1; omega⟩
theorem small_zero : Small 0 0 (List.replicate 4 0) := by
  refine ⟨by omega, by omega, by omega, by simp, fun j j0 j1 => ?_⟩
  rcases (by omega : j = 0 ∨ j = 1 ∨ j = 2 ∨ j = 3) with rfl | rfl | rfl | rfl <;> simp [rd, List.replicate]
theorem spec_l32Use_l0 (l : List S40) (s : List Int) (hv : startsV l s = true) (m : Int) : ∀ (d : Nat) (i h : Int) (t : List Int), i + d = l.length → Small i h t → ∀ k, d + 1 ≤ k → spec_l32Use.l0 k l s m h t i = some (useFrom l s m d i h t) := by
  obtain ⟨v1, v2, v3⟩ := (startsV_iff l s).1 hv
  obtain ⟨v4, v5⟩ := (stepsV_iff l).1 v1
  intro d
  induction d with
  | zero =>
    intro i h t hi sm k hk
    obtain ⟨k, rfl, _⟩ := rounds1 hk
    rw [spec_l32Use.l0, if_neg (by omega), useFrom]
  | succ d ih =>
    intro i h t hi sm k hk
    obtain ⟨k, rfl, hk'⟩ := rounds1 hk
    have i0 := sm.1
    have st := v3 i i0 (by omega)
    have sp := v5 i i0 (by omega)
    have sk := small_skip sm
    have tk := small_take (q := (rd_T40 l i).f1) (v := (rd_T40 l i).f2) sm (by omega) (by omega) (by omega)
    have go1 := ih (i + 1) h t (by omega) sk k hk'
    have go2 := ih (i + 1) _ _ (by omega) tk k hk'
    obtain ⟨_, h0, h1, t4, tr⟩ := sm
    have on : spec_l32On.f (rd_T40 l i).f0 (rd_T40 l i).f1 (rd_T40 l i).f2 (rd_T40 l i).f3 (rd s i) m = some (isOn l s m i) := by
      unfold spec_l32On.f isOn
      rw [w64 (rd s i + _) (by omega) (by omega)]
      by_cases c : rd s i ≤ m
      · rw [if_pos c]
        congr 1
        by_cases c2 : m < rd s i + (rd_T40 l i).f0
        · rw [decide_eq_true c2, decide_eq_true ⟨c, c2⟩]
        · rw [decide_eq_false c2, decide_eq_false (fun z => c2 z.2)]
      · rw [if_neg c, decide_eq_false (fun z => c z.1)]
    rw [spec_l32Use.l0, if_pos (by omega), if_pos i0, if_pos (by omega), on, useFrom]
    simp only [bsome]
    rw [w64 (i + 1) (by omega) (by omega)]
    by_cases c : isOn l s m i = true
    · rw [if_pos c, if_pos c, w64 (h + _) (by omega) (by omega)]
      by_cases p : (rd_T40 l i).f2 > 0
      · have q := tr ((rd_T40 l i).f2 - 1) (by omega) (by omega)
        rw [if_pos p] at go2 ⊢
        rw [w64 ((rd_T40 l i).f2 - 1) (by omega) (by omega), if_pos (by omega), if_pos (by omega), w64 (rd t _ + 1) (by omega) (by omega), go2, if_pos p]
      · rw [if_neg p] at go2 ⊢
        rw [go2, if_neg p]
    · rw [if_neg c, if_neg c]
      exact go1
theorem impl_useAt_l0 (l : List S40) (s : List Int) (hv : startsV l s = true) (m : Int) : ∀ (d : Nat) (i h : Int) (t : List Int), i + d = l.length → Small i h t → ∀ k, 2 * d + 1 ≤ k → impl_useAt.l0 k s m h t l (l.length : Int) i = some (useFrom l s m d i h t) := by
  obtain ⟨v1, v2, v3⟩ := (startsV_iff l s).1 hv
  obtain ⟨v4, v5⟩ := (stepsV_iff l).1 v1
  intro d
  induction d with
  | zero =>
    intro i h t hi sm k hk
    obtain ⟨k, rfl, _⟩ := rounds1 (k := k) (B := 0) (by omega)
    rw [impl_useAt.l0, if_neg (by omega), useFrom]
  | succ d ih =>
    intro i h t hi sm k hk
    obtain ⟨k, rfl, _⟩ := rounds1 (k := k) (B := 2 * d + 2) (by omega)
    obtain ⟨k, rfl, _⟩ := rounds1 (k := k) (B := 2 * d + 1) (by omega)
    have i0 := sm.1
    have st := v3 i i0 (by omega)
    have sp := v5 i i0 (by omega)
    have sk := small_skip sm
    have tk := small_take (q := (rd_T40 l i).f1) (v := (rd_T40 l i).f2) sm (by omega) (by omega) (by omega)
    have go1 := ih (i + 1) h t (by omega) sk k (by omega)
    have go2 := ih (i + 1) _ _ (by omega) tk k (by omega)
    obtain ⟨_, h0, h1, t4, tr⟩ := sm
    have J : ∀ b, impl_useAt.j1 (k + 1) s m h t l (l.length : Int) i b (rd_T40 l i).f0 (rd_T40 l i).f1 (rd_T40 l i).f2 (rd_T40 l i).f3 = if b = true then some (useFrom l s m d (i + 1) h t) else some (useFrom l s m d (i + 1) (h + (rd_T40 l i).f1) (if (rd_T40 l i).f2 > 0 then t.set ((rd_T40 l i).f2 - 1).toNat (rd t ((rd_T40 l i).f2 - 1) + 1) else t)) := by
      intro b
      rw [impl_useAt.j1, w64 (i + 1) (by omega) (by omega), go1]
      by_cases c : b = true
      · rw [if_pos c, if_pos c]
      · rw [if_neg c, if_neg c, w64 (h + _) (by omega) (by omega)]
        by_cases p : (rd_T40 l i).f2 > 0
        · have q := tr ((rd_T40 l i).f2 - 1) (by omega) (by omega)
          rw [if_pos p] at go2 ⊢
          rw [w64 ((rd_T40 l i).f2 - 1) (by omega) (by omega), if_pos (by omega), if_pos (by omega), w64 (rd t _ + 1) (by omega) (by omega), go2, if_pos p]
        · rw [if_neg p] at go2 ⊢
          rw [go2, if_neg p]
    rw [impl_useAt.l0, if_pos (by omega), if_pos i0, if_pos (by omega), if_pos (by omega), w64 (rd s i + _) (by omega) (by omega), J, J, useFrom]
    by_cases c : rd s i > m
    · have n : ¬ isOn l s m i = true := by
        unfold isOn
        rw [decide_eq_true_eq]
        omega
      rw [if_pos c, if_pos rfl, if_neg n]
    · rw [if_neg c]
      by_cases c2 : m ≥ rd s i + (rd_T40 l i).f0
      · have n : ¬ isOn l s m i = true := by
          unfold isOn
          rw [decide_eq_true_eq]
          omega
        rw [decide_eq_true c2, if_pos rfl, if_neg n]
      · have y : isOn l s m i = true := by
          unfold isOn
          rw [decide_eq_true_eq]
          omega
        rw [decide_eq_false c2, if_neg (by simp), if_pos y]
theorem spec_PlanUse_eq (l : List S40) (M : Nat) (hM : Inner l M) (s : List Int) (hs : s.length ≤ 1000000000) (m : Int) (k : Nat) (hk : s.length + (M + 4) * l.length + 20 ≤ k) : spec_PlanUse.f k l s m = some (planUseV l s m) := by
  unfold spec_PlanUse.f planUseV
  rw [spec_l32Starts_eq l M hM s hs k (by omega)]
  simp only [bsome]
  by_cases h : startsV l s = true
  · obtain ⟨v1, v2, v3⟩ := (startsV_iff l s).1 h
    have v4 := ((stepsV_iff l).1 v1).1
    rw [if_pos h, if_pos h]
    unfold spec_l32Use.f
    rw [if_pos (by omega), spec_l32Use_l0 l s h m l.length 0 0 _ (by omega) small_zero k (by omega)]
    rfl
  · rw [if_neg h, if_neg h]
theorem impl_PlanUse_eq (l : List S40) (M : Nat) (hM : Inner l M) (s : List Int) (hs : s.length ≤ 1000000000) (m : Int) (k : Nat) (hk : s.length + (M + 4) * l.length + 20 ≤ k) : impl_PlanUse.f k l s m = some (planUseV l s m) := by
  unfold impl_PlanUse.f planUseV
  rw [impl_startsValid_eq l M hM s hs k (by omega)]
  simp only [bsome]
  by_cases h : startsV l s = true
  · obtain ⟨v1, v2, v3⟩ := (startsV_iff l s).1 h
    have v4 := ((stepsV_iff l).1 v1).1
    rw [if_pos h, if_pos h]
    unfold impl_useAt.f
    rw [if_pos (by omega), impl_useAt_l0 l s h m l.length 0 0 _ (by omega) small_zero k (by omega)]
    rfl
  · rw [if_neg h, if_neg h]
theorem planUseV_len (l : List S40) (s : List Int) (m : Int) : (planUseV l s m).2.length ≤ 4 := by
  unfold planUseV useOf
  split
  · rw [useFrom_len]
    simp
  · simp

end Go.Proofs.Ythmgfeokhjelmaa.B
