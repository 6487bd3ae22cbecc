/- The pure statement of FnPlanEnd is proved: no step ends behind the end, and a later start ends no earlier. Conditions: none. -/
import Derived.Test.YtgdndnaonmcdkaaPAllx0
import Derived.Test.YtgdndnaonmcdkaaPAllx17
import Derived.Test.YtgdndnaonmcdkaaBbase
import Derived.Test.YtgdndnaonmcdkaaBpick
import Derived.Test.YtgdndnaonmcdkaaBwithin
import Derived.Test.YtgdndnaonmcdkaaBstepsv
import Derived.Test.YtgdndnaonmcdkaaBdrawsteps
import Derived.Test.YtgdndnaonmcdkaaBmaxfrom
import Derived.Test.YtgdndnaonmcdkaaBplanall
namespace Go.Proofs.Ytgdndnaonmcdkaa.Pure
open Go.RowKit Go.Proofs.Ytgdndnaonmcdkaa.PAll Go.Proofs.Ytgdndnaonmcdkaa.B Go.Proofs.YtgdndnaonmcdkaaW.PrintWords Go.Proofs.YtgdndnaonmcdkaaW.PrintLast
set_option linter.unusedVariables false
set_option linter.unusedSimpArgs false

theorem planEnd_more (l : List S29) (s : List Int) (hv : startsV l s = true) (i : Int) (i0 : 0 ≤ i) (hi : i < s.length) : planEndV l (s.set i.toNat (rd s i + 1)) ≥ 0 → planEndV l s ≤ planEndV l (s.set i.toNat (rd s i + 1)) := by
  intro h
  unfold planEndV at h ⊢
  by_cases c : startsV l (s.set i.toNat (rd s i + 1)) = true
  · rw [if_pos c, if_pos hv]
    have a := (startsV_iff l s).1 hv
    have m := maxFrom_spec (fun j => rd (s.set i.toNat (rd s i + 1)) j + (rd_T29 l j).f0) l.length 0 0
    refine maxFrom_le _ _ _ _ _ m.1 (fun j j0 j1 => ?_)
    have q := m.2.1 j j0 j1
    rw [rd_set_at s i _ i0 hi j j0] at q
    by_cases e : j = i
    · subst e
      rw [if_pos rfl] at q
      show rd s j + _ ≤ _
      omega
    · rw [if_neg e] at q
      exact q
  · rw [if_neg c] at h
    omega
theorem law_planend_l0 (l : List S29) (M : Nat) (hM : Inner l M) (s : List Int) (hv : startsV l s = true) (hz : (l.length : Int) > 0 ∨ planEndV l s = 0) : ∀ (d : Nat) (i : Int), 0 ≤ i → i + d = l.length → ∀ k, d + s.length + (M + 4) * l.length + 10 ≤ k → laws_FnPlanEnd.l0 k l s (planEndV l s) i = some true := by
  obtain ⟨h1, h2, h3⟩ := (startsV_iff l s).1 hv
  obtain ⟨h8, v5⟩ := (stepsV_iff l).1 h1
  intro d
  induction d with
  | zero =>
    intro i i0 hi k hk
    obtain ⟨k, rfl, _⟩ := rounds1 (k := k) (B := 0) (by omega)
    rw [laws_FnPlanEnd.l0, if_neg (by omega)]
    by_cases c : (l.length : Int) > 0
    · rw [if_pos c]
    · rw [if_neg c, hz.resolve_left c]
      rfl
  | succ d ih =>
    intro i i0 hi k hk
    obtain ⟨k, rfl, hk'⟩ := rounds1 (k := k) (B := d + s.length + (M + 4) * l.length + 10) (by omega)
    have r := starts_ready l s hv i i0 (by omega)
    have m := (maxFrom_spec (fun j => rd s j + (rd_T29 l j).f0) l.length 0 0).2.1 i i0 (by omega)
    have pe : planEndV l s = maxFrom (fun j => rd s j + (rd_T29 l j).f0) l.length 0 0 := by
      unfold planEndV
      rw [if_pos hv]
    rw [← pe] at m
    have m' : rd s i + (rd_T29 l i).f0 ≤ planEndV l s := m
    have more := planEnd_more l s hv i i0 (by omega)
    rw [laws_FnPlanEnd.l0, if_pos (by omega), if_pos i0, if_pos (by omega), w64 (rd s i + _) (by omega) (by omega), if_neg (by omega)]
    simp only [bsome]
    rw [if_pos (by simp; omega), List.nil_append, if_pos (by omega), w64 (rd s i + 1) (by omega) (by omega),
      impl_PlanEnd_eq l M hM _ (by rw [List.length_set]; omega) k (by rw [List.length_set]; omega)]
    simp only [bsome]
    rw [w64 (i + 1) (by omega) (by omega), ih (i + 1) (by omega) (by omega) k hk']
    by_cases c : planEndV l (s.set i.toNat (rd s i + 1)) ≥ 0
    · rw [if_pos c, if_neg (by have := more c; omega)]
    · rw [if_neg c]
theorem FnPlanEnd (l0 : List Int) (ok0 : CodeOk l0) : ∃ k, laws_FnPlanEnd.f k l0 = some true := by
  by_cases h1 : (l0.length : Int) > 1048576
  · exact ⟨0, by unfold laws_FnPlanEnd.f; rw [if_pos h1]⟩
  obtain ⟨k, hk⟩ : ∃ k : Nat, 20001 ≤ k := ⟨20001, Nat.le_refl _⟩
  obtain ⟨l, s, hB, hs, e⟩ := drawPlanEnd_ok l0 ok0 (k + 1) (by omega)
  have hM := inner_of hB
  have hl := hB.1
  refine ⟨k + 1, ?_⟩
  unfold laws_FnPlanEnd.f
  rw [if_neg h1, e]
  simp only [bsome]
  rw [impl_PlanEnd_eq l 10 hM s (by omega) _ (by omega), spec_PlanEnd_eq l 10 hM s (by omega) _ (by omega)]
  simp only [bsome, if_true]
  rw [laws_FnPlanEnd.j0]
  by_cases hv : startsV l s = true
  · have pe : planEndV l s = maxFrom (fun j => rd s j + (rd_T29 l j).f0) l.length 0 0 := by
      unfold planEndV
      rw [if_pos hv]
    have m := (maxFrom_spec (fun j => rd s j + (rd_T29 l j).f0) l.length 0 0).1
    rw [← pe] at m
    rw [decide_eq_false (by omega), if_neg (by simp)]
    refine law_planend_l0 l 10 hM s hv ?_ l.length 0 (by omega) (by omega) k (by omega)
    by_cases c : (l.length : Int) > 0
    · exact .inl c
    · right
      rw [pe, show l.length = 0 by omega]
      rfl
  · have pe : planEndV l s = -1 := by
      unfold planEndV
      rw [if_neg hv]
    rw [pe]
    rfl

end Go.Proofs.Ytgdndnaonmcdkaa.Pure
