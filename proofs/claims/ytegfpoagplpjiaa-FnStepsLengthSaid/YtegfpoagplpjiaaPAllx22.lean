-- PRINTED by print.py (a twelfth state) out of the translation. Not trusted: Lean checks it.
import Derived.Test.YtegfpoagplpjiaaPAllx0
import Derived.Test.YtegfpoagplpjiaaPAllx10
import Derived.Test.YtegfpoagplpjiaaPAllx11
import Derived.Test.YtegfpoagplpjiaaPAllx12
namespace Go.Proofs.Ytegfpoagplpjiaa.PAll
open Go.RowKit Go.Proofs.YtegfpoagplpjiaaW.PrintWords Go.Proofs.YtegfpoagplpjiaaW.PrintLast Go.Proofs.YtegfpoagplpjiaaW.PrintMore
attribute [local go_sem] max2_int min2_int max_two min_two max_three min_three max_four min_four   -- for this text's walks alone
set_option linter.unusedVariables false
set_option linter.unusedSimpArgs false

/-! ### laws_FnStepsLength: function 8 -/
mutual
def laws_FnStepsLength.j0 : Nat → List (S28) → Int → Int → Bool → Option (Bool)
 | 0, _, _, _, _ => none
 | k + 1, x3, x4, x5, x26 => if x26 = true then (some (x4 == x5)) else ((impl_StepsEarly.f k x3).bind fun t371 => (if (x3.length : Int) = 0 then (laws_FnStepsLength.j1 k x3 x4 t371 (x4 == 0)) else (laws_FnStepsLength.j1 k x3 x4 t371 false)))
def laws_FnStepsLength.j1 : Nat → List (S28) → Int → List Int → Bool → Option (Bool)
 | 0, _, _, _, _ => none
 | k + 1, x3, x4, x6, x7 => laws_FnStepsLength.l0 k x3 x4 x6 x7 0 0
def laws_FnStepsLength.l0 : Nat → List (S28) → Int → List Int → Bool → Int → Int → Option (Bool)
 | 0, _, _, _, _, _, _ => none
 | k + 1, x3, x4, x6, x7, x8, x9 => if x9 < (x3.length : Int) then (laws_FnStepsLength.j3 k x3 x4 x6 x7 x8 x9 (decide (x9 < (x6.length : Int)))) else (laws_FnStepsLength.j3 k x3 x4 x6 x7 x8 x9 false)
def laws_FnStepsLength.j3 : Nat → List (S28) → Int → List Int → Bool → Int → Int → Bool → Option (Bool)
 | 0, _, _, _, _, _, _, _ => none
 | k + 1, x3, x4, x6, x7, x8, x9, x48 => if x48 = true then (if 0 ≤ x9 then (if x9 < (x6.length : Int) then (if x9 < (x3.length : Int) then (if (wrap64 ((rd x6 x9) + ((rd_T28 x3 x9).f0))) > x4 then (some false) else (if ((rd_T28 x3 x9).f0) > x4 then (some false) else (if x7 = true then (laws_FnStepsLength.l0 k x3 x4 x6 true (wrap64 (x8 + ((rd_T28 x3 x9).f0))) (wrap64 (x9 + 1))) else (laws_FnStepsLength.l0 k x3 x4 x6 ((wrap64 ((rd x6 x9) + ((rd_T28 x3 x9).f0))) == x4) (wrap64 (x8 + ((rd_T28 x3 x9).f0))) (wrap64 (x9 + 1)))))) else (none)) else (none)) else (none)) else (if x7 = true then (some (decide (x4 ≤ x8))) else (some false))
end
def laws_FnStepsLength.f (k : Nat) (l0 : List Int) : Option (Bool) := if (l0.length : Int) > 1048576 then (some true) else ((spec_DrawStepsLength.f k l0).bind fun t366 => ((impl_StepsLength.f k t366).bind fun t369 => ((spec_StepsLength.f k t366).bind fun t370 => (if t369 = t370 then (laws_FnStepsLength.j0 k t366 t369 t370 (decide (t370 < 0))) else (laws_FnStepsLength.j0 k t366 t369 t370 true)))))
set_option maxHeartbeats 8000000 in
set_option maxRecDepth 100000 in
theorem laws_FnStepsLength.calls (k : Nat) (A0 : Option Addr) (c0 : Nat) (l0 : List Int) (r : Bool) (w : World) (hr0 : Kd.C (Kd.int .u8) w A0 l0.length l0) (hc0 : l0.length ≤ c0) (h : laws_FnStepsLength.f k l0 = some r) :
  Calls Try.prog 8 #[.slice A0 l0.length c0] w fun e w' => e = .returned (.bool r) ∧ Below w.heap.size w w' := by
 have HR0 := Aside0.mk hr0
 have HC0 := Aside0.mk hc0
 clear hr0 hc0
 have HB := Aside0.mk (Below.refl w.heap.size w)
 have H : (if (l0.length : Int) > 1048576 then (some true) else ((spec_DrawStepsLength.f k l0).bind fun t366 => ((impl_StepsLength.f k t366).bind fun t369 => ((spec_StepsLength.f k t366).bind fun t370 => (if t369 = t370 then (laws_FnStepsLength.j0 k t366 t369 t370 (decide (t370 < 0))) else (laws_FnStepsLength.j0 k t366 t369 t370 true)))))) = some r := h
 clear h
 by_cases c2 : (l0.length : Int) > 1048576
 ·rw [if_pos c2] at H
  have c2b0 : decide (1048576 < (l0.length : Int)) = true := decide_eq_true c2
  have c2b1 : decide (1048576 < l0.length) = true := decide_eq_true (by omega)
  clear c2
  obtain rfl := Option.some.inj H
  go_enter Try.func8, Try.ntmps8
  go_wp2
  repeat (go_quiet (fail); try go_wp2)
  go_ret
  exact ⟨by first | rfl | (simp [errW_none, errW_some] <;> rfl) | (simp [*, errW_none, errW_some] <;> rfl), by repeat (first | (with_reducible first | exact HB.out | apply below_alloc | apply pw_below_drewN | apply below_drew1) | exact HB.out)⟩
 ·rw [if_neg c2] at H
  have c2b0 : decide (1048576 < (l0.length : Int)) = false := decide_eq_false c2
  have c2b1 : decide (1048576 < l0.length) = false := decide_eq_false (by omega)
  clear c2
  replace H := Option.bind_eq_some_iff.mp H
  obtain ⟨t366, A30, H⟩ := H
  replace H : ((impl_StepsLength.f k t366).bind fun t369 => ((spec_StepsLength.f k t366).bind fun t370 => (if t369 = t370 then (laws_FnStepsLength.j0 k t366 t369 t370 (decide (t370 < 0))) else (laws_FnStepsLength.j0 k t366 t369 t370 true)))) = some r := H
  have A3 := Aside0.mk A30
  clear A30
  replace H := Option.bind_eq_some_iff.mp H
  obtain ⟨t369, A40, H⟩ := H
  replace H : ((spec_StepsLength.f k t366).bind fun t370 => (if t369 = t370 then (laws_FnStepsLength.j0 k t366 t369 t370 (decide (t370 < 0))) else (laws_FnStepsLength.j0 k t366 t369 t370 true))) = some r := H
  have A4 := Aside0.mk A40
  clear A40
  replace H := Option.bind_eq_some_iff.mp H
  obtain ⟨t370, A50, H⟩ := H
  replace H : (if t369 = t370 then (laws_FnStepsLength.j0 k t366 t369 t370 (decide (t370 < 0))) else (laws_FnStepsLength.j0 k t366 t369 t370 true)) = some r := H
  have A5 := Aside0.mk A50
  clear A50
  have HC6 := Aside0.mk H
  clear H
  go_enter Try.func8, Try.ntmps8
  go_upto_region 6 with (first | (go_at_call 29; (with_reducible refine (spec_DrawStepsLength.calls k _ _ l0 t366 _ ?side1 ?side2 A3.out).mono ?_); (case side1 => repeat (first | exact HR0.out | (with_reducible refine Kd.C_alloc ?_ _) | (with_reducible refine Kd.C_drewN ?_ _) | (with_reducible refine Kd.C_drew ?_))); (case side2 => exact HC0.out); rintro e w7 ⟨v367, rfl, ho0, hb⟩; have n0_ := Aside0.mk (Kd.S_lower ho0 (below_size (by repeat (first | (with_reducible first | exact HB.out | apply below_alloc | apply pw_below_drewN | apply below_drew1) | exact HB.out)))); have n1_ := Aside0.mk (below_step (by repeat (first | (with_reducible first | exact HB.out | apply below_alloc | apply pw_below_drewN | apply below_drew1) | exact HB.out)) hb); clear HB; have HO368 := n0_; have HB := n1_; clear n0_ n1_; (try clear hb); (try clear hb2); (try clear hk); (try clear hi); (try clear ho0); obtain ⟨Ao8, co8, eo8⟩ := Kd.S_slice HO368.out; subst eo8) | (go_at_call 30; (with_reducible refine (impl_StepsLength.calls k _ _ t366 t369 _ ?side1 ?side2 A4.out).mono ?_); (case side1 => repeat (first | exact (Kd.S_reads' HO368.out).2.2 | (with_reducible refine Kd.C_alloc ?_ _) | (with_reducible refine Kd.C_drewN ?_ _) | (with_reducible refine Kd.C_drew ?_))); (case side2 => exact (Kd.S_reads' HO368.out).2.1); rintro e w9 ⟨rfl, hb⟩; have n0_ := Aside0.mk (Kd.S_below (by (with_reducible repeat (first | apply Kd.S_alloc | apply Kd.S_drewN | apply Kd.S_drew)); exact HO368.out) hb); have n1_ := Aside0.mk (below_step (by repeat (first | (with_reducible first | exact HB.out | apply below_alloc | apply pw_below_drewN | apply below_drew1) | exact HB.out)) hb); clear HO368; clear HB; have HO368 := n0_; have HB := n1_; clear n0_ n1_; (try clear hb); (try clear hb2); (try clear hk); (try clear hi)) | (go_at_call 31; (with_reducible refine (spec_StepsLength.calls k _ _ t366 t370 _ ?side1 ?side2 A5.out).mono ?_); (case side1 => repeat (first | exact (Kd.S_reads' HO368.out).2.2 | (with_reducible refine Kd.C_alloc ?_ _) | (with_reducible refine Kd.C_drewN ?_ _) | (with_reducible refine Kd.C_drew ?_))); (case side2 => exact (Kd.S_reads' HO368.out).2.1); rintro e w10 ⟨rfl, hb⟩; have n0_ := Aside0.mk (Kd.S_below (by (with_reducible repeat (first | apply Kd.S_alloc | apply Kd.S_drewN | apply Kd.S_drew)); exact HO368.out) hb); have n1_ := Aside0.mk (below_step (by repeat (first | (with_reducible first | exact HB.out | apply below_alloc | apply pw_below_drewN | apply below_drew1) | exact HB.out)) hb); clear HO368; clear HB; have HO368 := n0_; have HB := n1_; clear n0_ n1_; (try clear hb); (try clear hb2); (try clear hk); (try clear hi)))
  repeat (go_quiet (first | (go_at_call 29; (with_reducible refine (spec_DrawStepsLength.calls k _ _ l0 t366 _ ?side1 ?side2 A3.out).mono ?_); (case side1 => repeat (first | exact HR0.out | (with_reducible refine Kd.C_alloc ?_ _) | (with_reducible refine Kd.C_drewN ?_ _) | (with_reducible refine Kd.C_drew ?_))); (case side2 => exact HC0.out); rintro e w7 ⟨v367, rfl, ho0, hb⟩; have n0_ := Aside0.mk (Kd.S_lower ho0 (below_size (by repeat (first | (with_reducible first | exact HB.out | apply below_alloc | apply pw_below_drewN | apply below_drew1) | exact HB.out)))); have n1_ := Aside0.mk (below_step (by repeat (first | (with_reducible first | exact HB.out | apply below_alloc | apply pw_below_drewN | apply below_drew1) | exact HB.out)) hb); clear HB; have HO368 := n0_; have HB := n1_; clear n0_ n1_; (try clear hb); (try clear hb2); (try clear hk); (try clear hi); (try clear ho0); obtain ⟨Ao8, co8, eo8⟩ := Kd.S_slice HO368.out; subst eo8) | (go_at_call 30; (with_reducible refine (impl_StepsLength.calls k _ _ t366 t369 _ ?side1 ?side2 A4.out).mono ?_); (case side1 => repeat (first | exact (Kd.S_reads' HO368.out).2.2 | (with_reducible refine Kd.C_alloc ?_ _) | (with_reducible refine Kd.C_drewN ?_ _) | (with_reducible refine Kd.C_drew ?_))); (case side2 => exact (Kd.S_reads' HO368.out).2.1); rintro e w9 ⟨rfl, hb⟩; have n0_ := Aside0.mk (Kd.S_below (by (with_reducible repeat (first | apply Kd.S_alloc | apply Kd.S_drewN | apply Kd.S_drew)); exact HO368.out) hb); have n1_ := Aside0.mk (below_step (by repeat (first | (with_reducible first | exact HB.out | apply below_alloc | apply pw_below_drewN | apply below_drew1) | exact HB.out)) hb); clear HO368; clear HB; have HO368 := n0_; have HB := n1_; clear n0_ n1_; (try clear hb); (try clear hb2); (try clear hk); (try clear hi)) | (go_at_call 31; (with_reducible refine (spec_StepsLength.calls k _ _ t366 t370 _ ?side1 ?side2 A5.out).mono ?_); (case side1 => repeat (first | exact (Kd.S_reads' HO368.out).2.2 | (with_reducible refine Kd.C_alloc ?_ _) | (with_reducible refine Kd.C_drewN ?_ _) | (with_reducible refine Kd.C_drew ?_))); (case side2 => exact (Kd.S_reads' HO368.out).2.1); rintro e w10 ⟨rfl, hb⟩; have n0_ := Aside0.mk (Kd.S_below (by (with_reducible repeat (first | apply Kd.S_alloc | apply Kd.S_drewN | apply Kd.S_drew)); exact HO368.out) hb); have n1_ := Aside0.mk (below_step (by repeat (first | (with_reducible first | exact HB.out | apply below_alloc | apply pw_below_drewN | apply below_drew1) | exact HB.out)) hb); clear HO368; clear HB; have HO368 := n0_; have HB := n1_; clear n0_ n1_; (try clear hb); (try clear hb2); (try clear hk); (try clear hi))); go_upto_region 6 with (first | (go_at_call 29; (with_reducible refine (spec_DrawStepsLength.calls k _ _ l0 t366 _ ?side1 ?side2 A3.out).mono ?_); (case side1 => repeat (first | exact HR0.out | (with_reducible refine Kd.C_alloc ?_ _) | (with_reducible refine Kd.C_drewN ?_ _) | (with_reducible refine Kd.C_drew ?_))); (case side2 => exact HC0.out); rintro e w7 ⟨v367, rfl, ho0, hb⟩; have n0_ := Aside0.mk (Kd.S_lower ho0 (below_size (by repeat (first | (with_reducible first | exact HB.out | apply below_alloc | apply pw_below_drewN | apply below_drew1) | exact HB.out)))); have n1_ := Aside0.mk (below_step (by repeat (first | (with_reducible first | exact HB.out | apply below_alloc | apply pw_below_drewN | apply below_drew1) | exact HB.out)) hb); clear HB; have HO368 := n0_; have HB := n1_; clear n0_ n1_; (try clear hb); (try clear hb2); (try clear hk); (try clear hi); (try clear ho0); obtain ⟨Ao8, co8, eo8⟩ := Kd.S_slice HO368.out; subst eo8) | (go_at_call 30; (with_reducible refine (impl_StepsLength.calls k _ _ t366 t369 _ ?side1 ?side2 A4.out).mono ?_); (case side1 => repeat (first | exact (Kd.S_reads' HO368.out).2.2 | (with_reducible refine Kd.C_alloc ?_ _) | (with_reducible refine Kd.C_drewN ?_ _) | (with_reducible refine Kd.C_drew ?_))); (case side2 => exact (Kd.S_reads' HO368.out).2.1); rintro e w9 ⟨rfl, hb⟩; have n0_ := Aside0.mk (Kd.S_below (by (with_reducible repeat (first | apply Kd.S_alloc | apply Kd.S_drewN | apply Kd.S_drew)); exact HO368.out) hb); have n1_ := Aside0.mk (below_step (by repeat (first | (with_reducible first | exact HB.out | apply below_alloc | apply pw_below_drewN | apply below_drew1) | exact HB.out)) hb); clear HO368; clear HB; have HO368 := n0_; have HB := n1_; clear n0_ n1_; (try clear hb); (try clear hb2); (try clear hk); (try clear hi)) | (go_at_call 31; (with_reducible refine (spec_StepsLength.calls k _ _ t366 t370 _ ?side1 ?side2 A5.out).mono ?_); (case side1 => repeat (first | exact (Kd.S_reads' HO368.out).2.2 | (with_reducible refine Kd.C_alloc ?_ _) | (with_reducible refine Kd.C_drewN ?_ _) | (with_reducible refine Kd.C_drew ?_))); (case side2 => exact (Kd.S_reads' HO368.out).2.1); rintro e w10 ⟨rfl, hb⟩; have n0_ := Aside0.mk (Kd.S_below (by (with_reducible repeat (first | apply Kd.S_alloc | apply Kd.S_drewN | apply Kd.S_drew)); exact HO368.out) hb); have n1_ := Aside0.mk (below_step (by repeat (first | (with_reducible first | exact HB.out | apply below_alloc | apply pw_below_drewN | apply below_drew1) | exact HB.out)) hb); clear HO368; clear HB; have HO368 := n0_; have HB := n1_; clear n0_ n1_; (try clear hb); (try clear hb2); (try clear hk); (try clear hi))))
  (try simp only [Act.put, List.setIfInBounds_toArray, List.set_cons_zero, List.set_cons_succ])
  go_cut [26] (fun v26 wc => ∃ (kq : Nat) (x26_5 : Bool), v26 = .bool x26_5 ∧ Aside0 (laws_FnStepsLength.j0 kq t366 t369 t370 x26_5 = some r) ∧ Aside0 (kq ≤ k) ∧ Aside0 (Kd.S k28 28 wc w.heap.size (fun _ => True) (.slice Ao8 t366.length co8) t366) ∧ Aside0 (Below w.heap.size w wc))
  case first =>
   have H := HC6.out
   clear HC6
   by_cases c11 : t369 = t370
   ·rw [if_pos c11] at H
    have c11b0 : (t369 == t370) = true := beq_iff_eq.mpr c11
    have c11b1 : (t369 != t370) = false := bne_eq_false_iff_eq.mpr c11
    clear c11
    (first | rw [c11b0] | (simp only [i64_w, i32_w]; rw [c11b0]) | skip)
    have H' := Aside0.mk H
    clear H
    go_wp2
    repeat (go_quiet (fail); try go_wp2)
    go_meet
    case rel => exact ⟨_, (decide (t370 < 0)), (by first | rfl | (simp; done) | (simp [*]; done)), H', ⟨by first | omega | exact Nat.le_refl _⟩, ⟨by (with_reducible repeat (first | apply Kd.S_alloc | apply Kd.S_drewN | apply Kd.S_drew)); exact HO368.out⟩, ⟨by repeat (first | (with_reducible first | exact HB.out | apply below_alloc | apply pw_below_drewN | apply below_drew1) | exact HB.out)⟩⟩
   ·rw [if_neg c11] at H
    have c11b0 : (t369 == t370) = false := beq_eq_false_iff_ne.mpr c11
    have c11b1 : (t369 != t370) = true := bne_iff_ne.mpr c11
    (first | rw [c11b0] | (simp only [i64_w, i32_w]; rw [c11b0]) | skip)
    have H' := Aside0.mk H
    clear H
    go_wp2
    repeat (go_quiet (fail); try go_wp2)
    go_meet
    case rel => exact ⟨_, (true), (by first | rfl | (simp; done) | (simp [*]; done)), H', ⟨by first | omega | exact Nat.le_refl _⟩, ⟨by (with_reducible repeat (first | apply Kd.S_alloc | apply Kd.S_drewN | apply Kd.S_drew)); exact HO368.out⟩, ⟨by repeat (first | (with_reducible first | exact HB.out | apply below_alloc | apply pw_below_drewN | apply below_drew1) | exact HB.out)⟩⟩
  case rest =>
   clear HC6
   try clear c1
   try clear c2
   try clear c2b0
   try clear c2b1
   try clear p2
   try clear c8
   try clear c11
   try clear c11b0
   try clear c11b1
   obtain ⟨kq, x26_5, rfl, HA, HJ5, HO_3, HB⟩ := hcut
   cases kq with
   | zero => exact absurd HA.out (by simp [laws_FnStepsLength.j0])
   | succ kj5 =>
    have H := HA.out
    clear HA
    simp only [laws_FnStepsLength.j0] at H
    by_cases c12 : x26_5 = true
    ·subst c12
     have H1 : (some (t369 == t370)) = some r := by rw [if_pos rfl] at H; exact H
     clear H
     have H := H1
     clear H1
     obtain rfl := Option.some.inj H
     go_wp2
     repeat (go_quiet (fail); try go_wp2)
     go_ret
     exact ⟨by first | rfl | (simp [errW_none, errW_some] <;> rfl) | (simp [*, errW_none, errW_some] <;> rfl), by repeat (first | (with_reducible first | exact HB.out | apply below_alloc | apply pw_below_drewN | apply below_drew1) | exact HB.out)⟩
    ·replace c12 := Bool.eq_false_iff.mpr c12
     subst c12
     have H1 : ((impl_StepsEarly.f kj5 t366).bind fun t371 => (if (t366.length : Int) = 0 then (laws_FnStepsLength.j1 kj5 t366 t369 t371 (t369 == 0)) else (laws_FnStepsLength.j1 kj5 t366 t369 t371 false))) = some r := by rw [if_neg (show ¬ (false = true) by decide)] at H; exact H
     clear H
     have H := H1
     clear H1
     replace H := Option.bind_eq_some_iff.mp H
     obtain ⟨t371, A130, H⟩ := H
     replace H : (if (t366.length : Int) = 0 then (laws_FnStepsLength.j1 kj5 t366 t369 t371 (t369 == 0)) else (laws_FnStepsLength.j1 kj5 t366 t369 t371 false)) = some r := H
     have A13 := Aside0.mk A130
     clear A130
     have HC14 := Aside0.mk H
     clear H
     go_upto_region 9 with (first | (go_at_call 26; (with_reducible refine (impl_StepsEarly.calls kj5 _ _ t366 t371 _ ?side1 ?side2 A13.out).mono ?_); (case side1 => repeat (first | exact (Kd.S_reads' HO_3.out).2.2 | (with_reducible refine Kd.C_alloc ?_ _) | (with_reducible refine Kd.C_drewN ?_ _) | (with_reducible refine Kd.C_drew ?_))); (case side2 => exact (Kd.S_reads' HO_3.out).2.1); rintro e w15 ⟨v372, rfl, ho0, hb⟩; have n0_ := Aside0.mk (Kd.S_elder' (by (with_reducible repeat (first | apply Kd.S_alloc | apply Kd.S_drewN | apply Kd.S_drew)); exact HO_3.out) (Kd.R_base ho0) hb); have n1_ := Aside0.mk (Kd.R_lower ho0 (below_size (by repeat (first | (with_reducible first | exact HB.out | apply below_alloc | apply pw_below_drewN | apply below_drew1) | exact HB.out)))); have n2_ := Aside0.mk (below_step (by repeat (first | (with_reducible first | exact HB.out | apply below_alloc | apply pw_below_drewN | apply below_drew1) | exact HB.out)) hb); clear HO_3; clear HB; have HO_3 := n0_; have HO373 := n1_; have HB := n2_; clear n0_ n1_ n2_; (try clear hb); (try clear hb2); (try clear hk); (try clear hi); (try clear ho0)))
     repeat (go_quiet (first | (go_at_call 26; (with_reducible refine (impl_StepsEarly.calls kj5 _ _ t366 t371 _ ?side1 ?side2 A13.out).mono ?_); (case side1 => repeat (first | exact (Kd.S_reads' HO_3.out).2.2 | (with_reducible refine Kd.C_alloc ?_ _) | (with_reducible refine Kd.C_drewN ?_ _) | (with_reducible refine Kd.C_drew ?_))); (case side2 => exact (Kd.S_reads' HO_3.out).2.1); rintro e w15 ⟨v372, rfl, ho0, hb⟩; have n0_ := Aside0.mk (Kd.S_elder' (by (with_reducible repeat (first | apply Kd.S_alloc | apply Kd.S_drewN | apply Kd.S_drew)); exact HO_3.out) (Kd.R_base ho0) hb); have n1_ := Aside0.mk (Kd.R_lower ho0 (below_size (by repeat (first | (with_reducible first | exact HB.out | apply below_alloc | apply pw_below_drewN | apply below_drew1) | exact HB.out)))); have n2_ := Aside0.mk (below_step (by repeat (first | (with_reducible first | exact HB.out | apply below_alloc | apply pw_below_drewN | apply below_drew1) | exact HB.out)) hb); clear HO_3; clear HB; have HO_3 := n0_; have HO373 := n1_; have HB := n2_; clear n0_ n1_ n2_; (try clear hb); (try clear hb2); (try clear hk); (try clear hi); (try clear ho0))); go_upto_region 9 with (first | (go_at_call 26; (with_reducible refine (impl_StepsEarly.calls kj5 _ _ t366 t371 _ ?side1 ?side2 A13.out).mono ?_); (case side1 => repeat (first | exact (Kd.S_reads' HO_3.out).2.2 | (with_reducible refine Kd.C_alloc ?_ _) | (with_reducible refine Kd.C_drewN ?_ _) | (with_reducible refine Kd.C_drew ?_))); (case side2 => exact (Kd.S_reads' HO_3.out).2.1); rintro e w15 ⟨v372, rfl, ho0, hb⟩; have n0_ := Aside0.mk (Kd.S_elder' (by (with_reducible repeat (first | apply Kd.S_alloc | apply Kd.S_drewN | apply Kd.S_drew)); exact HO_3.out) (Kd.R_base ho0) hb); have n1_ := Aside0.mk (Kd.R_lower ho0 (below_size (by repeat (first | (with_reducible first | exact HB.out | apply below_alloc | apply pw_below_drewN | apply below_drew1) | exact HB.out)))); have n2_ := Aside0.mk (below_step (by repeat (first | (with_reducible first | exact HB.out | apply below_alloc | apply pw_below_drewN | apply below_drew1) | exact HB.out)) hb); clear HO_3; clear HB; have HO_3 := n0_; have HO373 := n1_; have HB := n2_; clear n0_ n1_ n2_; (try clear hb); (try clear hb2); (try clear hk); (try clear hi); (try clear ho0))))
     (try simp only [Act.put, List.setIfInBounds_toArray, List.set_cons_zero, List.set_cons_succ])
     go_cut [7] (fun v7 wc => ∃ (kq : Nat) (x7_13 : Bool), v7 = .bool x7_13 ∧ Aside0 (laws_FnStepsLength.j1 kq t366 t369 t371 x7_13 = some r) ∧ Aside0 (kq ≤ kj5) ∧ Aside0 (Kd.S k28 28 wc w.heap.size (fun k_ => some k_ ≠ (v372 : Value).ownBlock) (.slice Ao8 t366.length co8) t366) ∧ Aside0 (Kd.R (Kd.int .i64) 3 wc w.heap.size (fun _ => True) v372 t371) ∧ Aside0 (Below w.heap.size w wc))
     case first =>
      have H := HC14.out
      clear HC14
      by_cases c16 : (t366.length : Int) = 0
      ·rw [if_pos c16] at H
       have c16b0 : ((t366.length : Int) == 0) = true := beq_iff_eq.mpr c16
       have c16b1 : ((t366.length : Int) != 0) = false := bne_eq_false_iff_eq.mpr c16
       clear c16
       (first | rw [c16b0] | (simp only [i64_w, i32_w]; rw [c16b0]) | skip)
       have H' := Aside0.mk H
       clear H
       go_wp2
       repeat (go_quiet (fail); try go_wp2)
       go_meet
       case rel => exact ⟨_, ((t369 == 0)), (by first | rfl | (simp; done) | (simp [*]; done)), H', ⟨by have := HJ5.out; first | omega | exact Nat.le_refl _⟩, ⟨by (with_reducible repeat (first | apply Kd.S_alloc | apply Kd.S_drewN | apply Kd.S_drew)); exact Kd.S_mono HO_3.out (fun _ hk => hk.2)⟩, ⟨by (with_reducible repeat (first | apply Kd.R_alloc | apply Kd.R_drewN | apply Kd.R_drew)); exact HO373.out⟩, ⟨by repeat (first | (with_reducible first | exact HB.out | apply below_alloc | apply pw_below_drewN | apply below_drew1) | exact HB.out)⟩⟩
      ·rw [if_neg c16] at H
       have c16b0 : ((t366.length : Int) == 0) = false := beq_eq_false_iff_ne.mpr c16
       have c16b1 : ((t366.length : Int) != 0) = true := bne_iff_ne.mpr c16
       have c16b2 : ¬ (t366 = []) := fun h_ => c16 (by rw [h_]; rfl)
       (first | rw [c16b0] | (simp only [i64_w, i32_w]; rw [c16b0]) | skip)
       have H' := Aside0.mk H
       clear H
       go_wp2
       repeat (go_quiet (fail); try go_wp2)
       go_meet
       case rel => exact ⟨_, (false), (by first | rfl | (simp; done) | (simp [*]; done)), H', ⟨by have := HJ5.out; first | omega | exact Nat.le_refl _⟩, ⟨by (with_reducible repeat (first | apply Kd.S_alloc | apply Kd.S_drewN | apply Kd.S_drew)); exact Kd.S_mono HO_3.out (fun _ hk => hk.2)⟩, ⟨by (with_reducible repeat (first | apply Kd.R_alloc | apply Kd.R_drewN | apply Kd.R_drew)); exact HO373.out⟩, ⟨by repeat (first | (with_reducible first | exact HB.out | apply below_alloc | apply pw_below_drewN | apply below_drew1) | exact HB.out)⟩⟩
     case rest =>
      clear HC14
      try clear c1
      try clear c2
      try clear c2b0
      try clear c2b1
      try clear p2
      try clear c8
      try clear c11
      try clear c11b0
      try clear c11b1
      try clear c12
      try clear c16
      try clear c16b0
      try clear c16b1
      try clear c16b2
      try clear p2
      obtain ⟨kq, x7_13, rfl, HA, HJ13, HO_3, HO_6, HB⟩ := hcut
      cases kq with
      | zero => exact absurd HA.out (by simp [laws_FnStepsLength.j1])
      | succ kj13 =>
       have H := HA.out
       clear HA
       simp only [laws_FnStepsLength.j1] at H
       have H' := Aside0.mk H
       clear H
       go_wp2
       repeat (go_quiet (fail); try go_wp2)
       go_loopg [7, 8, 9] kj13 (fun kq v7 v8 v9 w' => ∃ (x7_3 : Bool) (x8_3 : Int) (x9_3 : Int), v7 = .bool x7_3 ∧ v8 = .int .i64 x8_3 ∧ v9 = .int .i64 x9_3 ∧ Aside0 (laws_FnStepsLength.l0 kq t366 t369 t371 x7_3 x8_3 x9_3 = some r) ∧ Aside0 (kq ≤ kj13) ∧ Aside0 (Kd.S k28 28 w' w.heap.size (fun k_ => some k_ ≠ (v372 : Value).ownBlock) (.slice Ao8 t366.length co8) t366) ∧ Aside0 (Kd.R (Kd.int .i64) 3 w' w.heap.size (fun _ => True) v372 t371) ∧ Aside0 (Below w.heap.size w w'))
       case atStart => exact ⟨(x7_13), (0), (0), (by first | rfl | (simp; done) | (simp [*]; done)), (by first | rfl | (simp; done) | (simp [*]; done)), (by first | rfl | (simp; done) | (simp [*]; done)), H', ⟨Nat.le_refl _⟩, ⟨by (with_reducible repeat (first | apply Kd.S_alloc | apply Kd.S_drewN | apply Kd.S_drew)); exact HO_3.out⟩, ⟨by (with_reducible repeat (first | apply Kd.R_alloc | apply Kd.R_drewN | apply Kd.R_drew)); exact HO_6.out⟩, ⟨by repeat (first | (with_reducible first | exact HB.out | apply below_alloc | apply pw_below_drewN | apply below_drew1) | exact HB.out)⟩⟩
       case round =>
        clear H'
        try clear c1
        try clear c2
        try clear c2b0
        try clear c2b1
        try clear p2
        try clear c8
        try clear c11
        try clear c11b0
        try clear c11b1
        try clear c12
        try clear c16
        try clear c16b0
        try clear c16b1
        try clear c16b2
        try clear p2
        obtain ⟨x7_3, x8_3, x9_3, rfl, rfl, rfl, HA, HK3, HO_3, HO_6, HB⟩ := hrel
        cases gk with
        | zero => exact absurd HA.out (by simp [laws_FnStepsLength.l0])
        | succ k3 =>
         have H := HA.out
         clear HA
         simp only [laws_FnStepsLength.l0] at H
         have HC17 := Aside0.mk H
         clear H
         go_upto_region 12 with (fail)
         repeat (go_quiet (fail); go_upto_region 12 with (fail))
         go_cut [48] (fun v48 wc => ∃ (kq : Nat) (x48_16 : Bool), v48 = .bool x48_16 ∧ Aside0 (laws_FnStepsLength.j3 kq t366 t369 t371 x7_3 x8_3 x9_3 x48_16 = some r) ∧ Aside0 (kq ≤ k3) ∧ Aside0 (Kd.S k28 28 wc w.heap.size (fun k_ => some k_ ≠ (v372 : Value).ownBlock) (.slice Ao8 t366.length co8) t366) ∧ Aside0 (Kd.R (Kd.int .i64) 3 wc w.heap.size (fun _ => True) v372 t371) ∧ Aside0 (Below w.heap.size w wc))
         case first =>
          have H := HC17.out
          clear HC17
          by_cases c18 : x9_3 < (t366.length : Int)
          ·rw [if_pos c18] at H
           have c18b0 : decide (x9_3 < (t366.length : Int)) = true := decide_eq_true c18
           clear c18
           (first | rw [c18b0] | (simp only [i64_w, i32_w]; rw [c18b0]) | skip)
           have H' := Aside0.mk H
           clear H
           obtain ⟨Ao19, co19, eo19⟩ := Kd.R_slice HO_6.out
           subst eo19
           go_wp2
           repeat (go_quiet (fail); try go_wp2)
           go_meet
           case rel => exact ⟨_, (decide (x9_3 < (t371.length : Int))), (by first | rfl | (simp; done) | (simp [*]; done)), H', ⟨by have := HJ5.out; have := HJ13.out; have := HK3.out; first | omega | exact Nat.le_refl _⟩, ⟨by (with_reducible repeat (first | apply Kd.S_alloc | apply Kd.S_drewN | apply Kd.S_drew)); exact HO_3.out⟩, ⟨by (with_reducible repeat (first | apply Kd.R_alloc | apply Kd.R_drewN | apply Kd.R_drew)); exact HO_6.out⟩, ⟨by repeat (first | (with_reducible first | exact HB.out | apply below_alloc | apply pw_below_drewN | apply below_drew1) | exact HB.out)⟩⟩
          ·rw [if_neg c18] at H
           have c18b0 : decide (x9_3 < (t366.length : Int)) = false := decide_eq_false c18
           clear c18
           (first | rw [c18b0] | (simp only [i64_w, i32_w]; rw [c18b0]) | skip)
           have H' := Aside0.mk H
           clear H
           go_wp2
           repeat (go_quiet (fail); try go_wp2)
           go_meet
           case rel => exact ⟨_, (false), (by first | rfl | (simp; done) | (simp [*]; done)), H', ⟨by have := HJ5.out; have := HJ13.out; have := HK3.out; first | omega | exact Nat.le_refl _⟩, ⟨by (with_reducible repeat (first | apply Kd.S_alloc | apply Kd.S_drewN | apply Kd.S_drew)); exact HO_3.out⟩, ⟨by (with_reducible repeat (first | apply Kd.R_alloc | apply Kd.R_drewN | apply Kd.R_drew)); exact HO_6.out⟩, ⟨by repeat (first | (with_reducible first | exact HB.out | apply below_alloc | apply pw_below_drewN | apply below_drew1) | exact HB.out)⟩⟩
         case rest =>
          clear HC17
          try clear c1
          try clear c2
          try clear c2b0
          try clear c2b1
          try clear p2
          try clear c8
          try clear c11
          try clear c11b0
          try clear c11b1
          try clear c12
          try clear c16
          try clear c16b0
          try clear c16b1
          try clear c16b2
          try clear c18
          try clear c18b0
          try clear p2
          obtain ⟨kq, x48_16, rfl, HA, HJ16, HO_3, HO_6, HB⟩ := hcut
          cases kq with
          | zero => exact absurd HA.out (by simp [laws_FnStepsLength.j3])
          | succ kj16 =>
           have H := HA.out
           clear HA
           simp only [laws_FnStepsLength.j3] at H
           by_cases c20 : x48_16 = true
           ·subst c20
            have H1 : (if 0 ≤ x9_3 then (if x9_3 < (t371.length : Int) then (if x9_3 < (t366.length : Int) then (if (wrap64 ((rd t371 x9_3) + ((rd_T28 t366 x9_3).f0))) > t369 then (some false) else (if ((rd_T28 t366 x9_3).f0) > t369 then (some false) else (if x7_3 = true then (laws_FnStepsLength.l0 kj16 t366 t369 t371 true (wrap64 (x8_3 + ((rd_T28 t366 x9_3).f0))) (wrap64 (x9_3 + 1))) else (laws_FnStepsLength.l0 kj16 t366 t369 t371 ((wrap64 ((rd t371 x9_3) + ((rd_T28 t366 x9_3).f0))) == t369) (wrap64 (x8_3 + ((rd_T28 t366 x9_3).f0))) (wrap64 (x9_3 + 1)))))) else (none)) else (none)) else (none)) = some r := by rw [if_pos rfl] at H; exact H
            clear H
            have H := H1
            clear H1
            by_cases c21 : 0 ≤ x9_3
            ·rw [if_pos c21] at H
             have c21b0 : decide (0 ≤ x9_3) = true := decide_eq_true c21
             clear c21
             by_cases c22 : x9_3 < (t371.length : Int)
             ·rw [if_pos c22] at H
              have c22b0 : decide (x9_3 < (t371.length : Int)) = true := decide_eq_true c22
              clear c22
              by_cases c23 : x9_3 < (t366.length : Int)
              ·rw [if_pos c23] at H
               have c23b0 : decide (x9_3 < (t366.length : Int)) = true := decide_eq_true c23
               clear c23
               by_cases c24 : (wrap64 ((rd t371 x9_3) + ((rd_T28 t366 x9_3).f0))) > t369
               ·rw [if_pos c24] at H
                have c24b0 : decide (t369 < (wrap64 ((rd t371 x9_3) + ((rd_T28 t366 x9_3).f0)))) = true := decide_eq_true c24
                clear c24
                obtain rfl := Option.some.inj H
                obtain ⟨Ao25, co25, eo25⟩ := Kd.R_slice HO_6.out
                subst eo25
                have p374 : 0 ≤ (x9_3 : Int) := of_decide_eq_true (by first | (with_reducible assumption) | assumption)
                have q374 : x9_3 < (t371.length : Int) := of_decide_eq_true (by first | (with_reducible assumption) | assumption)
                obtain ⟨ad374, e374, hx374_0⟩ := Kd.at_int (Kd.R_reads' HO_6.out).2.2 x9_3 p374 q374
                cases e374
                replace p374 := eq_true p374
                replace q374 := eq_true q374
                have p375 : 0 ≤ (x9_3 : Int) := of_decide_eq_true (by first | (with_reducible assumption) | assumption)
                have q375 : x9_3 < (t366.length : Int) := of_decide_eq_true (by first | (with_reducible assumption) | assumption)
                obtain ⟨ad375, A375_3, c375_3, e375, hx375_0, hx375_1, hx375_2, hx375_3, hl375_3, hi375_3⟩ := at_T28 (Kd.S_reads' HO_3.out).2.2 x9_3 p375 q375
                cases e375
                obtain ⟨ce375, hce375, hMe375, hcc375⟩ := Kd.S_get HO_3.out z28 x9_3 p375 (by first | exact q375 | exact of_decide_eq_true (by first | (with_reducible assumption) | assumption) | (have e_ := (Kd.S_reads' HO_3.out).1; omega))
                obtain ⟨ve375_3, rfl, ge375_3⟩ := k28_openM hMe375
                have hv375_3 := hcc375 3 _ rfl
                rw [add_field _ _ 3 (by omega)] at hv375_3
                replace hv375_3 := Option.some.inj (hv375_3.symm.trans hx375_3)
                rw [hv375_3] at ge375_3
                have HL375_3 := Aside0.mk (show Kd.R (Kd.int .i64) 3 _ _ _ _ ((rd_T28 t366 x9_3).f3) from ge375_3)
                clear hv375_3 ge375_3
                clear hcc375 hce375
                have HR375_3 := Aside0.mk hi375_3
                have HC375_3 := Aside0.mk hl375_3
                clear hi375_3 hl375_3
                replace p375 := eq_true p375
                replace q375 := eq_true q375
                go_wp2
                repeat (go_quiet (fail); try go_wp2)
                go_ret
                exact ⟨by first | rfl | (simp [errW_none, errW_some] <;> rfl) | (simp [*, errW_none, errW_some] <;> rfl), by repeat (first | (with_reducible first | exact HB.out | apply below_alloc | apply pw_below_drewN | apply below_drew1) | exact HB.out)⟩
               ·rw [if_neg c24] at H
                have c24b0 : decide (t369 < (wrap64 ((rd t371 x9_3) + ((rd_T28 t366 x9_3).f0)))) = false := decide_eq_false c24
                clear c24
                by_cases c26 : ((rd_T28 t366 x9_3).f0) > t369
                ·rw [if_pos c26] at H
                 have c26b0 : decide (t369 < ((rd_T28 t366 x9_3).f0)) = true := decide_eq_true c26
                 clear c26
                 obtain rfl := Option.some.inj H
                 obtain ⟨Ao27, co27, eo27⟩ := Kd.R_slice HO_6.out
                 subst eo27
                 have p374 : 0 ≤ (x9_3 : Int) := of_decide_eq_true (by first | (with_reducible assumption) | assumption)
                 have q374 : x9_3 < (t371.length : Int) := of_decide_eq_true (by first | (with_reducible assumption) | assumption)
                 obtain ⟨ad374, e374, hx374_0⟩ := Kd.at_int (Kd.R_reads' HO_6.out).2.2 x9_3 p374 q374
                 cases e374
                 replace p374 := eq_true p374
                 replace q374 := eq_true q374
                 have p375 : 0 ≤ (x9_3 : Int) := of_decide_eq_true (by first | (with_reducible assumption) | assumption)
                 have q375 : x9_3 < (t366.length : Int) := of_decide_eq_true (by first | (with_reducible assumption) | assumption)
                 obtain ⟨ad375, A375_3, c375_3, e375, hx375_0, hx375_1, hx375_2, hx375_3, hl375_3, hi375_3⟩ := at_T28 (Kd.S_reads' HO_3.out).2.2 x9_3 p375 q375
                 cases e375
                 obtain ⟨ce375, hce375, hMe375, hcc375⟩ := Kd.S_get HO_3.out z28 x9_3 p375 (by first | exact q375 | exact of_decide_eq_true (by first | (with_reducible assumption) | assumption) | (have e_ := (Kd.S_reads' HO_3.out).1; omega))
                 obtain ⟨ve375_3, rfl, ge375_3⟩ := k28_openM hMe375
                 have hv375_3 := hcc375 3 _ rfl
                 rw [add_field _ _ 3 (by omega)] at hv375_3
                 replace hv375_3 := Option.some.inj (hv375_3.symm.trans hx375_3)
                 rw [hv375_3] at ge375_3
                 have HL375_3 := Aside0.mk (show Kd.R (Kd.int .i64) 3 _ _ _ _ ((rd_T28 t366 x9_3).f3) from ge375_3)
                 clear hv375_3 ge375_3
                 clear hcc375 hce375
                 have HR375_3 := Aside0.mk hi375_3
                 have HC375_3 := Aside0.mk hl375_3
                 clear hi375_3 hl375_3
                 replace p375 := eq_true p375
                 replace q375 := eq_true q375
                 have p376 : 0 ≤ (x9_3 : Int) := of_decide_eq_true (by first | (with_reducible assumption) | assumption)
                 have q376 : x9_3 < (t366.length : Int) := of_decide_eq_true (by first | (with_reducible assumption) | assumption)
                 obtain ⟨ad376, A376_3, c376_3, e376, hx376_0, hx376_1, hx376_2, hx376_3, hl376_3, hi376_3⟩ := at_T28 (Kd.S_reads' HO_3.out).2.2 x9_3 p376 q376
                 obtain rfl : ad375 = ad376 := (by injection e376)
                 obtain ⟨ce376, hce376, hMe376, hcc376⟩ := Kd.S_get HO_3.out z28 x9_3 p376 (by first | exact q376 | exact of_decide_eq_true (by first | (with_reducible assumption) | assumption) | (have e_ := (Kd.S_reads' HO_3.out).1; omega))
                 obtain ⟨ve376_3, rfl, ge376_3⟩ := k28_openM hMe376
                 have hv376_3 := hcc376 3 _ rfl
                 rw [add_field _ _ 3 (by omega)] at hv376_3
                 replace hv376_3 := Option.some.inj (hv376_3.symm.trans hx376_3)
                 rw [hv376_3] at ge376_3
                 have HL376_3 := Aside0.mk (show Kd.R (Kd.int .i64) 3 _ _ _ _ ((rd_T28 t366 x9_3).f3) from ge376_3)
                 clear hv376_3 ge376_3
                 clear hcc376 hce376
                 have HR376_3 := Aside0.mk hi376_3
                 have HC376_3 := Aside0.mk hl376_3
                 clear hi376_3 hl376_3
                 replace p376 := eq_true p376
                 replace q376 := eq_true q376
                 have ea_ := Option.some.inj (hx375_3.symm.trans hx376_3)
                 injection ea_ with ea_ en_ ec_
                 subst ea_
                 subst ec_
                 clear en_
                 go_wp2
                 repeat (go_quiet (fail); try go_wp2)
                 go_ret
                 exact ⟨by first | rfl | (simp [errW_none, errW_some] <;> rfl) | (simp [*, errW_none, errW_some] <;> rfl), by repeat (first | (with_reducible first | exact HB.out | apply below_alloc | apply pw_below_drewN | apply below_drew1) | exact HB.out)⟩
                ·rw [if_neg c26] at H
                 have c26b0 : decide (t369 < ((rd_T28 t366 x9_3).f0)) = false := decide_eq_false c26
                 clear c26
                 by_cases c28 : x7_3 = true
                 ·subst c28
                  have H1 : (laws_FnStepsLength.l0 kj16 t366 t369 t371 true (wrap64 (x8_3 + ((rd_T28 t366 x9_3).f0))) (wrap64 (x9_3 + 1))) = some r := by rw [if_pos rfl] at H; exact H
                  clear H
                  have H := H1
                  clear H1
                  have H' := Aside0.mk H
                  clear H
                  obtain ⟨Ao29, co29, eo29⟩ := Kd.R_slice HO_6.out
                  subst eo29
                  have p374 : 0 ≤ (x9_3 : Int) := of_decide_eq_true (by first | (with_reducible assumption) | assumption)
                  have q374 : x9_3 < (t371.length : Int) := of_decide_eq_true (by first | (with_reducible assumption) | assumption)
                  obtain ⟨ad374, e374, hx374_0⟩ := Kd.at_int (Kd.R_reads' HO_6.out).2.2 x9_3 p374 q374
                  cases e374
                  replace p374 := eq_true p374
                  replace q374 := eq_true q374
                  have p375 : 0 ≤ (x9_3 : Int) := of_decide_eq_true (by first | (with_reducible assumption) | assumption)
                  have q375 : x9_3 < (t366.length : Int) := of_decide_eq_true (by first | (with_reducible assumption) | assumption)
                  obtain ⟨ad375, A375_3, c375_3, e375, hx375_0, hx375_1, hx375_2, hx375_3, hl375_3, hi375_3⟩ := at_T28 (Kd.S_reads' HO_3.out).2.2 x9_3 p375 q375
                  cases e375
                  obtain ⟨ce375, hce375, hMe375, hcc375⟩ := Kd.S_get HO_3.out z28 x9_3 p375 (by first | exact q375 | exact of_decide_eq_true (by first | (with_reducible assumption) | assumption) | (have e_ := (Kd.S_reads' HO_3.out).1; omega))
                  obtain ⟨ve375_3, rfl, ge375_3⟩ := k28_openM hMe375
                  have hv375_3 := hcc375 3 _ rfl
                  rw [add_field _ _ 3 (by omega)] at hv375_3
                  replace hv375_3 := Option.some.inj (hv375_3.symm.trans hx375_3)
                  rw [hv375_3] at ge375_3
                  have HL375_3 := Aside0.mk (show Kd.R (Kd.int .i64) 3 _ _ _ _ ((rd_T28 t366 x9_3).f3) from ge375_3)
                  clear hv375_3 ge375_3
                  clear hcc375 hce375
                  have HR375_3 := Aside0.mk hi375_3
                  have HC375_3 := Aside0.mk hl375_3
                  clear hi375_3 hl375_3
                  replace p375 := eq_true p375
                  replace q375 := eq_true q375
                  have p376 : 0 ≤ (x9_3 : Int) := of_decide_eq_true (by first | (with_reducible assumption) | assumption)
                  have q376 : x9_3 < (t366.length : Int) := of_decide_eq_true (by first | (with_reducible assumption) | assumption)
                  obtain ⟨ad376, A376_3, c376_3, e376, hx376_0, hx376_1, hx376_2, hx376_3, hl376_3, hi376_3⟩ := at_T28 (Kd.S_reads' HO_3.out).2.2 x9_3 p376 q376
                  obtain rfl : ad375 = ad376 := (by injection e376)
                  obtain ⟨ce376, hce376, hMe376, hcc376⟩ := Kd.S_get HO_3.out z28 x9_3 p376 (by first | exact q376 | exact of_decide_eq_true (by first | (with_reducible assumption) | assumption) | (have e_ := (Kd.S_reads' HO_3.out).1; omega))
                  obtain ⟨ve376_3, rfl, ge376_3⟩ := k28_openM hMe376
                  have hv376_3 := hcc376 3 _ rfl
                  rw [add_field _ _ 3 (by omega)] at hv376_3
                  replace hv376_3 := Option.some.inj (hv376_3.symm.trans hx376_3)
                  rw [hv376_3] at ge376_3
                  have HL376_3 := Aside0.mk (show Kd.R (Kd.int .i64) 3 _ _ _ _ ((rd_T28 t366 x9_3).f3) from ge376_3)
                  clear hv376_3 ge376_3
                  clear hcc376 hce376
                  have HR376_3 := Aside0.mk hi376_3
                  have HC376_3 := Aside0.mk hl376_3
                  clear hi376_3 hl376_3
                  replace p376 := eq_true p376
                  replace q376 := eq_true q376
                  have ea_ := Option.some.inj (hx375_3.symm.trans hx376_3)
                  injection ea_ with ea_ en_ ec_
                  subst ea_
                  subst ec_
                  clear en_
                  have p377 : 0 ≤ (x9_3 : Int) := of_decide_eq_true (by first | (with_reducible assumption) | assumption)
                  have q377 : x9_3 < (t366.length : Int) := of_decide_eq_true (by first | (with_reducible assumption) | assumption)
                  obtain ⟨ad377, A377_3, c377_3, e377, hx377_0, hx377_1, hx377_2, hx377_3, hl377_3, hi377_3⟩ := at_T28 (Kd.S_reads' HO_3.out).2.2 x9_3 p377 q377
                  obtain rfl : ad375 = ad377 := (by injection e377)
                  obtain ⟨ce377, hce377, hMe377, hcc377⟩ := Kd.S_get HO_3.out z28 x9_3 p377 (by first | exact q377 | exact of_decide_eq_true (by first | (with_reducible assumption) | assumption) | (have e_ := (Kd.S_reads' HO_3.out).1; omega))
                  obtain ⟨ve377_3, rfl, ge377_3⟩ := k28_openM hMe377
                  have hv377_3 := hcc377 3 _ rfl
                  rw [add_field _ _ 3 (by omega)] at hv377_3
                  replace hv377_3 := Option.some.inj (hv377_3.symm.trans hx377_3)
                  rw [hv377_3] at ge377_3
                  have HL377_3 := Aside0.mk (show Kd.R (Kd.int .i64) 3 _ _ _ _ ((rd_T28 t366 x9_3).f3) from ge377_3)
                  clear hv377_3 ge377_3
                  clear hcc377 hce377
                  have HR377_3 := Aside0.mk hi377_3
                  have HC377_3 := Aside0.mk hl377_3
                  clear hi377_3 hl377_3
                  replace p377 := eq_true p377
                  replace q377 := eq_true q377
                  have ea_ := Option.some.inj (hx375_3.symm.trans hx377_3)
                  injection ea_ with ea_ en_ ec_
                  subst ea_
                  subst ec_
                  clear en_
                  go_wp2
                  repeat (go_quiet (fail); try go_wp2)
                  go_roundg kj16
                  case measure => have := HJ5.out; have := HJ13.out; have := HK3.out; have := HJ16.out; omega
                  case rel => exact ⟨(true), (wrap64 (x8_3 + ((rd_T28 t366 x9_3).f0))), (wrap64 (x9_3 + 1)), (by first | rfl | (simp; done) | (simp [*]; done)), (by first | rfl | (simp; done) | (simp [*]; done)), (by first | rfl | (simp; done) | (simp [*]; done)), H', ⟨by have := HJ5.out; have := HJ13.out; have := HK3.out; have := HJ16.out; omega⟩, ⟨by (with_reducible repeat (first | apply Kd.S_alloc | apply Kd.S_drewN | apply Kd.S_drew)); exact HO_3.out⟩, ⟨by (with_reducible repeat (first | apply Kd.R_alloc | apply Kd.R_drewN | apply Kd.R_drew)); exact HO_6.out⟩, ⟨by repeat (first | (with_reducible first | exact HB.out | apply below_alloc | apply pw_below_drewN | apply below_drew1) | exact HB.out)⟩⟩
                 ·replace c28 := Bool.eq_false_iff.mpr c28
                  subst c28
                  have H1 : (laws_FnStepsLength.l0 kj16 t366 t369 t371 ((wrap64 ((rd t371 x9_3) + ((rd_T28 t366 x9_3).f0))) == t369) (wrap64 (x8_3 + ((rd_T28 t366 x9_3).f0))) (wrap64 (x9_3 + 1))) = some r := by rw [if_neg (show ¬ (false = true) by decide)] at H; exact H
                  clear H
                  have H := H1
                  clear H1
                  have H' := Aside0.mk H
                  clear H
                  obtain ⟨Ao30, co30, eo30⟩ := Kd.R_slice HO_6.out
                  subst eo30
                  have p374 : 0 ≤ (x9_3 : Int) := of_decide_eq_true (by first | (with_reducible assumption) | assumption)
                  have q374 : x9_3 < (t371.length : Int) := of_decide_eq_true (by first | (with_reducible assumption) | assumption)
                  obtain ⟨ad374, e374, hx374_0⟩ := Kd.at_int (Kd.R_reads' HO_6.out).2.2 x9_3 p374 q374
                  cases e374
                  replace p374 := eq_true p374
                  replace q374 := eq_true q374
                  have p375 : 0 ≤ (x9_3 : Int) := of_decide_eq_true (by first | (with_reducible assumption) | assumption)
                  have q375 : x9_3 < (t366.length : Int) := of_decide_eq_true (by first | (with_reducible assumption) | assumption)
                  obtain ⟨ad375, A375_3, c375_3, e375, hx375_0, hx375_1, hx375_2, hx375_3, hl375_3, hi375_3⟩ := at_T28 (Kd.S_reads' HO_3.out).2.2 x9_3 p375 q375
                  cases e375
                  obtain ⟨ce375, hce375, hMe375, hcc375⟩ := Kd.S_get HO_3.out z28 x9_3 p375 (by first | exact q375 | exact of_decide_eq_true (by first | (with_reducible assumption) | assumption) | (have e_ := (Kd.S_reads' HO_3.out).1; omega))
                  obtain ⟨ve375_3, rfl, ge375_3⟩ := k28_openM hMe375
                  have hv375_3 := hcc375 3 _ rfl
                  rw [add_field _ _ 3 (by omega)] at hv375_3
                  replace hv375_3 := Option.some.inj (hv375_3.symm.trans hx375_3)
                  rw [hv375_3] at ge375_3
                  have HL375_3 := Aside0.mk (show Kd.R (Kd.int .i64) 3 _ _ _ _ ((rd_T28 t366 x9_3).f3) from ge375_3)
                  clear hv375_3 ge375_3
                  clear hcc375 hce375
                  have HR375_3 := Aside0.mk hi375_3
                  have HC375_3 := Aside0.mk hl375_3
                  clear hi375_3 hl375_3
                  replace p375 := eq_true p375
                  replace q375 := eq_true q375
                  have p376 : 0 ≤ (x9_3 : Int) := of_decide_eq_true (by first | (with_reducible assumption) | assumption)
                  have q376 : x9_3 < (t366.length : Int) := of_decide_eq_true (by first | (with_reducible assumption) | assumption)
                  obtain ⟨ad376, A376_3, c376_3, e376, hx376_0, hx376_1, hx376_2, hx376_3, hl376_3, hi376_3⟩ := at_T28 (Kd.S_reads' HO_3.out).2.2 x9_3 p376 q376
                  obtain rfl : ad375 = ad376 := (by injection e376)
                  obtain ⟨ce376, hce376, hMe376, hcc376⟩ := Kd.S_get HO_3.out z28 x9_3 p376 (by first | exact q376 | exact of_decide_eq_true (by first | (with_reducible assumption) | assumption) | (have e_ := (Kd.S_reads' HO_3.out).1; omega))
                  obtain ⟨ve376_3, rfl, ge376_3⟩ := k28_openM hMe376
                  have hv376_3 := hcc376 3 _ rfl
                  rw [add_field _ _ 3 (by omega)] at hv376_3
                  replace hv376_3 := Option.some.inj (hv376_3.symm.trans hx376_3)
                  rw [hv376_3] at ge376_3
                  have HL376_3 := Aside0.mk (show Kd.R (Kd.int .i64) 3 _ _ _ _ ((rd_T28 t366 x9_3).f3) from ge376_3)
                  clear hv376_3 ge376_3
                  clear hcc376 hce376
                  have HR376_3 := Aside0.mk hi376_3
                  have HC376_3 := Aside0.mk hl376_3
                  clear hi376_3 hl376_3
                  replace p376 := eq_true p376
                  replace q376 := eq_true q376
                  have ea_ := Option.some.inj (hx375_3.symm.trans hx376_3)
                  injection ea_ with ea_ en_ ec_
                  subst ea_
                  subst ec_
                  clear en_
                  have p378 : 0 ≤ (x9_3 : Int) := of_decide_eq_true (by first | (with_reducible assumption) | assumption)
                  have q378 : x9_3 < (t366.length : Int) := of_decide_eq_true (by first | (with_reducible assumption) | assumption)
                  obtain ⟨ad378, A378_3, c378_3, e378, hx378_0, hx378_1, hx378_2, hx378_3, hl378_3, hi378_3⟩ := at_T28 (Kd.S_reads' HO_3.out).2.2 x9_3 p378 q378
                  obtain rfl : ad375 = ad378 := (by injection e378)
                  obtain ⟨ce378, hce378, hMe378, hcc378⟩ := Kd.S_get HO_3.out z28 x9_3 p378 (by first | exact q378 | exact of_decide_eq_true (by first | (with_reducible assumption) | assumption) | (have e_ := (Kd.S_reads' HO_3.out).1; omega))
                  obtain ⟨ve378_3, rfl, ge378_3⟩ := k28_openM hMe378
                  have hv378_3 := hcc378 3 _ rfl
                  rw [add_field _ _ 3 (by omega)] at hv378_3
                  replace hv378_3 := Option.some.inj (hv378_3.symm.trans hx378_3)
                  rw [hv378_3] at ge378_3
                  have HL378_3 := Aside0.mk (show Kd.R (Kd.int .i64) 3 _ _ _ _ ((rd_T28 t366 x9_3).f3) from ge378_3)
                  clear hv378_3 ge378_3
                  clear hcc378 hce378
                  have HR378_3 := Aside0.mk hi378_3
                  have HC378_3 := Aside0.mk hl378_3
                  clear hi378_3 hl378_3
                  replace p378 := eq_true p378
                  replace q378 := eq_true q378
                  have ea_ := Option.some.inj (hx375_3.symm.trans hx378_3)
                  injection ea_ with ea_ en_ ec_
                  subst ea_
                  subst ec_
                  clear en_
                  go_wp2
                  repeat (go_quiet (fail); try go_wp2)
                  go_roundg kj16
                  case measure => have := HJ5.out; have := HJ13.out; have := HK3.out; have := HJ16.out; omega
                  case rel => exact ⟨(((wrap64 ((rd t371 x9_3) + ((rd_T28 t366 x9_3).f0))) == t369)), (wrap64 (x8_3 + ((rd_T28 t366 x9_3).f0))), (wrap64 (x9_3 + 1)), (by first | rfl | (simp; done) | (simp [*]; done)), (by first | rfl | (simp; done) | (simp [*]; done)), (by first | rfl | (simp; done) | (simp [*]; done)), H', ⟨by have := HJ5.out; have := HJ13.out; have := HK3.out; have := HJ16.out; omega⟩, ⟨by (with_reducible repeat (first | apply Kd.S_alloc | apply Kd.S_drewN | apply Kd.S_drew)); exact HO_3.out⟩, ⟨by (with_reducible repeat (first | apply Kd.R_alloc | apply Kd.R_drewN | apply Kd.R_drew)); exact HO_6.out⟩, ⟨by repeat (first | (with_reducible first | exact HB.out | apply below_alloc | apply pw_below_drewN | apply below_drew1) | exact HB.out)⟩⟩
              ·rw [if_neg c23] at H
               exact absurd H (by simp)
             ·rw [if_neg c22] at H
              exact absurd H (by simp)
            ·rw [if_neg c21] at H
             exact absurd H (by simp)
           ·replace c20 := Bool.eq_false_iff.mpr c20
            subst c20
            have H1 : (if x7_3 = true then (some (decide (t369 ≤ x8_3))) else (some false)) = some r := by rw [if_neg (show ¬ (false = true) by decide)] at H; exact H
            clear H
            have H := H1
            clear H1
            by_cases c31 : x7_3 = true
            ·subst c31
             have H1 : (some (decide (t369 ≤ x8_3))) = some r := by rw [if_pos rfl] at H; exact H
             clear H
             have H := H1
             clear H1
             obtain rfl := Option.some.inj H
             go_wp2
             repeat (go_quiet (fail); try go_wp2)
             go_ret
             exact ⟨by first | rfl | (simp [errW_none, errW_some] <;> rfl) | (simp [*, errW_none, errW_some] <;> rfl), by repeat (first | (with_reducible first | exact HB.out | apply below_alloc | apply pw_below_drewN | apply below_drew1) | exact HB.out)⟩
            ·replace c31 := Bool.eq_false_iff.mpr c31
             subst c31
             have H1 : (some false) = some r := by rw [if_neg (show ¬ (false = true) by decide)] at H; exact H
             clear H
             have H := H1
             clear H1
             obtain rfl := Option.some.inj H
             go_wp2
             repeat (go_quiet (fail); try go_wp2)
             go_ret
             exact ⟨by first | rfl | (simp [errW_none, errW_some] <;> rfl) | (simp [*, errW_none, errW_some] <;> rfl), by repeat (first | (with_reducible first | exact HB.out | apply below_alloc | apply pw_below_drewN | apply below_drew1) | exact HB.out)⟩

/-- THE ONE PURE STATEMENT of laws_FnStepsLength: yours. -/
def laws_FnStepsLength.Pure : Prop := ∀ (l0 : List Int), l0.length ≤ maxLen → l0.length * 1 ≤ 140737488351232 → (∀ x ∈ l0, (Lit.int .u8 x).wf = true) → ∃ k, laws_FnStepsLength.f k l0 = some true
theorem laws_FnStepsLength.walk (P : laws_FnStepsLength.Pure) (a0 : Option Addr) (len0 cap0 : Nat) (z0 : List Int) (w : World) (w0 : (a0 = none ∧ len0 = 0 ∧ cap0 = 0 ∧ z0 = []) ∨ ∃ x, a0 = some x ∧ len0 ≤ cap0 ∧ cap0 ≤ maxLen ∧ z0.length = cap0 ∧ (∀ i, i < z0.length → w.cell? (x.add i) = some (.int .u8 (z0.getD i 0))) ∧ ∀ n ∈ z0, (Lit.int .u8 n).wf = true) (y0 : len0 * 1 ≤ 140737488351232) :
  Calls Try.prog 8 #[.slice a0 len0 cap0] w fun e w' => e = .returned (.bool true) ∧ Below w.heap.size w w' := by
 obtain ⟨l0, rfl, hr0, hm0, hw0, hc0⟩ := ReadsInt.ofRowC w0
 obtain ⟨k, h⟩ := P l0 hm0 y0 hw0
 refine (laws_FnStepsLength.calls k _ _ l0 true w (Kd.C_of_reads (d := (0 : Int)) (h1 := fun _ => rfl) hr0) hc0 h).mono ?_
 rintro e w' ⟨rfl, hd⟩
 exact ⟨rfl, hd⟩

end Go.Proofs.Ytegfpoagplpjiaa.PAll
