-- PRINTED by print.py (a twelfth state) out of the translation. Not trusted: Lean checks it.
import Derived.Test.YtegfpoagplpjiaaPAllx0
import Derived.Test.YtegfpoagplpjiaaPAllx11
import Derived.Test.YtegfpoagplpjiaaPAllx12
namespace Go.Proofs.Ytegfpoagplpjiaa.PAll
open Go.RowKit Go.Proofs.YtegfpoagplpjiaaW.PrintWords Go.Proofs.YtegfpoagplpjiaaW.PrintLast Go.Proofs.YtegfpoagplpjiaaW.PrintMore
attribute [local go_sem] max2_int min2_int max_two min_two max_three min_three max_four min_four   -- for this text's walks alone
set_option linter.unusedVariables false
set_option linter.unusedSimpArgs false

/-! ### laws_FnStepsLonger: function 7 -/
mutual
def laws_FnStepsLonger.j0 : Nat → List Int → List Int → Bool → Option (Bool)
 | 0, _, _, _ => none
 | k + 1, x0, x1, x18 => if x18 = true then (some true) else ((spec_DrawStepsLength.f k x0).bind fun t351 => ((impl_StepsLength.f k t351).bind fun t354 => ((spec_StepsLength.f k t351).bind fun t355 => (if t354 = t355 then (if t355 < 0 then (laws_FnStepsLonger.j1 k x1 t351 t354 t355 true) else (laws_FnStepsLonger.j1 k x1 t351 t354 t355 ((t351.length : Int) == 0))) else (laws_FnStepsLonger.j1 k x1 t351 t354 t355 true)))))
def laws_FnStepsLonger.j1 : Nat → List Int → List (S28) → Int → Int → Bool → Option (Bool)
 | 0, _, _, _, _, _ => none
 | k + 1, x1, x5, x6, x7, x36 => if x36 = true then (some (x6 == x7)) else (if (x5.length : Int) = 0 then (none) else (if 0 ≤ ((x1.length : Int) % (x5.length : Int)) then (if ((x1.length : Int) % (x5.length : Int)) < (x5.length : Int) then (if ((rd_T28 x5 ((x1.length : Int) % (x5.length : Int))).f0) = 99 then (some true) else ((some (([] : List (S28)) : List (S28))).bind fun y357 => (if y357.length + x5.length < 2932031007402 then ((some (y357 ++ x5 : List (S28))).bind fun y360 => (if ((x1.length : Int) % (x5.length : Int)) < (y360.length : Int) then ((impl_StepsLength.f k (y360.set (((x1.length : Int) % (x5.length : Int)) : Int).toNat (⟨wrap64 (((rd_T28 y360 ((x1.length : Int) % (x5.length : Int))).f0) + 1), (rd_T28 y360 ((x1.length : Int) % (x5.length : Int))).f1, (rd_T28 y360 ((x1.length : Int) % (x5.length : Int))).f2, (rd_T28 y360 ((x1.length : Int) % (x5.length : Int))).f3⟩ : S28))).bind fun t365 => (if t365 = x6 then (some true) else (some (t365 == (wrap64 (x6 + 1)))))) else (none))) else (none)))) else (none)) else (none)))
end
def laws_FnStepsLonger.f (k : Nat) (l0 : List Int) (l1 : List Int) : Option (Bool) := if (l0.length : Int) > 1048576 then (laws_FnStepsLonger.j0 k l0 l1 true) else (laws_FnStepsLonger.j0 k l0 l1 (decide ((l1.length : Int) > 1048576)))
set_option maxHeartbeats 8000000 in
set_option maxRecDepth 100000 in
theorem laws_FnStepsLonger.calls (k : Nat) (A0 : Option Addr) (c0 : Nat) (l0 : List Int) (A1 : Option Addr) (c1 : Nat) (l1 : List Int) (r : Bool) (w : World) (hr0 : Kd.C (Kd.int .u8) w A0 l0.length l0) (hc0 : l0.length ≤ c0) (hr1 : Kd.C (Kd.int .u8) w A1 l1.length l1) (hc1 : l1.length ≤ c1) (h : laws_FnStepsLonger.f k l0 l1 = some r) :
  Calls Try.prog 7 #[.slice A0 l0.length c0, .slice A1 l1.length c1] w fun e w' => e = .returned (.bool r) ∧ Below w.heap.size w w' := by
 have HR0 := Aside0.mk hr0
 have HC0 := Aside0.mk hc0
 clear hr0 hc0
 have HR1 := Aside0.mk hr1
 have HC1 := Aside0.mk hc1
 clear hr1 hc1
 have HB := Aside0.mk (Below.refl w.heap.size w)
 have H : (if (l0.length : Int) > 1048576 then (laws_FnStepsLonger.j0 k l0 l1 true) else (laws_FnStepsLonger.j0 k l0 l1 (decide ((l1.length : Int) > 1048576)))) = some r := h
 clear h
 have HC3 := Aside0.mk H
 clear H
 go_enter Try.func7, Try.ntmps7
 go_upto_region 1 with (fail)
 go_cut [18] (fun v18 wc => ∃ (kq : Nat) (x18_2 : Bool), v18 = .bool x18_2 ∧ Aside0 (laws_FnStepsLonger.j0 kq l0 l1 x18_2 = some r) ∧ Aside0 (kq ≤ k) ∧ Aside0 (Below w.heap.size w wc))
 case first =>
  have H := HC3.out
  clear HC3
  by_cases c4 : (l0.length : Int) > 1048576
  ·rw [if_pos c4] at H
   have c4b0 : decide (1048576 < (l0.length : Int)) = true := decide_eq_true c4
   have c4b1 : decide (1048576 < l0.length) = true := decide_eq_true (by omega)
   clear c4
   (first | rw [c4b0] | (simp only [i64_w, i32_w]; rw [c4b0]) | skip)
   have H' := Aside0.mk H
   clear H
   go_wp2
   go_meet
   case rel => exact ⟨_, (true), (by first | rfl | (simp; done) | (simp [*]; done)), H', ⟨by first | omega | exact Nat.le_refl _⟩, ⟨by repeat (first | (with_reducible first | exact HB.out | apply below_alloc | apply pw_below_drewN | apply below_drew1) | exact HB.out)⟩⟩
  ·rw [if_neg c4] at H
   have c4b0 : decide (1048576 < (l0.length : Int)) = false := decide_eq_false c4
   have c4b1 : decide (1048576 < l0.length) = false := decide_eq_false (by omega)
   clear c4
   (first | rw [c4b0] | (simp only [i64_w, i32_w]; rw [c4b0]) | skip)
   have H' := Aside0.mk H
   clear H
   go_wp2
   go_meet
   case rel => exact ⟨_, (decide ((l1.length : Int) > 1048576)), (by first | rfl | (simp; done) | (simp [*]; done)), H', ⟨by first | omega | exact Nat.le_refl _⟩, ⟨by repeat (first | (with_reducible first | exact HB.out | apply below_alloc | apply pw_below_drewN | apply below_drew1) | exact HB.out)⟩⟩
 case rest =>
  clear HC3
  try clear c1
  try clear p2
  try clear c4
  try clear c4b0
  try clear c4b1
  obtain ⟨kq, x18_2, rfl, HA, HJ2, HB⟩ := hcut
  cases kq with
  | zero => exact absurd HA.out (by simp [laws_FnStepsLonger.j0])
  | succ kj2 =>
   have H := HA.out
   clear HA
   simp only [laws_FnStepsLonger.j0] at H
   by_cases c5 : x18_2 = true
   ·subst c5
    have H1 : (some true) = some r := by rw [if_pos rfl] at H; exact H
    clear H
    have H := H1
    clear H1
    obtain rfl := Option.some.inj H
    go_wp2
    go_ret
    exact ⟨by first | rfl | (simp [errW_none, errW_some] <;> rfl) | (simp [*, errW_none, errW_some] <;> rfl), by repeat (first | (with_reducible first | exact HB.out | apply below_alloc | apply pw_below_drewN | apply below_drew1) | exact HB.out)⟩
   ·replace c5 := Bool.eq_false_iff.mpr c5
    subst c5
    have H1 : ((spec_DrawStepsLength.f kj2 l0).bind fun t351 => ((impl_StepsLength.f kj2 t351).bind fun t354 => ((spec_StepsLength.f kj2 t351).bind fun t355 => (if t354 = t355 then (if t355 < 0 then (laws_FnStepsLonger.j1 kj2 l1 t351 t354 t355 true) else (laws_FnStepsLonger.j1 kj2 l1 t351 t354 t355 ((t351.length : Int) == 0))) else (laws_FnStepsLonger.j1 kj2 l1 t351 t354 t355 true))))) = some r := by rw [if_neg (show ¬ (false = true) by decide)] at H; exact H
    clear H
    have H := H1
    clear H1
    replace H := Option.bind_eq_some_iff.mp H
    obtain ⟨t351, A60, H⟩ := H
    replace H : ((impl_StepsLength.f kj2 t351).bind fun t354 => ((spec_StepsLength.f kj2 t351).bind fun t355 => (if t354 = t355 then (if t355 < 0 then (laws_FnStepsLonger.j1 kj2 l1 t351 t354 t355 true) else (laws_FnStepsLonger.j1 kj2 l1 t351 t354 t355 ((t351.length : Int) == 0))) else (laws_FnStepsLonger.j1 kj2 l1 t351 t354 t355 true)))) = some r := H
    have A6 := Aside0.mk A60
    clear A60
    replace H := Option.bind_eq_some_iff.mp H
    obtain ⟨t354, A70, H⟩ := H
    replace H : ((spec_StepsLength.f kj2 t351).bind fun t355 => (if t354 = t355 then (if t355 < 0 then (laws_FnStepsLonger.j1 kj2 l1 t351 t354 t355 true) else (laws_FnStepsLonger.j1 kj2 l1 t351 t354 t355 ((t351.length : Int) == 0))) else (laws_FnStepsLonger.j1 kj2 l1 t351 t354 t355 true))) = some r := H
    have A7 := Aside0.mk A70
    clear A70
    replace H := Option.bind_eq_some_iff.mp H
    obtain ⟨t355, A80, H⟩ := H
    replace H : (if t354 = t355 then (if t355 < 0 then (laws_FnStepsLonger.j1 kj2 l1 t351 t354 t355 true) else (laws_FnStepsLonger.j1 kj2 l1 t351 t354 t355 ((t351.length : Int) == 0))) else (laws_FnStepsLonger.j1 kj2 l1 t351 t354 t355 true)) = some r := H
    have A8 := Aside0.mk A80
    clear A80
    have HC9 := Aside0.mk H
    clear H
    go_upto_region 6 with (first | ((with_reducible refine gate_callee (f := 29) rfl ?_); refine goesL_ (some 20) rfl rfl Try.func29 (by kernel_rfl) rfl #[.slice A0 l0.length c0] rfl (by (try simp only [List.map_toArray, List.map_cons, List.map_nil]); first | done | rfl | (simp only [List.length_drop, List.length_take]; rfl)) ?_; (with_reducible refine (spec_DrawStepsLength.calls kj2 _ _ l0 t351 _ ?side1 ?side2 A6.out).mono ?_); (case side1 => repeat (first | exact (Kd.C_below HR0.out HB.out) | (with_reducible refine Kd.C_alloc ?_ _) | (with_reducible refine Kd.C_drewN ?_ _) | (with_reducible refine Kd.C_drew ?_))); (case side2 => exact HC0.out); rintro e w10 ⟨v352, rfl, ho0, hb⟩; refine ⟨_, rfl, ?_⟩; have n0_ := Aside0.mk (Kd.N_lower (Kd.N_mono (ok' := fun k_ => True) (Kd.S_N (Kd.S_bound ho0)) (fun k_ hk_ => trivial)) (below_size (by repeat (first | (with_reducible first | exact HB.out | apply below_alloc | apply pw_below_drewN | apply below_drew1) | exact HB.out)))); have n1_ := Aside0.mk (below_step (by repeat (first | (with_reducible first | exact HB.out | apply below_alloc | apply pw_below_drewN | apply below_drew1) | exact HB.out)) hb); clear HB; have HO353 := n0_; have HB := n1_; clear n0_ n1_; (try clear hb); (try clear hb2); (try clear hk); (try clear hi); (try clear ho0); obtain ⟨Ao11, co11, eo11⟩ := Kd.N_slice HO353.out; subst eo11) | ((with_reducible refine gate_callee (f := 30) rfl ?_); refine goesL_ (some 22) rfl rfl Try.func30 (by kernel_rfl) rfl #[.slice Ao11 t351.length co11] rfl (by (try simp only [List.map_toArray, List.map_cons, List.map_nil]); first | done | rfl | (simp only [List.length_drop, List.length_take]; rfl)) ?_; (with_reducible refine (impl_StepsLength.calls kj2 _ _ t351 t354 _ ?side1 ?side2 A7.out).mono ?_); (case side1 => repeat (first | exact (Kd.N_reads' HO353.out).2.2 | (with_reducible refine Kd.C_alloc ?_ _) | (with_reducible refine Kd.C_drewN ?_ _) | (with_reducible refine Kd.C_drew ?_))); (case side2 => exact (Kd.N_reads' HO353.out).2.1); rintro e w12 ⟨rfl, hb⟩; refine ⟨_, rfl, ?_⟩; have n0_ := Aside0.mk (Kd.N_below (by (with_reducible repeat (first | apply Kd.N_alloc | apply Kd.N_drewN | apply Kd.N_drew)); exact HO353.out) hb); have n1_ := Aside0.mk (below_step (by repeat (first | (with_reducible first | exact HB.out | apply below_alloc | apply pw_below_drewN | apply below_drew1) | exact HB.out)) hb); clear HO353; clear HB; have HO353 := n0_; have HB := n1_; clear n0_ n1_; (try clear hb); (try clear hb2); (try clear hk); (try clear hi)) | ((with_reducible refine gate_callee (f := 31) rfl ?_); refine goesL_ (some 24) rfl rfl Try.func31 (by kernel_rfl) rfl #[.slice Ao11 t351.length co11] rfl (by (try simp only [List.map_toArray, List.map_cons, List.map_nil]); first | done | rfl | (simp only [List.length_drop, List.length_take]; rfl)) ?_; (with_reducible refine (spec_StepsLength.calls kj2 _ _ t351 t355 _ ?side1 ?side2 A8.out).mono ?_); (case side1 => repeat (first | exact (Kd.N_reads' HO353.out).2.2 | (with_reducible refine Kd.C_alloc ?_ _) | (with_reducible refine Kd.C_drewN ?_ _) | (with_reducible refine Kd.C_drew ?_))); (case side2 => exact (Kd.N_reads' HO353.out).2.1); rintro e w13 ⟨rfl, hb⟩; refine ⟨_, rfl, ?_⟩; have n0_ := Aside0.mk (Kd.N_below (by (with_reducible repeat (first | apply Kd.N_alloc | apply Kd.N_drewN | apply Kd.N_drew)); exact HO353.out) hb); have n1_ := Aside0.mk (below_step (by repeat (first | (with_reducible first | exact HB.out | apply below_alloc | apply pw_below_drewN | apply below_drew1) | exact HB.out)) hb); clear HO353; clear HB; have HO353 := n0_; have HB := n1_; clear n0_ n1_; (try clear hb); (try clear hb2); (try clear hk); (try clear hi)))
    (try simp only [Act.put, List.setIfInBounds_toArray, List.set_cons_zero, List.set_cons_succ])
    go_cut [36] (fun v36 wc => ∃ (kq : Nat) (x36_8 : Bool), v36 = .bool x36_8 ∧ Aside0 (laws_FnStepsLonger.j1 kq l1 t351 t354 t355 x36_8 = some r) ∧ Aside0 (kq ≤ kj2) ∧ Aside0 (Kd.N k28 28 wc w.heap.size (fun _ => True) (.slice Ao11 t351.length co11) t351) ∧ Aside0 (Below w.heap.size w wc))
    case first =>
     have H := HC9.out
     clear HC9
     by_cases c14 : t354 = t355
     ·rw [if_pos c14] at H
      have c14b0 : (t354 == t355) = true := beq_iff_eq.mpr c14
      have c14b1 : (t354 != t355) = false := bne_eq_false_iff_eq.mpr c14
      clear c14
      (first | rw [c14b0] | (simp only [i64_w, i32_w]; rw [c14b0]) | skip)
      by_cases c15 : t355 < 0
      ·rw [if_pos c15] at H
       have c15b0 : decide (t355 < 0) = true := decide_eq_true c15
       clear c15
       have H' := Aside0.mk H
       clear H
       go_wp2
       go_meet
       case rel => exact ⟨_, (true), (by first | rfl | (simp; done) | (simp [*]; done)), H', ⟨by have := HJ2.out; first | omega | exact Nat.le_refl _⟩, ⟨by (with_reducible repeat (first | apply Kd.N_alloc | apply Kd.N_drewN | apply Kd.N_drew)); exact HO353.out⟩, ⟨by repeat (first | (with_reducible first | exact HB.out | apply below_alloc | apply pw_below_drewN | apply below_drew1) | exact HB.out)⟩⟩
      ·rw [if_neg c15] at H
       have c15b0 : decide (t355 < 0) = false := decide_eq_false c15
       clear c15
       have H' := Aside0.mk H
       clear H
       go_wp2
       go_meet
       case rel => exact ⟨_, (((t351.length : Int) == 0)), (by first | rfl | (simp; done) | (simp [*]; done)), H', ⟨by have := HJ2.out; first | omega | exact Nat.le_refl _⟩, ⟨by (with_reducible repeat (first | apply Kd.N_alloc | apply Kd.N_drewN | apply Kd.N_drew)); exact HO353.out⟩, ⟨by repeat (first | (with_reducible first | exact HB.out | apply below_alloc | apply pw_below_drewN | apply below_drew1) | exact HB.out)⟩⟩
     ·rw [if_neg c14] at H
      have c14b0 : (t354 == t355) = false := beq_eq_false_iff_ne.mpr c14
      have c14b1 : (t354 != t355) = true := bne_iff_ne.mpr c14
      (first | rw [c14b0] | (simp only [i64_w, i32_w]; rw [c14b0]) | skip)
      have H' := Aside0.mk H
      clear H
      go_wp2
      go_meet
      case rel => exact ⟨_, (true), (by first | rfl | (simp; done) | (simp [*]; done)), H', ⟨by have := HJ2.out; first | omega | exact Nat.le_refl _⟩, ⟨by (with_reducible repeat (first | apply Kd.N_alloc | apply Kd.N_drewN | apply Kd.N_drew)); exact HO353.out⟩, ⟨by repeat (first | (with_reducible first | exact HB.out | apply below_alloc | apply pw_below_drewN | apply below_drew1) | exact HB.out)⟩⟩
    case rest =>
     clear HC9
     try clear c1
     try clear c2
     try clear p2
     try clear c3
     try clear c4
     try clear c4b0
     try clear c4b1
     try clear c5
     try clear c7
     try clear c14
     try clear c14b0
     try clear c14b1
     try clear c15
     try clear c15b0
     try clear p2
     obtain ⟨kq, x36_8, rfl, HA, HJ8, HO_5, HB⟩ := hcut
     cases kq with
     | zero => exact absurd HA.out (by simp [laws_FnStepsLonger.j1])
     | succ kj8 =>
      have H := HA.out
      clear HA
      simp only [laws_FnStepsLonger.j1] at H
      by_cases c16 : x36_8 = true
      ·subst c16
       have H1 : (some (t354 == t355)) = some r := by rw [if_pos rfl] at H; exact H
       clear H
       have H := H1
       clear H1
       obtain rfl := Option.some.inj H
       go_wp2
       go_ret
       exact ⟨by first | rfl | (simp [errW_none, errW_some] <;> rfl) | (simp [*, errW_none, errW_some] <;> rfl), by repeat (first | (with_reducible first | exact HB.out | apply below_alloc | apply pw_below_drewN | apply below_drew1) | exact HB.out)⟩
      ·replace c16 := Bool.eq_false_iff.mpr c16
       subst c16
       have H1 : (if (t351.length : Int) = 0 then (none) else (if 0 ≤ ((l1.length : Int) % (t351.length : Int)) then (if ((l1.length : Int) % (t351.length : Int)) < (t351.length : Int) then (if ((rd_T28 t351 ((l1.length : Int) % (t351.length : Int))).f0) = 99 then (some true) else ((some (([] : List (S28)) : List (S28))).bind fun y357 => (if y357.length + t351.length < 2932031007402 then ((some (y357 ++ t351 : List (S28))).bind fun y360 => (if ((l1.length : Int) % (t351.length : Int)) < (y360.length : Int) then ((impl_StepsLength.f kj8 (y360.set (((l1.length : Int) % (t351.length : Int)) : Int).toNat (⟨wrap64 (((rd_T28 y360 ((l1.length : Int) % (t351.length : Int))).f0) + 1), (rd_T28 y360 ((l1.length : Int) % (t351.length : Int))).f1, (rd_T28 y360 ((l1.length : Int) % (t351.length : Int))).f2, (rd_T28 y360 ((l1.length : Int) % (t351.length : Int))).f3⟩ : S28))).bind fun t365 => (if t365 = t354 then (some true) else (some (t365 == (wrap64 (t354 + 1)))))) else (none))) else (none)))) else (none)) else (none))) = some r := by rw [if_neg (show ¬ (false = true) by decide)] at H; exact H
       clear H
       have H := H1
       clear H1
       by_cases c17 : (t351.length : Int) = 0
       ·rw [if_pos c17] at H
        exact absurd H (by simp)
       ·rw [if_neg c17] at H
        have c17b0 : ((t351.length : Int) == 0) = false := beq_eq_false_iff_ne.mpr c17
        have c17b1 : ((t351.length : Int) != 0) = true := bne_iff_ne.mpr c17
        have c17b2 : ¬ (t351 = []) := fun h_ => c17 (by rw [h_]; rfl)
        obtain ⟨ji18, hji18⟩ : ∃ j_ : Int, ((l1.length : Int) % (t351.length : Int)) = j_ := ⟨_, rfl⟩
        replace H : (if 0 ≤ (ji18) then (if (ji18) < (t351.length : Int) then (if ((rd_T28 t351 (ji18)).f0) = 99 then (some true) else ((some (([] : List (S28)) : List (S28))).bind fun y357 => (if y357.length + t351.length < 2932031007402 then ((some (y357 ++ t351 : List (S28))).bind fun y360 => (if (ji18) < (y360.length : Int) then ((impl_StepsLength.f kj8 (y360.set ((ji18) : Int).toNat (⟨wrap64 (((rd_T28 y360 (ji18)).f0) + 1), (rd_T28 y360 (ji18)).f1, (rd_T28 y360 (ji18)).f2, (rd_T28 y360 (ji18)).f3⟩ : S28))).bind fun t365 => (if t365 = t354 then (some true) else (some (t365 == (wrap64 (t354 + 1)))))) else (none))) else (none)))) else (none)) else (none)) = some r := by first | (rw [hji18] at H; exact H) | (simp only [hji18] at H ⊢; exact H)
        by_cases c19 : 0 ≤ (ji18)
        ·rw [if_pos c19] at H
         have c19b0 : decide (0 ≤ (ji18)) = true := decide_eq_true c19
         clear c19
         by_cases c20 : (ji18) < (t351.length : Int)
         ·rw [if_pos c20] at H
          have c20b0 : decide ((ji18) < (t351.length : Int)) = true := decide_eq_true c20
          clear c20
          by_cases c21 : ((rd_T28 t351 (ji18)).f0) = 99
          ·rw [if_pos c21] at H
           have c21b0 : (((rd_T28 t351 (ji18)).f0) == 99) = true := beq_iff_eq.mpr c21
           have c21b1 : (((rd_T28 t351 (ji18)).f0) != 99) = false := bne_eq_false_iff_eq.mpr c21
           clear c21
           obtain rfl := Option.some.inj H
           have p356 : 0 ≤ ((ji18) : Int) := of_decide_eq_true (by first | (with_reducible assumption) | assumption)
           have q356 : (ji18) < (t351.length : Int) := of_decide_eq_true (by first | (with_reducible assumption) | assumption)
           obtain ⟨ad356, A356_3, c356_3, e356, hx356_0, hx356_1, hx356_2, hx356_3, hl356_3, hi356_3⟩ := at_T28 (Kd.N_reads' HO_5.out).2.2 (ji18) p356 q356
           cases e356
           obtain ⟨ce356, hce356, hMe356, hcc356⟩ := Kd.N_get HO_5.out z28 (ji18) p356 (by first | exact q356 | exact of_decide_eq_true (by first | (with_reducible assumption) | assumption) | (have e_ := (Kd.N_reads' HO_5.out).1; omega))
           obtain ⟨ua356_3, uc356_3, rfl, ul356_3, ge356_3⟩ := k28_openF hMe356
           have hv356_3 := hcc356 3 _ rfl
           rw [add_field _ _ 3 (by omega)] at hv356_3
           replace hv356_3 := Option.some.inj (hv356_3.symm.trans hx356_3)
           injection hv356_3 with hva_ hvn_ hvc_
           rw [hva_] at ge356_3
           rw [hvc_] at ul356_3
           have HL356_3 := Aside0.mk (show Kd.V (Kd.int .i64) 3 _ w.heap.size _ _ ((rd_T28 t351 (ji18)).f3) from Kd.V_mk ul356_3 ge356_3)
           clear hva_ hvn_ hvc_ ge356_3 ul356_3
           clear hcc356 hce356
           have HR356_3 := Aside0.mk hi356_3
           have HC356_3 := Aside0.mk hl356_3
           clear hi356_3 hl356_3
           replace p356 := eq_true p356
           replace q356 := eq_true q356
           go_wp2
           go_ret
           exact ⟨by first | rfl | (simp [errW_none, errW_some] <;> rfl) | (simp only [← hji18]; first | rfl | (simp [errW_none, errW_some] <;> rfl)) | (simp [*, errW_none, errW_some] <;> rfl), by repeat (first | (with_reducible first | exact HB.out | apply below_alloc | apply pw_below_drewN | apply below_drew1) | exact HB.out)⟩
          ·rw [if_neg c21] at H
           have c21b0 : (((rd_T28 t351 (ji18)).f0) == 99) = false := beq_eq_false_iff_ne.mpr c21
           have c21b1 : (((rd_T28 t351 (ji18)).f0) != 99) = true := bne_iff_ne.mpr c21
           obtain ⟨y357, hy357⟩ : ∃ y_ : List (S28), y_ = (([] : List (S28))) := ⟨_, rfl⟩
           replace H : (if y357.length + t351.length < 2932031007402 then ((some (y357 ++ t351 : List (S28))).bind fun y360 => (if (ji18) < (y360.length : Int) then ((impl_StepsLength.f kj8 (y360.set ((ji18) : Int).toNat (⟨wrap64 (((rd_T28 y360 (ji18)).f0) + 1), (rd_T28 y360 (ji18)).f1, (rd_T28 y360 (ji18)).f2, (rd_T28 y360 (ji18)).f3⟩ : S28))).bind fun t365 => (if t365 = t354 then (some true) else (some (t365 == (wrap64 (t354 + 1)))))) else (none))) else (none)) = some r := by first | (rw [hy357]; with_reducible exact H) | (have H2_ := (Option.bind_some _ _).symm.trans H; rw [hy357]; with_reducible exact H2_) | (have H2_ := (Option.bind_some _ _).symm.trans H; with_reducible exact H2_) | with_reducible exact H | (rw [hy357]; exact H) | exact H
           have Ny357 := Aside0.mk hy357
           clear hy357
           by_cases c22 : y357.length + t351.length < 2932031007402
           ·rw [if_pos c22] at H
            have LMc22 := Aside0.mk c22
            clear c22
            obtain ⟨y360, hy360⟩ : ∃ y_ : List (S28), y_ = (y357 ++ t351) := ⟨_, rfl⟩
            replace H : (if (ji18) < (y360.length : Int) then ((impl_StepsLength.f kj8 (y360.set ((ji18) : Int).toNat (⟨wrap64 (((rd_T28 y360 (ji18)).f0) + 1), (rd_T28 y360 (ji18)).f1, (rd_T28 y360 (ji18)).f2, (rd_T28 y360 (ji18)).f3⟩ : S28))).bind fun t365 => (if t365 = t354 then (some true) else (some (t365 == (wrap64 (t354 + 1)))))) else (none)) = some r := by first | (rw [hy360]; with_reducible exact H) | (have H2_ := (Option.bind_some _ _).symm.trans H; rw [hy360]; with_reducible exact H2_) | (have H2_ := (Option.bind_some _ _).symm.trans H; with_reducible exact H2_) | with_reducible exact H | (rw [hy360]; exact H) | exact H
            have Ny360 := Aside0.mk hy360
            clear hy360
            by_cases c23 : (ji18) < (y360.length : Int)
            ·rw [if_pos c23] at H
             have c23b0 : decide ((ji18) < (y360.length : Int)) = true := decide_eq_true c23
             clear c23
             obtain ⟨y364, hy364⟩ : ∃ y_ : List (S28), y_ = (y360.set ((ji18) : Int).toNat (⟨wrap64 (((rd_T28 y360 (ji18)).f0) + 1), (rd_T28 y360 (ji18)).f1, (rd_T28 y360 (ji18)).f2, (rd_T28 y360 (ji18)).f3⟩ : S28)) := ⟨_, rfl⟩
             replace H : ((impl_StepsLength.f kj8 y364).bind fun t365 => (if t365 = t354 then (some true) else (some (t365 == (wrap64 (t354 + 1)))))) = some r := by first | (rw [hy364]; with_reducible exact H) | (have H2_ := (Option.bind_some _ _).symm.trans H; rw [hy364]; with_reducible exact H2_) | (have H2_ := (Option.bind_some _ _).symm.trans H; with_reducible exact H2_) | with_reducible exact H | (rw [hy364]; exact H) | exact H
             have Ny364 := Aside0.mk hy364
             clear hy364
             replace H := Option.bind_eq_some_iff.mp H
             obtain ⟨t365, A250, H⟩ := H
             replace H : (if t365 = t354 then (some true) else (some (t365 == (wrap64 (t354 + 1))))) = some r := H
             have A25 := Aside0.mk A250
             clear A250
             by_cases c26 : t365 = t354
             ·rw [if_pos c26] at H
              have c26b0 : (t365 == t354) = true := beq_iff_eq.mpr c26
              have c26b1 : (t365 != t354) = false := bne_eq_false_iff_eq.mpr c26
              clear c26
              obtain rfl := Option.some.inj H
              have p356 : 0 ≤ ((ji18) : Int) := of_decide_eq_true (by first | (with_reducible assumption) | assumption)
              have q356 : (ji18) < (t351.length : Int) := of_decide_eq_true (by first | (with_reducible assumption) | assumption)
              obtain ⟨ad356, A356_3, c356_3, e356, hx356_0, hx356_1, hx356_2, hx356_3, hl356_3, hi356_3⟩ := at_T28 (Kd.N_reads' HO_5.out).2.2 (ji18) p356 q356
              cases e356
              obtain ⟨ce356, hce356, hMe356, hcc356⟩ := Kd.N_get HO_5.out z28 (ji18) p356 (by first | exact q356 | exact of_decide_eq_true (by first | (with_reducible assumption) | assumption) | (have e_ := (Kd.N_reads' HO_5.out).1; omega))
              obtain ⟨ua356_3, uc356_3, rfl, ul356_3, ge356_3⟩ := k28_openF hMe356
              have hv356_3 := hcc356 3 _ rfl
              rw [add_field _ _ 3 (by omega)] at hv356_3
              replace hv356_3 := Option.some.inj (hv356_3.symm.trans hx356_3)
              injection hv356_3 with hva_ hvn_ hvc_
              rw [hva_] at ge356_3
              rw [hvc_] at ul356_3
              have HL356_3 := Aside0.mk (show Kd.V (Kd.int .i64) 3 _ w.heap.size _ _ ((rd_T28 t351 (ji18)).f3) from Kd.V_mk ul356_3 ge356_3)
              clear hva_ hvn_ hvc_ ge356_3 ul356_3
              clear hcc356 hce356
              have HR356_3 := Aside0.mk hi356_3
              have HC356_3 := Aside0.mk hl356_3
              clear hi356_3 hl356_3
              replace p356 := eq_true p356
              replace q356 := eq_true q356
              go_wp2_with (first | ((with_reducible refine gate_dst (N := 51) rfl ?_); (try (refine gate_guard (by rfl) ?_; dsimp only)); refine Kd.N_lit k28 _ 28 ?hg (N' := 51) ?hd (xs := ([] : List (S28))) (inner := []) (ok := (fun k_ => some k_ ≠ (.slice (some ad356) t351.length co11 : Value).ownBlock)) (okp := (fun k_ => some k_ ≠ (.slice (some ad356) t351.length co11 : Value).ownBlock)) ?hr ?hp (fun _ hk => hk) ((show ∀ k_, wc.heap.size ≤ k_ → (fun k_ => some k_ ≠ (.slice (some ad356) t351.length co11 : Value).ownBlock) k_ from fun k_ hk => Kd.fresh' (Kd.N_lt (by (with_reducible repeat (first | apply Kd.N_alloc | apply Kd.N_drewN | apply Kd.N_drew)); exact HO_5.out)) k_ hk) _ (Nat.le_refl _)) (Below.refl _ _) (Nat.le_refl _) (by simp) ?_; (case hd => rfl); (case hg => rfl); (case hr => first | (go_simp; done) | (go_simp; rfl)); (case hp => exact (Reps.none _ _)); intro v358 w27 ho28 hb hg_ hnew_; clear hg_ hnew_; (first | rw [← Ny357.out] at ho28 | (simp only [Int.reduceToNat] at ho28; rw [← Ny357.out] at ho28)); have n0_ := Aside0.mk (Kd.N_elder' (by (with_reducible repeat (first | apply Kd.N_alloc | apply Kd.N_drewN | apply Kd.N_drew)); exact HO_5.out) (Kd.N_base ho28) hb); have n1_ := Aside0.mk (Kd.V_elder' (by (with_reducible repeat (first | apply Kd.V_alloc | apply Kd.V_drewN | apply Kd.V_drew)); exact HL356_3.out) (Kd.N_base ho28) hb); have n2_ := Aside0.mk (Kd.N_lower ho28 (below_size (by repeat (first | (with_reducible first | exact HB.out | apply below_alloc | apply pw_below_drewN | apply below_drew1) | exact HB.out)))); have n3_ := Aside0.mk (Kd.C_below (by repeat (first | (with_reducible exact HR356_3.out) | (with_reducible refine Kd.C_alloc ?_ _) | (with_reducible refine Kd.C_drewN ?_ _) | (with_reducible refine Kd.C_drew ?_) | exact HR356_3.out)) hb); have n4_ := Aside0.mk (below_step (by repeat (first | (with_reducible first | exact HB.out | apply below_alloc | apply pw_below_drewN | apply below_drew1) | exact HB.out)) hb); clear HO_5; clear HL356_3; clear HR356_3; clear HB; have HO_5 := n0_; have HL356_3 := n1_; have HO359 := n2_; have HR356_3 := n3_; have HB := n4_; clear n0_ n1_ n2_ n3_ n4_; clear hb ho28) | ((with_reducible refine gate_builtin (b := .append) (xs := #[.tmp 51, .tmp 52]) rfl ?_); (try (refine gate_guard (by rfl) ?_; dsimp only)); at_builtin; refine Kd.N_append_rows k28 (w0 := w) w.heap.size rfl (.tmp 51) (.tmp 52) 23 28 (.agg #[(.int .i64 0), (.int .i64 0), (.int .i64 0), (.slice none 0 0)]) 48 rfl Try.underlying23 info28 rfl (by decide) (by omega) v358 y357 t351 _ _ _ (fun _ => True) (fun k_ => ((fun _ => True)) k_ ∧ some k_ ≠ (v358 : Value).ownBlock) rfl rfl ?aO ?aR (fun _ hk => hk) ?aF ?aB ?aS ?aL ?_; (case aR => exact (by skip; exact Kd.N_F (Kd.N_mono (ok' := (fun k_ => ((fun _ => True)) k_ ∧ some k_ ≠ (v358 : Value).ownBlock)) (HO_5.out) (fun k_ hk => ⟨trivial, hk.2⟩)))); (case aB => exact (by repeat (first | (with_reducible first | exact HB.out | apply below_alloc | apply pw_below_drewN | apply below_drew1) | exact HB.out))); (case aF => exact (fun _ _ => trivial)); (case aO => exact (by (with_reducible repeat (first | apply Kd.N_alloc | apply Kd.N_drewN | apply Kd.N_drew)); exact Kd.N_mono HO359.out (fun _ hk => trivial))); (case aS => exact (below_size (by repeat (first | (with_reducible first | exact HB.out | apply below_alloc | apply pw_below_drewN | apply below_drew1) | exact HB.out)))); (case aL => have := LMc22.out; omega); intro v361 w29 ho hb hg hat; rw [← Ny360.out] at ho; have n0_ := Aside0.mk (Kd.N_afterv (ok := (fun _ => True)) (by (with_reducible repeat (first | apply Kd.N_alloc | apply Kd.N_drewN | apply Kd.N_drew)); exact HO_5.out) hg hat); have n1_ := Aside0.mk (Kd.V_afterv (ok := (fun k_ => some k_ ≠ (.slice (some ad356) t351.length co11 : Value).ownBlock)) (by (with_reducible repeat (first | apply Kd.V_alloc | apply Kd.V_drewN | apply Kd.V_drew)); exact Kd.V_mono HL356_3.out (fun _ hk => ⟨hk.1.2, hk.2⟩)) hg hat); have n2_ := Aside0.mk (hb); have n3_ := Aside0.mk (ho); clear HO_5; clear HL356_3; clear HB; clear HO359; have HO_5 := n0_; have HL356_3 := n1_; have HB := n2_; have HO362 := n3_; clear n0_ n1_ n2_ n3_; clear ho hb hg hat; obtain ⟨Ao30, co30, eo30⟩ := Kd.N_slice HO362.out; subst eo30; have p363 : 0 ≤ ((ji18) : Int) := of_decide_eq_true (by first | (with_reducible assumption) | assumption); have q363 : (ji18) < (y360.length : Int) := of_decide_eq_true (by first | (with_reducible assumption) | assumption); obtain ⟨ad363, A363_3, c363_3, e363, hx363_0, hx363_1, hx363_2, hx363_3, hl363_3, hi363_3⟩ := at_T28 (Kd.N_reads' HO362.out).2.2 (ji18) p363 q363; cases e363; obtain ⟨ce363, hce363, hMe363, hcc363⟩ := Kd.N_get HO362.out z28 (ji18) p363 (by first | exact q363 | exact of_decide_eq_true (by first | (with_reducible assumption) | assumption) | (have e_ := (Kd.N_reads' HO362.out).1; omega)); obtain ⟨ua363_3, uc363_3, rfl, ul363_3, ge363_3⟩ := k28_openF hMe363; have hv363_3 := hcc363 3 _ rfl; rw [add_field _ _ 3 (by omega)] at hv363_3; replace hv363_3 := Option.some.inj (hv363_3.symm.trans hx363_3); injection hv363_3 with hva_ hvn_ hvc_; rw [hva_] at ge363_3; rw [hvc_] at ul363_3; have HL363_3 := Aside0.mk (show Kd.V (Kd.int .i64) 3 _ w.heap.size _ _ ((rd_T28 y360 (ji18)).f3) from Kd.V_mk ul363_3 ge363_3); clear hva_ hvn_ hvc_ ge363_3 ul363_3; clear hcc363 hce363; have HR363_3 := Aside0.mk hi363_3; have HC363_3 := Aside0.mk hl363_3; clear hi363_3 hl363_3; replace p363 := eq_true p363; replace q363 := eq_true q363; have p24 : 0 ≤ ((ji18) : Int) := of_decide_eq_true (by first | (with_reducible assumption) | assumption); have q24 : ((ji18) : Int) < ((y360.length : Int) : Int) := of_decide_eq_true (by first | (with_reducible assumption) | assumption); obtain ⟨go24, co24, eo24, gb24, gl24, cl24, HG24⟩ := Kd.N_form HO362.out (by omega); (first | cases eo24 | (injection eo24 with ea_ en_ ec_; (first | subst ea_ | (injection ea_ with ea_; subst ea_)); subst ec_; clear en_)); have GB24 := Aside0.mk gb24; have GG24 := Aside0.mk HG24; clear gb24 gl24 HG24; (first | simp only [add_plain] at hx363_0 | skip); (first | simp only [add_plain] at hx363_1 | skip); (first | simp only [add_plain] at hx363_2 | skip); (first | simp only [add_plain] at hx363_3 | skip); obtain ⟨ce24, hcl24, hM24, hcc24, hfr24⟩ := Kd.N_elem HO362.out z28 ((ji18) : Int) p24 q24; obtain ⟨ua24_3, uc24_3, rfl, ul24_3, ge24_3⟩ := k28_openF hM24; have hx24_0 : w29.cell? ⟨go24, ((ji18) : Int).toNat * 4, none⟩ = some (.int .i64 ((rd_T28 y360 (ji18)).f0)) := hcc24 0 _ rfl; have hx24_1 : w29.cell? ⟨go24, ((ji18) : Int).toNat * 4 + 1, none⟩ = some (.int .i64 ((rd_T28 y360 (ji18)).f1)) := hcc24 1 _ rfl; have hx24_2 : w29.cell? ⟨go24, ((ji18) : Int).toNat * 4 + 2, none⟩ = some (.int .i64 ((rd_T28 y360 (ji18)).f2)) := hcc24 2 _ rfl; have hx24_3 : w29.cell? ⟨go24, ((ji18) : Int).toNat * 4 + 3, none⟩ = some (.slice ua24_3 ((rd_T28 y360 (ji18)).f3).length uc24_3) := hcc24 3 _ rfl; have hf24_0 : w29.frozen? ⟨go24, ((ji18) : Int).toNat * 4, none⟩ = false := hfr24 0; have hf24_1 : w29.frozen? ⟨go24, ((ji18) : Int).toNat * 4 + 1, none⟩ = false := hfr24 1; have hf24_2 : w29.frozen? ⟨go24, ((ji18) : Int).toNat * 4 + 2, none⟩ = false := hfr24 2; have hf24_3 : w29.frozen? ⟨go24, ((ji18) : Int).toNat * 4 + 3, none⟩ = false := hfr24 3; clear hcl24 hcc24 hfr24 hM24; replace p24 := eq_true p24; replace q24 := eq_true q24; have HX31 := Aside0.mk (show Kd.N k28 28 w29 w.heap.size (fun _ => True) (.slice (some ⟨go24, 0, none⟩) y360.length co30) y360 from (by (with_reducible repeat (first | apply Kd.N_alloc | apply Kd.N_drewN | apply Kd.N_drew)); exact HO362.out)); obtain ⟨ce31, hcl31, hM31, hcc31, hfr31⟩ := Kd.N_elem HX31.out z28 ((ji18) : Int) (of_decide_eq_true (by first | (with_reducible assumption) | assumption)) (by have h_ : ((ji18) : Int) < ((y360.length : Int) : Int) := of_decide_eq_true (by first | (with_reducible assumption) | assumption); first | exact h_ | (have e_ := (Kd.N_reads' HO362.out).1; omega) | simpa using h_); obtain ⟨ua31_3, uc31_3, rfl, ul31_3, ge31_3⟩ := k28_openF hM31; have HP31 := Kd.N_seg HX31.out ((ji18) : Int) (of_decide_eq_true (by first | (with_reducible assumption) | assumption)) (by have h_ : ((ji18) : Int) < ((y360.length : Int) : Int) := of_decide_eq_true (by first | (with_reducible assumption) | assumption); first | exact h_ | (have e_ := (Kd.N_reads' HO362.out).1; omega) | simpa using h_) (seg := [.int .i64 (wrap64 (((rd_T28 y360 (ji18)).f0) + 1))]) (j := 0) hcl31 hcc31 (show 1 ≤ 4 from by decide) (x' := (⟨wrap64 (((rd_T28 y360 (ji18)).f0) + 1), (rd_T28 y360 (ji18)).f1, (rd_T28 y360 (ji18)).f2, (rd_T28 y360 (ji18)).f3⟩ : S28)) (k28_mkF _ _ (⟨wrap64 (((rd_T28 y360 (ji18)).f0) + 1), (rd_T28 y360 (ji18)).f1, (rd_T28 y360 (ji18)).f2, (rd_T28 y360 (ji18)).f3⟩ : S28) ul31_3 ge31_3) (fun _ hk => hk); have hx31_0 := hcc31 0 _ rfl; (try simp only [show (k28).sz = 4 from rfl, Nat.mul_one, Nat.add_zero] at hx31_0); have hf31_0 := hfr31 0; (try simp only [show (k28).sz = 4 from rfl, Nat.mul_one, Nat.add_zero] at hf31_0); clear hcl31 hcc31 hfr31 hM31) | ((with_reducible refine gate_store (t := 3) (p := 63) rfl ?_); refine store_event (t := 3) (p := 63) (v := ?vo_w32) (w1 := (w29.setCell ⟨go24, ((ji18) : Int).toNat * 4, none⟩ (.int .i64 (wrap64 (((rd_T28 y360 (ji18)).f0) + 1))))) ?hg ?ho ?hn ?hr ?_; (case ho => rfl); (case hg => rfl); (case hn => rfl); (case hr => first | (go_simp; done) | (go_simp; rfl)); intro w32 hw; have hg : w29.grownBy w32 (some go24) := (by rw [hw]; exact HP31.2); have hp_ : Kd.N k28 28 w32 w.heap.size (fun _ => True) (.slice (some ⟨go24, 0, none⟩) y360.length co30) y364 := (by rw [hw, Ny364.out]; exact HP31.1); clear HP31; have n0_ := Aside0.mk (Kd.N_afterv (v := (.slice (some ⟨go24, 0, none⟩) y360.length co30)) (v1 := (.slice (some ⟨go24, 0, none⟩) y360.length co30)) (ok := (fun _ => True)) (by (with_reducible repeat (first | apply Kd.N_alloc | apply Kd.N_drewN | apply Kd.N_drew)); exact HO_5.out) hg (.inl rfl)); have n1_ := Aside0.mk (Kd.V_afterv (v := (.slice (some ⟨go24, 0, none⟩) y360.length co30)) (v1 := (.slice (some ⟨go24, 0, none⟩) y360.length co30)) (ok := (fun k_ => some k_ ≠ (.slice (some ad356) t351.length co11 : Value).ownBlock)) (by (with_reducible repeat (first | apply Kd.V_alloc | apply Kd.V_drewN | apply Kd.V_drew)); exact HL356_3.out) hg (.inl rfl)); have n2_ := Aside0.mk (hp_); have n3_ := Aside0.mk (Kd.V_afterv (v := (.slice (some ⟨go24, 0, none⟩) y360.length co30)) (v1 := (.slice (some ⟨go24, 0, none⟩) y360.length co30)) (ok := (fun _ => True)) (by (with_reducible repeat (first | apply Kd.V_alloc | apply Kd.V_drewN | apply Kd.V_drew)); exact HL363_3.out) hg (.inl rfl)); have n4_ := Aside0.mk ((by rw [hw]; exact below_set (HB.out) GB24.out : Below w.heap.size w w32)); clear HO_5; clear HL356_3; clear HO362; clear HL363_3; clear HB; have HO_5 := n0_; have HL356_3 := n1_; have HO362 := n2_; have HL363_3 := n3_; have HB := n4_; clear n0_ n1_ n2_ n3_ n4_; clear hg hw hp_) | ((with_reducible refine gate_callee (f := 30) rfl ?_); refine goesL_ (some 65) rfl rfl Try.func30 (by kernel_rfl) rfl #[.slice (some ⟨go24, 0, none⟩) y364.length co30] rfl (by (try simp only [List.map_toArray, List.map_cons, List.map_nil]); first | done | (rw [show y364.length = y360.length from (Kd.N_reads' HO362.out).1.symm] <;> rfl) | rfl | (simp only [List.length_drop, List.length_take]; rfl)) ?_; (with_reducible refine (impl_StepsLength.calls kj8 _ _ y364 t365 _ ?side1 ?side2 A25.out).mono ?_); (case side1 => repeat (first | exact (Kd.N_reads' HO362.out).2.2 | (with_reducible refine Kd.C_alloc ?_ _) | (with_reducible refine Kd.C_drewN ?_ _) | (with_reducible refine Kd.C_drew ?_))); (case side2 => rw [show y364.length = y360.length from (Kd.N_reads' HO362.out).1.symm]; exact (Kd.N_reads' HO362.out).2.1); rintro e w33 ⟨rfl, hb⟩; refine ⟨_, rfl, ?_⟩; have n0_ := Aside0.mk (Kd.N_below (by (with_reducible repeat (first | apply Kd.N_alloc | apply Kd.N_drewN | apply Kd.N_drew)); exact HO_5.out) hb); have n1_ := Aside0.mk (Kd.V_below (by (with_reducible repeat (first | apply Kd.V_alloc | apply Kd.V_drewN | apply Kd.V_drew)); exact HL356_3.out) hb); have n2_ := Aside0.mk (Kd.N_below (by (with_reducible repeat (first | apply Kd.N_alloc | apply Kd.N_drewN | apply Kd.N_drew)); exact HO362.out) hb); have n3_ := Aside0.mk (Kd.V_below (by (with_reducible repeat (first | apply Kd.V_alloc | apply Kd.V_drewN | apply Kd.V_drew)); exact HL363_3.out) hb); have n4_ := Aside0.mk (below_step (by repeat (first | (with_reducible first | exact HB.out | apply below_alloc | apply pw_below_drewN | apply below_drew1) | exact HB.out)) hb); clear HO_5; clear HL356_3; clear HO362; clear HL363_3; clear HB; have HO_5 := n0_; have HL356_3 := n1_; have HO362 := n2_; have HL363_3 := n3_; have HB := n4_; clear n0_ n1_ n2_ n3_ n4_; (try clear hb); (try clear hb2); (try clear hk); (try clear hi)))
              go_ret
              exact ⟨by first | rfl | (simp [errW_none, errW_some] <;> rfl) | (simp only [← hji18]; first | rfl | (simp [errW_none, errW_some] <;> rfl)) | (simp [*, errW_none, errW_some] <;> rfl), by repeat (first | (with_reducible first | exact HB.out | apply below_alloc | apply pw_below_drewN | apply below_drew1) | exact HB.out)⟩
             ·rw [if_neg c26] at H
              have c26b0 : (t365 == t354) = false := beq_eq_false_iff_ne.mpr c26
              have c26b1 : (t365 != t354) = true := bne_iff_ne.mpr c26
              obtain rfl := Option.some.inj H
              have p356 : 0 ≤ ((ji18) : Int) := of_decide_eq_true (by first | (with_reducible assumption) | assumption)
              have q356 : (ji18) < (t351.length : Int) := of_decide_eq_true (by first | (with_reducible assumption) | assumption)
              obtain ⟨ad356, A356_3, c356_3, e356, hx356_0, hx356_1, hx356_2, hx356_3, hl356_3, hi356_3⟩ := at_T28 (Kd.N_reads' HO_5.out).2.2 (ji18) p356 q356
              cases e356
              obtain ⟨ce356, hce356, hMe356, hcc356⟩ := Kd.N_get HO_5.out z28 (ji18) p356 (by first | exact q356 | exact of_decide_eq_true (by first | (with_reducible assumption) | assumption) | (have e_ := (Kd.N_reads' HO_5.out).1; omega))
              obtain ⟨ua356_3, uc356_3, rfl, ul356_3, ge356_3⟩ := k28_openF hMe356
              have hv356_3 := hcc356 3 _ rfl
              rw [add_field _ _ 3 (by omega)] at hv356_3
              replace hv356_3 := Option.some.inj (hv356_3.symm.trans hx356_3)
              injection hv356_3 with hva_ hvn_ hvc_
              rw [hva_] at ge356_3
              rw [hvc_] at ul356_3
              have HL356_3 := Aside0.mk (show Kd.V (Kd.int .i64) 3 _ w.heap.size _ _ ((rd_T28 t351 (ji18)).f3) from Kd.V_mk ul356_3 ge356_3)
              clear hva_ hvn_ hvc_ ge356_3 ul356_3
              clear hcc356 hce356
              have HR356_3 := Aside0.mk hi356_3
              have HC356_3 := Aside0.mk hl356_3
              clear hi356_3 hl356_3
              replace p356 := eq_true p356
              replace q356 := eq_true q356
              go_wp2_with (first | ((with_reducible refine gate_dst (N := 51) rfl ?_); (try (refine gate_guard (by rfl) ?_; dsimp only)); refine Kd.N_lit k28 _ 28 ?hg (N' := 51) ?hd (xs := ([] : List (S28))) (inner := []) (ok := (fun k_ => some k_ ≠ (.slice (some ad356) t351.length co11 : Value).ownBlock)) (okp := (fun k_ => some k_ ≠ (.slice (some ad356) t351.length co11 : Value).ownBlock)) ?hr ?hp (fun _ hk => hk) ((show ∀ k_, wc.heap.size ≤ k_ → (fun k_ => some k_ ≠ (.slice (some ad356) t351.length co11 : Value).ownBlock) k_ from fun k_ hk => Kd.fresh' (Kd.N_lt (by (with_reducible repeat (first | apply Kd.N_alloc | apply Kd.N_drewN | apply Kd.N_drew)); exact HO_5.out)) k_ hk) _ (Nat.le_refl _)) (Below.refl _ _) (Nat.le_refl _) (by simp) ?_; (case hd => rfl); (case hg => rfl); (case hr => first | (go_simp; done) | (go_simp; rfl)); (case hp => exact (Reps.none _ _)); intro v358 w34 ho35 hb hg_ hnew_; clear hg_ hnew_; (first | rw [← Ny357.out] at ho35 | (simp only [Int.reduceToNat] at ho35; rw [← Ny357.out] at ho35)); have n0_ := Aside0.mk (Kd.N_elder' (by (with_reducible repeat (first | apply Kd.N_alloc | apply Kd.N_drewN | apply Kd.N_drew)); exact HO_5.out) (Kd.N_base ho35) hb); have n1_ := Aside0.mk (Kd.V_elder' (by (with_reducible repeat (first | apply Kd.V_alloc | apply Kd.V_drewN | apply Kd.V_drew)); exact HL356_3.out) (Kd.N_base ho35) hb); have n2_ := Aside0.mk (Kd.N_lower ho35 (below_size (by repeat (first | (with_reducible first | exact HB.out | apply below_alloc | apply pw_below_drewN | apply below_drew1) | exact HB.out)))); have n3_ := Aside0.mk (Kd.C_below (by repeat (first | (with_reducible exact HR356_3.out) | (with_reducible refine Kd.C_alloc ?_ _) | (with_reducible refine Kd.C_drewN ?_ _) | (with_reducible refine Kd.C_drew ?_) | exact HR356_3.out)) hb); have n4_ := Aside0.mk (below_step (by repeat (first | (with_reducible first | exact HB.out | apply below_alloc | apply pw_below_drewN | apply below_drew1) | exact HB.out)) hb); clear HO_5; clear HL356_3; clear HR356_3; clear HB; have HO_5 := n0_; have HL356_3 := n1_; have HO359 := n2_; have HR356_3 := n3_; have HB := n4_; clear n0_ n1_ n2_ n3_ n4_; clear hb ho35) | ((with_reducible refine gate_builtin (b := .append) (xs := #[.tmp 51, .tmp 52]) rfl ?_); (try (refine gate_guard (by rfl) ?_; dsimp only)); at_builtin; refine Kd.N_append_rows k28 (w0 := w) w.heap.size rfl (.tmp 51) (.tmp 52) 23 28 (.agg #[(.int .i64 0), (.int .i64 0), (.int .i64 0), (.slice none 0 0)]) 48 rfl Try.underlying23 info28 rfl (by decide) (by omega) v358 y357 t351 _ _ _ (fun _ => True) (fun k_ => ((fun _ => True)) k_ ∧ some k_ ≠ (v358 : Value).ownBlock) rfl rfl ?aO ?aR (fun _ hk => hk) ?aF ?aB ?aS ?aL ?_; (case aR => exact (by skip; exact Kd.N_F (Kd.N_mono (ok' := (fun k_ => ((fun _ => True)) k_ ∧ some k_ ≠ (v358 : Value).ownBlock)) (HO_5.out) (fun k_ hk => ⟨trivial, hk.2⟩)))); (case aB => exact (by repeat (first | (with_reducible first | exact HB.out | apply below_alloc | apply pw_below_drewN | apply below_drew1) | exact HB.out))); (case aF => exact (fun _ _ => trivial)); (case aO => exact (by (with_reducible repeat (first | apply Kd.N_alloc | apply Kd.N_drewN | apply Kd.N_drew)); exact Kd.N_mono HO359.out (fun _ hk => trivial))); (case aS => exact (below_size (by repeat (first | (with_reducible first | exact HB.out | apply below_alloc | apply pw_below_drewN | apply below_drew1) | exact HB.out)))); (case aL => have := LMc22.out; omega); intro v361 w36 ho hb hg hat; rw [← Ny360.out] at ho; have n0_ := Aside0.mk (Kd.N_afterv (ok := (fun _ => True)) (by (with_reducible repeat (first | apply Kd.N_alloc | apply Kd.N_drewN | apply Kd.N_drew)); exact HO_5.out) hg hat); have n1_ := Aside0.mk (Kd.V_afterv (ok := (fun k_ => some k_ ≠ (.slice (some ad356) t351.length co11 : Value).ownBlock)) (by (with_reducible repeat (first | apply Kd.V_alloc | apply Kd.V_drewN | apply Kd.V_drew)); exact Kd.V_mono HL356_3.out (fun _ hk => ⟨hk.1.2, hk.2⟩)) hg hat); have n2_ := Aside0.mk (hb); have n3_ := Aside0.mk (ho); clear HO_5; clear HL356_3; clear HB; clear HO359; have HO_5 := n0_; have HL356_3 := n1_; have HB := n2_; have HO362 := n3_; clear n0_ n1_ n2_ n3_; clear ho hb hg hat; obtain ⟨Ao37, co37, eo37⟩ := Kd.N_slice HO362.out; subst eo37; have p363 : 0 ≤ ((ji18) : Int) := of_decide_eq_true (by first | (with_reducible assumption) | assumption); have q363 : (ji18) < (y360.length : Int) := of_decide_eq_true (by first | (with_reducible assumption) | assumption); obtain ⟨ad363, A363_3, c363_3, e363, hx363_0, hx363_1, hx363_2, hx363_3, hl363_3, hi363_3⟩ := at_T28 (Kd.N_reads' HO362.out).2.2 (ji18) p363 q363; cases e363; obtain ⟨ce363, hce363, hMe363, hcc363⟩ := Kd.N_get HO362.out z28 (ji18) p363 (by first | exact q363 | exact of_decide_eq_true (by first | (with_reducible assumption) | assumption) | (have e_ := (Kd.N_reads' HO362.out).1; omega)); obtain ⟨ua363_3, uc363_3, rfl, ul363_3, ge363_3⟩ := k28_openF hMe363; have hv363_3 := hcc363 3 _ rfl; rw [add_field _ _ 3 (by omega)] at hv363_3; replace hv363_3 := Option.some.inj (hv363_3.symm.trans hx363_3); injection hv363_3 with hva_ hvn_ hvc_; rw [hva_] at ge363_3; rw [hvc_] at ul363_3; have HL363_3 := Aside0.mk (show Kd.V (Kd.int .i64) 3 _ w.heap.size _ _ ((rd_T28 y360 (ji18)).f3) from Kd.V_mk ul363_3 ge363_3); clear hva_ hvn_ hvc_ ge363_3 ul363_3; clear hcc363 hce363; have HR363_3 := Aside0.mk hi363_3; have HC363_3 := Aside0.mk hl363_3; clear hi363_3 hl363_3; replace p363 := eq_true p363; replace q363 := eq_true q363; have p24 : 0 ≤ ((ji18) : Int) := of_decide_eq_true (by first | (with_reducible assumption) | assumption); have q24 : ((ji18) : Int) < ((y360.length : Int) : Int) := of_decide_eq_true (by first | (with_reducible assumption) | assumption); obtain ⟨go24, co24, eo24, gb24, gl24, cl24, HG24⟩ := Kd.N_form HO362.out (by omega); (first | cases eo24 | (injection eo24 with ea_ en_ ec_; (first | subst ea_ | (injection ea_ with ea_; subst ea_)); subst ec_; clear en_)); have GB24 := Aside0.mk gb24; have GG24 := Aside0.mk HG24; clear gb24 gl24 HG24; (first | simp only [add_plain] at hx363_0 | skip); (first | simp only [add_plain] at hx363_1 | skip); (first | simp only [add_plain] at hx363_2 | skip); (first | simp only [add_plain] at hx363_3 | skip); obtain ⟨ce24, hcl24, hM24, hcc24, hfr24⟩ := Kd.N_elem HO362.out z28 ((ji18) : Int) p24 q24; obtain ⟨ua24_3, uc24_3, rfl, ul24_3, ge24_3⟩ := k28_openF hM24; have hx24_0 : w36.cell? ⟨go24, ((ji18) : Int).toNat * 4, none⟩ = some (.int .i64 ((rd_T28 y360 (ji18)).f0)) := hcc24 0 _ rfl; have hx24_1 : w36.cell? ⟨go24, ((ji18) : Int).toNat * 4 + 1, none⟩ = some (.int .i64 ((rd_T28 y360 (ji18)).f1)) := hcc24 1 _ rfl; have hx24_2 : w36.cell? ⟨go24, ((ji18) : Int).toNat * 4 + 2, none⟩ = some (.int .i64 ((rd_T28 y360 (ji18)).f2)) := hcc24 2 _ rfl; have hx24_3 : w36.cell? ⟨go24, ((ji18) : Int).toNat * 4 + 3, none⟩ = some (.slice ua24_3 ((rd_T28 y360 (ji18)).f3).length uc24_3) := hcc24 3 _ rfl; have hf24_0 : w36.frozen? ⟨go24, ((ji18) : Int).toNat * 4, none⟩ = false := hfr24 0; have hf24_1 : w36.frozen? ⟨go24, ((ji18) : Int).toNat * 4 + 1, none⟩ = false := hfr24 1; have hf24_2 : w36.frozen? ⟨go24, ((ji18) : Int).toNat * 4 + 2, none⟩ = false := hfr24 2; have hf24_3 : w36.frozen? ⟨go24, ((ji18) : Int).toNat * 4 + 3, none⟩ = false := hfr24 3; clear hcl24 hcc24 hfr24 hM24; replace p24 := eq_true p24; replace q24 := eq_true q24; have HX38 := Aside0.mk (show Kd.N k28 28 w36 w.heap.size (fun _ => True) (.slice (some ⟨go24, 0, none⟩) y360.length co37) y360 from (by (with_reducible repeat (first | apply Kd.N_alloc | apply Kd.N_drewN | apply Kd.N_drew)); exact HO362.out)); obtain ⟨ce38, hcl38, hM38, hcc38, hfr38⟩ := Kd.N_elem HX38.out z28 ((ji18) : Int) (of_decide_eq_true (by first | (with_reducible assumption) | assumption)) (by have h_ : ((ji18) : Int) < ((y360.length : Int) : Int) := of_decide_eq_true (by first | (with_reducible assumption) | assumption); first | exact h_ | (have e_ := (Kd.N_reads' HO362.out).1; omega) | simpa using h_); obtain ⟨ua38_3, uc38_3, rfl, ul38_3, ge38_3⟩ := k28_openF hM38; have HP38 := Kd.N_seg HX38.out ((ji18) : Int) (of_decide_eq_true (by first | (with_reducible assumption) | assumption)) (by have h_ : ((ji18) : Int) < ((y360.length : Int) : Int) := of_decide_eq_true (by first | (with_reducible assumption) | assumption); first | exact h_ | (have e_ := (Kd.N_reads' HO362.out).1; omega) | simpa using h_) (seg := [.int .i64 (wrap64 (((rd_T28 y360 (ji18)).f0) + 1))]) (j := 0) hcl38 hcc38 (show 1 ≤ 4 from by decide) (x' := (⟨wrap64 (((rd_T28 y360 (ji18)).f0) + 1), (rd_T28 y360 (ji18)).f1, (rd_T28 y360 (ji18)).f2, (rd_T28 y360 (ji18)).f3⟩ : S28)) (k28_mkF _ _ (⟨wrap64 (((rd_T28 y360 (ji18)).f0) + 1), (rd_T28 y360 (ji18)).f1, (rd_T28 y360 (ji18)).f2, (rd_T28 y360 (ji18)).f3⟩ : S28) ul38_3 ge38_3) (fun _ hk => hk); have hx38_0 := hcc38 0 _ rfl; (try simp only [show (k28).sz = 4 from rfl, Nat.mul_one, Nat.add_zero] at hx38_0); have hf38_0 := hfr38 0; (try simp only [show (k28).sz = 4 from rfl, Nat.mul_one, Nat.add_zero] at hf38_0); clear hcl38 hcc38 hfr38 hM38) | ((with_reducible refine gate_store (t := 3) (p := 63) rfl ?_); refine store_event (t := 3) (p := 63) (v := ?vo_w39) (w1 := (w36.setCell ⟨go24, ((ji18) : Int).toNat * 4, none⟩ (.int .i64 (wrap64 (((rd_T28 y360 (ji18)).f0) + 1))))) ?hg ?ho ?hn ?hr ?_; (case ho => rfl); (case hg => rfl); (case hn => rfl); (case hr => first | (go_simp; done) | (go_simp; rfl)); intro w39 hw; have hg : w36.grownBy w39 (some go24) := (by rw [hw]; exact HP38.2); have hp_ : Kd.N k28 28 w39 w.heap.size (fun _ => True) (.slice (some ⟨go24, 0, none⟩) y360.length co37) y364 := (by rw [hw, Ny364.out]; exact HP38.1); clear HP38; have n0_ := Aside0.mk (Kd.N_afterv (v := (.slice (some ⟨go24, 0, none⟩) y360.length co37)) (v1 := (.slice (some ⟨go24, 0, none⟩) y360.length co37)) (ok := (fun _ => True)) (by (with_reducible repeat (first | apply Kd.N_alloc | apply Kd.N_drewN | apply Kd.N_drew)); exact HO_5.out) hg (.inl rfl)); have n1_ := Aside0.mk (Kd.V_afterv (v := (.slice (some ⟨go24, 0, none⟩) y360.length co37)) (v1 := (.slice (some ⟨go24, 0, none⟩) y360.length co37)) (ok := (fun k_ => some k_ ≠ (.slice (some ad356) t351.length co11 : Value).ownBlock)) (by (with_reducible repeat (first | apply Kd.V_alloc | apply Kd.V_drewN | apply Kd.V_drew)); exact HL356_3.out) hg (.inl rfl)); have n2_ := Aside0.mk (hp_); have n3_ := Aside0.mk (Kd.V_afterv (v := (.slice (some ⟨go24, 0, none⟩) y360.length co37)) (v1 := (.slice (some ⟨go24, 0, none⟩) y360.length co37)) (ok := (fun _ => True)) (by (with_reducible repeat (first | apply Kd.V_alloc | apply Kd.V_drewN | apply Kd.V_drew)); exact HL363_3.out) hg (.inl rfl)); have n4_ := Aside0.mk ((by rw [hw]; exact below_set (HB.out) GB24.out : Below w.heap.size w w39)); clear HO_5; clear HL356_3; clear HO362; clear HL363_3; clear HB; have HO_5 := n0_; have HL356_3 := n1_; have HO362 := n2_; have HL363_3 := n3_; have HB := n4_; clear n0_ n1_ n2_ n3_ n4_; clear hg hw hp_) | ((with_reducible refine gate_callee (f := 30) rfl ?_); refine goesL_ (some 65) rfl rfl Try.func30 (by kernel_rfl) rfl #[.slice (some ⟨go24, 0, none⟩) y364.length co37] rfl (by (try simp only [List.map_toArray, List.map_cons, List.map_nil]); first | done | (rw [show y364.length = y360.length from (Kd.N_reads' HO362.out).1.symm] <;> rfl) | rfl | (simp only [List.length_drop, List.length_take]; rfl)) ?_; (with_reducible refine (impl_StepsLength.calls kj8 _ _ y364 t365 _ ?side1 ?side2 A25.out).mono ?_); (case side1 => repeat (first | exact (Kd.N_reads' HO362.out).2.2 | (with_reducible refine Kd.C_alloc ?_ _) | (with_reducible refine Kd.C_drewN ?_ _) | (with_reducible refine Kd.C_drew ?_))); (case side2 => rw [show y364.length = y360.length from (Kd.N_reads' HO362.out).1.symm]; exact (Kd.N_reads' HO362.out).2.1); rintro e w40 ⟨rfl, hb⟩; refine ⟨_, rfl, ?_⟩; have n0_ := Aside0.mk (Kd.N_below (by (with_reducible repeat (first | apply Kd.N_alloc | apply Kd.N_drewN | apply Kd.N_drew)); exact HO_5.out) hb); have n1_ := Aside0.mk (Kd.V_below (by (with_reducible repeat (first | apply Kd.V_alloc | apply Kd.V_drewN | apply Kd.V_drew)); exact HL356_3.out) hb); have n2_ := Aside0.mk (Kd.N_below (by (with_reducible repeat (first | apply Kd.N_alloc | apply Kd.N_drewN | apply Kd.N_drew)); exact HO362.out) hb); have n3_ := Aside0.mk (Kd.V_below (by (with_reducible repeat (first | apply Kd.V_alloc | apply Kd.V_drewN | apply Kd.V_drew)); exact HL363_3.out) hb); have n4_ := Aside0.mk (below_step (by repeat (first | (with_reducible first | exact HB.out | apply below_alloc | apply pw_below_drewN | apply below_drew1) | exact HB.out)) hb); clear HO_5; clear HL356_3; clear HO362; clear HL363_3; clear HB; have HO_5 := n0_; have HL356_3 := n1_; have HO362 := n2_; have HL363_3 := n3_; have HB := n4_; clear n0_ n1_ n2_ n3_ n4_; (try clear hb); (try clear hb2); (try clear hk); (try clear hi)))
              go_ret
              exact ⟨by first | rfl | (simp [errW_none, errW_some] <;> rfl) | (simp only [← hji18]; first | rfl | (simp [errW_none, errW_some] <;> rfl)) | (simp [*, errW_none, errW_some] <;> rfl), by repeat (first | (with_reducible first | exact HB.out | apply below_alloc | apply pw_below_drewN | apply below_drew1) | exact HB.out)⟩
            ·rw [if_neg c23] at H
             exact absurd H (by simp)
           ·rw [if_neg c22] at H
            exact absurd H (by simp)
         ·rw [if_neg c20] at H
          exact absurd H (by simp)
        ·rw [if_neg c19] at H
         exact absurd H (by simp)

/-- THE ONE PURE STATEMENT of laws_FnStepsLonger: yours. -/
def laws_FnStepsLonger.Pure : Prop := ∀ (l0 : List Int) (l1 : List Int), l0.length ≤ maxLen → l0.length * 1 ≤ 140737488351232 → (∀ x ∈ l0, (Lit.int .u8 x).wf = true) → l1.length ≤ maxLen → l1.length * 1 ≤ 140737488351232 → (∀ x ∈ l1, (Lit.int .u8 x).wf = true) → ∃ k, laws_FnStepsLonger.f k l0 l1 = some true
theorem laws_FnStepsLonger.walk (P : laws_FnStepsLonger.Pure) (a0 : Option Addr) (len0 cap0 : Nat) (z0 : List Int) (a1 : Option Addr) (len1 cap1 : Nat) (z1 : List Int) (w : World) (w0 : (a0 = none ∧ len0 = 0 ∧ cap0 = 0 ∧ z0 = []) ∨ ∃ x, a0 = some x ∧ len0 ≤ cap0 ∧ cap0 ≤ maxLen ∧ z0.length = cap0 ∧ (∀ i, i < z0.length → w.cell? (x.add i) = some (.int .u8 (z0.getD i 0))) ∧ ∀ n ∈ z0, (Lit.int .u8 n).wf = true) (y0 : len0 * 1 ≤ 140737488351232) (w1 : (a1 = none ∧ len1 = 0 ∧ cap1 = 0 ∧ z1 = []) ∨ ∃ x, a1 = some x ∧ len1 ≤ cap1 ∧ cap1 ≤ maxLen ∧ z1.length = cap1 ∧ (∀ i, i < z1.length → w.cell? (x.add i) = some (.int .u8 (z1.getD i 0))) ∧ ∀ n ∈ z1, (Lit.int .u8 n).wf = true) (y1 : len1 * 1 ≤ 140737488351232) :
  Calls Try.prog 7 #[.slice a0 len0 cap0, .slice a1 len1 cap1] w fun e w' => e = .returned (.bool true) ∧ Below w.heap.size w w' := by
 obtain ⟨l0, rfl, hr0, hm0, hw0, hc0⟩ := ReadsInt.ofRowC w0
 obtain ⟨l1, rfl, hr1, hm1, hw1, hc1⟩ := ReadsInt.ofRowC w1
 obtain ⟨k, h⟩ := P l0 l1 hm0 y0 hw0 hm1 y1 hw1
 refine (laws_FnStepsLonger.calls k _ _ l0 _ _ l1 true w (Kd.C_of_reads (d := (0 : Int)) (h1 := fun _ => rfl) hr0) hc0 (Kd.C_of_reads (d := (0 : Int)) (h1 := fun _ => rfl) hr1) hc1 h).mono ?_
 rintro e w' ⟨rfl, hd⟩
 exact ⟨rfl, hd⟩

end Go.Proofs.Ytegfpoagplpjiaa.PAll
