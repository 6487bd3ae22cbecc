-- PRINTED by print.py (a twelfth state) out of the translation. Not trusted: Lean checks it.
import Derived.Test.YtfnngpfkcnfhiaaPAllx0
import Derived.Test.YtfnngpfkcnfhiaaPAllx2
import Derived.Test.YtfnngpfkcnfhiaaPAllx3
import Derived.Test.YtfnngpfkcnfhiaaPAllx13
namespace Go.Proofs.Ytfnngpfkcnfhiaa.PAll
open Go.RowKit Go.Proofs.YtfnngpfkcnfhiaaW.PrintWords Go.Proofs.YtfnngpfkcnfhiaaW.PrintLast Go.Proofs.YtfnngpfkcnfhiaaW.PrintMore
attribute [local go_sem] max2_int min2_int max_two min_two max_three min_three max_four min_four   -- for this text's walks alone
set_option linter.unusedVariables false
set_option linter.unusedSimpArgs false

/-! ### spec_StoreTake: function 22 -/
mutual
def spec_StoreTake.j0 : Nat → List (S30) → Int → Int → Int → List (S30) → List (S30) → Bool → Option ((List (S30)) × (List (S30)) × Bool)
 | 0, _, _, _, _, _, _, _ => none
 | k + 1, x0, x1, x2, x3, x11, x12, x33 => if x33 = true then (some (x11, x12, false)) else (spec_StoreTake.l0 k x0 x1 x2 x3 x11 x12 0)
def spec_StoreTake.l0 : Nat → List (S30) → Int → Int → Int → List (S30) → List (S30) → Int → Option ((List (S30)) × (List (S30)) × Bool)
 | 0, _, _, _, _, _, _, _ => none
 | k + 1, x0, x1, x2, x3, x11, x12, x13 => if x13 < (x0.length : Int) then (if 0 ≤ x13 then (if ((rd_T30 x0 x13).f0) = x1 then (if ((rd_T30 x0 x13).f1) ≥ x3 then (spec_StoreTake.j2 k x0 x1 x2 x3 x11 x12 x13 (decide (x2 > 0)) ((rd_T30 x0 x13).f0) ((rd_T30 x0 x13).f1) ((rd_T30 x0 x13).f2)) else (spec_StoreTake.j2 k x0 x1 x2 x3 x11 x12 x13 false ((rd_T30 x0 x13).f0) ((rd_T30 x0 x13).f1) ((rd_T30 x0 x13).f2))) else (spec_StoreTake.j2 k x0 x1 x2 x3 x11 x12 x13 false ((rd_T30 x0 x13).f0) ((rd_T30 x0 x13).f1) ((rd_T30 x0 x13).f2))) else (none)) else (some (x11, x12, true))
def spec_StoreTake.j2 : Nat → List (S30) → Int → Int → Int → List (S30) → List (S30) → Int → Bool → Int → Int → Int → Option ((List (S30)) × (List (S30)) × Bool)
 | 0, _, _, _, _, _, _, _, _, _, _, _ => none
 | k + 1, x0, x1, x2, x3, x11, x12, x13, x59, x387000, x387001, x387002 => if x59 = true then (if x12.length < 5864062014805 then ((some (x12 ++ [(⟨x387000, x387001, mn x2 x387002⟩ : S30)] : List (S30))).bind fun y387 => (if (wrap64 (x387002 - (mn x2 x387002))) > 0 then (if x11.length < 5864062014805 then (spec_StoreTake.l0 k x0 x1 (wrap64 (x2 - (mn x2 x387002))) x3 (x11 ++ [(⟨x387000, x387001, wrap64 (x387002 - (mn x2 x387002))⟩ : S30)]) y387 (wrap64 (x13 + 1))) else (none)) else (spec_StoreTake.l0 k x0 x1 (wrap64 (x2 - (mn x2 x387002))) x3 x11 y387 (wrap64 (x13 + 1))))) else (none)) else (if x387002 > 0 then (if x11.length < 5864062014805 then (spec_StoreTake.l0 k x0 x1 x2 x3 (x11 ++ [(⟨x387000, x387001, x387002⟩ : S30)]) x12 (wrap64 (x13 + 1))) else (none)) else (spec_StoreTake.l0 k x0 x1 x2 x3 x11 x12 (wrap64 (x13 + 1))))
end
def spec_StoreTake.f (k : Nat) (l0 : List (S30)) (a1 : Int) (a2 : Int) (a3 : Int) : Option ((List (S30)) × (List (S30)) × Bool) := (some (([] : List (S30)) : List (S30))).bind fun y376 => ((some (([] : List (S30)) : List (S30))).bind fun y379 => ((spec_StoreValid.f k l0).bind fun t382 => (if t382 = true then ((spec_l6In.f a2 0 999999).bind fun t383 => (if t383 = true then ((spec_StoreHas.f k l0 a1 a3).bind fun t384 => (spec_StoreTake.j0 k l0 a1 a2 a3 y376 y379 (decide (t384 < a2)))) else (spec_StoreTake.j0 k l0 a1 a2 a3 y376 y379 true))) else (spec_StoreTake.j0 k l0 a1 a2 a3 y376 y379 true))))
set_option maxHeartbeats 8000000 in
set_option maxRecDepth 100000 in
theorem spec_StoreTake.calls (k : Nat) (A0 : Option Addr) (c0 : Nat) (l0 : List (S30)) (a1 : Int) (a2 : Int) (a3 : Int) (r1 : List (S30)) (r2 : List (S30)) (r3 : Bool) (w : World) (hr0 : Kd.C k30 w A0 l0.length l0) (hc0 : l0.length ≤ c0) (h : spec_StoreTake.f k l0 a1 a2 a3 = some (r1, r2, r3)) :
  Calls Try.prog 22 #[.slice A0 l0.length c0, .int .i64 a1, .int .i64 a2, .int .i64 a3] w fun e w' => ∃ v0_ v1_ : Value, e = .returned (.tuple #[v0_, v1_, .bool r3]) ∧ Kd.R k30 30 w' w.heap.size (fun k_ => some k_ ≠ (v1_ : Value).ownBlock) v0_ r1 ∧ Kd.R k30 30 w' w.heap.size (fun k_ => some k_ ≠ (v0_ : Value).ownBlock) v1_ r2 ∧ Below w.heap.size w w' := by
 have hu30 := Try.underlying30
 have HR0 := Aside0.mk hr0
 have HC0 := Aside0.mk hc0
 clear hr0 hc0
 have HB := Aside0.mk (Below.refl w.heap.size w)
 have H : ((some (([] : List (S30)) : List (S30))).bind fun y376 => ((some (([] : List (S30)) : List (S30))).bind fun y379 => ((spec_StoreValid.f k l0).bind fun t382 => (if t382 = true then ((spec_l6In.f a2 0 999999).bind fun t383 => (if t383 = true then ((spec_StoreHas.f k l0 a1 a3).bind fun t384 => (spec_StoreTake.j0 k l0 a1 a2 a3 y376 y379 (decide (t384 < a2)))) else (spec_StoreTake.j0 k l0 a1 a2 a3 y376 y379 true))) else (spec_StoreTake.j0 k l0 a1 a2 a3 y376 y379 true))))) = some (r1, r2, r3) := h
 clear h
 obtain ⟨y376, hy376⟩ : ∃ y_ : List (S30), y_ = (([] : List (S30))) := ⟨_, rfl⟩
 replace H : ((some (([] : List (S30)) : List (S30))).bind fun y379 => ((spec_StoreValid.f k l0).bind fun t382 => (if t382 = true then ((spec_l6In.f a2 0 999999).bind fun t383 => (if t383 = true then ((spec_StoreHas.f k l0 a1 a3).bind fun t384 => (spec_StoreTake.j0 k l0 a1 a2 a3 y376 y379 (decide (t384 < a2)))) else (spec_StoreTake.j0 k l0 a1 a2 a3 y376 y379 true))) else (spec_StoreTake.j0 k l0 a1 a2 a3 y376 y379 true)))) = some (r1, r2, r3) := by first | (rw [hy376]; with_reducible exact H) | (have H2_ := (Option.bind_some _ _).symm.trans H; rw [hy376]; with_reducible exact H2_) | (have H2_ := (Option.bind_some _ _).symm.trans H; with_reducible exact H2_) | with_reducible exact H | (rw [hy376]; exact H) | exact H
 have Ny376 := Aside0.mk hy376
 clear hy376
 obtain ⟨y379, hy379⟩ : ∃ y_ : List (S30), y_ = (([] : List (S30))) := ⟨_, rfl⟩
 replace H : ((spec_StoreValid.f k l0).bind fun t382 => (if t382 = true then ((spec_l6In.f a2 0 999999).bind fun t383 => (if t383 = true then ((spec_StoreHas.f k l0 a1 a3).bind fun t384 => (spec_StoreTake.j0 k l0 a1 a2 a3 y376 y379 (decide (t384 < a2)))) else (spec_StoreTake.j0 k l0 a1 a2 a3 y376 y379 true))) else (spec_StoreTake.j0 k l0 a1 a2 a3 y376 y379 true))) = some (r1, r2, r3) := by first | (rw [hy379]; with_reducible exact H) | (have H2_ := (Option.bind_some _ _).symm.trans H; rw [hy379]; with_reducible exact H2_) | (have H2_ := (Option.bind_some _ _).symm.trans H; with_reducible exact H2_) | with_reducible exact H | (rw [hy379]; exact H) | exact H
 have Ny379 := Aside0.mk hy379
 clear hy379
 have HC5 := Aside0.mk H
 clear H
 go_enter Try.func22, Try.ntmps22
 go_upto_region 3 with (first | ((with_reducible refine gate_dst (N := 16) rfl ?_); refine Kd.R_lit k30 _ 30 ?hg (N := 16) ?hd (xs := ([] : List (S30))) (inner := []) (ok := fun _ => True) (okp := fun _ => True) ?hr ?hp (fun _ hk => hk) trivial (Below.refl _ _) (Nat.le_refl _) (by simp) ?_; (case hd => rfl); (case hg => rfl); (case hr => first | (go_simp; done) | (go_simp; rfl)); (case hp => exact (Reps.none _ _)); intro v377 w6 ho7 hb hg_ hnew_; clear hg_ hnew_; (first | rw [← Ny376.out] at ho7 | (simp only [Int.reduceToNat] at ho7; rw [← Ny376.out] at ho7)); have n0_ := Aside0.mk (Kd.R_lower ho7 (below_size (by repeat (first | (with_reducible first | exact HB.out | apply below_alloc | apply pw_below_drewN | apply below_drew1) | exact HB.out)))); have n1_ := Aside0.mk (below_step (by repeat (first | (with_reducible first | exact HB.out | apply below_alloc | apply pw_below_drewN | apply below_drew1) | exact HB.out)) hb); clear HB; have HO378 := n0_; have HB := n1_; clear n0_ n1_; clear hb ho7) | ((with_reducible refine gate_dst (N := 17) rfl ?_); refine Kd.R_lit k30 _ 30 ?hg (N := 17) ?hd (xs := ([] : List (S30))) (inner := []) (ok := fun _ => True) (okp := fun _ => True) ?hr ?hp (fun _ hk => hk) trivial (Below.refl _ _) (Nat.le_refl _) (by simp) ?_; (case hd => rfl); (case hg => rfl); (case hr => first | (go_simp; done) | (go_simp; rfl)); (case hp => exact (Reps.none _ _)); intro v380 w8 ho9 hb hg_ hnew_; clear hg_ hnew_; (first | rw [← Ny379.out] at ho9 | (simp only [Int.reduceToNat] at ho9; rw [← Ny379.out] at ho9)); have n0_ := Aside0.mk (Kd.R_elder' (by (with_reducible repeat (first | apply Kd.R_alloc | apply Kd.R_drewN | apply Kd.R_drew)); exact HO378.out) (Kd.R_base ho9) hb); have n1_ := Aside0.mk (Kd.R_lower (Kd.R_new' ho9 (Kd.R_lt (by (with_reducible repeat (first | apply Kd.R_alloc | apply Kd.R_drewN | apply Kd.R_drew)); exact HO378.out))) (below_size (by repeat (first | (with_reducible first | exact HB.out | apply below_alloc | apply pw_below_drewN | apply below_drew1) | exact HB.out)))); have n2_ := Aside0.mk (below_step (by repeat (first | (with_reducible first | exact HB.out | apply below_alloc | apply pw_below_drewN | apply below_drew1) | exact HB.out)) hb); clear HO378; clear HB; have HO378 := n0_; have HO381 := n1_; have HB := n2_; clear n0_ n1_ n2_; clear hb ho9))
 (try simp only [Act.put, List.setIfInBounds_toArray, List.set_cons_zero, List.set_cons_succ])
 go_cut [33] (fun v33 wc => ∃ (kq : Nat) (x33_4 : Bool), v33 = .bool x33_4 ∧ Aside0 (spec_StoreTake.j0 kq l0 a1 a2 a3 y376 y379 x33_4 = some (r1, r2, r3)) ∧ Aside0 (kq ≤ k) ∧ Aside0 (Kd.R k30 30 wc w.heap.size (fun k_ => some k_ ≠ (v380 : Value).ownBlock) v377 y376) ∧ Aside0 (Kd.R k30 30 wc w.heap.size (fun k_ => some k_ ≠ (v377 : Value).ownBlock) v380 y379) ∧ Aside0 (Below w.heap.size w wc))
 case first =>
  have H := HC5.out
  clear HC5
  replace H := Option.bind_eq_some_iff.mp H
  obtain ⟨t382, A100, H⟩ := H
  replace H : (if t382 = true then ((spec_l6In.f a2 0 999999).bind fun t383 => (if t383 = true then ((spec_StoreHas.f k l0 a1 a3).bind fun t384 => (spec_StoreTake.j0 k l0 a1 a2 a3 y376 y379 (decide (t384 < a2)))) else (spec_StoreTake.j0 k l0 a1 a2 a3 y376 y379 true))) else (spec_StoreTake.j0 k l0 a1 a2 a3 y376 y379 true)) = some (r1, r2, r3) := H
  have A10 := Aside0.mk A100
  clear A100
  by_cases c11 : t382 = true
  ·subst c11
   have H1 : ((spec_l6In.f a2 0 999999).bind fun t383 => (if t383 = true then ((spec_StoreHas.f k l0 a1 a3).bind fun t384 => (spec_StoreTake.j0 k l0 a1 a2 a3 y376 y379 (decide (t384 < a2)))) else (spec_StoreTake.j0 k l0 a1 a2 a3 y376 y379 true))) = some (r1, r2, r3) := by rw [if_pos rfl] at H; exact H
   clear H
   have H := H1
   clear H1
   replace H := Option.bind_eq_some_iff.mp H
   obtain ⟨t383, A120, H⟩ := H
   replace H : (if t383 = true then ((spec_StoreHas.f k l0 a1 a3).bind fun t384 => (spec_StoreTake.j0 k l0 a1 a2 a3 y376 y379 (decide (t384 < a2)))) else (spec_StoreTake.j0 k l0 a1 a2 a3 y376 y379 true)) = some (r1, r2, r3) := H
   have A12 := Aside0.mk A120
   clear A120
   by_cases c13 : t383 = true
   ·subst c13
    have H1 : ((spec_StoreHas.f k l0 a1 a3).bind fun t384 => (spec_StoreTake.j0 k l0 a1 a2 a3 y376 y379 (decide (t384 < a2)))) = some (r1, r2, r3) := by rw [if_pos rfl] at H; exact H
    clear H
    have H := H1
    clear H1
    replace H := Option.bind_eq_some_iff.mp H
    obtain ⟨t384, A140, H⟩ := H
    replace H : (spec_StoreTake.j0 k l0 a1 a2 a3 y376 y379 (decide (t384 < a2))) = some (r1, r2, r3) := H
    have A14 := Aside0.mk A140
    clear A140
    have H' := Aside0.mk H
    clear H
    go_wp2_with (first | ((with_reducible refine gate_callee (f := 23) rfl ?_); refine goesL_ (some 19) rfl rfl Try.func23 (by kernel_rfl) rfl #[.slice A0 l0.length c0] rfl (by (try simp only [List.map_toArray, List.map_cons, List.map_nil]); first | done | rfl | (simp only [List.length_drop, List.length_take]; rfl)) ?_; (with_reducible refine (spec_StoreValid.calls k _ _ l0 true _ ?side1 ?side2 A10.out).mono ?_); (case side1 => repeat (first | exact (Kd.C_below HR0.out HB.out) | (with_reducible refine Kd.C_alloc ?_ _) | (with_reducible refine Kd.C_drewN ?_ _) | (with_reducible refine Kd.C_drew ?_))); (case side2 => exact HC0.out); rintro e w15 ⟨rfl, hb⟩; refine ⟨_, rfl, ?_⟩; have n0_ := Aside0.mk (Kd.R_below (by (with_reducible repeat (first | apply Kd.R_alloc | apply Kd.R_drewN | apply Kd.R_drew)); exact HO378.out) hb); have n1_ := Aside0.mk (Kd.R_below (by (with_reducible repeat (first | apply Kd.R_alloc | apply Kd.R_drewN | apply Kd.R_drew)); exact HO381.out) hb); have n2_ := Aside0.mk (below_step (by repeat (first | (with_reducible first | exact HB.out | apply below_alloc | apply pw_below_drewN | apply below_drew1) | exact HB.out)) hb); clear HO378; clear HO381; clear HB; have HO378 := n0_; have HO381 := n1_; have HB := n2_; clear n0_ n1_ n2_; (try clear hb); (try clear hb2); (try clear hk); (try clear hi)) | (go_at_call 38; (with_reducible refine (spec_l6In.calls a2 0 999999 true _ A12.out).mono ?_); rintro e w' ⟨rfl, ⟨nd, rfl⟩⟩) | (go_at_call 36; (with_reducible refine (spec_StoreHas.calls k _ _ l0 a1 a3 t384 _ ?side1 ?side2 A14.out).mono ?_); (case side1 => repeat (first | exact (Kd.C_below HR0.out (by repeat (first | (with_reducible first | exact HB.out | apply below_alloc | apply pw_below_drewN | apply below_drew1) | exact HB.out))) | (with_reducible refine Kd.C_alloc ?_ _) | (with_reducible refine Kd.C_drewN ?_ _) | (with_reducible refine Kd.C_drew ?_))); (case side2 => exact HC0.out); rintro e w16 ⟨rfl, hb⟩; have n0_ := Aside0.mk (Kd.R_below (by (with_reducible repeat (first | apply Kd.R_alloc | apply Kd.R_drewN | apply Kd.R_drew)); exact HO378.out) hb); have n1_ := Aside0.mk (Kd.R_below (by (with_reducible repeat (first | apply Kd.R_alloc | apply Kd.R_drewN | apply Kd.R_drew)); exact HO381.out) hb); have n2_ := Aside0.mk (below_step (by repeat (first | (with_reducible first | exact HB.out | apply below_alloc | apply pw_below_drewN | apply below_drew1) | exact HB.out)) hb); clear HO378; clear HO381; clear HB; have HO378 := n0_; have HO381 := n1_; have HB := n2_; clear n0_ n1_ n2_; (try clear hb); (try clear hb2); (try clear hk); (try clear hi)))
    go_meet
    case rel => exact ⟨_, (decide (t384 < a2)), (by first | rfl | (simp; done) | (simp [*]; done) | (simp only [wrap64, IntKind.wrap_i64]; done) | (simp [wrap64, IntKind.wrap_i64]; done)), H', ⟨by first | omega | exact Nat.le_refl _⟩, ⟨by (with_reducible repeat (first | apply Kd.R_alloc | apply Kd.R_drewN | apply Kd.R_drew)); exact Kd.R_mono HO378.out (fun _ hk => by first | exact hk.2 | trivial)⟩, ⟨by (with_reducible repeat (first | apply Kd.R_alloc | apply Kd.R_drewN | apply Kd.R_drew)); exact Kd.R_mono HO381.out (fun _ hk => by first | exact hk.2 | trivial)⟩, ⟨by repeat (first | (with_reducible first | exact HB.out | apply below_alloc | apply pw_below_drewN | apply below_drew1) | exact HB.out)⟩⟩
   ·replace c13 := Bool.eq_false_iff.mpr c13
    subst c13
    have H1 : (spec_StoreTake.j0 k l0 a1 a2 a3 y376 y379 true) = some (r1, r2, r3) := by rw [if_neg (show ¬ (false = true) by decide)] at H; exact H
    clear H
    have H := H1
    clear H1
    have H' := Aside0.mk H
    clear H
    go_wp2_with (first | ((with_reducible refine gate_callee (f := 23) rfl ?_); refine goesL_ (some 19) rfl rfl Try.func23 (by kernel_rfl) rfl #[.slice A0 l0.length c0] rfl (by (try simp only [List.map_toArray, List.map_cons, List.map_nil]); first | done | rfl | (simp only [List.length_drop, List.length_take]; rfl)) ?_; (with_reducible refine (spec_StoreValid.calls k _ _ l0 true _ ?side1 ?side2 A10.out).mono ?_); (case side1 => repeat (first | exact (Kd.C_below HR0.out HB.out) | (with_reducible refine Kd.C_alloc ?_ _) | (with_reducible refine Kd.C_drewN ?_ _) | (with_reducible refine Kd.C_drew ?_))); (case side2 => exact HC0.out); rintro e w17 ⟨rfl, hb⟩; refine ⟨_, rfl, ?_⟩; have n0_ := Aside0.mk (Kd.R_below (by (with_reducible repeat (first | apply Kd.R_alloc | apply Kd.R_drewN | apply Kd.R_drew)); exact HO378.out) hb); have n1_ := Aside0.mk (Kd.R_below (by (with_reducible repeat (first | apply Kd.R_alloc | apply Kd.R_drewN | apply Kd.R_drew)); exact HO381.out) hb); have n2_ := Aside0.mk (below_step (by repeat (first | (with_reducible first | exact HB.out | apply below_alloc | apply pw_below_drewN | apply below_drew1) | exact HB.out)) hb); clear HO378; clear HO381; clear HB; have HO378 := n0_; have HO381 := n1_; have HB := n2_; clear n0_ n1_ n2_; (try clear hb); (try clear hb2); (try clear hk); (try clear hi)) | (go_at_call 38; (with_reducible refine (spec_l6In.calls a2 0 999999 false _ A12.out).mono ?_); rintro e w' ⟨rfl, ⟨nd, rfl⟩⟩))
    go_meet
    case rel => exact ⟨_, (true), (by first | rfl | (simp; done) | (simp [*]; done) | (simp only [wrap64, IntKind.wrap_i64]; done) | (simp [wrap64, IntKind.wrap_i64]; done)), H', ⟨by first | omega | exact Nat.le_refl _⟩, ⟨by (with_reducible repeat (first | apply Kd.R_alloc | apply Kd.R_drewN | apply Kd.R_drew)); exact Kd.R_mono HO378.out (fun _ hk => by first | exact hk.2 | trivial)⟩, ⟨by (with_reducible repeat (first | apply Kd.R_alloc | apply Kd.R_drewN | apply Kd.R_drew)); exact Kd.R_mono HO381.out (fun _ hk => by first | exact hk.2 | trivial)⟩, ⟨by repeat (first | (with_reducible first | exact HB.out | apply below_alloc | apply pw_below_drewN | apply below_drew1) | exact HB.out)⟩⟩
  ·replace c11 := Bool.eq_false_iff.mpr c11
   subst c11
   have H1 : (spec_StoreTake.j0 k l0 a1 a2 a3 y376 y379 true) = some (r1, r2, r3) := by rw [if_neg (show ¬ (false = true) by decide)] at H; exact H
   clear H
   have H := H1
   clear H1
   have H' := Aside0.mk H
   clear H
   go_wp2_with (first | ((with_reducible refine gate_callee (f := 23) rfl ?_); refine goesL_ (some 19) rfl rfl Try.func23 (by kernel_rfl) rfl #[.slice A0 l0.length c0] rfl (by (try simp only [List.map_toArray, List.map_cons, List.map_nil]); first | done | rfl | (simp only [List.length_drop, List.length_take]; rfl)) ?_; (with_reducible refine (spec_StoreValid.calls k _ _ l0 false _ ?side1 ?side2 A10.out).mono ?_); (case side1 => repeat (first | exact (Kd.C_below HR0.out HB.out) | (with_reducible refine Kd.C_alloc ?_ _) | (with_reducible refine Kd.C_drewN ?_ _) | (with_reducible refine Kd.C_drew ?_))); (case side2 => exact HC0.out); rintro e w18 ⟨rfl, hb⟩; refine ⟨_, rfl, ?_⟩; have n0_ := Aside0.mk (Kd.R_below (by (with_reducible repeat (first | apply Kd.R_alloc | apply Kd.R_drewN | apply Kd.R_drew)); exact HO378.out) hb); have n1_ := Aside0.mk (Kd.R_below (by (with_reducible repeat (first | apply Kd.R_alloc | apply Kd.R_drewN | apply Kd.R_drew)); exact HO381.out) hb); have n2_ := Aside0.mk (below_step (by repeat (first | (with_reducible first | exact HB.out | apply below_alloc | apply pw_below_drewN | apply below_drew1) | exact HB.out)) hb); clear HO378; clear HO381; clear HB; have HO378 := n0_; have HO381 := n1_; have HB := n2_; clear n0_ n1_ n2_; (try clear hb); (try clear hb2); (try clear hk); (try clear hi)))
   go_meet
   case rel => exact ⟨_, (true), (by first | rfl | (simp; done) | (simp [*]; done) | (simp only [wrap64, IntKind.wrap_i64]; done) | (simp [wrap64, IntKind.wrap_i64]; done)), H', ⟨by first | omega | exact Nat.le_refl _⟩, ⟨by (with_reducible repeat (first | apply Kd.R_alloc | apply Kd.R_drewN | apply Kd.R_drew)); exact Kd.R_mono HO378.out (fun _ hk => by first | exact hk.2 | trivial)⟩, ⟨by (with_reducible repeat (first | apply Kd.R_alloc | apply Kd.R_drewN | apply Kd.R_drew)); exact Kd.R_mono HO381.out (fun _ hk => by first | exact hk.2 | trivial)⟩, ⟨by repeat (first | (with_reducible first | exact HB.out | apply below_alloc | apply pw_below_drewN | apply below_drew1) | exact HB.out)⟩⟩
 case rest =>
  clear HC5
  try clear c1
  try clear c2
  try clear p2
  try clear c11
  try clear c13
  obtain ⟨kq, x33_4, rfl, HA, HJ4, HO_11, HO_12, HB⟩ := hcut
  cases kq with
  | zero => exact absurd HA.out (by simp [spec_StoreTake.j0])
  | succ kj4 =>
   have H := HA.out
   clear HA
   simp only [spec_StoreTake.j0] at H
   by_cases c19 : x33_4 = true
   ·subst c19
    have H1 : (some (y376, y379, false)) = some (r1, r2, r3) := by rw [if_pos rfl] at H; exact H
    clear H
    have H := H1
    clear H1
    simp only [Option.some.injEq, Prod.mk.injEq] at H
    obtain ⟨rfl, rfl, rfl⟩ := H
    go_wp2
    go_ret3
    exact ⟨_, _, by first | rfl | (simp [errW_none, errW_some] <;> rfl) | (simp [*, errW_none, errW_some] <;> rfl), by (with_reducible repeat (first | apply Kd.R_alloc | apply Kd.R_drewN | apply Kd.R_drew)); exact HO_11.out, by (with_reducible repeat (first | apply Kd.R_alloc | apply Kd.R_drewN | apply Kd.R_drew)); exact HO_12.out, by repeat (first | (with_reducible first | exact HB.out | apply below_alloc | apply pw_below_drewN | apply below_drew1) | exact HB.out)⟩
   ·replace c19 := Bool.eq_false_iff.mpr c19
    subst c19
    have H1 : (spec_StoreTake.l0 kj4 l0 a1 a2 a3 y376 y379 0) = some (r1, r2, r3) := by rw [if_neg (show ¬ (false = true) by decide)] at H; exact H
    clear H
    have H := H1
    clear H1
    have H' := Aside0.mk H
    clear H
    go_wp2
    go_loopg [2, 11, 12, 13] kj4 (fun kq v2 v11 v12 v13 w' => ∃ (x2_2 : Int) (x11_2 : List (S30)) (x12_2 : List (S30)) (x13_2 : Int), v2 = .int .i64 x2_2 ∧ v13 = .int .i64 x13_2 ∧ Aside0 (spec_StoreTake.l0 kq l0 a1 x2_2 a3 x11_2 x12_2 x13_2 = some (r1, r2, r3)) ∧ Aside0 (kq ≤ kj4) ∧ Aside0 (Kd.R k30 30 w' w.heap.size (fun k_ => some k_ ≠ (v12 : Value).ownBlock) v11 x11_2) ∧ Aside0 (Kd.R k30 30 w' w.heap.size (fun k_ => some k_ ≠ (v11 : Value).ownBlock) v12 x12_2) ∧ Aside0 (Below w.heap.size w w'))
    case atStart => exact ⟨(a2), (y376), (y379), (0), (by first | rfl | (simp; done) | (simp [*]; done) | (simp only [wrap64, IntKind.wrap_i64]; done) | (simp [wrap64, IntKind.wrap_i64]; done)), (by first | rfl | (simp; done) | (simp [*]; done) | (simp only [wrap64, IntKind.wrap_i64]; done) | (simp [wrap64, IntKind.wrap_i64]; done)), H', ⟨Nat.le_refl _⟩, ⟨by (with_reducible repeat (first | apply Kd.R_alloc | apply Kd.R_drewN | apply Kd.R_drew)); exact HO_11.out⟩, ⟨by (with_reducible repeat (first | apply Kd.R_alloc | apply Kd.R_drewN | apply Kd.R_drew)); exact HO_12.out⟩, ⟨by repeat (first | (with_reducible first | exact HB.out | apply below_alloc | apply pw_below_drewN | apply below_drew1) | exact HB.out)⟩⟩
    case round =>
     clear H'
     try clear c1
     try clear c2
     try clear p2
     try clear c11
     try clear c13
     try clear c19
     try clear p2
     obtain ⟨x2_2, x11_2, x12_2, x13_2, rfl, rfl, HA, HK2, HO_11, HO_12, HB⟩ := hrel
     cases gk with
     | zero => exact absurd HA.out (by simp [spec_StoreTake.l0])
     | succ k2 =>
      have H := HA.out
      clear HA
      simp only [spec_StoreTake.l0] at H
      by_cases c20 : x13_2 < (l0.length : Int)
      ·rw [if_pos c20] at H
       have c20b0 : decide (x13_2 < (l0.length : Int)) = true := decide_eq_true c20
       clear c20
       by_cases c21 : 0 ≤ x13_2
       ·rw [if_pos c21] at H
        have c21b0 : decide (0 ≤ x13_2) = true := decide_eq_true c21
        clear c21
        have HC22 := Aside0.mk H
        clear H
        have p385 : 0 ≤ (x13_2 : Int) := of_decide_eq_true (by first | (with_reducible assumption) | assumption)
        have q385 : x13_2 < (l0.length : Int) := of_decide_eq_true (by first | (with_reducible assumption) | assumption)
        obtain ⟨ad385, e385, hx385_0, hx385_1, hx385_2⟩ := at_T30 HR0.out x13_2 p385 q385
        cases e385
        replace hx385_0 := (HB.out.cell (World.block_lt_of_cell? w _ hx385_0)).trans hx385_0
        replace hx385_1 := (HB.out.cell (World.block_lt_of_cell? w _ hx385_1)).trans hx385_1
        replace hx385_2 := (HB.out.cell (World.block_lt_of_cell? w _ hx385_2)).trans hx385_2
        replace p385 := eq_true p385
        replace q385 := eq_true q385
        go_upto_region 9 with (first | ((with_reducible refine gate_dst (N := 14) rfl ?_); refine box_event ?hg (N := 14) ?hd (cs := #[.int .i64 0, .int .i64 0, .int .i64 0]) (t := 30) ?hr ?_; (case hd => rfl); (case hg => rfl); (case hr => first | (go_simp; done) | (go_simp; rfl)); intro gb386 hg w23 hbox hb; have n0_ := Aside0.mk (Kd.R_below (Kd.R_elderB (by (with_reducible repeat (first | apply Kd.R_alloc | apply Kd.R_drewN | apply Kd.R_drew)); exact HO_11.out) gb386 (Nat.le_of_eq hg.symm)) hb); have n1_ := Aside0.mk (Kd.R_below (Kd.R_elderB (by (with_reducible repeat (first | apply Kd.R_alloc | apply Kd.R_drewN | apply Kd.R_drew)); exact HO_12.out) gb386 (Nat.le_of_eq hg.symm)) hb); have n2_ := Aside0.mk (below_step (by repeat (first | (with_reducible first | exact HB.out | apply below_alloc | apply pw_below_drewN | apply below_drew1) | exact HB.out)) hb); have n3_ := Aside0.mk (hbox); have n4_ := Aside0.mk ((by rw [hg]; exact (below_size (by repeat (first | (with_reducible first | exact HB.out | apply below_alloc | apply pw_below_drewN | apply below_drew1) | exact HB.out))) : w.heap.size ≤ gb386)); have n5_ := Aside0.mk ((by rw [hg]; exact (below_size (by repeat (first | (with_reducible first | exact HB.out | apply below_alloc | apply pw_below_drewN | apply below_drew1) | exact HB.out))) : w.heap.size ≤ gb386)); clear HO_11; clear HO_12; clear HB; have HO_11 := n0_; have HO_12 := n1_; have HB := n2_; have BK386 := n3_; have GW386 := n4_; have GE386 := n5_; clear n0_ n1_ n2_ n3_ n4_ n5_; clear hb hbox hg; have hcz24_0 : w23.cell? ⟨gb386, 0, none⟩ = some (.int .i64 0) := (blk_cell BK386.out 0).trans rfl; have hcz24_1 : w23.cell? ⟨gb386, 1, none⟩ = some (.int .i64 0) := (blk_cell BK386.out 1).trans rfl; have hcz24_2 : w23.cell? ⟨gb386, 2, none⟩ = some (.int .i64 0) := (blk_cell BK386.out 2).trans rfl; have hfz24_0 := blk_frozen BK386.out 0; have hfz24_1 := blk_frozen BK386.out 1; have hfz24_2 := blk_frozen BK386.out 2))
        (try simp only [Act.put, List.setIfInBounds_toArray, List.set_cons_zero, List.set_cons_succ])
        go_cut [59] (fun v59 wc => ∃ (kq : Nat) (x59_21 : Bool), v59 = .bool x59_21 ∧ Aside0 (spec_StoreTake.j2 kq l0 a1 x2_2 a3 x11_2 x12_2 x13_2 x59_21 ((rd_T30 l0 x13_2).f0) ((rd_T30 l0 x13_2).f1) ((rd_T30 l0 x13_2).f2) = some (r1, r2, r3)) ∧ Aside0 (kq ≤ k2) ∧ Aside0 (Kd.R k30 30 wc w.heap.size (fun k_ => some k_ ≠ (u12 : Value).ownBlock ∧ k_ ≠ gb386) u11 x11_2) ∧ Aside0 (Kd.R k30 30 wc w.heap.size (fun k_ => some k_ ≠ (u11 : Value).ownBlock ∧ k_ ≠ gb386) u12 x12_2) ∧ Aside0 (wc.heap[gb386]? = some (.cells #[.int .i64 ((rd_T30 l0 x13_2).f0), .int .i64 ((rd_T30 l0 x13_2).f1), .int .i64 ((rd_T30 l0 x13_2).f2)] 30 (0, 0))) ∧ Aside0 (Below w.heap.size w wc))
        case first =>
         have H := HC22.out
         clear HC22
         by_cases c25 : ((rd_T30 l0 x13_2).f0) = a1
         ·rw [if_pos c25] at H
          have c25b0 : (((rd_T30 l0 x13_2).f0) == a1) = true := beq_iff_eq.mpr c25
          have c25b1 : (((rd_T30 l0 x13_2).f0) != a1) = false := bne_eq_false_iff_eq.mpr c25
          clear c25
          (first | rw [c25b0] | (simp only [i64_w, i32_w]; rw [c25b0]) | skip)
          by_cases c26 : ((rd_T30 l0 x13_2).f1) ≥ a3
          ·rw [if_pos c26] at H
           have c26b0 : decide (a3 ≤ ((rd_T30 l0 x13_2).f1)) = true := decide_eq_true c26
           clear c26
           have H' := Aside0.mk H
           clear H
           have hcz27_0 : w23.cell? ⟨gb386, 0, none⟩ = some (.int .i64 0) := (blk_cell BK386.out 0).trans rfl
           have hcz27_1 : w23.cell? ⟨gb386, 1, none⟩ = some (.int .i64 0) := (blk_cell BK386.out 1).trans rfl
           have hcz27_2 : w23.cell? ⟨gb386, 2, none⟩ = some (.int .i64 0) := (blk_cell BK386.out 2).trans rfl
           have hfz27_0 := blk_frozen BK386.out 0
           have hfz27_1 := blk_frozen BK386.out 1
           have hfz27_2 := blk_frozen BK386.out 2
           go_wp2
           go_meet
           case rel => exact ⟨_, (decide (x2_2 > 0)), (by first | rfl | (simp; done) | (simp [*]; done) | (simp only [wrap64, IntKind.wrap_i64]; done) | (simp [wrap64, IntKind.wrap_i64]; done)), H', ⟨by have := HJ4.out; have := HK2.out; first | omega | exact Nat.le_refl _⟩, ⟨by (with_reducible repeat (first | apply Kd.R_alloc | apply Kd.R_drewN | apply Kd.R_drew)); exact Kd.R_mono (Kd.R_far (p := ⟨gb386, 2, none⟩) (Kd.R_far (p := ⟨gb386, 1, none⟩) (Kd.R_far (p := ⟨gb386, 0, none⟩) (Kd.R_mono HO_11.out (fun k_ hk => (⟨hk, hk.2⟩ : _ ∧ k_ ≠ gb386))) (fun _ hk => by first | exact hk.2 | trivial) (.int .i64 ((rd_T30 l0 x13_2).f0))) (fun _ hk => by first | exact hk.2 | trivial) (.int .i64 ((rd_T30 l0 x13_2).f1))) (fun _ hk => by first | exact hk.2 | trivial) (.int .i64 ((rd_T30 l0 x13_2).f2))) (fun _ hk => ⟨hk.1.1, hk.1.2⟩)⟩, ⟨by (with_reducible repeat (first | apply Kd.R_alloc | apply Kd.R_drewN | apply Kd.R_drew)); exact Kd.R_mono (Kd.R_far (p := ⟨gb386, 2, none⟩) (Kd.R_far (p := ⟨gb386, 1, none⟩) (Kd.R_far (p := ⟨gb386, 0, none⟩) (Kd.R_mono HO_12.out (fun k_ hk => (⟨hk, hk.2⟩ : _ ∧ k_ ≠ gb386))) (fun _ hk => by first | exact hk.2 | trivial) (.int .i64 ((rd_T30 l0 x13_2).f0))) (fun _ hk => by first | exact hk.2 | trivial) (.int .i64 ((rd_T30 l0 x13_2).f1))) (fun _ hk => by first | exact hk.2 | trivial) (.int .i64 ((rd_T30 l0 x13_2).f2))) (fun _ hk => ⟨hk.1.1, hk.1.2⟩)⟩, ⟨by (with_reducible repeat (first | refine blk_drewN ?_ _ | refine blk_drew ?_ | refine blk_alloc ?_ _)); refine blk_put (cs := #[.int .i64 ((rd_T30 l0 x13_2).f0), .int .i64 ((rd_T30 l0 x13_2).f1), .int .i64 0]) ?_ 2 _ rfl; (with_reducible repeat (first | refine blk_drewN ?_ _ | refine blk_drew ?_ | refine blk_alloc ?_ _)); refine blk_put (cs := #[.int .i64 ((rd_T30 l0 x13_2).f0), .int .i64 0, .int .i64 0]) ?_ 1 _ rfl; (with_reducible repeat (first | refine blk_drewN ?_ _ | refine blk_drew ?_ | refine blk_alloc ?_ _)); refine blk_put (cs := #[.int .i64 0, .int .i64 0, .int .i64 0]) ?_ 0 _ rfl; (with_reducible repeat (first | refine blk_drewN ?_ _ | refine blk_drew ?_ | refine blk_alloc ?_ _)); exact BK386.out⟩, ⟨by repeat (first | (with_reducible first | exact HB.out | apply below_alloc | apply pw_below_drewN | apply below_drew1 | refine below_set ?_ GE386.out) | exact HB.out)⟩⟩
          ·rw [if_neg c26] at H
           have c26b0 : decide (a3 ≤ ((rd_T30 l0 x13_2).f1)) = false := decide_eq_false c26
           clear c26
           have H' := Aside0.mk H
           clear H
           have hcz28_0 : w23.cell? ⟨gb386, 0, none⟩ = some (.int .i64 0) := (blk_cell BK386.out 0).trans rfl
           have hcz28_1 : w23.cell? ⟨gb386, 1, none⟩ = some (.int .i64 0) := (blk_cell BK386.out 1).trans rfl
           have hcz28_2 : w23.cell? ⟨gb386, 2, none⟩ = some (.int .i64 0) := (blk_cell BK386.out 2).trans rfl
           have hfz28_0 := blk_frozen BK386.out 0
           have hfz28_1 := blk_frozen BK386.out 1
           have hfz28_2 := blk_frozen BK386.out 2
           go_wp2
           go_meet
           case rel => exact ⟨_, (false), (by first | rfl | (simp; done) | (simp [*]; done) | (simp only [wrap64, IntKind.wrap_i64]; done) | (simp [wrap64, IntKind.wrap_i64]; done)), H', ⟨by have := HJ4.out; have := HK2.out; first | omega | exact Nat.le_refl _⟩, ⟨by (with_reducible repeat (first | apply Kd.R_alloc | apply Kd.R_drewN | apply Kd.R_drew)); exact Kd.R_mono (Kd.R_far (p := ⟨gb386, 2, none⟩) (Kd.R_far (p := ⟨gb386, 1, none⟩) (Kd.R_far (p := ⟨gb386, 0, none⟩) (Kd.R_mono HO_11.out (fun k_ hk => (⟨hk, hk.2⟩ : _ ∧ k_ ≠ gb386))) (fun _ hk => by first | exact hk.2 | trivial) (.int .i64 ((rd_T30 l0 x13_2).f0))) (fun _ hk => by first | exact hk.2 | trivial) (.int .i64 ((rd_T30 l0 x13_2).f1))) (fun _ hk => by first | exact hk.2 | trivial) (.int .i64 ((rd_T30 l0 x13_2).f2))) (fun _ hk => ⟨hk.1.1, hk.1.2⟩)⟩, ⟨by (with_reducible repeat (first | apply Kd.R_alloc | apply Kd.R_drewN | apply Kd.R_drew)); exact Kd.R_mono (Kd.R_far (p := ⟨gb386, 2, none⟩) (Kd.R_far (p := ⟨gb386, 1, none⟩) (Kd.R_far (p := ⟨gb386, 0, none⟩) (Kd.R_mono HO_12.out (fun k_ hk => (⟨hk, hk.2⟩ : _ ∧ k_ ≠ gb386))) (fun _ hk => by first | exact hk.2 | trivial) (.int .i64 ((rd_T30 l0 x13_2).f0))) (fun _ hk => by first | exact hk.2 | trivial) (.int .i64 ((rd_T30 l0 x13_2).f1))) (fun _ hk => by first | exact hk.2 | trivial) (.int .i64 ((rd_T30 l0 x13_2).f2))) (fun _ hk => ⟨hk.1.1, hk.1.2⟩)⟩, ⟨by (with_reducible repeat (first | refine blk_drewN ?_ _ | refine blk_drew ?_ | refine blk_alloc ?_ _)); refine blk_put (cs := #[.int .i64 ((rd_T30 l0 x13_2).f0), .int .i64 ((rd_T30 l0 x13_2).f1), .int .i64 0]) ?_ 2 _ rfl; (with_reducible repeat (first | refine blk_drewN ?_ _ | refine blk_drew ?_ | refine blk_alloc ?_ _)); refine blk_put (cs := #[.int .i64 ((rd_T30 l0 x13_2).f0), .int .i64 0, .int .i64 0]) ?_ 1 _ rfl; (with_reducible repeat (first | refine blk_drewN ?_ _ | refine blk_drew ?_ | refine blk_alloc ?_ _)); refine blk_put (cs := #[.int .i64 0, .int .i64 0, .int .i64 0]) ?_ 0 _ rfl; (with_reducible repeat (first | refine blk_drewN ?_ _ | refine blk_drew ?_ | refine blk_alloc ?_ _)); exact BK386.out⟩, ⟨by repeat (first | (with_reducible first | exact HB.out | apply below_alloc | apply pw_below_drewN | apply below_drew1 | refine below_set ?_ GE386.out) | exact HB.out)⟩⟩
         ·rw [if_neg c25] at H
          have c25b0 : (((rd_T30 l0 x13_2).f0) == a1) = false := beq_eq_false_iff_ne.mpr c25
          have c25b1 : (((rd_T30 l0 x13_2).f0) != a1) = true := bne_iff_ne.mpr c25
          (first | rw [c25b0] | (simp only [i64_w, i32_w]; rw [c25b0]) | skip)
          have H' := Aside0.mk H
          clear H
          have hcz29_0 : w23.cell? ⟨gb386, 0, none⟩ = some (.int .i64 0) := (blk_cell BK386.out 0).trans rfl
          have hcz29_1 : w23.cell? ⟨gb386, 1, none⟩ = some (.int .i64 0) := (blk_cell BK386.out 1).trans rfl
          have hcz29_2 : w23.cell? ⟨gb386, 2, none⟩ = some (.int .i64 0) := (blk_cell BK386.out 2).trans rfl
          have hfz29_0 := blk_frozen BK386.out 0
          have hfz29_1 := blk_frozen BK386.out 1
          have hfz29_2 := blk_frozen BK386.out 2
          go_wp2
          go_meet
          case rel => exact ⟨_, (false), (by first | rfl | (simp; done) | (simp [*]; done) | (simp only [wrap64, IntKind.wrap_i64]; done) | (simp [wrap64, IntKind.wrap_i64]; done)), H', ⟨by have := HJ4.out; have := HK2.out; first | omega | exact Nat.le_refl _⟩, ⟨by (with_reducible repeat (first | apply Kd.R_alloc | apply Kd.R_drewN | apply Kd.R_drew)); exact Kd.R_mono (Kd.R_far (p := ⟨gb386, 2, none⟩) (Kd.R_far (p := ⟨gb386, 1, none⟩) (Kd.R_far (p := ⟨gb386, 0, none⟩) (Kd.R_mono HO_11.out (fun k_ hk => (⟨hk, hk.2⟩ : _ ∧ k_ ≠ gb386))) (fun _ hk => by first | exact hk.2 | trivial) (.int .i64 ((rd_T30 l0 x13_2).f0))) (fun _ hk => by first | exact hk.2 | trivial) (.int .i64 ((rd_T30 l0 x13_2).f1))) (fun _ hk => by first | exact hk.2 | trivial) (.int .i64 ((rd_T30 l0 x13_2).f2))) (fun _ hk => ⟨hk.1.1, hk.1.2⟩)⟩, ⟨by (with_reducible repeat (first | apply Kd.R_alloc | apply Kd.R_drewN | apply Kd.R_drew)); exact Kd.R_mono (Kd.R_far (p := ⟨gb386, 2, none⟩) (Kd.R_far (p := ⟨gb386, 1, none⟩) (Kd.R_far (p := ⟨gb386, 0, none⟩) (Kd.R_mono HO_12.out (fun k_ hk => (⟨hk, hk.2⟩ : _ ∧ k_ ≠ gb386))) (fun _ hk => by first | exact hk.2 | trivial) (.int .i64 ((rd_T30 l0 x13_2).f0))) (fun _ hk => by first | exact hk.2 | trivial) (.int .i64 ((rd_T30 l0 x13_2).f1))) (fun _ hk => by first | exact hk.2 | trivial) (.int .i64 ((rd_T30 l0 x13_2).f2))) (fun _ hk => ⟨hk.1.1, hk.1.2⟩)⟩, ⟨by (with_reducible repeat (first | refine blk_drewN ?_ _ | refine blk_drew ?_ | refine blk_alloc ?_ _)); refine blk_put (cs := #[.int .i64 ((rd_T30 l0 x13_2).f0), .int .i64 ((rd_T30 l0 x13_2).f1), .int .i64 0]) ?_ 2 _ rfl; (with_reducible repeat (first | refine blk_drewN ?_ _ | refine blk_drew ?_ | refine blk_alloc ?_ _)); refine blk_put (cs := #[.int .i64 ((rd_T30 l0 x13_2).f0), .int .i64 0, .int .i64 0]) ?_ 1 _ rfl; (with_reducible repeat (first | refine blk_drewN ?_ _ | refine blk_drew ?_ | refine blk_alloc ?_ _)); refine blk_put (cs := #[.int .i64 0, .int .i64 0, .int .i64 0]) ?_ 0 _ rfl; (with_reducible repeat (first | refine blk_drewN ?_ _ | refine blk_drew ?_ | refine blk_alloc ?_ _)); exact BK386.out⟩, ⟨by repeat (first | (with_reducible first | exact HB.out | apply below_alloc | apply pw_below_drewN | apply below_drew1 | refine below_set ?_ GE386.out) | exact HB.out)⟩⟩
        case rest =>
         clear HC22
         try clear c1
         try clear c2
         try clear p2
         try clear p3
         try clear q3
         try clear hx3
         try clear c11
         try clear c13
         try clear c19
         try clear c20
         try clear c20b0
         try clear c21
         try clear c21b0
         try clear c22
         try clear c23
         try clear c25
         try clear c25b0
         try clear c25b1
         try clear c26
         try clear c26b0
         try clear hcz24_0
         try clear hcz24_1
         try clear hcz24_2
         try clear hcz27_0
         try clear hcz27_1
         try clear hcz27_2
         try clear hcz28_0
         try clear hcz28_1
         try clear hcz28_2
         try clear hcz29_0
         try clear hcz29_1
         try clear hcz29_2
         try clear hfz24_0
         try clear hfz24_1
         try clear hfz24_2
         try clear hfz27_0
         try clear hfz27_1
         try clear hfz27_2
         try clear hfz28_0
         try clear hfz28_1
         try clear hfz28_2
         try clear hfz29_0
         try clear hfz29_1
         try clear hfz29_2
         try clear hx385_0
         try clear hx385_1
         try clear hx385_2
         try clear p2
         try clear p385
         try clear q385
         obtain ⟨kq, x59_21, rfl, HA, HJ21, HO_11, HO_12, BK386, HB⟩ := hcut
         cases kq with
         | zero => exact absurd HA.out (by simp [spec_StoreTake.j2])
         | succ kj21 =>
          have H := HA.out
          clear HA
          simp only [spec_StoreTake.j2] at H
          by_cases c30 : x59_21 = true
          ·subst c30
           have H1 : (if x12_2.length < 5864062014805 then ((some (x12_2 ++ [(⟨((rd_T30 l0 x13_2).f0), ((rd_T30 l0 x13_2).f1), mn x2_2 ((rd_T30 l0 x13_2).f2)⟩ : S30)] : List (S30))).bind fun y387 => (if (wrap64 (((rd_T30 l0 x13_2).f2) - (mn x2_2 ((rd_T30 l0 x13_2).f2)))) > 0 then (if x11_2.length < 5864062014805 then (spec_StoreTake.l0 kj21 l0 a1 (wrap64 (x2_2 - (mn x2_2 ((rd_T30 l0 x13_2).f2)))) a3 (x11_2 ++ [(⟨((rd_T30 l0 x13_2).f0), ((rd_T30 l0 x13_2).f1), wrap64 (((rd_T30 l0 x13_2).f2) - (mn x2_2 ((rd_T30 l0 x13_2).f2)))⟩ : S30)]) y387 (wrap64 (x13_2 + 1))) else (none)) else (spec_StoreTake.l0 kj21 l0 a1 (wrap64 (x2_2 - (mn x2_2 ((rd_T30 l0 x13_2).f2)))) a3 x11_2 y387 (wrap64 (x13_2 + 1))))) else (none)) = some (r1, r2, r3) := by rw [if_pos rfl] at H; exact H
           clear H
           have H := H1
           clear H1
           obtain ⟨ji31, hji31⟩ : ∃ j_ : Int, (mn x2_2 ((rd_T30 l0 x13_2).f2)) = j_ := ⟨_, rfl⟩
           replace H : (if x12_2.length < 5864062014805 then ((some (x12_2 ++ [(⟨((rd_T30 l0 x13_2).f0), ((rd_T30 l0 x13_2).f1), ji31⟩ : S30)] : List (S30))).bind fun y387 => (if (wrap64 (((rd_T30 l0 x13_2).f2) - (ji31))) > 0 then (if x11_2.length < 5864062014805 then (spec_StoreTake.l0 kj21 l0 a1 (wrap64 (x2_2 - (ji31))) a3 (x11_2 ++ [(⟨((rd_T30 l0 x13_2).f0), ((rd_T30 l0 x13_2).f1), wrap64 (((rd_T30 l0 x13_2).f2) - (ji31))⟩ : S30)]) y387 (wrap64 (x13_2 + 1))) else (none)) else (spec_StoreTake.l0 kj21 l0 a1 (wrap64 (x2_2 - (ji31))) a3 x11_2 y387 (wrap64 (x13_2 + 1))))) else (none)) = some (r1, r2, r3) := by first | (rw [hji31] at H; exact H) | (simp only [hji31] at H ⊢; exact H)
           have hji31_ : (if ((rd_T30 l0 x13_2).f2) < x2_2 then ((rd_T30 l0 x13_2).f2) else x2_2) = ji31 := hji31
           by_cases c32 : x12_2.length < 5864062014805
           ·rw [if_pos c32] at H
            have LMc32 := Aside0.mk c32
            clear c32
            obtain ⟨y387, hy387⟩ : ∃ y_ : List (S30), y_ = (x12_2 ++ [(⟨((rd_T30 l0 x13_2).f0), ((rd_T30 l0 x13_2).f1), ji31⟩ : S30)]) := ⟨_, rfl⟩
            replace H : (if (wrap64 (((rd_T30 l0 x13_2).f2) - (ji31))) > 0 then (if x11_2.length < 5864062014805 then (spec_StoreTake.l0 kj21 l0 a1 (wrap64 (x2_2 - (ji31))) a3 (x11_2 ++ [(⟨((rd_T30 l0 x13_2).f0), ((rd_T30 l0 x13_2).f1), wrap64 (((rd_T30 l0 x13_2).f2) - (ji31))⟩ : S30)]) y387 (wrap64 (x13_2 + 1))) else (none)) else (spec_StoreTake.l0 kj21 l0 a1 (wrap64 (x2_2 - (ji31))) a3 x11_2 y387 (wrap64 (x13_2 + 1)))) = some (r1, r2, r3) := by first | (rw [hy387]; with_reducible exact H) | (have H2_ := (Option.bind_some _ _).symm.trans H; rw [hy387]; with_reducible exact H2_) | (have H2_ := (Option.bind_some _ _).symm.trans H; with_reducible exact H2_) | with_reducible exact H | (rw [hy387]; exact H) | exact H
            have Ny387 := Aside0.mk hy387
            clear hy387
            by_cases c33 : (wrap64 (((rd_T30 l0 x13_2).f2) - (ji31))) > 0
            ·rw [if_pos c33] at H
             have c33b0 : decide (0 < (wrap64 (((rd_T30 l0 x13_2).f2) - (ji31)))) = true := decide_eq_true c33
             clear c33
             by_cases c34 : x11_2.length < 5864062014805
             ·rw [if_pos c34] at H
              have LMc34 := Aside0.mk c34
              clear c34
              obtain ⟨y390, hy390⟩ : ∃ y_ : List (S30), y_ = (x11_2 ++ [(⟨((rd_T30 l0 x13_2).f0), ((rd_T30 l0 x13_2).f1), wrap64 (((rd_T30 l0 x13_2).f2) - (ji31))⟩ : S30)]) := ⟨_, rfl⟩
              replace H : (spec_StoreTake.l0 kj21 l0 a1 (wrap64 (x2_2 - (ji31))) a3 y390 y387 (wrap64 (x13_2 + 1))) = some (r1, r2, r3) := by first | (rw [hy390]; with_reducible exact H) | (have H2_ := (Option.bind_some _ _).symm.trans H; rw [hy390]; with_reducible exact H2_) | (have H2_ := (Option.bind_some _ _).symm.trans H; with_reducible exact H2_) | with_reducible exact H | (rw [hy390]; exact H) | exact H
              have Ny390 := Aside0.mk hy390
              clear hy390
              have H' := Aside0.mk H
              clear H
              have hcz35_0 : wc.cell? ⟨gb386, 0, none⟩ = some (.int .i64 ((rd_T30 l0 x13_2).f0)) := (blk_cell BK386.out 0).trans rfl
              have hcz35_1 : wc.cell? ⟨gb386, 1, none⟩ = some (.int .i64 ((rd_T30 l0 x13_2).f1)) := (blk_cell BK386.out 1).trans rfl
              have hcz35_2 : wc.cell? ⟨gb386, 2, none⟩ = some (.int .i64 ((rd_T30 l0 x13_2).f2)) := (blk_cell BK386.out 2).trans rfl
              have hfz35_0 := blk_frozen BK386.out 0
              have hfz35_1 := blk_frozen BK386.out 1
              have hfz35_2 := blk_frozen BK386.out 2
              go_wp2_with (first | ((with_reducible refine gate_builtin (b := .append) (xs := #[.tmp 64, .tmp 71]) rfl ?_); at_builtin; refine Kd.R_append k30 (w0 := w) w.heap.size rfl (.tmp 64) (.tmp 71) 26 30 (.agg #[(.int .i64 0), (.int .i64 0), (.int .i64 0)]) 24 rfl Try.underlying26 info30 rfl (by decide) (by omega) u12 x12_2 (⟨((rd_T30 l0 x13_2).f0), ((rd_T30 l0 x13_2).f1), ji31⟩ : S30) [.int .i64 ((rd_T30 l0 x13_2).f0), .int .i64 ((rd_T30 l0 x13_2).f1), .int .i64 ji31] (fun k_ => some k_ ≠ (u11 : Value).ownBlock ∧ k_ ≠ gb386) (fun _ => False) rfl rfl ?aP (fun _ hk => hk.elim) ?aF ?aO ?aB ?aS ?aL ?_; (case aP => exact k30_mkM _ _ _ (⟨((rd_T30 l0 x13_2).f0), ((rd_T30 l0 x13_2).f1), ji31⟩ : S30)); (case aB => exact (by repeat (first | (with_reducible first | exact HB.out | apply below_alloc | apply pw_below_drewN | apply below_drew1 | refine below_set ?_ GE386.out) | exact HB.out))); (case aF => exact (fun k_ hk => ⟨Kd.fresh' (Kd.R_lt (by (with_reducible repeat (first | apply Kd.R_alloc | apply Kd.R_drewN | apply Kd.R_drew)); exact HO_11.out)) k_ hk, Kd.freshB (g := gb386) (o := .cells #[.int .i64 ((rd_T30 l0 x13_2).f0), .int .i64 ((rd_T30 l0 x13_2).f1), .int .i64 ((rd_T30 l0 x13_2).f2)] 30 (0, 0)) (by (with_reducible repeat (first | refine blk_drewN ?_ _ | refine blk_drew ?_ | refine blk_alloc ?_ _)); exact BK386.out) k_ hk⟩)); (case aO => exact (by (with_reducible repeat (first | apply Kd.R_alloc | apply Kd.R_drewN | apply Kd.R_drew)); exact HO_12.out)); (case aS => exact (below_size (by repeat (first | (with_reducible first | exact HB.out | apply below_alloc | apply pw_below_drewN | apply below_drew1 | refine below_set ?_ GE386.out) | exact HB.out)))); (case aL => have := LMc32.out; omega); intro v388 w36 ho hb hg hat; rw [← Ny387.out] at ho; have n0_ := Aside0.mk (Kd.R_after (ok := (fun k_ => k_ ≠ gb386)) (by (with_reducible repeat (first | apply Kd.R_alloc | apply Kd.R_drewN | apply Kd.R_drew)); exact Kd.R_mono HO_11.out (fun _ hk => ⟨hk.2, hk.1⟩)) hg hat); have n1_ := Aside0.mk (blk_grown (g := gb386) (o := .cells #[.int .i64 ((rd_T30 l0 x13_2).f0), .int .i64 ((rd_T30 l0 x13_2).f1), .int .i64 ((rd_T30 l0 x13_2).f2)] 30 (0, 0)) (by (with_reducible repeat (first | refine blk_drewN ?_ _ | refine blk_drew ?_ | refine blk_alloc ?_ _)); exact BK386.out) hg (Kd.R_away HO_12.out (fun _ hk => by first | exact hk.2 | trivial))); have n2_ := Aside0.mk (hb); have n3_ := Aside0.mk (ho); clear HO_11; clear BK386; clear HB; clear HO_12; have HO_11 := n0_; have BK386 := n1_; have HB := n2_; have HO389 := n3_; clear n0_ n1_ n2_ n3_; clear ho hb hg hat; have hcz37_0 : w36.cell? ⟨gb386, 0, none⟩ = some (.int .i64 ((rd_T30 l0 x13_2).f0)) := (blk_cell BK386.out 0).trans rfl; have hcz37_1 : w36.cell? ⟨gb386, 1, none⟩ = some (.int .i64 ((rd_T30 l0 x13_2).f1)) := (blk_cell BK386.out 1).trans rfl; have hcz37_2 : w36.cell? ⟨gb386, 2, none⟩ = some (.int .i64 ((rd_T30 l0 x13_2).f2)) := (blk_cell BK386.out 2).trans rfl; have hfz37_0 := blk_frozen BK386.out 0; have hfz37_1 := blk_frozen BK386.out 1; have hfz37_2 := blk_frozen BK386.out 2) | ((with_reducible refine gate_builtin (b := .append) (xs := #[.tmp 84, .tmp 86]) rfl ?_); at_builtin; refine Kd.R_append k30 (w0 := w) w.heap.size rfl (.tmp 84) (.tmp 86) 26 30 (.agg #[(.int .i64 0), (.int .i64 0), (.int .i64 0)]) 24 rfl Try.underlying26 info30 rfl (by decide) (by omega) u11 x11_2 (⟨((rd_T30 l0 x13_2).f0), ((rd_T30 l0 x13_2).f1), wrap64 (((rd_T30 l0 x13_2).f2) - (ji31))⟩ : S30) [.int .i64 ((rd_T30 l0 x13_2).f0), .int .i64 ((rd_T30 l0 x13_2).f1), .int .i64 (wrap64 (((rd_T30 l0 x13_2).f2) - (ji31)))] (fun k_ => some k_ ≠ (v388 : Value).ownBlock ∧ k_ ≠ gb386) (fun _ => False) rfl (by first | (go_simp; done) | (go_simp; rfl)) ?aP (fun _ hk => hk.elim) ?aF ?aO ?aB ?aS ?aL ?_; (case aP => exact k30_mkM _ _ _ (⟨((rd_T30 l0 x13_2).f0), ((rd_T30 l0 x13_2).f1), wrap64 (((rd_T30 l0 x13_2).f2) - (ji31))⟩ : S30)); (case aB => exact (by repeat (first | (with_reducible first | exact HB.out | apply below_alloc | apply pw_below_drewN | apply below_drew1 | refine below_set ?_ GE386.out) | exact HB.out))); (case aF => exact (fun k_ hk => ⟨Kd.fresh' (Kd.R_lt (by (with_reducible repeat (first | apply Kd.R_alloc | apply Kd.R_drewN | apply Kd.R_drew)); exact (Kd.R_mono (Kd.R_far (p := ⟨gb386, 2, none⟩) (Kd.R_mono HO389.out (fun k_ hk => (⟨hk, hk.2⟩ : _ ∧ k_ ≠ gb386))) (fun _ hk => by first | exact hk.2 | trivial) (.int .i64 (wrap64 (((rd_T30 l0 x13_2).f2) - (ji31))))) (fun _ h_ => h_.1)))) k_ hk, Kd.freshB (g := gb386) (o := .cells #[.int .i64 ((rd_T30 l0 x13_2).f0), .int .i64 ((rd_T30 l0 x13_2).f1), .int .i64 (wrap64 (((rd_T30 l0 x13_2).f2) - (ji31)))] 30 (0, 0)) (by (with_reducible repeat (first | refine blk_drewN ?_ _ | refine blk_drew ?_ | refine blk_alloc ?_ _)); refine blk_put (cs := #[.int .i64 ((rd_T30 l0 x13_2).f0), .int .i64 ((rd_T30 l0 x13_2).f1), .int .i64 ((rd_T30 l0 x13_2).f2)]) ?_ 2 _ rfl; (with_reducible repeat (first | refine blk_drewN ?_ _ | refine blk_drew ?_ | refine blk_alloc ?_ _)); exact BK386.out) k_ hk⟩)); (case aO => exact (by (with_reducible repeat (first | apply Kd.R_alloc | apply Kd.R_drewN | apply Kd.R_drew)); exact Kd.R_mono (Kd.R_far (p := ⟨gb386, 2, none⟩) (Kd.R_mono HO_11.out (fun k_ hk => (⟨hk, hk.1⟩ : _ ∧ k_ ≠ gb386))) (fun _ hk => by first | exact hk.2 | trivial) (.int .i64 (wrap64 (((rd_T30 l0 x13_2).f2) - (ji31))))) (fun _ hk => ⟨hk.1.2, hk.1.1⟩))); (case aS => exact (below_size (by repeat (first | (with_reducible first | exact HB.out | apply below_alloc | apply pw_below_drewN | apply below_drew1 | refine below_set ?_ GE386.out) | exact HB.out)))); (case aL => have := LMc34.out; omega); intro v391 w38 ho hb hg hat; rw [← Ny390.out] at ho; have n0_ := Aside0.mk (blk_grown (g := gb386) (o := .cells #[.int .i64 ((rd_T30 l0 x13_2).f0), .int .i64 ((rd_T30 l0 x13_2).f1), .int .i64 (wrap64 (((rd_T30 l0 x13_2).f2) - (ji31)))] 30 (0, 0)) (by (with_reducible repeat (first | refine blk_drewN ?_ _ | refine blk_drew ?_ | refine blk_alloc ?_ _)); refine blk_put (cs := #[.int .i64 ((rd_T30 l0 x13_2).f0), .int .i64 ((rd_T30 l0 x13_2).f1), .int .i64 ((rd_T30 l0 x13_2).f2)]) ?_ 2 _ rfl; (with_reducible repeat (first | refine blk_drewN ?_ _ | refine blk_drew ?_ | refine blk_alloc ?_ _)); exact BK386.out) hg (Kd.R_away HO_11.out (fun _ hk => hk.1))); have n1_ := Aside0.mk (Kd.R_after (ok := (fun k_ => k_ ≠ gb386)) (by (with_reducible repeat (first | apply Kd.R_alloc | apply Kd.R_drewN | apply Kd.R_drew)); exact Kd.R_mono (Kd.R_far (p := ⟨gb386, 2, none⟩) (Kd.R_mono HO389.out (fun k_ hk => (⟨hk, hk.2⟩ : _ ∧ k_ ≠ gb386))) (fun _ hk => by first | exact hk.2 | trivial) (.int .i64 (wrap64 (((rd_T30 l0 x13_2).f2) - (ji31))))) (fun _ hk => ⟨hk.1.2, hk.1.1⟩)) hg hat); have n2_ := Aside0.mk (hb); have n3_ := Aside0.mk (ho); clear BK386; clear HO389; clear HB; clear HO_11; have BK386 := n0_; have HO389 := n1_; have HB := n2_; have HO392 := n3_; clear n0_ n1_ n2_ n3_; clear ho hb hg hat))
              go_roundg kj21
              case measure => have := HJ4.out; have := HK2.out; have := HJ21.out; omega
              case rel => exact ⟨(wrap64 (x2_2 - (ji31))), (y390), (y387), (wrap64 (x13_2 + 1)), (by first | rfl | (simp; done) | (simp only [← hji31] <;> (first | rfl | simp)) | (simp [*]; done)), (by first | rfl | (simp; done) | (simp [*]; done) | (simp only [wrap64, IntKind.wrap_i64]; done) | (simp [wrap64, IntKind.wrap_i64]; done)), H', ⟨by have := HJ4.out; have := HK2.out; have := HJ21.out; omega⟩, ⟨by (with_reducible repeat (first | apply Kd.R_alloc | apply Kd.R_drewN | apply Kd.R_drew)); exact Kd.R_mono HO392.out (fun _ hk => hk.1)⟩, ⟨by (with_reducible repeat (first | apply Kd.R_alloc | apply Kd.R_drewN | apply Kd.R_drew)); exact Kd.R_mono HO389.out (fun _ hk => by first | exact hk.2 | trivial)⟩, ⟨by repeat (first | (with_reducible first | exact HB.out | apply below_alloc | apply pw_below_drewN | apply below_drew1 | refine below_set ?_ GE386.out) | exact HB.out)⟩⟩
             ·rw [if_neg c34] at H
              exact absurd H (by simp)
            ·rw [if_neg c33] at H
             have c33b0 : decide (0 < (wrap64 (((rd_T30 l0 x13_2).f2) - (ji31)))) = false := decide_eq_false c33
             clear c33
             have H' := Aside0.mk H
             clear H
             have hcz39_0 : wc.cell? ⟨gb386, 0, none⟩ = some (.int .i64 ((rd_T30 l0 x13_2).f0)) := (blk_cell BK386.out 0).trans rfl
             have hcz39_1 : wc.cell? ⟨gb386, 1, none⟩ = some (.int .i64 ((rd_T30 l0 x13_2).f1)) := (blk_cell BK386.out 1).trans rfl
             have hcz39_2 : wc.cell? ⟨gb386, 2, none⟩ = some (.int .i64 ((rd_T30 l0 x13_2).f2)) := (blk_cell BK386.out 2).trans rfl
             have hfz39_0 := blk_frozen BK386.out 0
             have hfz39_1 := blk_frozen BK386.out 1
             have hfz39_2 := blk_frozen BK386.out 2
             go_wp2_with (first | ((with_reducible refine gate_builtin (b := .append) (xs := #[.tmp 64, .tmp 71]) rfl ?_); at_builtin; refine Kd.R_append k30 (w0 := w) w.heap.size rfl (.tmp 64) (.tmp 71) 26 30 (.agg #[(.int .i64 0), (.int .i64 0), (.int .i64 0)]) 24 rfl Try.underlying26 info30 rfl (by decide) (by omega) u12 x12_2 (⟨((rd_T30 l0 x13_2).f0), ((rd_T30 l0 x13_2).f1), ji31⟩ : S30) [.int .i64 ((rd_T30 l0 x13_2).f0), .int .i64 ((rd_T30 l0 x13_2).f1), .int .i64 ji31] (fun k_ => some k_ ≠ (u11 : Value).ownBlock ∧ k_ ≠ gb386) (fun _ => False) rfl rfl ?aP (fun _ hk => hk.elim) ?aF ?aO ?aB ?aS ?aL ?_; (case aP => exact k30_mkM _ _ _ (⟨((rd_T30 l0 x13_2).f0), ((rd_T30 l0 x13_2).f1), ji31⟩ : S30)); (case aB => exact (by repeat (first | (with_reducible first | exact HB.out | apply below_alloc | apply pw_below_drewN | apply below_drew1 | refine below_set ?_ GE386.out) | exact HB.out))); (case aF => exact (fun k_ hk => ⟨Kd.fresh' (Kd.R_lt (by (with_reducible repeat (first | apply Kd.R_alloc | apply Kd.R_drewN | apply Kd.R_drew)); exact HO_11.out)) k_ hk, Kd.freshB (g := gb386) (o := .cells #[.int .i64 ((rd_T30 l0 x13_2).f0), .int .i64 ((rd_T30 l0 x13_2).f1), .int .i64 ((rd_T30 l0 x13_2).f2)] 30 (0, 0)) (by (with_reducible repeat (first | refine blk_drewN ?_ _ | refine blk_drew ?_ | refine blk_alloc ?_ _)); exact BK386.out) k_ hk⟩)); (case aO => exact (by (with_reducible repeat (first | apply Kd.R_alloc | apply Kd.R_drewN | apply Kd.R_drew)); exact HO_12.out)); (case aS => exact (below_size (by repeat (first | (with_reducible first | exact HB.out | apply below_alloc | apply pw_below_drewN | apply below_drew1 | refine below_set ?_ GE386.out) | exact HB.out)))); (case aL => have := LMc32.out; omega); intro v388 w40 ho hb hg hat; rw [← Ny387.out] at ho; have n0_ := Aside0.mk (Kd.R_after (ok := (fun k_ => k_ ≠ gb386)) (by (with_reducible repeat (first | apply Kd.R_alloc | apply Kd.R_drewN | apply Kd.R_drew)); exact Kd.R_mono HO_11.out (fun _ hk => ⟨hk.2, hk.1⟩)) hg hat); have n1_ := Aside0.mk (blk_grown (g := gb386) (o := .cells #[.int .i64 ((rd_T30 l0 x13_2).f0), .int .i64 ((rd_T30 l0 x13_2).f1), .int .i64 ((rd_T30 l0 x13_2).f2)] 30 (0, 0)) (by (with_reducible repeat (first | refine blk_drewN ?_ _ | refine blk_drew ?_ | refine blk_alloc ?_ _)); exact BK386.out) hg (Kd.R_away HO_12.out (fun _ hk => by first | exact hk.2 | trivial))); have n2_ := Aside0.mk (hb); have n3_ := Aside0.mk (ho); clear HO_11; clear BK386; clear HB; clear HO_12; have HO_11 := n0_; have BK386 := n1_; have HB := n2_; have HO389 := n3_; clear n0_ n1_ n2_ n3_; clear ho hb hg hat; have hcz41_0 : w40.cell? ⟨gb386, 0, none⟩ = some (.int .i64 ((rd_T30 l0 x13_2).f0)) := (blk_cell BK386.out 0).trans rfl; have hcz41_1 : w40.cell? ⟨gb386, 1, none⟩ = some (.int .i64 ((rd_T30 l0 x13_2).f1)) := (blk_cell BK386.out 1).trans rfl; have hcz41_2 : w40.cell? ⟨gb386, 2, none⟩ = some (.int .i64 ((rd_T30 l0 x13_2).f2)) := (blk_cell BK386.out 2).trans rfl; have hfz41_0 := blk_frozen BK386.out 0; have hfz41_1 := blk_frozen BK386.out 1; have hfz41_2 := blk_frozen BK386.out 2))
             go_roundg kj21
             case measure => have := HJ4.out; have := HK2.out; have := HJ21.out; omega
             case rel => exact ⟨(wrap64 (x2_2 - (ji31))), (x11_2), (y387), (wrap64 (x13_2 + 1)), (by first | rfl | (simp; done) | (simp only [← hji31] <;> (first | rfl | simp)) | (simp [*]; done)), (by first | rfl | (simp; done) | (simp [*]; done) | (simp only [wrap64, IntKind.wrap_i64]; done) | (simp [wrap64, IntKind.wrap_i64]; done)), H', ⟨by have := HJ4.out; have := HK2.out; have := HJ21.out; omega⟩, ⟨by (with_reducible repeat (first | apply Kd.R_alloc | apply Kd.R_drewN | apply Kd.R_drew)); exact Kd.R_mono (Kd.R_far (p := ⟨gb386, 2, none⟩) (Kd.R_mono HO_11.out (fun k_ hk => (⟨hk, hk.1⟩ : _ ∧ k_ ≠ gb386))) (fun _ hk => by first | exact hk.2 | trivial) (.int .i64 (wrap64 (((rd_T30 l0 x13_2).f2) - (ji31))))) (fun _ hk => hk.1.2)⟩, ⟨by (with_reducible repeat (first | apply Kd.R_alloc | apply Kd.R_drewN | apply Kd.R_drew)); exact Kd.R_mono (Kd.R_far (p := ⟨gb386, 2, none⟩) (Kd.R_mono HO389.out (fun k_ hk => (⟨hk, hk.2⟩ : _ ∧ k_ ≠ gb386))) (fun _ hk => by first | exact hk.2 | trivial) (.int .i64 (wrap64 (((rd_T30 l0 x13_2).f2) - (ji31))))) (fun _ hk => hk.1.1)⟩, ⟨by repeat (first | (with_reducible first | exact HB.out | apply below_alloc | apply pw_below_drewN | apply below_drew1 | refine below_set ?_ GE386.out) | exact HB.out)⟩⟩
           ·rw [if_neg c32] at H
            exact absurd H (by simp)
          ·replace c30 := Bool.eq_false_iff.mpr c30
           subst c30
           have H1 : (if ((rd_T30 l0 x13_2).f2) > 0 then (if x11_2.length < 5864062014805 then (spec_StoreTake.l0 kj21 l0 a1 x2_2 a3 (x11_2 ++ [(⟨((rd_T30 l0 x13_2).f0), ((rd_T30 l0 x13_2).f1), ((rd_T30 l0 x13_2).f2)⟩ : S30)]) x12_2 (wrap64 (x13_2 + 1))) else (none)) else (spec_StoreTake.l0 kj21 l0 a1 x2_2 a3 x11_2 x12_2 (wrap64 (x13_2 + 1)))) = some (r1, r2, r3) := by rw [if_neg (show ¬ (false = true) by decide)] at H; exact H
           clear H
           have H := H1
           clear H1
           by_cases c42 : ((rd_T30 l0 x13_2).f2) > 0
           ·rw [if_pos c42] at H
            have c42b0 : decide (0 < ((rd_T30 l0 x13_2).f2)) = true := decide_eq_true c42
            clear c42
            by_cases c43 : x11_2.length < 5864062014805
            ·rw [if_pos c43] at H
             have LMc43 := Aside0.mk c43
             clear c43
             obtain ⟨y393, hy393⟩ : ∃ y_ : List (S30), y_ = (x11_2 ++ [(⟨((rd_T30 l0 x13_2).f0), ((rd_T30 l0 x13_2).f1), ((rd_T30 l0 x13_2).f2)⟩ : S30)]) := ⟨_, rfl⟩
             replace H : (spec_StoreTake.l0 kj21 l0 a1 x2_2 a3 y393 x12_2 (wrap64 (x13_2 + 1))) = some (r1, r2, r3) := by first | (rw [hy393]; with_reducible exact H) | (have H2_ := (Option.bind_some _ _).symm.trans H; rw [hy393]; with_reducible exact H2_) | (have H2_ := (Option.bind_some _ _).symm.trans H; with_reducible exact H2_) | with_reducible exact H | (rw [hy393]; exact H) | exact H
             have Ny393 := Aside0.mk hy393
             clear hy393
             have H' := Aside0.mk H
             clear H
             have hcz44_0 : wc.cell? ⟨gb386, 0, none⟩ = some (.int .i64 ((rd_T30 l0 x13_2).f0)) := (blk_cell BK386.out 0).trans rfl
             have hcz44_1 : wc.cell? ⟨gb386, 1, none⟩ = some (.int .i64 ((rd_T30 l0 x13_2).f1)) := (blk_cell BK386.out 1).trans rfl
             have hcz44_2 : wc.cell? ⟨gb386, 2, none⟩ = some (.int .i64 ((rd_T30 l0 x13_2).f2)) := (blk_cell BK386.out 2).trans rfl
             have hfz44_0 := blk_frozen BK386.out 0
             have hfz44_1 := blk_frozen BK386.out 1
             have hfz44_2 := blk_frozen BK386.out 2
             go_wp2_with (first | ((with_reducible refine gate_builtin (b := .append) (xs := #[.tmp 84, .tmp 86]) rfl ?_); at_builtin; refine Kd.R_append k30 (w0 := w) w.heap.size rfl (.tmp 84) (.tmp 86) 26 30 (.agg #[(.int .i64 0), (.int .i64 0), (.int .i64 0)]) 24 rfl Try.underlying26 info30 rfl (by decide) (by omega) u11 x11_2 (⟨((rd_T30 l0 x13_2).f0), ((rd_T30 l0 x13_2).f1), ((rd_T30 l0 x13_2).f2)⟩ : S30) [.int .i64 ((rd_T30 l0 x13_2).f0), .int .i64 ((rd_T30 l0 x13_2).f1), .int .i64 ((rd_T30 l0 x13_2).f2)] (fun k_ => some k_ ≠ (u12 : Value).ownBlock ∧ k_ ≠ gb386) (fun _ => False) rfl rfl ?aP (fun _ hk => hk.elim) ?aF ?aO ?aB ?aS ?aL ?_; (case aP => exact k30_mkM _ _ _ (⟨((rd_T30 l0 x13_2).f0), ((rd_T30 l0 x13_2).f1), ((rd_T30 l0 x13_2).f2)⟩ : S30)); (case aB => exact (by repeat (first | (with_reducible first | exact HB.out | apply below_alloc | apply pw_below_drewN | apply below_drew1 | refine below_set ?_ GE386.out) | exact HB.out))); (case aF => exact (fun k_ hk => ⟨Kd.fresh' (Kd.R_lt (by (with_reducible repeat (first | apply Kd.R_alloc | apply Kd.R_drewN | apply Kd.R_drew)); exact HO_12.out)) k_ hk, Kd.freshB (g := gb386) (o := .cells #[.int .i64 ((rd_T30 l0 x13_2).f0), .int .i64 ((rd_T30 l0 x13_2).f1), .int .i64 ((rd_T30 l0 x13_2).f2)] 30 (0, 0)) (by (with_reducible repeat (first | refine blk_drewN ?_ _ | refine blk_drew ?_ | refine blk_alloc ?_ _)); exact BK386.out) k_ hk⟩)); (case aO => exact (by (with_reducible repeat (first | apply Kd.R_alloc | apply Kd.R_drewN | apply Kd.R_drew)); exact HO_11.out)); (case aS => exact (below_size (by repeat (first | (with_reducible first | exact HB.out | apply below_alloc | apply pw_below_drewN | apply below_drew1 | refine below_set ?_ GE386.out) | exact HB.out)))); (case aL => have := LMc43.out; omega); intro v394 w45 ho hb hg hat; rw [← Ny393.out] at ho; have n0_ := Aside0.mk (Kd.R_after (ok := (fun k_ => k_ ≠ gb386)) (by (with_reducible repeat (first | apply Kd.R_alloc | apply Kd.R_drewN | apply Kd.R_drew)); exact Kd.R_mono HO_12.out (fun _ hk => ⟨hk.2, hk.1⟩)) hg hat); have n1_ := Aside0.mk (blk_grown (g := gb386) (o := .cells #[.int .i64 ((rd_T30 l0 x13_2).f0), .int .i64 ((rd_T30 l0 x13_2).f1), .int .i64 ((rd_T30 l0 x13_2).f2)] 30 (0, 0)) (by (with_reducible repeat (first | refine blk_drewN ?_ _ | refine blk_drew ?_ | refine blk_alloc ?_ _)); exact BK386.out) hg (Kd.R_away HO_11.out (fun _ hk => by first | exact hk.2 | trivial))); have n2_ := Aside0.mk (hb); have n3_ := Aside0.mk (ho); clear HO_12; clear BK386; clear HB; clear HO_11; have HO_12 := n0_; have BK386 := n1_; have HB := n2_; have HO395 := n3_; clear n0_ n1_ n2_ n3_; clear ho hb hg hat))
             go_roundg kj21
             case measure => have := HJ4.out; have := HK2.out; have := HJ21.out; omega
             case rel => exact ⟨(x2_2), (y393), (x12_2), (wrap64 (x13_2 + 1)), (by first | rfl | (simp; done) | (simp [*]; done) | (simp only [wrap64, IntKind.wrap_i64]; done) | (simp [wrap64, IntKind.wrap_i64]; done)), (by first | rfl | (simp; done) | (simp [*]; done) | (simp only [wrap64, IntKind.wrap_i64]; done) | (simp [wrap64, IntKind.wrap_i64]; done)), H', ⟨by have := HJ4.out; have := HK2.out; have := HJ21.out; omega⟩, ⟨by (with_reducible repeat (first | apply Kd.R_alloc | apply Kd.R_drewN | apply Kd.R_drew)); exact Kd.R_mono HO395.out (fun _ hk => hk.1)⟩, ⟨by (with_reducible repeat (first | apply Kd.R_alloc | apply Kd.R_drewN | apply Kd.R_drew)); exact Kd.R_mono HO_12.out (fun _ hk => by first | exact hk.2 | trivial)⟩, ⟨by repeat (first | (with_reducible first | exact HB.out | apply below_alloc | apply pw_below_drewN | apply below_drew1 | refine below_set ?_ GE386.out) | exact HB.out)⟩⟩
            ·rw [if_neg c43] at H
             exact absurd H (by simp)
           ·rw [if_neg c42] at H
            have c42b0 : decide (0 < ((rd_T30 l0 x13_2).f2)) = false := decide_eq_false c42
            clear c42
            have H' := Aside0.mk H
            clear H
            have hcz46_0 : wc.cell? ⟨gb386, 0, none⟩ = some (.int .i64 ((rd_T30 l0 x13_2).f0)) := (blk_cell BK386.out 0).trans rfl
            have hcz46_1 : wc.cell? ⟨gb386, 1, none⟩ = some (.int .i64 ((rd_T30 l0 x13_2).f1)) := (blk_cell BK386.out 1).trans rfl
            have hcz46_2 : wc.cell? ⟨gb386, 2, none⟩ = some (.int .i64 ((rd_T30 l0 x13_2).f2)) := (blk_cell BK386.out 2).trans rfl
            have hfz46_0 := blk_frozen BK386.out 0
            have hfz46_1 := blk_frozen BK386.out 1
            have hfz46_2 := blk_frozen BK386.out 2
            go_wp2
            go_roundg kj21
            case measure => have := HJ4.out; have := HK2.out; have := HJ21.out; omega
            case rel => exact ⟨(x2_2), (x11_2), (x12_2), (wrap64 (x13_2 + 1)), (by first | rfl | (simp; done) | (simp [*]; done) | (simp only [wrap64, IntKind.wrap_i64]; done) | (simp [wrap64, IntKind.wrap_i64]; done)), (by first | rfl | (simp; done) | (simp [*]; done) | (simp only [wrap64, IntKind.wrap_i64]; done) | (simp [wrap64, IntKind.wrap_i64]; done)), H', ⟨by have := HJ4.out; have := HK2.out; have := HJ21.out; omega⟩, ⟨by (with_reducible repeat (first | apply Kd.R_alloc | apply Kd.R_drewN | apply Kd.R_drew)); exact Kd.R_mono HO_11.out (fun _ hk => hk.1)⟩, ⟨by (with_reducible repeat (first | apply Kd.R_alloc | apply Kd.R_drewN | apply Kd.R_drew)); exact Kd.R_mono HO_12.out (fun _ hk => hk.1)⟩, ⟨by repeat (first | (with_reducible first | exact HB.out | apply below_alloc | apply pw_below_drewN | apply below_drew1 | refine below_set ?_ GE386.out) | exact HB.out)⟩⟩
       ·rw [if_neg c21] at H
        exact absurd H (by simp)
      ·rw [if_neg c20] at H
       have c20b0 : decide (x13_2 < (l0.length : Int)) = false := decide_eq_false c20
       clear c20
       simp only [Option.some.injEq, Prod.mk.injEq] at H
       obtain ⟨rfl, rfl, rfl⟩ := H
       go_wp2
       go_ret3
       exact ⟨_, _, by first | rfl | (simp [errW_none, errW_some] <;> rfl) | (simp [*, errW_none, errW_some] <;> rfl), by (with_reducible repeat (first | apply Kd.R_alloc | apply Kd.R_drewN | apply Kd.R_drew)); exact HO_11.out, by (with_reducible repeat (first | apply Kd.R_alloc | apply Kd.R_drewN | apply Kd.R_drew)); exact HO_12.out, by repeat (first | (with_reducible first | exact HB.out | apply below_alloc | apply pw_below_drewN | apply below_drew1) | exact HB.out)⟩

end Go.Proofs.Ytfnngpfkcnfhiaa.PAll
