-- PRINTED by print.py (a twelfth state) out of the translation. Not trusted: Lean checks it.
import Derived.Test.YtfnngpfkcnfhiaaPAllx0
import Derived.Test.YtfnngpfkcnfhiaaPAllx5
import Derived.Test.YtfnngpfkcnfhiaaPAllx13
namespace Go.Proofs.Ytfnngpfkcnfhiaa.PAll
open Go.RowKit Go.Proofs.YtfnngpfkcnfhiaaW.PrintWords Go.Proofs.YtfnngpfkcnfhiaaW.PrintLast Go.Proofs.YtfnngpfkcnfhiaaW.PrintMore
attribute [local go_sem] max2_int min2_int max_two min_two max_three min_three max_four min_four   -- for this text's walks alone
set_option linter.unusedVariables false
set_option linter.unusedSimpArgs false

/-! ### impl_StoreTake: function 21 -/
mutual
def impl_StoreTake.j0 : Nat → List (S30) → Int → Int → Int → Bool → Option ((List (S30)) × (List (S30)) × Bool)
 | 0, _, _, _, _, _ => none
 | k + 1, x0, x1, x2, x3, x26 => if x26 = true then (some (([] : List (S30)), ([] : List (S30)), false)) else (impl_StoreTake.l0 k x1 x2 x3 (([] : List (S30))) (([] : List (S30))) x0 (x0.length : Int) 0)
def impl_StoreTake.l0 : Nat → Int → Int → Int → List (S30) → List (S30) → List (S30) → Int → Int → Option ((List (S30)) × (List (S30)) × Bool)
 | 0, _, _, _, _, _, _, _, _ => none
 | k + 1, x1, x2, x3, x11, x12, x29, x30, x31 => if x31 < x30 then (if 0 ≤ x31 then (if x31 < (x29.length : Int) then (if ((rd_T30 x29 x31).f0) = x1 then (impl_StoreTake.j2 k x1 x2 x3 x11 x12 0 x29 x30 x31 (decide (((rd_T30 x29 x31).f1) ≥ x3)) ((rd_T30 x29 x31).f0) ((rd_T30 x29 x31).f1) ((rd_T30 x29 x31).f2)) else (impl_StoreTake.j2 k x1 x2 x3 x11 x12 0 x29 x30 x31 false ((rd_T30 x29 x31).f0) ((rd_T30 x29 x31).f1) ((rd_T30 x29 x31).f2))) else (none)) else (none)) else (some (x11, x12, true))
def impl_StoreTake.j2 : Nat → Int → Int → Int → List (S30) → List (S30) → Int → List (S30) → Int → Int → Bool → Int → Int → Int → Option ((List (S30)) × (List (S30)) × Bool)
 | 0, _, _, _, _, _, _, _, _, _, _, _, _, _ => none
 | k + 1, x1, x2, x3, x11, x12, x15, x29, x30, x31, x44, x367000, x367001, x367002 => if x44 = true then (impl_StoreTake.j3 k x1 x2 x3 x11 x12 (mn x367002 x2) x29 x30 x31 x367000 x367001 x367002) else (impl_StoreTake.j3 k x1 x2 x3 x11 x12 x15 x29 x30 x31 x367000 x367001 x367002)
def impl_StoreTake.j3 : Nat → Int → Int → Int → List (S30) → List (S30) → Int → List (S30) → Int → Int → Int → Int → Int → Option ((List (S30)) × (List (S30)) × Bool)
 | 0, _, _, _, _, _, _, _, _, _, _, _, _ => none
 | k + 1, x1, x2, x3, x11, x12, x15, x29, x30, x31, x367000, x367001, x367002 => if x15 > 0 then (if x12.length < 5864062014805 then ((some (x12 ++ [(⟨x367000, x367001, x15⟩ : S30)] : List (S30))).bind fun y367 => (if x367002 > x15 then (if x11.length < 5864062014805 then (impl_StoreTake.l0 k x1 (wrap64 (x2 - x15)) x3 (x11 ++ [(⟨x367000, x367001, wrap64 (x367002 - x15)⟩ : S30)]) y367 x29 x30 (wrap64 (x31 + 1))) else (none)) else (impl_StoreTake.l0 k x1 (wrap64 (x2 - x15)) x3 x11 y367 x29 x30 (wrap64 (x31 + 1))))) else (none)) else (if x367002 > x15 then (if x11.length < 5864062014805 then (impl_StoreTake.l0 k x1 (wrap64 (x2 - x15)) x3 (x11 ++ [(⟨x367000, x367001, wrap64 (x367002 - x15)⟩ : S30)]) x12 x29 x30 (wrap64 (x31 + 1))) else (none)) else (impl_StoreTake.l0 k x1 (wrap64 (x2 - x15)) x3 x11 x12 x29 x30 (wrap64 (x31 + 1))))
end
def impl_StoreTake.f (k : Nat) (l0 : List (S30)) (a1 : Int) (a2 : Int) (a3 : Int) : Option ((List (S30)) × (List (S30)) × Bool) := (impl_within.f a2 0 999999).bind fun t357 => (if t357 = true then ((impl_StoreHas.f k l0 a1 a3).bind fun t358 => (impl_StoreTake.j0 k l0 a1 a2 a3 (decide (t358 < a2)))) else (impl_StoreTake.j0 k l0 a1 a2 a3 true))
set_option maxHeartbeats 8000000 in
set_option maxRecDepth 100000 in
theorem impl_StoreTake.calls (k : Nat) (A0 : Option Addr) (c0 : Nat) (l0 : List (S30)) (a1 : Int) (a2 : Int) (a3 : Int) (r1 : List (S30)) (r2 : List (S30)) (r3 : Bool) (w : World) (hr0 : Kd.C k30 w A0 l0.length l0) (hc0 : l0.length ≤ c0) (h : impl_StoreTake.f k l0 a1 a2 a3 = some (r1, r2, r3)) :
  Calls Try.prog 21 #[.slice A0 l0.length c0, .int .i64 a1, .int .i64 a2, .int .i64 a3] w fun e w' => ∃ v0_ v1_ : Value, e = .returned (.tuple #[v0_, v1_, .bool r3]) ∧ Kd.R k30 30 w' w.heap.size (fun k_ => some k_ ≠ (v1_ : Value).ownBlock) v0_ r1 ∧ Kd.R k30 30 w' w.heap.size (fun k_ => some k_ ≠ (v0_ : Value).ownBlock) v1_ r2 ∧ Below w.heap.size w w' := by
 have hu30 := Try.underlying30
 have HR0 := Aside0.mk hr0
 have HC0 := Aside0.mk hc0
 clear hr0 hc0
 have HB := Aside0.mk (Below.refl w.heap.size w)
 have H : ((impl_within.f a2 0 999999).bind fun t357 => (if t357 = true then ((impl_StoreHas.f k l0 a1 a3).bind fun t358 => (impl_StoreTake.j0 k l0 a1 a2 a3 (decide (t358 < a2)))) else (impl_StoreTake.j0 k l0 a1 a2 a3 true))) = some (r1, r2, r3) := h
 clear h
 have HC5 := Aside0.mk H
 clear H
 go_enter Try.func21, Try.ntmps21
 go_upto_region 1 with (fail)
 go_cut [26] (fun v26 wc => ∃ (kq : Nat) (x26_4 : Bool), v26 = .bool x26_4 ∧ Aside0 (impl_StoreTake.j0 kq l0 a1 a2 a3 x26_4 = some (r1, r2, r3)) ∧ Aside0 (kq ≤ k) ∧ Aside0 (Below w.heap.size w wc))
 case first =>
  have H := HC5.out
  clear HC5
  replace H := Option.bind_eq_some_iff.mp H
  obtain ⟨t357, A60, H⟩ := H
  replace H : (if t357 = true then ((impl_StoreHas.f k l0 a1 a3).bind fun t358 => (impl_StoreTake.j0 k l0 a1 a2 a3 (decide (t358 < a2)))) else (impl_StoreTake.j0 k l0 a1 a2 a3 true)) = some (r1, r2, r3) := H
  have A6 := Aside0.mk A60
  clear A60
  by_cases c7 : t357 = true
  ·subst c7
   have H1 : ((impl_StoreHas.f k l0 a1 a3).bind fun t358 => (impl_StoreTake.j0 k l0 a1 a2 a3 (decide (t358 < a2)))) = some (r1, r2, r3) := by rw [if_pos rfl] at H; exact H
   clear H
   have H := H1
   clear H1
   replace H := Option.bind_eq_some_iff.mp H
   obtain ⟨t358, A80, H⟩ := H
   replace H : (impl_StoreTake.j0 k l0 a1 a2 a3 (decide (t358 < a2))) = some (r1, r2, r3) := H
   have A8 := Aside0.mk A80
   clear A80
   have H' := Aside0.mk H
   clear H
   go_wp2_with (first | ((with_reducible refine gate_callee (f := 37) rfl ?_); refine goesL_ (some 17) rfl rfl Try.func37 (by kernel_rfl) rfl #[.int .i64 a2, .int .i64 0, .int .i64 999999] rfl (by (try simp only [List.map_toArray, List.map_cons, List.map_nil]); first | done | rfl | (simp only [List.length_drop, List.length_take]; rfl)) ?_; (with_reducible refine (impl_within.calls a2 0 999999 true _ A6.out).mono ?_); rintro e w' ⟨rfl, ⟨nd, rfl⟩⟩; refine ⟨_, rfl, ?_⟩) | (go_at_call 17; (with_reducible refine (impl_StoreHas.calls k _ _ l0 a1 a3 t358 _ ?side1 ?side2 A8.out).mono ?_); (case side1 => repeat (first | exact (Kd.C_below HR0.out (by repeat (first | (with_reducible first | exact HB.out | apply below_alloc | apply pw_below_drewN | apply below_drew1) | exact HB.out))) | (with_reducible refine Kd.C_alloc ?_ _) | (with_reducible refine Kd.C_drewN ?_ _) | (with_reducible refine Kd.C_drew ?_))); (case side2 => exact HC0.out); rintro e w9 ⟨rfl, hb⟩; have n0_ := Aside0.mk (below_step (by repeat (first | (with_reducible first | exact HB.out | apply below_alloc | apply pw_below_drewN | apply below_drew1) | exact HB.out)) hb); clear HB; have HB := n0_; clear n0_; (try clear hb); (try clear hb2); (try clear hk); (try clear hi)))
   go_meet
   case rel => exact ⟨_, (decide (t358 < a2)), (by first | rfl | (simp; done) | (simp [*]; done) | (simp only [wrap64, IntKind.wrap_i64]; done) | (simp [wrap64, IntKind.wrap_i64]; done)), H', ⟨by first | omega | exact Nat.le_refl _⟩, ⟨by repeat (first | (with_reducible first | exact HB.out | apply below_alloc | apply pw_below_drewN | apply below_drew1) | exact HB.out)⟩⟩
  ·replace c7 := Bool.eq_false_iff.mpr c7
   subst c7
   have H1 : (impl_StoreTake.j0 k l0 a1 a2 a3 true) = some (r1, r2, r3) := by rw [if_neg (show ¬ (false = true) by decide)] at H; exact H
   clear H
   have H := H1
   clear H1
   have H' := Aside0.mk H
   clear H
   go_wp2_with (first | ((with_reducible refine gate_callee (f := 37) rfl ?_); refine goesL_ (some 17) rfl rfl Try.func37 (by kernel_rfl) rfl #[.int .i64 a2, .int .i64 0, .int .i64 999999] rfl (by (try simp only [List.map_toArray, List.map_cons, List.map_nil]); first | done | rfl | (simp only [List.length_drop, List.length_take]; rfl)) ?_; (with_reducible refine (impl_within.calls a2 0 999999 false _ A6.out).mono ?_); rintro e w' ⟨rfl, ⟨nd, rfl⟩⟩; refine ⟨_, rfl, ?_⟩))
   go_meet
   case rel => exact ⟨_, (true), (by first | rfl | (simp; done) | (simp [*]; done) | (simp only [wrap64, IntKind.wrap_i64]; done) | (simp [wrap64, IntKind.wrap_i64]; done)), H', ⟨by first | omega | exact Nat.le_refl _⟩, ⟨by repeat (first | (with_reducible first | exact HB.out | apply below_alloc | apply pw_below_drewN | apply below_drew1) | exact HB.out)⟩⟩
 case rest =>
  clear HC5
  try clear c2
  try clear p2
  try clear c3
  try clear c7
  obtain ⟨kq, x26_4, rfl, HA, HJ4, HB⟩ := hcut
  cases kq with
  | zero => exact absurd HA.out (by simp [impl_StoreTake.j0])
  | succ kj4 =>
   have H := HA.out
   clear HA
   simp only [impl_StoreTake.j0] at H
   by_cases c10 : x26_4 = true
   ·subst c10
    have H1 : (some (([] : List (S30)), ([] : List (S30)), false)) = some (r1, r2, r3) := by rw [if_pos rfl] at H; exact H
    clear H
    have H := H1
    clear H1
    simp only [Option.some.injEq, Prod.mk.injEq] at H
    obtain ⟨rfl, rfl, rfl⟩ := H
    go_wp2
    go_ret3
    exact ⟨_, _, by first | rfl | (simp [errW_none, errW_some] <;> rfl) | (simp [*, errW_none, errW_some] <;> rfl), by first | exact Kd.R_nil _ _ _ _ _ | exact Kd.N_nil _ _ _ _ _ | exact Kd.V_nil _ _ _ _ _ | exact Kd.Q_nil _ _ _ _ _ | exact Kd.S_nil _ _ _ _ _, by first | exact Kd.R_nil _ _ _ _ _ | exact Kd.N_nil _ _ _ _ _ | exact Kd.V_nil _ _ _ _ _ | exact Kd.Q_nil _ _ _ _ _ | exact Kd.S_nil _ _ _ _ _, by repeat (first | (with_reducible first | exact HB.out | apply below_alloc | apply pw_below_drewN | apply below_drew1) | exact HB.out)⟩
   ·replace c10 := Bool.eq_false_iff.mpr c10
    subst c10
    have H1 : (impl_StoreTake.l0 kj4 a1 a2 a3 (([] : List (S30))) (([] : List (S30))) l0 (l0.length : Int) 0) = some (r1, r2, r3) := by rw [if_neg (show ¬ (false = true) by decide)] at H; exact H
    clear H
    have H := H1
    clear H1
    obtain ⟨y359, hy359⟩ : ∃ y_ : List (S30), y_ = (([] : List (S30))) := ⟨_, rfl⟩
    replace H : (impl_StoreTake.l0 kj4 a1 a2 a3 y359 (([] : List (S30))) l0 (l0.length : Int) 0) = some (r1, r2, r3) := by first | (rw [hy359]; with_reducible exact H) | (have H2_ := (Option.bind_some _ _).symm.trans H; rw [hy359]; with_reducible exact H2_) | (have H2_ := (Option.bind_some _ _).symm.trans H; with_reducible exact H2_) | with_reducible exact H | (rw [hy359]; exact H) | exact H
    have Ny359 := Aside0.mk hy359
    clear hy359
    obtain ⟨y362, hy362⟩ : ∃ y_ : List (S30), y_ = (([] : List (S30))) := ⟨_, rfl⟩
    replace H : (impl_StoreTake.l0 kj4 a1 a2 a3 y359 y362 l0 (l0.length : Int) 0) = some (r1, r2, r3) := by first | (rw [hy362]; with_reducible exact H) | (have H2_ := (Option.bind_some _ _).symm.trans H; rw [hy362]; with_reducible exact H2_) | (have H2_ := (Option.bind_some _ _).symm.trans H; with_reducible exact H2_) | with_reducible exact H | (rw [hy362]; exact H) | exact H
    have Ny362 := Aside0.mk hy362
    clear hy362
    have H' := Aside0.mk H
    clear H
    go_wp2_with (first | ((with_reducible refine gate_dst (N := 27) rfl ?_); refine Kd.R_lit k30 _ 30 ?hg (N := 27) ?hd (xs := ([] : List (S30))) (inner := []) (ok := fun _ => True) (okp := fun _ => True) ?hr ?hp (fun _ hk => hk) trivial (Below.refl _ _) (Nat.le_refl _) (by simp) ?_; (case hd => rfl); (case hg => rfl); (case hr => first | (go_simp; done) | (go_simp; rfl)); (case hp => exact (Reps.none _ _)); intro v360 w11 ho12 hb hg_ hnew_; clear hg_ hnew_; (first | rw [← Ny359.out] at ho12 | (simp only [Int.reduceToNat] at ho12; rw [← Ny359.out] at ho12)); have n0_ := Aside0.mk (Kd.R_lower ho12 (below_size (by repeat (first | (with_reducible first | exact HB.out | apply below_alloc | apply pw_below_drewN | apply below_drew1) | exact HB.out)))); have n1_ := Aside0.mk (below_step (by repeat (first | (with_reducible first | exact HB.out | apply below_alloc | apply pw_below_drewN | apply below_drew1) | exact HB.out)) hb); clear HB; have HO361 := n0_; have HB := n1_; clear n0_ n1_; clear hb ho12) | ((with_reducible refine gate_dst (N := 28) rfl ?_); refine Kd.R_lit k30 _ 30 ?hg (N := 28) ?hd (xs := ([] : List (S30))) (inner := []) (ok := fun _ => True) (okp := fun _ => True) ?hr ?hp (fun _ hk => hk) trivial (Below.refl _ _) (Nat.le_refl _) (by simp) ?_; (case hd => rfl); (case hg => rfl); (case hr => first | (go_simp; done) | (go_simp; rfl)); (case hp => exact (Reps.none _ _)); intro v363 w13 ho14 hb hg_ hnew_; clear hg_ hnew_; (first | rw [← Ny362.out] at ho14 | (simp only [Int.reduceToNat] at ho14; rw [← Ny362.out] at ho14)); have n0_ := Aside0.mk (Kd.R_elder' (by (with_reducible repeat (first | apply Kd.R_alloc | apply Kd.R_drewN | apply Kd.R_drew)); exact HO361.out) (Kd.R_base ho14) hb); have n1_ := Aside0.mk (Kd.R_lower (Kd.R_new' ho14 (Kd.R_lt (by (with_reducible repeat (first | apply Kd.R_alloc | apply Kd.R_drewN | apply Kd.R_drew)); exact HO361.out))) (below_size (by repeat (first | (with_reducible first | exact HB.out | apply below_alloc | apply pw_below_drewN | apply below_drew1) | exact HB.out)))); have n2_ := Aside0.mk (below_step (by repeat (first | (with_reducible first | exact HB.out | apply below_alloc | apply pw_below_drewN | apply below_drew1) | exact HB.out)) hb); clear HO361; clear HB; have HO361 := n0_; have HO364 := n1_; have HB := n2_; clear n0_ n1_ n2_; clear hb ho14))
    go_loopg [2, 11, 12, 31] kj4 (fun kq v2 v11 v12 v31 w' => ∃ (x2_2 : Int) (x11_2 : List (S30)) (x12_2 : List (S30)) (x31_2 : Int), v2 = .int .i64 x2_2 ∧ v31 = .int .i64 x31_2 ∧ Aside0 (impl_StoreTake.l0 kq a1 x2_2 a3 x11_2 x12_2 l0 (l0.length : Int) x31_2 = some (r1, r2, r3)) ∧ Aside0 (kq ≤ kj4) ∧ Aside0 (Kd.R k30 30 w' w.heap.size (fun k_ => some k_ ≠ (v12 : Value).ownBlock) v11 x11_2) ∧ Aside0 (Kd.R k30 30 w' w.heap.size (fun k_ => some k_ ≠ (v11 : Value).ownBlock) v12 x12_2) ∧ Aside0 (Below w.heap.size w w'))
    case atStart => exact ⟨(a2), (y359), (y362), (0), (by first | rfl | (simp; done) | (simp [*]; done) | (simp only [wrap64, IntKind.wrap_i64]; done) | (simp [wrap64, IntKind.wrap_i64]; done)), (by first | rfl | (simp; done) | (simp [*]; done) | (simp only [wrap64, IntKind.wrap_i64]; done) | (simp [wrap64, IntKind.wrap_i64]; done)), H', ⟨Nat.le_refl _⟩, ⟨by (with_reducible repeat (first | apply Kd.R_alloc | apply Kd.R_drewN | apply Kd.R_drew)); exact Kd.R_mono HO361.out (fun _ hk => by first | exact hk.2 | trivial)⟩, ⟨by (with_reducible repeat (first | apply Kd.R_alloc | apply Kd.R_drewN | apply Kd.R_drew)); exact Kd.R_mono HO364.out (fun _ hk => by first | exact hk.2 | trivial)⟩, ⟨by repeat (first | (with_reducible first | exact HB.out | apply below_alloc | apply pw_below_drewN | apply below_drew1) | exact HB.out)⟩⟩
    case round =>
     clear H'
     try clear c1
     try clear c2
     try clear p2
     try clear c3
     try clear c7
     try clear c10
     try clear p2
     obtain ⟨x2_2, x11_2, x12_2, x31_2, rfl, rfl, HA, HK2, HO_11, HO_12, HB⟩ := hrel
     cases gk with
     | zero => exact absurd HA.out (by simp [impl_StoreTake.l0])
     | succ k2 =>
      have H := HA.out
      clear HA
      simp only [impl_StoreTake.l0] at H
      by_cases c15 : x31_2 < (l0.length : Int)
      ·rw [if_pos c15] at H
       have c15b0 : decide (x31_2 < (l0.length : Int)) = true := decide_eq_true c15
       clear c15
       by_cases c16 : 0 ≤ x31_2
       ·rw [if_pos c16] at H
        have c16b0 : decide (0 ≤ x31_2) = true := decide_eq_true c16
        clear c16
        by_cases c17 : x31_2 < (l0.length : Int)
        ·rw [if_pos c17] at H
         have c17b0 : decide (x31_2 < (l0.length : Int)) = true := decide_eq_true c17
         clear c17
         have HC18 := Aside0.mk H
         clear H
         have p365 : 0 ≤ (x31_2 : Int) := of_decide_eq_true (by first | (with_reducible assumption) | assumption)
         have q365 : x31_2 < (l0.length : Int) := of_decide_eq_true (by first | (with_reducible assumption) | assumption)
         obtain ⟨ad365, e365, hx365_0, hx365_1, hx365_2⟩ := at_T30 HR0.out x31_2 p365 q365
         cases e365
         replace hx365_0 := (HB.out.cell (World.block_lt_of_cell? w _ hx365_0)).trans hx365_0
         replace hx365_1 := (HB.out.cell (World.block_lt_of_cell? w _ hx365_1)).trans hx365_1
         replace hx365_2 := (HB.out.cell (World.block_lt_of_cell? w _ hx365_2)).trans hx365_2
         replace p365 := eq_true p365
         replace q365 := eq_true q365
         go_upto_region 8 with (first | ((with_reducible refine gate_dst (N := 14) rfl ?_); refine box_event ?hg (N := 14) ?hd (cs := #[.int .i64 0, .int .i64 0, .int .i64 0]) (t := 30) ?hr ?_; (case hd => rfl); (case hg => rfl); (case hr => first | (go_simp; done) | (go_simp; rfl)); intro gb366 hg w19 hbox hb; have n0_ := Aside0.mk (Kd.R_below (Kd.R_elderB (by (with_reducible repeat (first | apply Kd.R_alloc | apply Kd.R_drewN | apply Kd.R_drew)); exact HO_11.out) gb366 (Nat.le_of_eq hg.symm)) hb); have n1_ := Aside0.mk (Kd.R_below (Kd.R_elderB (by (with_reducible repeat (first | apply Kd.R_alloc | apply Kd.R_drewN | apply Kd.R_drew)); exact HO_12.out) gb366 (Nat.le_of_eq hg.symm)) hb); have n2_ := Aside0.mk (below_step (by repeat (first | (with_reducible first | exact HB.out | apply below_alloc | apply pw_below_drewN | apply below_drew1) | exact HB.out)) hb); have n3_ := Aside0.mk (hbox); have n4_ := Aside0.mk ((by rw [hg]; exact (below_size (by repeat (first | (with_reducible first | exact HB.out | apply below_alloc | apply pw_below_drewN | apply below_drew1) | exact HB.out))) : w.heap.size ≤ gb366)); have n5_ := Aside0.mk ((by rw [hg]; exact (below_size (by repeat (first | (with_reducible first | exact HB.out | apply below_alloc | apply pw_below_drewN | apply below_drew1) | exact HB.out))) : w.heap.size ≤ gb366)); clear HO_11; clear HO_12; clear HB; have HO_11 := n0_; have HO_12 := n1_; have HB := n2_; have BK366 := n3_; have GW366 := n4_; have GE366 := n5_; clear n0_ n1_ n2_ n3_ n4_ n5_; clear hb hbox hg; have hcz20_0 : w19.cell? ⟨gb366, 0, none⟩ = some (.int .i64 0) := (blk_cell BK366.out 0).trans rfl; have hcz20_1 : w19.cell? ⟨gb366, 1, none⟩ = some (.int .i64 0) := (blk_cell BK366.out 1).trans rfl; have hcz20_2 : w19.cell? ⟨gb366, 2, none⟩ = some (.int .i64 0) := (blk_cell BK366.out 2).trans rfl; have hfz20_0 := blk_frozen BK366.out 0; have hfz20_1 := blk_frozen BK366.out 1; have hfz20_2 := blk_frozen BK366.out 2))
         (try simp only [Act.put, List.setIfInBounds_toArray, List.set_cons_zero, List.set_cons_succ])
         go_cut [44] (fun v44 wc => ∃ (kq : Nat) (x44_17 : Bool), v44 = .bool x44_17 ∧ Aside0 (impl_StoreTake.j2 kq a1 x2_2 a3 x11_2 x12_2 0 l0 (l0.length : Int) x31_2 x44_17 ((rd_T30 l0 x31_2).f0) ((rd_T30 l0 x31_2).f1) ((rd_T30 l0 x31_2).f2) = some (r1, r2, r3)) ∧ Aside0 (kq ≤ k2) ∧ Aside0 (Kd.R k30 30 wc w.heap.size (fun k_ => some k_ ≠ (u12 : Value).ownBlock ∧ k_ ≠ gb366) u11 x11_2) ∧ Aside0 (Kd.R k30 30 wc w.heap.size (fun k_ => some k_ ≠ (u11 : Value).ownBlock ∧ k_ ≠ gb366) u12 x12_2) ∧ Aside0 (wc.heap[gb366]? = some (.cells #[.int .i64 ((rd_T30 l0 x31_2).f0), .int .i64 ((rd_T30 l0 x31_2).f1), .int .i64 ((rd_T30 l0 x31_2).f2)] 30 (0, 0))) ∧ Aside0 (Below w.heap.size w wc))
         case first =>
          have H := HC18.out
          clear HC18
          by_cases c21 : ((rd_T30 l0 x31_2).f0) = a1
          ·rw [if_pos c21] at H
           have c21b0 : (((rd_T30 l0 x31_2).f0) == a1) = true := beq_iff_eq.mpr c21
           have c21b1 : (((rd_T30 l0 x31_2).f0) != a1) = false := bne_eq_false_iff_eq.mpr c21
           clear c21
           (first | rw [c21b0] | (simp only [i64_w, i32_w]; rw [c21b0]) | skip)
           have H' := Aside0.mk H
           clear H
           have hcz22_0 : w19.cell? ⟨gb366, 0, none⟩ = some (.int .i64 0) := (blk_cell BK366.out 0).trans rfl
           have hcz22_1 : w19.cell? ⟨gb366, 1, none⟩ = some (.int .i64 0) := (blk_cell BK366.out 1).trans rfl
           have hcz22_2 : w19.cell? ⟨gb366, 2, none⟩ = some (.int .i64 0) := (blk_cell BK366.out 2).trans rfl
           have hfz22_0 := blk_frozen BK366.out 0
           have hfz22_1 := blk_frozen BK366.out 1
           have hfz22_2 := blk_frozen BK366.out 2
           go_wp2
           go_meet
           case rel => exact ⟨_, (decide (((rd_T30 l0 x31_2).f1) ≥ a3)), (by first | rfl | (simp; done) | (simp [*]; done) | (simp only [wrap64, IntKind.wrap_i64]; done) | (simp [wrap64, IntKind.wrap_i64]; done)), H', ⟨by have := HJ4.out; have := HK2.out; first | omega | exact Nat.le_refl _⟩, ⟨by (with_reducible repeat (first | apply Kd.R_alloc | apply Kd.R_drewN | apply Kd.R_drew)); exact Kd.R_mono (Kd.R_far (p := ⟨gb366, 2, none⟩) (Kd.R_far (p := ⟨gb366, 1, none⟩) (Kd.R_far (p := ⟨gb366, 0, none⟩) (Kd.R_mono HO_11.out (fun k_ hk => (⟨hk, hk.2⟩ : _ ∧ k_ ≠ gb366))) (fun _ hk => by first | exact hk.2 | trivial) (.int .i64 ((rd_T30 l0 x31_2).f0))) (fun _ hk => by first | exact hk.2 | trivial) (.int .i64 ((rd_T30 l0 x31_2).f1))) (fun _ hk => by first | exact hk.2 | trivial) (.int .i64 ((rd_T30 l0 x31_2).f2))) (fun _ hk => ⟨hk.1.1, hk.1.2⟩)⟩, ⟨by (with_reducible repeat (first | apply Kd.R_alloc | apply Kd.R_drewN | apply Kd.R_drew)); exact Kd.R_mono (Kd.R_far (p := ⟨gb366, 2, none⟩) (Kd.R_far (p := ⟨gb366, 1, none⟩) (Kd.R_far (p := ⟨gb366, 0, none⟩) (Kd.R_mono HO_12.out (fun k_ hk => (⟨hk, hk.2⟩ : _ ∧ k_ ≠ gb366))) (fun _ hk => by first | exact hk.2 | trivial) (.int .i64 ((rd_T30 l0 x31_2).f0))) (fun _ hk => by first | exact hk.2 | trivial) (.int .i64 ((rd_T30 l0 x31_2).f1))) (fun _ hk => by first | exact hk.2 | trivial) (.int .i64 ((rd_T30 l0 x31_2).f2))) (fun _ hk => ⟨hk.1.1, hk.1.2⟩)⟩, ⟨by (with_reducible repeat (first | refine blk_drewN ?_ _ | refine blk_drew ?_ | refine blk_alloc ?_ _)); refine blk_put (cs := #[.int .i64 ((rd_T30 l0 x31_2).f0), .int .i64 ((rd_T30 l0 x31_2).f1), .int .i64 0]) ?_ 2 _ rfl; (with_reducible repeat (first | refine blk_drewN ?_ _ | refine blk_drew ?_ | refine blk_alloc ?_ _)); refine blk_put (cs := #[.int .i64 ((rd_T30 l0 x31_2).f0), .int .i64 0, .int .i64 0]) ?_ 1 _ rfl; (with_reducible repeat (first | refine blk_drewN ?_ _ | refine blk_drew ?_ | refine blk_alloc ?_ _)); refine blk_put (cs := #[.int .i64 0, .int .i64 0, .int .i64 0]) ?_ 0 _ rfl; (with_reducible repeat (first | refine blk_drewN ?_ _ | refine blk_drew ?_ | refine blk_alloc ?_ _)); exact BK366.out⟩, ⟨by repeat (first | (with_reducible first | exact HB.out | apply below_alloc | apply pw_below_drewN | apply below_drew1 | refine below_set ?_ GE366.out) | exact HB.out)⟩⟩
          ·rw [if_neg c21] at H
           have c21b0 : (((rd_T30 l0 x31_2).f0) == a1) = false := beq_eq_false_iff_ne.mpr c21
           have c21b1 : (((rd_T30 l0 x31_2).f0) != a1) = true := bne_iff_ne.mpr c21
           (first | rw [c21b0] | (simp only [i64_w, i32_w]; rw [c21b0]) | skip)
           have H' := Aside0.mk H
           clear H
           have hcz23_0 : w19.cell? ⟨gb366, 0, none⟩ = some (.int .i64 0) := (blk_cell BK366.out 0).trans rfl
           have hcz23_1 : w19.cell? ⟨gb366, 1, none⟩ = some (.int .i64 0) := (blk_cell BK366.out 1).trans rfl
           have hcz23_2 : w19.cell? ⟨gb366, 2, none⟩ = some (.int .i64 0) := (blk_cell BK366.out 2).trans rfl
           have hfz23_0 := blk_frozen BK366.out 0
           have hfz23_1 := blk_frozen BK366.out 1
           have hfz23_2 := blk_frozen BK366.out 2
           go_wp2
           go_meet
           case rel => exact ⟨_, (false), (by first | rfl | (simp; done) | (simp [*]; done) | (simp only [wrap64, IntKind.wrap_i64]; done) | (simp [wrap64, IntKind.wrap_i64]; done)), H', ⟨by have := HJ4.out; have := HK2.out; first | omega | exact Nat.le_refl _⟩, ⟨by (with_reducible repeat (first | apply Kd.R_alloc | apply Kd.R_drewN | apply Kd.R_drew)); exact Kd.R_mono (Kd.R_far (p := ⟨gb366, 2, none⟩) (Kd.R_far (p := ⟨gb366, 1, none⟩) (Kd.R_far (p := ⟨gb366, 0, none⟩) (Kd.R_mono HO_11.out (fun k_ hk => (⟨hk, hk.2⟩ : _ ∧ k_ ≠ gb366))) (fun _ hk => by first | exact hk.2 | trivial) (.int .i64 ((rd_T30 l0 x31_2).f0))) (fun _ hk => by first | exact hk.2 | trivial) (.int .i64 ((rd_T30 l0 x31_2).f1))) (fun _ hk => by first | exact hk.2 | trivial) (.int .i64 ((rd_T30 l0 x31_2).f2))) (fun _ hk => ⟨hk.1.1, hk.1.2⟩)⟩, ⟨by (with_reducible repeat (first | apply Kd.R_alloc | apply Kd.R_drewN | apply Kd.R_drew)); exact Kd.R_mono (Kd.R_far (p := ⟨gb366, 2, none⟩) (Kd.R_far (p := ⟨gb366, 1, none⟩) (Kd.R_far (p := ⟨gb366, 0, none⟩) (Kd.R_mono HO_12.out (fun k_ hk => (⟨hk, hk.2⟩ : _ ∧ k_ ≠ gb366))) (fun _ hk => by first | exact hk.2 | trivial) (.int .i64 ((rd_T30 l0 x31_2).f0))) (fun _ hk => by first | exact hk.2 | trivial) (.int .i64 ((rd_T30 l0 x31_2).f1))) (fun _ hk => by first | exact hk.2 | trivial) (.int .i64 ((rd_T30 l0 x31_2).f2))) (fun _ hk => ⟨hk.1.1, hk.1.2⟩)⟩, ⟨by (with_reducible repeat (first | refine blk_drewN ?_ _ | refine blk_drew ?_ | refine blk_alloc ?_ _)); refine blk_put (cs := #[.int .i64 ((rd_T30 l0 x31_2).f0), .int .i64 ((rd_T30 l0 x31_2).f1), .int .i64 0]) ?_ 2 _ rfl; (with_reducible repeat (first | refine blk_drewN ?_ _ | refine blk_drew ?_ | refine blk_alloc ?_ _)); refine blk_put (cs := #[.int .i64 ((rd_T30 l0 x31_2).f0), .int .i64 0, .int .i64 0]) ?_ 1 _ rfl; (with_reducible repeat (first | refine blk_drewN ?_ _ | refine blk_drew ?_ | refine blk_alloc ?_ _)); refine blk_put (cs := #[.int .i64 0, .int .i64 0, .int .i64 0]) ?_ 0 _ rfl; (with_reducible repeat (first | refine blk_drewN ?_ _ | refine blk_drew ?_ | refine blk_alloc ?_ _)); exact BK366.out⟩, ⟨by repeat (first | (with_reducible first | exact HB.out | apply below_alloc | apply pw_below_drewN | apply below_drew1 | refine below_set ?_ GE366.out) | exact HB.out)⟩⟩
         case rest =>
          clear HC18
          try clear c1
          try clear c2
          try clear p2
          try clear c3
          try clear p3
          try clear q3
          try clear hx3
          try clear c7
          try clear c10
          try clear c15
          try clear c15b0
          try clear c16
          try clear c16b0
          try clear c17
          try clear c17b0
          try clear c21
          try clear c21b0
          try clear c21b1
          try clear hcz20_0
          try clear hcz20_1
          try clear hcz20_2
          try clear hcz22_0
          try clear hcz22_1
          try clear hcz22_2
          try clear hcz23_0
          try clear hcz23_1
          try clear hcz23_2
          try clear hfz20_0
          try clear hfz20_1
          try clear hfz20_2
          try clear hfz22_0
          try clear hfz22_1
          try clear hfz22_2
          try clear hfz23_0
          try clear hfz23_1
          try clear hfz23_2
          try clear hx365_0
          try clear hx365_1
          try clear hx365_2
          try clear p2
          try clear p365
          try clear q365
          obtain ⟨kq, x44_17, rfl, HA, HJ17, HO_11, HO_12, BK366, HB⟩ := hcut
          cases kq with
          | zero => exact absurd HA.out (by simp [impl_StoreTake.j2])
          | succ kj17 =>
           have H := HA.out
           clear HA
           simp only [impl_StoreTake.j2] at H
           have HC24 := Aside0.mk H
           clear H
           go_upto_if 44 with (fail)
           go_cut [15] (fun v15 wc => ∃ (kq : Nat) (x15_23 : Int), v15 = .int .i64 x15_23 ∧ Aside0 (impl_StoreTake.j3 kq a1 x2_2 a3 x11_2 x12_2 x15_23 l0 (l0.length : Int) x31_2 ((rd_T30 l0 x31_2).f0) ((rd_T30 l0 x31_2).f1) ((rd_T30 l0 x31_2).f2) = some (r1, r2, r3)) ∧ Aside0 (kq ≤ kj17) ∧ Aside0 (Kd.R k30 30 wc w.heap.size (fun k_ => some k_ ≠ (u12 : Value).ownBlock ∧ k_ ≠ gb366) u11 x11_2) ∧ Aside0 (Kd.R k30 30 wc w.heap.size (fun k_ => some k_ ≠ (u11 : Value).ownBlock ∧ k_ ≠ gb366) u12 x12_2) ∧ Aside0 (wc.heap[gb366]? = some (.cells #[.int .i64 ((rd_T30 l0 x31_2).f0), .int .i64 ((rd_T30 l0 x31_2).f1), .int .i64 ((rd_T30 l0 x31_2).f2)] 30 (0, 0))) ∧ Aside0 (Below w.heap.size w wc))
           case first =>
            have H := HC24.out
            clear HC24
            by_cases c25 : x44_17 = true
            ·subst c25
             have H1 : (impl_StoreTake.j3 kj17 a1 x2_2 a3 x11_2 x12_2 (mn ((rd_T30 l0 x31_2).f2) x2_2) l0 (l0.length : Int) x31_2 ((rd_T30 l0 x31_2).f0) ((rd_T30 l0 x31_2).f1) ((rd_T30 l0 x31_2).f2)) = some (r1, r2, r3) := by rw [if_pos rfl] at H; exact H
             clear H
             have H := H1
             clear H1
             obtain ⟨ji26, hji26⟩ : ∃ j_ : Int, (mn ((rd_T30 l0 x31_2).f2) x2_2) = j_ := ⟨_, rfl⟩
             replace H : (impl_StoreTake.j3 kj17 a1 x2_2 a3 x11_2 x12_2 ji26 l0 (l0.length : Int) x31_2 ((rd_T30 l0 x31_2).f0) ((rd_T30 l0 x31_2).f1) ((rd_T30 l0 x31_2).f2)) = some (r1, r2, r3) := by first | (rw [hji26] at H; exact H) | (simp only [hji26] at H ⊢; exact H)
             have hji26_ : (if x2_2 < ((rd_T30 l0 x31_2).f2) then x2_2 else ((rd_T30 l0 x31_2).f2)) = ji26 := hji26
             have H' := Aside0.mk H
             clear H
             have hcz27_0 : wc.cell? ⟨gb366, 0, none⟩ = some (.int .i64 ((rd_T30 l0 x31_2).f0)) := (blk_cell BK366.out 0).trans rfl
             have hcz27_1 : wc.cell? ⟨gb366, 1, none⟩ = some (.int .i64 ((rd_T30 l0 x31_2).f1)) := (blk_cell BK366.out 1).trans rfl
             have hcz27_2 : wc.cell? ⟨gb366, 2, none⟩ = some (.int .i64 ((rd_T30 l0 x31_2).f2)) := (blk_cell BK366.out 2).trans rfl
             have hfz27_0 := blk_frozen BK366.out 0
             have hfz27_1 := blk_frozen BK366.out 1
             have hfz27_2 := blk_frozen BK366.out 2
             go_wp2
             go_meet
             case rel => exact ⟨_, (ji26), (by first | rfl | (simp; done) | (simp only [← hji26] <;> (first | rfl | simp)) | (simp [*]; done)), H', ⟨by have := HJ4.out; have := HK2.out; have := HJ17.out; first | omega | exact Nat.le_refl _⟩, ⟨by (with_reducible repeat (first | apply Kd.R_alloc | apply Kd.R_drewN | apply Kd.R_drew)); exact HO_11.out⟩, ⟨by (with_reducible repeat (first | apply Kd.R_alloc | apply Kd.R_drewN | apply Kd.R_drew)); exact HO_12.out⟩, ⟨by (with_reducible repeat (first | refine blk_drewN ?_ _ | refine blk_drew ?_ | refine blk_alloc ?_ _)); exact BK366.out⟩, ⟨by repeat (first | (with_reducible first | exact HB.out | apply below_alloc | apply pw_below_drewN | apply below_drew1 | refine below_set ?_ GE366.out) | exact HB.out)⟩⟩
            ·replace c25 := Bool.eq_false_iff.mpr c25
             subst c25
             have H1 : (impl_StoreTake.j3 kj17 a1 x2_2 a3 x11_2 x12_2 0 l0 (l0.length : Int) x31_2 ((rd_T30 l0 x31_2).f0) ((rd_T30 l0 x31_2).f1) ((rd_T30 l0 x31_2).f2)) = some (r1, r2, r3) := by rw [if_neg (show ¬ (false = true) by decide)] at H; exact H
             clear H
             have H := H1
             clear H1
             have H' := Aside0.mk H
             clear H
             go_wp2
             go_meet
             case rel => exact ⟨_, (0), (by first | rfl | (simp; done) | (simp [*]; done) | (simp only [wrap64, IntKind.wrap_i64]; done) | (simp [wrap64, IntKind.wrap_i64]; done)), H', ⟨by have := HJ4.out; have := HK2.out; have := HJ17.out; first | omega | exact Nat.le_refl _⟩, ⟨by (with_reducible repeat (first | apply Kd.R_alloc | apply Kd.R_drewN | apply Kd.R_drew)); exact HO_11.out⟩, ⟨by (with_reducible repeat (first | apply Kd.R_alloc | apply Kd.R_drewN | apply Kd.R_drew)); exact HO_12.out⟩, ⟨by (with_reducible repeat (first | refine blk_drewN ?_ _ | refine blk_drew ?_ | refine blk_alloc ?_ _)); exact BK366.out⟩, ⟨by repeat (first | (with_reducible first | exact HB.out | apply below_alloc | apply pw_below_drewN | apply below_drew1 | refine below_set ?_ GE366.out) | exact HB.out)⟩⟩
           case rest =>
            clear HC24
            try clear c1
            try clear c2
            try clear p2
            try clear c3
            try clear p3
            try clear q3
            try clear hx3
            try clear c7
            try clear c10
            try clear c15
            try clear c15b0
            try clear c16
            try clear c16b0
            try clear c17
            try clear c17b0
            try clear c21
            try clear c21b0
            try clear c21b1
            try clear c25
            try clear hcz20_0
            try clear hcz20_1
            try clear hcz20_2
            try clear hcz22_0
            try clear hcz22_1
            try clear hcz22_2
            try clear hcz23_0
            try clear hcz23_1
            try clear hcz23_2
            try clear hcz27_0
            try clear hcz27_1
            try clear hcz27_2
            try clear hfz20_0
            try clear hfz20_1
            try clear hfz20_2
            try clear hfz22_0
            try clear hfz22_1
            try clear hfz22_2
            try clear hfz23_0
            try clear hfz23_1
            try clear hfz23_2
            try clear hfz27_0
            try clear hfz27_1
            try clear hfz27_2
            try clear hx365_0
            try clear hx365_1
            try clear hx365_2
            try clear p2
            try clear p3
            try clear p365
            try clear q3
            try clear q365
            obtain ⟨kq, x15_23, rfl, HA, HJ23, HO_11, HO_12, BK366, HB⟩ := hcut
            cases kq with
            | zero => exact absurd HA.out (by simp [impl_StoreTake.j3])
            | succ kj23 =>
             have H := HA.out
             clear HA
             simp only [impl_StoreTake.j3] at H
             by_cases c28 : x15_23 > 0
             ·rw [if_pos c28] at H
              have c28b0 : decide (0 < x15_23) = true := decide_eq_true c28
              clear c28
              by_cases c29 : x12_2.length < 5864062014805
              ·rw [if_pos c29] at H
               have LMc29 := Aside0.mk c29
               clear c29
               obtain ⟨y367, hy367⟩ : ∃ y_ : List (S30), y_ = (x12_2 ++ [(⟨((rd_T30 l0 x31_2).f0), ((rd_T30 l0 x31_2).f1), x15_23⟩ : S30)]) := ⟨_, rfl⟩
               replace H : (if ((rd_T30 l0 x31_2).f2) > x15_23 then (if x11_2.length < 5864062014805 then (impl_StoreTake.l0 kj23 a1 (wrap64 (x2_2 - x15_23)) a3 (x11_2 ++ [(⟨((rd_T30 l0 x31_2).f0), ((rd_T30 l0 x31_2).f1), wrap64 (((rd_T30 l0 x31_2).f2) - x15_23)⟩ : S30)]) y367 l0 (l0.length : Int) (wrap64 (x31_2 + 1))) else (none)) else (impl_StoreTake.l0 kj23 a1 (wrap64 (x2_2 - x15_23)) a3 x11_2 y367 l0 (l0.length : Int) (wrap64 (x31_2 + 1)))) = some (r1, r2, r3) := by first | (rw [hy367]; with_reducible exact H) | (have H2_ := (Option.bind_some _ _).symm.trans H; rw [hy367]; with_reducible exact H2_) | (have H2_ := (Option.bind_some _ _).symm.trans H; with_reducible exact H2_) | with_reducible exact H | (rw [hy367]; exact H) | exact H
               have Ny367 := Aside0.mk hy367
               clear hy367
               by_cases c30 : ((rd_T30 l0 x31_2).f2) > x15_23
               ·rw [if_pos c30] at H
                have c30b0 : decide (x15_23 < ((rd_T30 l0 x31_2).f2)) = true := decide_eq_true c30
                clear c30
                by_cases c31 : x11_2.length < 5864062014805
                ·rw [if_pos c31] at H
                 have LMc31 := Aside0.mk c31
                 clear c31
                 obtain ⟨y370, hy370⟩ : ∃ y_ : List (S30), y_ = (x11_2 ++ [(⟨((rd_T30 l0 x31_2).f0), ((rd_T30 l0 x31_2).f1), wrap64 (((rd_T30 l0 x31_2).f2) - x15_23)⟩ : S30)]) := ⟨_, rfl⟩
                 replace H : (impl_StoreTake.l0 kj23 a1 (wrap64 (x2_2 - x15_23)) a3 y370 y367 l0 (l0.length : Int) (wrap64 (x31_2 + 1))) = some (r1, r2, r3) := by first | (rw [hy370]; with_reducible exact H) | (have H2_ := (Option.bind_some _ _).symm.trans H; rw [hy370]; with_reducible exact H2_) | (have H2_ := (Option.bind_some _ _).symm.trans H; with_reducible exact H2_) | with_reducible exact H | (rw [hy370]; exact H) | exact H
                 have Ny370 := Aside0.mk hy370
                 clear hy370
                 have H' := Aside0.mk H
                 clear H
                 have hcz32_0 : wc.cell? ⟨gb366, 0, none⟩ = some (.int .i64 ((rd_T30 l0 x31_2).f0)) := (blk_cell BK366.out 0).trans rfl
                 have hcz32_1 : wc.cell? ⟨gb366, 1, none⟩ = some (.int .i64 ((rd_T30 l0 x31_2).f1)) := (blk_cell BK366.out 1).trans rfl
                 have hcz32_2 : wc.cell? ⟨gb366, 2, none⟩ = some (.int .i64 ((rd_T30 l0 x31_2).f2)) := (blk_cell BK366.out 2).trans rfl
                 have hfz32_0 := blk_frozen BK366.out 0
                 have hfz32_1 := blk_frozen BK366.out 1
                 have hfz32_2 := blk_frozen BK366.out 2
                 go_wp2_with (first | ((with_reducible refine gate_builtin (b := .append) (xs := #[.tmp 54, .tmp 61]) rfl ?_); at_builtin; refine Kd.R_append k30 (w0 := w) w.heap.size rfl (.tmp 54) (.tmp 61) 26 30 (.agg #[(.int .i64 0), (.int .i64 0), (.int .i64 0)]) 24 rfl Try.underlying26 info30 rfl (by decide) (by omega) u12 x12_2 (⟨((rd_T30 l0 x31_2).f0), ((rd_T30 l0 x31_2).f1), x15_23⟩ : S30) [.int .i64 ((rd_T30 l0 x31_2).f0), .int .i64 ((rd_T30 l0 x31_2).f1), .int .i64 x15_23] (fun k_ => some k_ ≠ (u11 : Value).ownBlock ∧ k_ ≠ gb366) (fun _ => False) rfl rfl ?aP (fun _ hk => hk.elim) ?aF ?aO ?aB ?aS ?aL ?_; (case aP => exact k30_mkM _ _ _ (⟨((rd_T30 l0 x31_2).f0), ((rd_T30 l0 x31_2).f1), x15_23⟩ : S30)); (case aB => exact (by repeat (first | (with_reducible first | exact HB.out | apply below_alloc | apply pw_below_drewN | apply below_drew1 | refine below_set ?_ GE366.out) | exact HB.out))); (case aF => exact (fun k_ hk => ⟨Kd.fresh' (Kd.R_lt (by (with_reducible repeat (first | apply Kd.R_alloc | apply Kd.R_drewN | apply Kd.R_drew)); exact HO_11.out)) k_ hk, Kd.freshB (g := gb366) (o := .cells #[.int .i64 ((rd_T30 l0 x31_2).f0), .int .i64 ((rd_T30 l0 x31_2).f1), .int .i64 ((rd_T30 l0 x31_2).f2)] 30 (0, 0)) (by (with_reducible repeat (first | refine blk_drewN ?_ _ | refine blk_drew ?_ | refine blk_alloc ?_ _)); exact BK366.out) k_ hk⟩)); (case aO => exact (by (with_reducible repeat (first | apply Kd.R_alloc | apply Kd.R_drewN | apply Kd.R_drew)); exact HO_12.out)); (case aS => exact (below_size (by repeat (first | (with_reducible first | exact HB.out | apply below_alloc | apply pw_below_drewN | apply below_drew1 | refine below_set ?_ GE366.out) | exact HB.out)))); (case aL => have := LMc29.out; omega); intro v368 w33 ho hb hg hat; rw [← Ny367.out] at ho; have n0_ := Aside0.mk (Kd.R_after (ok := (fun k_ => k_ ≠ gb366)) (by (with_reducible repeat (first | apply Kd.R_alloc | apply Kd.R_drewN | apply Kd.R_drew)); exact Kd.R_mono HO_11.out (fun _ hk => ⟨hk.2, hk.1⟩)) hg hat); have n1_ := Aside0.mk (blk_grown (g := gb366) (o := .cells #[.int .i64 ((rd_T30 l0 x31_2).f0), .int .i64 ((rd_T30 l0 x31_2).f1), .int .i64 ((rd_T30 l0 x31_2).f2)] 30 (0, 0)) (by (with_reducible repeat (first | refine blk_drewN ?_ _ | refine blk_drew ?_ | refine blk_alloc ?_ _)); exact BK366.out) hg (Kd.R_away HO_12.out (fun _ hk => by first | exact hk.2 | trivial))); have n2_ := Aside0.mk (hb); have n3_ := Aside0.mk (ho); clear HO_11; clear BK366; clear HB; clear HO_12; have HO_11 := n0_; have BK366 := n1_; have HB := n2_; have HO369 := n3_; clear n0_ n1_ n2_ n3_; clear ho hb hg hat; have hcz34_0 : w33.cell? ⟨gb366, 0, none⟩ = some (.int .i64 ((rd_T30 l0 x31_2).f0)) := (blk_cell BK366.out 0).trans rfl; have hcz34_1 : w33.cell? ⟨gb366, 1, none⟩ = some (.int .i64 ((rd_T30 l0 x31_2).f1)) := (blk_cell BK366.out 1).trans rfl; have hcz34_2 : w33.cell? ⟨gb366, 2, none⟩ = some (.int .i64 ((rd_T30 l0 x31_2).f2)) := (blk_cell BK366.out 2).trans rfl; have hfz34_0 := blk_frozen BK366.out 0; have hfz34_1 := blk_frozen BK366.out 1; have hfz34_2 := blk_frozen BK366.out 2) | ((with_reducible refine gate_builtin (b := .append) (xs := #[.tmp 67, .tmp 77]) rfl ?_); at_builtin; refine Kd.R_append k30 (w0 := w) w.heap.size rfl (.tmp 67) (.tmp 77) 26 30 (.agg #[(.int .i64 0), (.int .i64 0), (.int .i64 0)]) 24 rfl Try.underlying26 info30 rfl (by decide) (by omega) u11 x11_2 (⟨((rd_T30 l0 x31_2).f0), ((rd_T30 l0 x31_2).f1), wrap64 (((rd_T30 l0 x31_2).f2) - x15_23)⟩ : S30) [.int .i64 ((rd_T30 l0 x31_2).f0), .int .i64 ((rd_T30 l0 x31_2).f1), .int .i64 (wrap64 (((rd_T30 l0 x31_2).f2) - x15_23))] (fun k_ => some k_ ≠ (v368 : Value).ownBlock ∧ k_ ≠ gb366) (fun _ => False) rfl rfl ?aP (fun _ hk => hk.elim) ?aF ?aO ?aB ?aS ?aL ?_; (case aP => exact k30_mkM _ _ _ (⟨((rd_T30 l0 x31_2).f0), ((rd_T30 l0 x31_2).f1), wrap64 (((rd_T30 l0 x31_2).f2) - x15_23)⟩ : S30)); (case aB => exact (by repeat (first | (with_reducible first | exact HB.out | apply below_alloc | apply pw_below_drewN | apply below_drew1 | refine below_set ?_ GE366.out) | exact HB.out))); (case aF => exact (fun k_ hk => ⟨Kd.fresh' (Kd.R_lt (by (with_reducible repeat (first | apply Kd.R_alloc | apply Kd.R_drewN | apply Kd.R_drew)); exact HO369.out)) k_ hk, Kd.freshB (g := gb366) (o := .cells #[.int .i64 ((rd_T30 l0 x31_2).f0), .int .i64 ((rd_T30 l0 x31_2).f1), .int .i64 ((rd_T30 l0 x31_2).f2)] 30 (0, 0)) (by (with_reducible repeat (first | refine blk_drewN ?_ _ | refine blk_drew ?_ | refine blk_alloc ?_ _)); exact BK366.out) k_ hk⟩)); (case aO => exact (by (with_reducible repeat (first | apply Kd.R_alloc | apply Kd.R_drewN | apply Kd.R_drew)); exact Kd.R_mono HO_11.out (fun _ hk => ⟨hk.2, hk.1⟩))); (case aS => exact (below_size (by repeat (first | (with_reducible first | exact HB.out | apply below_alloc | apply pw_below_drewN | apply below_drew1 | refine below_set ?_ GE366.out) | exact HB.out)))); (case aL => have := LMc31.out; omega); intro v371 w35 ho hb hg hat; rw [← Ny370.out] at ho; have n0_ := Aside0.mk (blk_grown (g := gb366) (o := .cells #[.int .i64 ((rd_T30 l0 x31_2).f0), .int .i64 ((rd_T30 l0 x31_2).f1), .int .i64 ((rd_T30 l0 x31_2).f2)] 30 (0, 0)) (by (with_reducible repeat (first | refine blk_drewN ?_ _ | refine blk_drew ?_ | refine blk_alloc ?_ _)); exact BK366.out) hg (Kd.R_away HO_11.out (fun _ hk => hk.1))); have n1_ := Aside0.mk (Kd.R_after (ok := (fun k_ => k_ ≠ gb366)) (by (with_reducible repeat (first | apply Kd.R_alloc | apply Kd.R_drewN | apply Kd.R_drew)); exact Kd.R_mono HO369.out (fun _ hk => ⟨hk.2, hk.1⟩)) hg hat); have n2_ := Aside0.mk (hb); have n3_ := Aside0.mk (ho); clear BK366; clear HO369; clear HB; clear HO_11; have BK366 := n0_; have HO369 := n1_; have HB := n2_; have HO372 := n3_; clear n0_ n1_ n2_ n3_; clear ho hb hg hat))
                 go_roundg kj23
                 case measure => have := HJ4.out; have := HK2.out; have := HJ17.out; have := HJ23.out; omega
                 case rel => exact ⟨(wrap64 (x2_2 - x15_23)), (y370), (y367), (wrap64 (x31_2 + 1)), (by first | rfl | (simp; done) | (simp [*]; done) | (simp only [wrap64, IntKind.wrap_i64]; done) | (simp [wrap64, IntKind.wrap_i64]; done)), (by first | rfl | (simp; done) | (simp [*]; done) | (simp only [wrap64, IntKind.wrap_i64]; done) | (simp [wrap64, IntKind.wrap_i64]; done)), H', ⟨by have := HJ4.out; have := HK2.out; have := HJ17.out; have := HJ23.out; omega⟩, ⟨by (with_reducible repeat (first | apply Kd.R_alloc | apply Kd.R_drewN | apply Kd.R_drew)); exact Kd.R_mono HO372.out (fun _ hk => hk.1)⟩, ⟨by (with_reducible repeat (first | apply Kd.R_alloc | apply Kd.R_drewN | apply Kd.R_drew)); exact Kd.R_mono HO369.out (fun _ hk => by first | exact hk.2 | trivial)⟩, ⟨by repeat (first | (with_reducible first | exact HB.out | apply below_alloc | apply pw_below_drewN | apply below_drew1 | refine below_set ?_ GE366.out) | exact HB.out)⟩⟩
                ·rw [if_neg c31] at H
                 exact absurd H (by simp)
               ·rw [if_neg c30] at H
                have c30b0 : decide (x15_23 < ((rd_T30 l0 x31_2).f2)) = false := decide_eq_false c30
                clear c30
                have H' := Aside0.mk H
                clear H
                have hcz36_0 : wc.cell? ⟨gb366, 0, none⟩ = some (.int .i64 ((rd_T30 l0 x31_2).f0)) := (blk_cell BK366.out 0).trans rfl
                have hcz36_1 : wc.cell? ⟨gb366, 1, none⟩ = some (.int .i64 ((rd_T30 l0 x31_2).f1)) := (blk_cell BK366.out 1).trans rfl
                have hcz36_2 : wc.cell? ⟨gb366, 2, none⟩ = some (.int .i64 ((rd_T30 l0 x31_2).f2)) := (blk_cell BK366.out 2).trans rfl
                have hfz36_0 := blk_frozen BK366.out 0
                have hfz36_1 := blk_frozen BK366.out 1
                have hfz36_2 := blk_frozen BK366.out 2
                go_wp2_with (first | ((with_reducible refine gate_builtin (b := .append) (xs := #[.tmp 54, .tmp 61]) rfl ?_); at_builtin; refine Kd.R_append k30 (w0 := w) w.heap.size rfl (.tmp 54) (.tmp 61) 26 30 (.agg #[(.int .i64 0), (.int .i64 0), (.int .i64 0)]) 24 rfl Try.underlying26 info30 rfl (by decide) (by omega) u12 x12_2 (⟨((rd_T30 l0 x31_2).f0), ((rd_T30 l0 x31_2).f1), x15_23⟩ : S30) [.int .i64 ((rd_T30 l0 x31_2).f0), .int .i64 ((rd_T30 l0 x31_2).f1), .int .i64 x15_23] (fun k_ => some k_ ≠ (u11 : Value).ownBlock ∧ k_ ≠ gb366) (fun _ => False) rfl rfl ?aP (fun _ hk => hk.elim) ?aF ?aO ?aB ?aS ?aL ?_; (case aP => exact k30_mkM _ _ _ (⟨((rd_T30 l0 x31_2).f0), ((rd_T30 l0 x31_2).f1), x15_23⟩ : S30)); (case aB => exact (by repeat (first | (with_reducible first | exact HB.out | apply below_alloc | apply pw_below_drewN | apply below_drew1 | refine below_set ?_ GE366.out) | exact HB.out))); (case aF => exact (fun k_ hk => ⟨Kd.fresh' (Kd.R_lt (by (with_reducible repeat (first | apply Kd.R_alloc | apply Kd.R_drewN | apply Kd.R_drew)); exact HO_11.out)) k_ hk, Kd.freshB (g := gb366) (o := .cells #[.int .i64 ((rd_T30 l0 x31_2).f0), .int .i64 ((rd_T30 l0 x31_2).f1), .int .i64 ((rd_T30 l0 x31_2).f2)] 30 (0, 0)) (by (with_reducible repeat (first | refine blk_drewN ?_ _ | refine blk_drew ?_ | refine blk_alloc ?_ _)); exact BK366.out) k_ hk⟩)); (case aO => exact (by (with_reducible repeat (first | apply Kd.R_alloc | apply Kd.R_drewN | apply Kd.R_drew)); exact HO_12.out)); (case aS => exact (below_size (by repeat (first | (with_reducible first | exact HB.out | apply below_alloc | apply pw_below_drewN | apply below_drew1 | refine below_set ?_ GE366.out) | exact HB.out)))); (case aL => have := LMc29.out; omega); intro v368 w37 ho hb hg hat; rw [← Ny367.out] at ho; have n0_ := Aside0.mk (Kd.R_after (ok := (fun k_ => k_ ≠ gb366)) (by (with_reducible repeat (first | apply Kd.R_alloc | apply Kd.R_drewN | apply Kd.R_drew)); exact Kd.R_mono HO_11.out (fun _ hk => ⟨hk.2, hk.1⟩)) hg hat); have n1_ := Aside0.mk (blk_grown (g := gb366) (o := .cells #[.int .i64 ((rd_T30 l0 x31_2).f0), .int .i64 ((rd_T30 l0 x31_2).f1), .int .i64 ((rd_T30 l0 x31_2).f2)] 30 (0, 0)) (by (with_reducible repeat (first | refine blk_drewN ?_ _ | refine blk_drew ?_ | refine blk_alloc ?_ _)); exact BK366.out) hg (Kd.R_away HO_12.out (fun _ hk => by first | exact hk.2 | trivial))); have n2_ := Aside0.mk (hb); have n3_ := Aside0.mk (ho); clear HO_11; clear BK366; clear HB; clear HO_12; have HO_11 := n0_; have BK366 := n1_; have HB := n2_; have HO369 := n3_; clear n0_ n1_ n2_ n3_; clear ho hb hg hat; have hcz38_0 : w37.cell? ⟨gb366, 0, none⟩ = some (.int .i64 ((rd_T30 l0 x31_2).f0)) := (blk_cell BK366.out 0).trans rfl; have hcz38_1 : w37.cell? ⟨gb366, 1, none⟩ = some (.int .i64 ((rd_T30 l0 x31_2).f1)) := (blk_cell BK366.out 1).trans rfl; have hcz38_2 : w37.cell? ⟨gb366, 2, none⟩ = some (.int .i64 ((rd_T30 l0 x31_2).f2)) := (blk_cell BK366.out 2).trans rfl; have hfz38_0 := blk_frozen BK366.out 0; have hfz38_1 := blk_frozen BK366.out 1; have hfz38_2 := blk_frozen BK366.out 2))
                go_roundg kj23
                case measure => have := HJ4.out; have := HK2.out; have := HJ17.out; have := HJ23.out; omega
                case rel => exact ⟨(wrap64 (x2_2 - x15_23)), (x11_2), (y367), (wrap64 (x31_2 + 1)), (by first | rfl | (simp; done) | (simp [*]; done) | (simp only [wrap64, IntKind.wrap_i64]; done) | (simp [wrap64, IntKind.wrap_i64]; done)), (by first | rfl | (simp; done) | (simp [*]; done) | (simp only [wrap64, IntKind.wrap_i64]; done) | (simp [wrap64, IntKind.wrap_i64]; done)), H', ⟨by have := HJ4.out; have := HK2.out; have := HJ17.out; have := HJ23.out; omega⟩, ⟨by (with_reducible repeat (first | apply Kd.R_alloc | apply Kd.R_drewN | apply Kd.R_drew)); exact Kd.R_mono HO_11.out (fun _ hk => by first | exact hk.2 | trivial)⟩, ⟨by (with_reducible repeat (first | apply Kd.R_alloc | apply Kd.R_drewN | apply Kd.R_drew)); exact Kd.R_mono HO369.out (fun _ hk => hk.1)⟩, ⟨by repeat (first | (with_reducible first | exact HB.out | apply below_alloc | apply pw_below_drewN | apply below_drew1 | refine below_set ?_ GE366.out) | exact HB.out)⟩⟩
              ·rw [if_neg c29] at H
               exact absurd H (by simp)
             ·rw [if_neg c28] at H
              have c28b0 : decide (0 < x15_23) = false := decide_eq_false c28
              clear c28
              by_cases c39 : ((rd_T30 l0 x31_2).f2) > x15_23
              ·rw [if_pos c39] at H
               have c39b0 : decide (x15_23 < ((rd_T30 l0 x31_2).f2)) = true := decide_eq_true c39
               clear c39
               by_cases c40 : x11_2.length < 5864062014805
               ·rw [if_pos c40] at H
                have LMc40 := Aside0.mk c40
                clear c40
                obtain ⟨y373, hy373⟩ : ∃ y_ : List (S30), y_ = (x11_2 ++ [(⟨((rd_T30 l0 x31_2).f0), ((rd_T30 l0 x31_2).f1), wrap64 (((rd_T30 l0 x31_2).f2) - x15_23)⟩ : S30)]) := ⟨_, rfl⟩
                replace H : (impl_StoreTake.l0 kj23 a1 (wrap64 (x2_2 - x15_23)) a3 y373 x12_2 l0 (l0.length : Int) (wrap64 (x31_2 + 1))) = some (r1, r2, r3) := by first | (rw [hy373]; with_reducible exact H) | (have H2_ := (Option.bind_some _ _).symm.trans H; rw [hy373]; with_reducible exact H2_) | (have H2_ := (Option.bind_some _ _).symm.trans H; with_reducible exact H2_) | with_reducible exact H | (rw [hy373]; exact H) | exact H
                have Ny373 := Aside0.mk hy373
                clear hy373
                have H' := Aside0.mk H
                clear H
                have hcz41_0 : wc.cell? ⟨gb366, 0, none⟩ = some (.int .i64 ((rd_T30 l0 x31_2).f0)) := (blk_cell BK366.out 0).trans rfl
                have hcz41_1 : wc.cell? ⟨gb366, 1, none⟩ = some (.int .i64 ((rd_T30 l0 x31_2).f1)) := (blk_cell BK366.out 1).trans rfl
                have hcz41_2 : wc.cell? ⟨gb366, 2, none⟩ = some (.int .i64 ((rd_T30 l0 x31_2).f2)) := (blk_cell BK366.out 2).trans rfl
                have hfz41_0 := blk_frozen BK366.out 0
                have hfz41_1 := blk_frozen BK366.out 1
                have hfz41_2 := blk_frozen BK366.out 2
                go_wp2_with (first | ((with_reducible refine gate_builtin (b := .append) (xs := #[.tmp 67, .tmp 77]) rfl ?_); at_builtin; refine Kd.R_append k30 (w0 := w) w.heap.size rfl (.tmp 67) (.tmp 77) 26 30 (.agg #[(.int .i64 0), (.int .i64 0), (.int .i64 0)]) 24 rfl Try.underlying26 info30 rfl (by decide) (by omega) u11 x11_2 (⟨((rd_T30 l0 x31_2).f0), ((rd_T30 l0 x31_2).f1), wrap64 (((rd_T30 l0 x31_2).f2) - x15_23)⟩ : S30) [.int .i64 ((rd_T30 l0 x31_2).f0), .int .i64 ((rd_T30 l0 x31_2).f1), .int .i64 (wrap64 (((rd_T30 l0 x31_2).f2) - x15_23))] (fun k_ => some k_ ≠ (u12 : Value).ownBlock ∧ k_ ≠ gb366) (fun _ => False) rfl rfl ?aP (fun _ hk => hk.elim) ?aF ?aO ?aB ?aS ?aL ?_; (case aP => exact k30_mkM _ _ _ (⟨((rd_T30 l0 x31_2).f0), ((rd_T30 l0 x31_2).f1), wrap64 (((rd_T30 l0 x31_2).f2) - x15_23)⟩ : S30)); (case aB => exact (by repeat (first | (with_reducible first | exact HB.out | apply below_alloc | apply pw_below_drewN | apply below_drew1 | refine below_set ?_ GE366.out) | exact HB.out))); (case aF => exact (fun k_ hk => ⟨Kd.fresh' (Kd.R_lt (by (with_reducible repeat (first | apply Kd.R_alloc | apply Kd.R_drewN | apply Kd.R_drew)); exact HO_12.out)) k_ hk, Kd.freshB (g := gb366) (o := .cells #[.int .i64 ((rd_T30 l0 x31_2).f0), .int .i64 ((rd_T30 l0 x31_2).f1), .int .i64 ((rd_T30 l0 x31_2).f2)] 30 (0, 0)) (by (with_reducible repeat (first | refine blk_drewN ?_ _ | refine blk_drew ?_ | refine blk_alloc ?_ _)); exact BK366.out) k_ hk⟩)); (case aO => exact (by (with_reducible repeat (first | apply Kd.R_alloc | apply Kd.R_drewN | apply Kd.R_drew)); exact HO_11.out)); (case aS => exact (below_size (by repeat (first | (with_reducible first | exact HB.out | apply below_alloc | apply pw_below_drewN | apply below_drew1 | refine below_set ?_ GE366.out) | exact HB.out)))); (case aL => have := LMc40.out; omega); intro v374 w42 ho hb hg hat; rw [← Ny373.out] at ho; have n0_ := Aside0.mk (Kd.R_after (ok := (fun k_ => k_ ≠ gb366)) (by (with_reducible repeat (first | apply Kd.R_alloc | apply Kd.R_drewN | apply Kd.R_drew)); exact Kd.R_mono HO_12.out (fun _ hk => ⟨hk.2, hk.1⟩)) hg hat); have n1_ := Aside0.mk (blk_grown (g := gb366) (o := .cells #[.int .i64 ((rd_T30 l0 x31_2).f0), .int .i64 ((rd_T30 l0 x31_2).f1), .int .i64 ((rd_T30 l0 x31_2).f2)] 30 (0, 0)) (by (with_reducible repeat (first | refine blk_drewN ?_ _ | refine blk_drew ?_ | refine blk_alloc ?_ _)); exact BK366.out) hg (Kd.R_away HO_11.out (fun _ hk => by first | exact hk.2 | trivial))); have n2_ := Aside0.mk (hb); have n3_ := Aside0.mk (ho); clear HO_12; clear BK366; clear HB; clear HO_11; have HO_12 := n0_; have BK366 := n1_; have HB := n2_; have HO375 := n3_; clear n0_ n1_ n2_ n3_; clear ho hb hg hat))
                go_roundg kj23
                case measure => have := HJ4.out; have := HK2.out; have := HJ17.out; have := HJ23.out; omega
                case rel => exact ⟨(wrap64 (x2_2 - x15_23)), (y373), (x12_2), (wrap64 (x31_2 + 1)), (by first | rfl | (simp; done) | (simp [*]; done) | (simp only [wrap64, IntKind.wrap_i64]; done) | (simp [wrap64, IntKind.wrap_i64]; done)), (by first | rfl | (simp; done) | (simp [*]; done) | (simp only [wrap64, IntKind.wrap_i64]; done) | (simp [wrap64, IntKind.wrap_i64]; done)), H', ⟨by have := HJ4.out; have := HK2.out; have := HJ17.out; have := HJ23.out; omega⟩, ⟨by (with_reducible repeat (first | apply Kd.R_alloc | apply Kd.R_drewN | apply Kd.R_drew)); exact Kd.R_mono HO375.out (fun _ hk => hk.1)⟩, ⟨by (with_reducible repeat (first | apply Kd.R_alloc | apply Kd.R_drewN | apply Kd.R_drew)); exact Kd.R_mono HO_12.out (fun _ hk => by first | exact hk.2 | trivial)⟩, ⟨by repeat (first | (with_reducible first | exact HB.out | apply below_alloc | apply pw_below_drewN | apply below_drew1 | refine below_set ?_ GE366.out) | exact HB.out)⟩⟩
               ·rw [if_neg c40] at H
                exact absurd H (by simp)
              ·rw [if_neg c39] at H
               have c39b0 : decide (x15_23 < ((rd_T30 l0 x31_2).f2)) = false := decide_eq_false c39
               clear c39
               have H' := Aside0.mk H
               clear H
               have hcz43_0 : wc.cell? ⟨gb366, 0, none⟩ = some (.int .i64 ((rd_T30 l0 x31_2).f0)) := (blk_cell BK366.out 0).trans rfl
               have hcz43_1 : wc.cell? ⟨gb366, 1, none⟩ = some (.int .i64 ((rd_T30 l0 x31_2).f1)) := (blk_cell BK366.out 1).trans rfl
               have hcz43_2 : wc.cell? ⟨gb366, 2, none⟩ = some (.int .i64 ((rd_T30 l0 x31_2).f2)) := (blk_cell BK366.out 2).trans rfl
               have hfz43_0 := blk_frozen BK366.out 0
               have hfz43_1 := blk_frozen BK366.out 1
               have hfz43_2 := blk_frozen BK366.out 2
               go_wp2
               go_roundg kj23
               case measure => have := HJ4.out; have := HK2.out; have := HJ17.out; have := HJ23.out; omega
               case rel => exact ⟨(wrap64 (x2_2 - x15_23)), (x11_2), (x12_2), (wrap64 (x31_2 + 1)), (by first | rfl | (simp; done) | (simp [*]; done) | (simp only [wrap64, IntKind.wrap_i64]; done) | (simp [wrap64, IntKind.wrap_i64]; done)), (by first | rfl | (simp; done) | (simp [*]; done) | (simp only [wrap64, IntKind.wrap_i64]; done) | (simp [wrap64, IntKind.wrap_i64]; done)), H', ⟨by have := HJ4.out; have := HK2.out; have := HJ17.out; have := HJ23.out; omega⟩, ⟨by (with_reducible repeat (first | apply Kd.R_alloc | apply Kd.R_drewN | apply Kd.R_drew)); exact Kd.R_mono HO_11.out (fun _ hk => hk.1)⟩, ⟨by (with_reducible repeat (first | apply Kd.R_alloc | apply Kd.R_drewN | apply Kd.R_drew)); exact Kd.R_mono HO_12.out (fun _ hk => hk.1)⟩, ⟨by repeat (first | (with_reducible first | exact HB.out | apply below_alloc | apply pw_below_drewN | apply below_drew1 | refine below_set ?_ GE366.out) | exact HB.out)⟩⟩
        ·rw [if_neg c17] at H
         exact absurd H (by simp)
       ·rw [if_neg c16] at H
        exact absurd H (by simp)
      ·rw [if_neg c15] at H
       have c15b0 : decide (x31_2 < (l0.length : Int)) = false := decide_eq_false c15
       clear c15
       simp only [Option.some.injEq, Prod.mk.injEq] at H
       obtain ⟨rfl, rfl, rfl⟩ := H
       go_wp2
       go_ret3
       exact ⟨_, _, by first | rfl | (simp [errW_none, errW_some] <;> rfl) | (simp [*, errW_none, errW_some] <;> rfl), by (with_reducible repeat (first | apply Kd.R_alloc | apply Kd.R_drewN | apply Kd.R_drew)); exact HO_11.out, by (with_reducible repeat (first | apply Kd.R_alloc | apply Kd.R_drewN | apply Kd.R_drew)); exact HO_12.out, by repeat (first | (with_reducible first | exact HB.out | apply below_alloc | apply pw_below_drewN | apply below_drew1) | exact HB.out)⟩

end Go.Proofs.Ytfnngpfkcnfhiaa.PAll
