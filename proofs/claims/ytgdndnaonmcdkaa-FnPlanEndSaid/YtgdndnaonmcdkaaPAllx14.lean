-- PRINTED by print.py (a twelfth state) out of the translation. Not trusted: Lean checks it.
import Derived.Test.YtgdndnaonmcdkaaPAllx0
import Derived.Test.YtgdndnaonmcdkaaPAllx13
namespace Go.Proofs.Ytgdndnaonmcdkaa.PAll
open Go.RowKit Go.Proofs.YtgdndnaonmcdkaaW.PrintWords Go.Proofs.YtgdndnaonmcdkaaW.PrintLast Go.Proofs.YtgdndnaonmcdkaaW.PrintMore
attribute [local go_sem] max2_int min2_int max_two min_two max_three min_three max_four min_four   -- for this text's walks alone
set_option linter.unusedVariables false
set_option linter.unusedSimpArgs false

/-! ### impl_StepsValid: function 14 -/
mutual
def impl_StepsValid.l0 : Nat → List (S29) → List (S29) → Int → Int → Option (Bool)
 | 0, _, _, _, _ => none
 | k + 1, x0, x7, x8, x9 => if x9 < x8 then (if 0 ≤ x9 then (if x9 < (x7.length : Int) then ((impl_within.f ((rd_T29 x7 x9).f0) 1 99).bind fun t343 => (if t343 = true then ((impl_within.f ((rd_T29 x7 x9).f1) 0 4).bind fun t344 => (if t344 = true then ((impl_within.f ((rd_T29 x7 x9).f2) 0 4).bind fun t345 => (impl_StepsValid.j1 k x0 x9 x7 x8 x9 (!t345) ((rd_T29 x7 x9).f0) ((rd_T29 x7 x9).f1) ((rd_T29 x7 x9).f2) ((rd_T29 x7 x9).f3))) else (impl_StepsValid.j1 k x0 x9 x7 x8 x9 true ((rd_T29 x7 x9).f0) ((rd_T29 x7 x9).f1) ((rd_T29 x7 x9).f2) ((rd_T29 x7 x9).f3)))) else (impl_StepsValid.j1 k x0 x9 x7 x8 x9 true ((rd_T29 x7 x9).f0) ((rd_T29 x7 x9).f1) ((rd_T29 x7 x9).f2) ((rd_T29 x7 x9).f3)))) else (none)) else (none)) else (some (decide ((x0.length : Int) ≤ 8)))
def impl_StepsValid.j1 : Nat → List (S29) → Int → List (S29) → Int → Int → Bool → Int → Int → Int → List Int → Option (Bool)
 | 0, _, _, _, _, _, _, _, _, _, _ => none
 | k + 1, x0, x3, x7, x8, x9, x29, x343000, x343001, x343002, x343003 => if x29 = true then (some false) else (impl_StepsValid.l1 k x0 x3 x7 x8 x9 x343003 (x343003.length : Int) 0 x343000 x343001 x343002 x343003)
def impl_StepsValid.l1 : Nat → List (S29) → Int → List (S29) → Int → Int → List Int → Int → Int → Int → Int → Int → List Int → Option (Bool)
 | 0, _, _, _, _, _, _, _, _, _, _, _, _ => none
 | k + 1, x0, x3, x7, x8, x9, x31, x32, x33, x343000, x343001, x343002, x343003 => if x33 < x32 then (if 0 ≤ x33 then (if x33 < (x31.length : Int) then ((impl_within.f (rd x31 x33) 0 (wrap64 (x3 - 1))).bind fun t347 => (if t347 = true then (if x33 > 0 then (if 0 ≤ (wrap64 (x33 - 1)) then (if (wrap64 (x33 - 1)) < (x343003.length : Int) then (if (rd x343003 (wrap64 (x33 - 1))) ≥ (rd x31 x33) then (some false) else (impl_StepsValid.l1 k x0 x3 x7 x8 x9 x31 x32 (wrap64 (x33 + 1)) x343000 x343001 x343002 x343003)) else (none)) else (none)) else (impl_StepsValid.l1 k x0 x3 x7 x8 x9 x31 x32 (wrap64 (x33 + 1)) x343000 x343001 x343002 x343003)) else (some false))) else (none)) else (none)) else (impl_StepsValid.l0 k x0 x7 x8 (wrap64 (x9 + 1)))
end
def impl_StepsValid.f (k : Nat) (l0 : List (S29)) : Option (Bool) := impl_StepsValid.l0 k l0 l0 (l0.length : Int) 0
set_option maxHeartbeats 8000000 in
set_option maxRecDepth 100000 in
theorem impl_StepsValid.calls (k : Nat) (A0 : Option Addr) (c0 : Nat) (l0 : List (S29)) (r : Bool) (w : World) (hr0 : Kd.C k29 w A0 l0.length l0) (hc0 : l0.length ≤ c0) (h : impl_StepsValid.f k l0 = some r) :
  Calls Try.prog 14 #[.slice A0 l0.length c0] w fun e w' => e = .returned (.bool r) ∧ Below w.heap.size w w' := by
 have hu29 := Try.underlying29
 have HR0 := Aside0.mk hr0
 have HC0 := Aside0.mk hc0
 clear hr0 hc0
 have HB := Aside0.mk (Below.refl w.heap.size w)
 have H : (impl_StepsValid.l0 k l0 l0 (l0.length : Int) 0) = some r := h
 clear h
 have H' := Aside0.mk H
 clear H
 go_enter Try.func14, Try.ntmps14
 go_wp2
 go_loopg [9] k (fun kq v9 w' => ∃ (x9_1 : Int), v9 = .int .i64 x9_1 ∧ Aside0 (impl_StepsValid.l0 kq l0 l0 (l0.length : Int) x9_1 = some r) ∧ Aside0 (kq ≤ k) ∧ Aside0 (Below w.heap.size w w'))
 case atStart => exact ⟨(0), (by first | rfl | (simp; done) | (simp [*]; done) | (simp only [wrap64, IntKind.wrap_i64]; done) | (simp [wrap64, IntKind.wrap_i64]; done)), H', ⟨Nat.le_refl _⟩, ⟨by repeat (first | (with_reducible first | exact HB.out | apply below_alloc | apply pw_below_drewN | apply below_drew1) | exact HB.out)⟩⟩
 case round =>
  clear H'
  try clear c1
  obtain ⟨x9_1, rfl, HA, HK1, HB⟩ := hrel
  cases gk with
  | zero => exact absurd HA.out (by simp [impl_StepsValid.l0])
  | succ k1 =>
   have H := HA.out
   clear HA
   simp only [impl_StepsValid.l0] at H
   by_cases c2 : x9_1 < (l0.length : Int)
   ·rw [if_pos c2] at H
    have c2b0 : decide (x9_1 < (l0.length : Int)) = true := decide_eq_true c2
    clear c2
    by_cases c3 : 0 ≤ x9_1
    ·rw [if_pos c3] at H
     have c3b0 : decide (0 ≤ x9_1) = true := decide_eq_true c3
     clear c3
     by_cases c4 : x9_1 < (l0.length : Int)
     ·rw [if_pos c4] at H
      have c4b0 : decide (x9_1 < (l0.length : Int)) = true := decide_eq_true c4
      clear c4
      have HC5 := Aside0.mk H
      clear H
      have p341 : 0 ≤ (x9_1 : Int) := of_decide_eq_true (by first | (with_reducible assumption) | assumption)
      have q341 : x9_1 < (l0.length : Int) := of_decide_eq_true (by first | (with_reducible assumption) | assumption)
      obtain ⟨ad341, A341_3, c341_3, e341, hx341_0, hx341_1, hx341_2, hx341_3, hl341_3, hi341_3⟩ := at_T29 HR0.out x9_1 p341 q341
      cases e341
      replace hx341_0 := (HB.out.cell (World.block_lt_of_cell? w _ hx341_0)).trans hx341_0
      replace hx341_1 := (HB.out.cell (World.block_lt_of_cell? w _ hx341_1)).trans hx341_1
      replace hx341_2 := (HB.out.cell (World.block_lt_of_cell? w _ hx341_2)).trans hx341_2
      replace hx341_3 := (HB.out.cell (World.block_lt_of_cell? w _ hx341_3)).trans hx341_3
      have HR341_3 := Aside0.mk hi341_3
      have HC341_3 := Aside0.mk hl341_3
      clear hi341_3 hl341_3
      replace p341 := eq_true p341
      replace q341 := eq_true q341
      go_upto_region 4 with (first | ((with_reducible refine gate_dst (N := 4) rfl ?_); refine box_event ?hg (N := 4) ?hd (cs := #[.int .i64 0, .int .i64 0, .int .i64 0, .slice none 0 0]) (t := 29) ?hr ?_; (case hd => rfl); (case hg => rfl); (case hr => first | (go_simp; done) | (go_simp; rfl)); intro gb342 hg w6 hbox hb; have n0_ := Aside0.mk (below_step (by repeat (first | (with_reducible first | exact HB.out | apply below_alloc | apply pw_below_drewN | apply below_drew1) | exact HB.out)) hb); have n1_ := Aside0.mk (hbox); have n2_ := Aside0.mk ((by rw [hg]; exact (below_size (by repeat (first | (with_reducible first | exact HB.out | apply below_alloc | apply pw_below_drewN | apply below_drew1) | exact HB.out))) : w.heap.size ≤ gb342)); have n3_ := Aside0.mk ((by rw [hg]; exact (below_size (by repeat (first | (with_reducible first | exact HB.out | apply below_alloc | apply pw_below_drewN | apply below_drew1) | exact HB.out))) : w.heap.size ≤ gb342)); clear HB; have HB := n0_; have BK342 := n1_; have GW342 := n2_; have GE342 := n3_; clear n0_ n1_ n2_ n3_; clear hb hbox hg; have hcz7_0 : w6.cell? ⟨gb342, 0, none⟩ = some (.int .i64 0) := (blk_cell BK342.out 0).trans rfl; have hcz7_1 : w6.cell? ⟨gb342, 1, none⟩ = some (.int .i64 0) := (blk_cell BK342.out 1).trans rfl; have hcz7_2 : w6.cell? ⟨gb342, 2, none⟩ = some (.int .i64 0) := (blk_cell BK342.out 2).trans rfl; have hcz7_3 : w6.cell? ⟨gb342, 3, none⟩ = some (.slice none 0 0) := (blk_cell BK342.out 3).trans rfl; have hfz7_0 := blk_frozen BK342.out 0; have hfz7_1 := blk_frozen BK342.out 1; have hfz7_2 := blk_frozen BK342.out 2; have hfz7_3 := blk_frozen BK342.out 3))
      (try simp only [Act.put, List.setIfInBounds_toArray, List.set_cons_zero, List.set_cons_succ])
      go_cut [29] (fun v29 wc => ∃ (kq : Nat) (x29_4 : Bool), v29 = .bool x29_4 ∧ Aside0 (impl_StepsValid.j1 kq l0 x9_1 l0 (l0.length : Int) x9_1 x29_4 ((rd_T29 l0 x9_1).f0) ((rd_T29 l0 x9_1).f1) ((rd_T29 l0 x9_1).f2) ((rd_T29 l0 x9_1).f3) = some r) ∧ Aside0 (kq ≤ k1) ∧ Aside0 (wc.heap[gb342]? = some (.cells #[.int .i64 ((rd_T29 l0 x9_1).f0), .int .i64 ((rd_T29 l0 x9_1).f1), .int .i64 ((rd_T29 l0 x9_1).f2), (.slice A341_3 ((rd_T29 l0 x9_1).f3).length c341_3)] 29 (0, 0))) ∧ Aside0 (Below w.heap.size w wc))
      case first =>
       have H := HC5.out
       clear HC5
       replace H := Option.bind_eq_some_iff.mp H
       obtain ⟨t343, A80, H⟩ := H
       replace H : (if t343 = true then ((impl_within.f ((rd_T29 l0 x9_1).f1) 0 4).bind fun t344 => (if t344 = true then ((impl_within.f ((rd_T29 l0 x9_1).f2) 0 4).bind fun t345 => (impl_StepsValid.j1 k1 l0 x9_1 l0 (l0.length : Int) x9_1 (!t345) ((rd_T29 l0 x9_1).f0) ((rd_T29 l0 x9_1).f1) ((rd_T29 l0 x9_1).f2) ((rd_T29 l0 x9_1).f3))) else (impl_StepsValid.j1 k1 l0 x9_1 l0 (l0.length : Int) x9_1 true ((rd_T29 l0 x9_1).f0) ((rd_T29 l0 x9_1).f1) ((rd_T29 l0 x9_1).f2) ((rd_T29 l0 x9_1).f3)))) else (impl_StepsValid.j1 k1 l0 x9_1 l0 (l0.length : Int) x9_1 true ((rd_T29 l0 x9_1).f0) ((rd_T29 l0 x9_1).f1) ((rd_T29 l0 x9_1).f2) ((rd_T29 l0 x9_1).f3))) = some r := H
       have A8 := Aside0.mk A80
       clear A80
       by_cases c9 : t343 = true
       ·subst c9
        have H1 : ((impl_within.f ((rd_T29 l0 x9_1).f1) 0 4).bind fun t344 => (if t344 = true then ((impl_within.f ((rd_T29 l0 x9_1).f2) 0 4).bind fun t345 => (impl_StepsValid.j1 k1 l0 x9_1 l0 (l0.length : Int) x9_1 (!t345) ((rd_T29 l0 x9_1).f0) ((rd_T29 l0 x9_1).f1) ((rd_T29 l0 x9_1).f2) ((rd_T29 l0 x9_1).f3))) else (impl_StepsValid.j1 k1 l0 x9_1 l0 (l0.length : Int) x9_1 true ((rd_T29 l0 x9_1).f0) ((rd_T29 l0 x9_1).f1) ((rd_T29 l0 x9_1).f2) ((rd_T29 l0 x9_1).f3)))) = some r := by rw [if_pos rfl] at H; exact H
        clear H
        have H := H1
        clear H1
        replace H := Option.bind_eq_some_iff.mp H
        obtain ⟨t344, A100, H⟩ := H
        replace H : (if t344 = true then ((impl_within.f ((rd_T29 l0 x9_1).f2) 0 4).bind fun t345 => (impl_StepsValid.j1 k1 l0 x9_1 l0 (l0.length : Int) x9_1 (!t345) ((rd_T29 l0 x9_1).f0) ((rd_T29 l0 x9_1).f1) ((rd_T29 l0 x9_1).f2) ((rd_T29 l0 x9_1).f3))) else (impl_StepsValid.j1 k1 l0 x9_1 l0 (l0.length : Int) x9_1 true ((rd_T29 l0 x9_1).f0) ((rd_T29 l0 x9_1).f1) ((rd_T29 l0 x9_1).f2) ((rd_T29 l0 x9_1).f3))) = some r := H
        have A10 := Aside0.mk A100
        clear A100
        by_cases c11 : t344 = true
        ·subst c11
         have H1 : ((impl_within.f ((rd_T29 l0 x9_1).f2) 0 4).bind fun t345 => (impl_StepsValid.j1 k1 l0 x9_1 l0 (l0.length : Int) x9_1 (!t345) ((rd_T29 l0 x9_1).f0) ((rd_T29 l0 x9_1).f1) ((rd_T29 l0 x9_1).f2) ((rd_T29 l0 x9_1).f3))) = some r := by rw [if_pos rfl] at H; exact H
         clear H
         have H := H1
         clear H1
         replace H := Option.bind_eq_some_iff.mp H
         obtain ⟨t345, A120, H⟩ := H
         replace H : (impl_StepsValid.j1 k1 l0 x9_1 l0 (l0.length : Int) x9_1 (!t345) ((rd_T29 l0 x9_1).f0) ((rd_T29 l0 x9_1).f1) ((rd_T29 l0 x9_1).f2) ((rd_T29 l0 x9_1).f3)) = some r := H
         have A12 := Aside0.mk A120
         clear A120
         have H' := Aside0.mk H
         clear H
         have hcz13_0 : w6.cell? ⟨gb342, 0, none⟩ = some (.int .i64 0) := (blk_cell BK342.out 0).trans rfl
         have hcz13_1 : w6.cell? ⟨gb342, 1, none⟩ = some (.int .i64 0) := (blk_cell BK342.out 1).trans rfl
         have hcz13_2 : w6.cell? ⟨gb342, 2, none⟩ = some (.int .i64 0) := (blk_cell BK342.out 2).trans rfl
         have hcz13_3 : w6.cell? ⟨gb342, 3, none⟩ = some (.slice none 0 0) := (blk_cell BK342.out 3).trans rfl
         have hfz13_0 := blk_frozen BK342.out 0
         have hfz13_1 := blk_frozen BK342.out 1
         have hfz13_2 := blk_frozen BK342.out 2
         have hfz13_3 := blk_frozen BK342.out 3
         go_wp2_with (first | ((with_reducible refine gate_callee (f := 24) rfl ?_); refine goesL_ (some 16) rfl rfl Try.func24 (by kernel_rfl) rfl #[.int .i64 ((rd_T29 l0 x9_1).f0), .int .i64 1, .int .i64 99] rfl (by (try simp only [List.map_toArray, List.map_cons, List.map_nil]); first | done | rfl | (simp only [List.length_drop, List.length_take]; rfl)) ?_; (with_reducible refine (impl_within.calls ((rd_T29 l0 x9_1).f0) 1 99 true _ A8.out).mono ?_); rintro e w' ⟨rfl, ⟨nd, rfl⟩⟩; refine ⟨_, rfl, ?_⟩) | (go_at_call 24; (with_reducible refine (impl_within.calls ((rd_T29 l0 x9_1).f1) 0 4 true _ A10.out).mono ?_); rintro e w' ⟨rfl, ⟨nd, rfl⟩⟩) | (go_at_call 24; (with_reducible refine (impl_within.calls ((rd_T29 l0 x9_1).f2) 0 4 t345 _ A12.out).mono ?_); rintro e w' ⟨rfl, ⟨nd, rfl⟩⟩))
         go_meet
         case rel => exact ⟨_, (!t345), (by first | rfl | (simp; done) | (simp [*]; done) | (simp only [wrap64, IntKind.wrap_i64]; done) | (simp [wrap64, IntKind.wrap_i64]; done)), H', ⟨by have := HK1.out; first | omega | exact Nat.le_refl _⟩, ⟨by (with_reducible repeat (first | refine blk_drewN ?_ _ | refine blk_drew ?_ | refine blk_alloc ?_ _)); refine blk_put (cs := #[.int .i64 ((rd_T29 l0 x9_1).f0), .int .i64 ((rd_T29 l0 x9_1).f1), .int .i64 ((rd_T29 l0 x9_1).f2), .slice none 0 0]) ?_ 3 _ rfl; (with_reducible repeat (first | refine blk_drewN ?_ _ | refine blk_drew ?_ | refine blk_alloc ?_ _)); refine blk_put (cs := #[.int .i64 ((rd_T29 l0 x9_1).f0), .int .i64 ((rd_T29 l0 x9_1).f1), .int .i64 0, .slice none 0 0]) ?_ 2 _ rfl; (with_reducible repeat (first | refine blk_drewN ?_ _ | refine blk_drew ?_ | refine blk_alloc ?_ _)); refine blk_put (cs := #[.int .i64 ((rd_T29 l0 x9_1).f0), .int .i64 0, .int .i64 0, .slice none 0 0]) ?_ 1 _ rfl; (with_reducible repeat (first | refine blk_drewN ?_ _ | refine blk_drew ?_ | refine blk_alloc ?_ _)); refine blk_put (cs := #[.int .i64 0, .int .i64 0, .int .i64 0, .slice none 0 0]) ?_ 0 _ rfl; (with_reducible repeat (first | refine blk_drewN ?_ _ | refine blk_drew ?_ | refine blk_alloc ?_ _)); exact BK342.out⟩, ⟨by repeat (first | (with_reducible first | exact HB.out | apply below_alloc | apply pw_below_drewN | apply below_drew1 | refine below_set ?_ GE342.out) | exact HB.out)⟩⟩
        ·replace c11 := Bool.eq_false_iff.mpr c11
         subst c11
         have H1 : (impl_StepsValid.j1 k1 l0 x9_1 l0 (l0.length : Int) x9_1 true ((rd_T29 l0 x9_1).f0) ((rd_T29 l0 x9_1).f1) ((rd_T29 l0 x9_1).f2) ((rd_T29 l0 x9_1).f3)) = some r := by rw [if_neg (show ¬ (false = true) by decide)] at H; exact H
         clear H
         have H := H1
         clear H1
         have H' := Aside0.mk H
         clear H
         have hcz14_0 : w6.cell? ⟨gb342, 0, none⟩ = some (.int .i64 0) := (blk_cell BK342.out 0).trans rfl
         have hcz14_1 : w6.cell? ⟨gb342, 1, none⟩ = some (.int .i64 0) := (blk_cell BK342.out 1).trans rfl
         have hcz14_2 : w6.cell? ⟨gb342, 2, none⟩ = some (.int .i64 0) := (blk_cell BK342.out 2).trans rfl
         have hcz14_3 : w6.cell? ⟨gb342, 3, none⟩ = some (.slice none 0 0) := (blk_cell BK342.out 3).trans rfl
         have hfz14_0 := blk_frozen BK342.out 0
         have hfz14_1 := blk_frozen BK342.out 1
         have hfz14_2 := blk_frozen BK342.out 2
         have hfz14_3 := blk_frozen BK342.out 3
         go_wp2_with (first | ((with_reducible refine gate_callee (f := 24) rfl ?_); refine goesL_ (some 16) rfl rfl Try.func24 (by kernel_rfl) rfl #[.int .i64 ((rd_T29 l0 x9_1).f0), .int .i64 1, .int .i64 99] rfl (by (try simp only [List.map_toArray, List.map_cons, List.map_nil]); first | done | rfl | (simp only [List.length_drop, List.length_take]; rfl)) ?_; (with_reducible refine (impl_within.calls ((rd_T29 l0 x9_1).f0) 1 99 true _ A8.out).mono ?_); rintro e w' ⟨rfl, ⟨nd, rfl⟩⟩; refine ⟨_, rfl, ?_⟩) | (go_at_call 24; (with_reducible refine (impl_within.calls ((rd_T29 l0 x9_1).f1) 0 4 false _ A10.out).mono ?_); rintro e w' ⟨rfl, ⟨nd, rfl⟩⟩))
         go_meet
         case rel => exact ⟨_, (true), (by first | rfl | (simp; done) | (simp [*]; done) | (simp only [wrap64, IntKind.wrap_i64]; done) | (simp [wrap64, IntKind.wrap_i64]; done)), H', ⟨by have := HK1.out; first | omega | exact Nat.le_refl _⟩, ⟨by (with_reducible repeat (first | refine blk_drewN ?_ _ | refine blk_drew ?_ | refine blk_alloc ?_ _)); refine blk_put (cs := #[.int .i64 ((rd_T29 l0 x9_1).f0), .int .i64 ((rd_T29 l0 x9_1).f1), .int .i64 ((rd_T29 l0 x9_1).f2), .slice none 0 0]) ?_ 3 _ rfl; (with_reducible repeat (first | refine blk_drewN ?_ _ | refine blk_drew ?_ | refine blk_alloc ?_ _)); refine blk_put (cs := #[.int .i64 ((rd_T29 l0 x9_1).f0), .int .i64 ((rd_T29 l0 x9_1).f1), .int .i64 0, .slice none 0 0]) ?_ 2 _ rfl; (with_reducible repeat (first | refine blk_drewN ?_ _ | refine blk_drew ?_ | refine blk_alloc ?_ _)); refine blk_put (cs := #[.int .i64 ((rd_T29 l0 x9_1).f0), .int .i64 0, .int .i64 0, .slice none 0 0]) ?_ 1 _ rfl; (with_reducible repeat (first | refine blk_drewN ?_ _ | refine blk_drew ?_ | refine blk_alloc ?_ _)); refine blk_put (cs := #[.int .i64 0, .int .i64 0, .int .i64 0, .slice none 0 0]) ?_ 0 _ rfl; (with_reducible repeat (first | refine blk_drewN ?_ _ | refine blk_drew ?_ | refine blk_alloc ?_ _)); exact BK342.out⟩, ⟨by repeat (first | (with_reducible first | exact HB.out | apply below_alloc | apply pw_below_drewN | apply below_drew1 | refine below_set ?_ GE342.out) | exact HB.out)⟩⟩
       ·replace c9 := Bool.eq_false_iff.mpr c9
        subst c9
        have H1 : (impl_StepsValid.j1 k1 l0 x9_1 l0 (l0.length : Int) x9_1 true ((rd_T29 l0 x9_1).f0) ((rd_T29 l0 x9_1).f1) ((rd_T29 l0 x9_1).f2) ((rd_T29 l0 x9_1).f3)) = some r := by rw [if_neg (show ¬ (false = true) by decide)] at H; exact H
        clear H
        have H := H1
        clear H1
        have H' := Aside0.mk H
        clear H
        have hcz15_0 : w6.cell? ⟨gb342, 0, none⟩ = some (.int .i64 0) := (blk_cell BK342.out 0).trans rfl
        have hcz15_1 : w6.cell? ⟨gb342, 1, none⟩ = some (.int .i64 0) := (blk_cell BK342.out 1).trans rfl
        have hcz15_2 : w6.cell? ⟨gb342, 2, none⟩ = some (.int .i64 0) := (blk_cell BK342.out 2).trans rfl
        have hcz15_3 : w6.cell? ⟨gb342, 3, none⟩ = some (.slice none 0 0) := (blk_cell BK342.out 3).trans rfl
        have hfz15_0 := blk_frozen BK342.out 0
        have hfz15_1 := blk_frozen BK342.out 1
        have hfz15_2 := blk_frozen BK342.out 2
        have hfz15_3 := blk_frozen BK342.out 3
        go_wp2_with (first | ((with_reducible refine gate_callee (f := 24) rfl ?_); refine goesL_ (some 16) rfl rfl Try.func24 (by kernel_rfl) rfl #[.int .i64 ((rd_T29 l0 x9_1).f0), .int .i64 1, .int .i64 99] rfl (by (try simp only [List.map_toArray, List.map_cons, List.map_nil]); first | done | rfl | (simp only [List.length_drop, List.length_take]; rfl)) ?_; (with_reducible refine (impl_within.calls ((rd_T29 l0 x9_1).f0) 1 99 false _ A8.out).mono ?_); rintro e w' ⟨rfl, ⟨nd, rfl⟩⟩; refine ⟨_, rfl, ?_⟩))
        go_meet
        case rel => exact ⟨_, (true), (by first | rfl | (simp; done) | (simp [*]; done) | (simp only [wrap64, IntKind.wrap_i64]; done) | (simp [wrap64, IntKind.wrap_i64]; done)), H', ⟨by have := HK1.out; first | omega | exact Nat.le_refl _⟩, ⟨by (with_reducible repeat (first | refine blk_drewN ?_ _ | refine blk_drew ?_ | refine blk_alloc ?_ _)); refine blk_put (cs := #[.int .i64 ((rd_T29 l0 x9_1).f0), .int .i64 ((rd_T29 l0 x9_1).f1), .int .i64 ((rd_T29 l0 x9_1).f2), .slice none 0 0]) ?_ 3 _ rfl; (with_reducible repeat (first | refine blk_drewN ?_ _ | refine blk_drew ?_ | refine blk_alloc ?_ _)); refine blk_put (cs := #[.int .i64 ((rd_T29 l0 x9_1).f0), .int .i64 ((rd_T29 l0 x9_1).f1), .int .i64 0, .slice none 0 0]) ?_ 2 _ rfl; (with_reducible repeat (first | refine blk_drewN ?_ _ | refine blk_drew ?_ | refine blk_alloc ?_ _)); refine blk_put (cs := #[.int .i64 ((rd_T29 l0 x9_1).f0), .int .i64 0, .int .i64 0, .slice none 0 0]) ?_ 1 _ rfl; (with_reducible repeat (first | refine blk_drewN ?_ _ | refine blk_drew ?_ | refine blk_alloc ?_ _)); refine blk_put (cs := #[.int .i64 0, .int .i64 0, .int .i64 0, .slice none 0 0]) ?_ 0 _ rfl; (with_reducible repeat (first | refine blk_drewN ?_ _ | refine blk_drew ?_ | refine blk_alloc ?_ _)); exact BK342.out⟩, ⟨by repeat (first | (with_reducible first | exact HB.out | apply below_alloc | apply pw_below_drewN | apply below_drew1 | refine below_set ?_ GE342.out) | exact HB.out)⟩⟩
      case rest =>
       clear HC5
       try clear c1
       try clear c2
       try clear c2b0
       try clear p2
       try clear c3
       try clear c3b0
       try clear p3
       try clear q3
       try clear hx3
       try clear c4
       try clear c4b0
       try clear c9
       try clear c11
       try clear c14
       try clear hcz13_0
       try clear hcz13_1
       try clear hcz13_2
       try clear hcz13_3
       try clear hcz14_0
       try clear hcz14_1
       try clear hcz14_2
       try clear hcz14_3
       try clear hcz15_0
       try clear hcz15_1
       try clear hcz15_2
       try clear hcz15_3
       try clear hcz7_0
       try clear hcz7_1
       try clear hcz7_2
       try clear hcz7_3
       try clear hfz13_0
       try clear hfz13_1
       try clear hfz13_2
       try clear hfz13_3
       try clear hfz14_0
       try clear hfz14_1
       try clear hfz14_2
       try clear hfz14_3
       try clear hfz15_0
       try clear hfz15_1
       try clear hfz15_2
       try clear hfz15_3
       try clear hfz7_0
       try clear hfz7_1
       try clear hfz7_2
       try clear hfz7_3
       try clear hx341_0
       try clear hx341_1
       try clear hx341_2
       try clear hx341_3
       try clear p341
       try clear q341
       obtain ⟨kq, x29_4, rfl, HA, HJ4, BK342, HB⟩ := hcut
       cases kq with
       | zero => exact absurd HA.out (by simp [impl_StepsValid.j1])
       | succ kj4 =>
        have H := HA.out
        clear HA
        simp only [impl_StepsValid.j1] at H
        by_cases c16 : x29_4 = true
        ·subst c16
         have H1 : (some false) = some r := by rw [if_pos rfl] at H; exact H
         clear H
         have H := H1
         clear H1
         obtain rfl := Option.some.inj H
         go_wp2
         go_ret
         exact ⟨by first | rfl | (simp [errW_none, errW_some] <;> rfl) | (simp [*, errW_none, errW_some] <;> rfl), by repeat (first | (with_reducible first | exact HB.out | apply below_alloc | apply pw_below_drewN | apply below_drew1 | refine below_set ?_ GE342.out) | exact HB.out)⟩
        ·replace c16 := Bool.eq_false_iff.mpr c16
         subst c16
         have H1 : (impl_StepsValid.l1 kj4 l0 x9_1 l0 (l0.length : Int) x9_1 ((rd_T29 l0 x9_1).f3) (((rd_T29 l0 x9_1).f3).length : Int) 0 ((rd_T29 l0 x9_1).f0) ((rd_T29 l0 x9_1).f1) ((rd_T29 l0 x9_1).f2) ((rd_T29 l0 x9_1).f3)) = some r := by rw [if_neg (show ¬ (false = true) by decide)] at H; exact H
         clear H
         have H := H1
         clear H1
         have H' := Aside0.mk H
         clear H
         have hcz17_0 : wc.cell? ⟨gb342, 0, none⟩ = some (.int .i64 ((rd_T29 l0 x9_1).f0)) := (blk_cell BK342.out 0).trans rfl
         have hcz17_1 : wc.cell? ⟨gb342, 1, none⟩ = some (.int .i64 ((rd_T29 l0 x9_1).f1)) := (blk_cell BK342.out 1).trans rfl
         have hcz17_2 : wc.cell? ⟨gb342, 2, none⟩ = some (.int .i64 ((rd_T29 l0 x9_1).f2)) := (blk_cell BK342.out 2).trans rfl
         have hcz17_3 : wc.cell? ⟨gb342, 3, none⟩ = some (.slice A341_3 ((rd_T29 l0 x9_1).f3).length c341_3) := (blk_cell BK342.out 3).trans rfl
         have hfz17_0 := blk_frozen BK342.out 0
         have hfz17_1 := blk_frozen BK342.out 1
         have hfz17_2 := blk_frozen BK342.out 2
         have hfz17_3 := blk_frozen BK342.out 3
         go_wp2
         go_loopg [33] kj4 (fun kq v33 w' => ∃ (x33_3 : Int), v33 = .int .i64 x33_3 ∧ Aside0 (impl_StepsValid.l1 kq l0 x9_1 l0 (l0.length : Int) x9_1 ((rd_T29 l0 x9_1).f3) (((rd_T29 l0 x9_1).f3).length : Int) x33_3 ((rd_T29 l0 x9_1).f0) ((rd_T29 l0 x9_1).f1) ((rd_T29 l0 x9_1).f2) ((rd_T29 l0 x9_1).f3) = some r) ∧ Aside0 (kq ≤ kj4) ∧ Aside0 (w'.heap[gb342]? = some (.cells #[.int .i64 ((rd_T29 l0 x9_1).f0), .int .i64 ((rd_T29 l0 x9_1).f1), .int .i64 ((rd_T29 l0 x9_1).f2), (.slice A341_3 ((rd_T29 l0 x9_1).f3).length c341_3)] 29 (0, 0))) ∧ Aside0 (Below w.heap.size w w'))
         case atStart => exact ⟨(0), (by first | rfl | (simp; done) | (simp [*]; done) | (simp only [wrap64, IntKind.wrap_i64]; done) | (simp [wrap64, IntKind.wrap_i64]; done)), H', ⟨Nat.le_refl _⟩, ⟨by (with_reducible repeat (first | refine blk_drewN ?_ _ | refine blk_drew ?_ | refine blk_alloc ?_ _)); exact BK342.out⟩, ⟨by repeat (first | (with_reducible first | exact HB.out | apply below_alloc | apply pw_below_drewN | apply below_drew1 | refine below_set ?_ GE342.out) | exact HB.out)⟩⟩
         case round =>
          clear H'
          try clear c1
          try clear c2
          try clear c2b0
          try clear p2
          try clear c3
          try clear c3b0
          try clear p3
          try clear q3
          try clear hx3
          try clear c4
          try clear c4b0
          try clear c9
          try clear c11
          try clear c14
          try clear c16
          try clear hcz13_0
          try clear hcz13_1
          try clear hcz13_2
          try clear hcz13_3
          try clear hcz14_0
          try clear hcz14_1
          try clear hcz14_2
          try clear hcz14_3
          try clear hcz15_0
          try clear hcz15_1
          try clear hcz15_2
          try clear hcz15_3
          try clear hcz17_0
          try clear hcz17_1
          try clear hcz17_2
          try clear hcz17_3
          try clear hcz7_0
          try clear hcz7_1
          try clear hcz7_2
          try clear hcz7_3
          try clear hfz13_0
          try clear hfz13_1
          try clear hfz13_2
          try clear hfz13_3
          try clear hfz14_0
          try clear hfz14_1
          try clear hfz14_2
          try clear hfz14_3
          try clear hfz15_0
          try clear hfz15_1
          try clear hfz15_2
          try clear hfz15_3
          try clear hfz17_0
          try clear hfz17_1
          try clear hfz17_2
          try clear hfz17_3
          try clear hfz7_0
          try clear hfz7_1
          try clear hfz7_2
          try clear hfz7_3
          try clear hx341_0
          try clear hx341_1
          try clear hx341_2
          try clear hx341_3
          try clear p2
          try clear p3
          try clear p341
          try clear q3
          try clear q341
          obtain ⟨x33_3, rfl, HA, HK3, BK342, HB⟩ := hrel
          cases gk with
          | zero => exact absurd HA.out (by simp [impl_StepsValid.l1])
          | succ k3 =>
           have H := HA.out
           clear HA
           simp only [impl_StepsValid.l1] at H
           by_cases c18 : x33_3 < (((rd_T29 l0 x9_1).f3).length : Int)
           ·rw [if_pos c18] at H
            have c18b0 : decide (x33_3 < (((rd_T29 l0 x9_1).f3).length : Int)) = true := decide_eq_true c18
            clear c18
            by_cases c19 : 0 ≤ x33_3
            ·rw [if_pos c19] at H
             have c19b0 : decide (0 ≤ x33_3) = true := decide_eq_true c19
             clear c19
             by_cases c20 : x33_3 < (((rd_T29 l0 x9_1).f3).length : Int)
             ·rw [if_pos c20] at H
              have c20b0 : decide (x33_3 < (((rd_T29 l0 x9_1).f3).length : Int)) = true := decide_eq_true c20
              clear c20
              replace H := Option.bind_eq_some_iff.mp H
              obtain ⟨t347, A210, H⟩ := H
              replace H : (if t347 = true then (if x33_3 > 0 then (if 0 ≤ (wrap64 (x33_3 - 1)) then (if (wrap64 (x33_3 - 1)) < (((rd_T29 l0 x9_1).f3).length : Int) then (if (rd ((rd_T29 l0 x9_1).f3) (wrap64 (x33_3 - 1))) ≥ (rd ((rd_T29 l0 x9_1).f3) x33_3) then (some false) else (impl_StepsValid.l1 k3 l0 x9_1 l0 (l0.length : Int) x9_1 ((rd_T29 l0 x9_1).f3) (((rd_T29 l0 x9_1).f3).length : Int) (wrap64 (x33_3 + 1)) ((rd_T29 l0 x9_1).f0) ((rd_T29 l0 x9_1).f1) ((rd_T29 l0 x9_1).f2) ((rd_T29 l0 x9_1).f3))) else (none)) else (none)) else (impl_StepsValid.l1 k3 l0 x9_1 l0 (l0.length : Int) x9_1 ((rd_T29 l0 x9_1).f3) (((rd_T29 l0 x9_1).f3).length : Int) (wrap64 (x33_3 + 1)) ((rd_T29 l0 x9_1).f0) ((rd_T29 l0 x9_1).f1) ((rd_T29 l0 x9_1).f2) ((rd_T29 l0 x9_1).f3))) else (some false)) = some r := H
              have A21 := Aside0.mk A210
              clear A210
              by_cases c22 : t347 = true
              ·subst c22
               have H1 : (if x33_3 > 0 then (if 0 ≤ (wrap64 (x33_3 - 1)) then (if (wrap64 (x33_3 - 1)) < (((rd_T29 l0 x9_1).f3).length : Int) then (if (rd ((rd_T29 l0 x9_1).f3) (wrap64 (x33_3 - 1))) ≥ (rd ((rd_T29 l0 x9_1).f3) x33_3) then (some false) else (impl_StepsValid.l1 k3 l0 x9_1 l0 (l0.length : Int) x9_1 ((rd_T29 l0 x9_1).f3) (((rd_T29 l0 x9_1).f3).length : Int) (wrap64 (x33_3 + 1)) ((rd_T29 l0 x9_1).f0) ((rd_T29 l0 x9_1).f1) ((rd_T29 l0 x9_1).f2) ((rd_T29 l0 x9_1).f3))) else (none)) else (none)) else (impl_StepsValid.l1 k3 l0 x9_1 l0 (l0.length : Int) x9_1 ((rd_T29 l0 x9_1).f3) (((rd_T29 l0 x9_1).f3).length : Int) (wrap64 (x33_3 + 1)) ((rd_T29 l0 x9_1).f0) ((rd_T29 l0 x9_1).f1) ((rd_T29 l0 x9_1).f2) ((rd_T29 l0 x9_1).f3))) = some r := by rw [if_pos rfl] at H; exact H
               clear H
               have H := H1
               clear H1
               by_cases c23 : x33_3 > 0
               ·rw [if_pos c23] at H
                have c23b0 : decide (0 < x33_3) = true := decide_eq_true c23
                clear c23
                obtain ⟨ji24, hji24⟩ : ∃ j_ : Int, (wrap64 (x33_3 - 1)) = j_ := ⟨_, rfl⟩
                replace H : (if 0 ≤ (ji24) then (if (ji24) < (((rd_T29 l0 x9_1).f3).length : Int) then (if (rd ((rd_T29 l0 x9_1).f3) (ji24)) ≥ (rd ((rd_T29 l0 x9_1).f3) x33_3) then (some false) else (impl_StepsValid.l1 k3 l0 x9_1 l0 (l0.length : Int) x9_1 ((rd_T29 l0 x9_1).f3) (((rd_T29 l0 x9_1).f3).length : Int) (wrap64 (x33_3 + 1)) ((rd_T29 l0 x9_1).f0) ((rd_T29 l0 x9_1).f1) ((rd_T29 l0 x9_1).f2) ((rd_T29 l0 x9_1).f3))) else (none)) else (none)) = some r := by first | (rw [hji24] at H; exact H) | (simp only [hji24] at H ⊢; exact H)
                (try rw [hji24] at A21)
                have hji24w : (IntKind.i64.wrap (x33_3 - 1)) = ji24 := (i64_w _).trans hji24
                by_cases c25 : 0 ≤ (ji24)
                ·rw [if_pos c25] at H
                 have c25b0 : decide (0 ≤ (ji24)) = true := decide_eq_true c25
                 clear c25
                 by_cases c26 : (ji24) < (((rd_T29 l0 x9_1).f3).length : Int)
                 ·rw [if_pos c26] at H
                  have c26b0 : decide ((ji24) < (((rd_T29 l0 x9_1).f3).length : Int)) = true := decide_eq_true c26
                  clear c26
                  by_cases c27 : (rd ((rd_T29 l0 x9_1).f3) (ji24)) ≥ (rd ((rd_T29 l0 x9_1).f3) x33_3)
                  ·rw [if_pos c27] at H
                   have c27b0 : decide ((rd ((rd_T29 l0 x9_1).f3) x33_3) ≤ (rd ((rd_T29 l0 x9_1).f3) (ji24))) = true := decide_eq_true c27
                   clear c27
                   obtain rfl := Option.some.inj H
                   have p346 : 0 ≤ (x33_3 : Int) := of_decide_eq_true (by first | (with_reducible assumption) | assumption)
                   have q346 : x33_3 < (((rd_T29 l0 x9_1).f3).length : Int) := of_decide_eq_true (by first | (with_reducible assumption) | assumption)
                   obtain ⟨ad346, e346, hx346_0⟩ := Kd.at_int HR341_3.out x33_3 p346 q346
                   cases e346
                   replace hx346_0 := (HB.out.cell (World.block_lt_of_cell? w _ hx346_0)).trans hx346_0
                   replace p346 := eq_true p346
                   replace q346 := eq_true q346
                   go_wp2_with (first | ((with_reducible refine gate_callee (f := 24) rfl ?_); refine goesL_ (some 41) rfl rfl Try.func24 (by kernel_rfl) rfl #[.int .i64 (rd ((rd_T29 l0 x9_1).f3) x33_3), .int .i64 0, .int .i64 (wrap64 (x9_1 - 1))] rfl (by (try simp only [List.map_toArray, List.map_cons, List.map_nil]); first | done | rfl | (simp only [List.length_drop, List.length_take]; rfl)) ?_; (with_reducible refine (impl_within.calls (rd ((rd_T29 l0 x9_1).f3) x33_3) 0 (wrap64 (x9_1 - 1)) true _ A21.out).mono ?_); rintro e w' ⟨rfl, ⟨nd, rfl⟩⟩; refine ⟨_, rfl, ?_⟩; have hcz28_0 : wr.cell? ⟨gb342, 0, none⟩ = some (.int .i64 ((rd_T29 l0 x9_1).f0)) := (blk_cell BK342.out 0).trans rfl; have hcz28_1 : wr.cell? ⟨gb342, 1, none⟩ = some (.int .i64 ((rd_T29 l0 x9_1).f1)) := (blk_cell BK342.out 1).trans rfl; have hcz28_2 : wr.cell? ⟨gb342, 2, none⟩ = some (.int .i64 ((rd_T29 l0 x9_1).f2)) := (blk_cell BK342.out 2).trans rfl; have hcz28_3 : wr.cell? ⟨gb342, 3, none⟩ = some (.slice (some ad346) ((rd_T29 l0 x9_1).f3).length c341_3) := (blk_cell BK342.out 3).trans rfl; have hfz28_0 := blk_frozen BK342.out 0; have hfz28_1 := blk_frozen BK342.out 1; have hfz28_2 := blk_frozen BK342.out 2; have hfz28_3 := blk_frozen BK342.out 3; have p348 : 0 ≤ ((ji24) : Int) := of_decide_eq_true (by first | (with_reducible assumption) | assumption); have q348 : (ji24) < (((rd_T29 l0 x9_1).f3).length : Int) := of_decide_eq_true (by first | (with_reducible assumption) | assumption); obtain ⟨ad348, e348, hx348_0⟩ := Kd.at_int HR341_3.out (ji24) p348 q348; obtain rfl : ad346 = ad348 := (by injection e348); replace hx348_0 := (HB.out.cell (World.block_lt_of_cell? w _ hx348_0)).trans hx348_0; replace p348 := eq_true p348; replace q348 := eq_true q348))
                   go_ret
                   exact ⟨by first | rfl | (simp [errW_none, errW_some] <;> rfl) | (simp only [← hji24]; first | rfl | (simp [errW_none, errW_some] <;> rfl)) | (simp [*, errW_none, errW_some] <;> rfl), by repeat (first | (with_reducible first | exact HB.out | apply below_alloc | apply pw_below_drewN | apply below_drew1 | refine below_set ?_ GE342.out) | exact HB.out)⟩
                  ·rw [if_neg c27] at H
                   have c27b0 : decide ((rd ((rd_T29 l0 x9_1).f3) x33_3) ≤ (rd ((rd_T29 l0 x9_1).f3) (ji24))) = false := decide_eq_false c27
                   clear c27
                   have H' := Aside0.mk H
                   clear H
                   have p346 : 0 ≤ (x33_3 : Int) := of_decide_eq_true (by first | (with_reducible assumption) | assumption)
                   have q346 : x33_3 < (((rd_T29 l0 x9_1).f3).length : Int) := of_decide_eq_true (by first | (with_reducible assumption) | assumption)
                   obtain ⟨ad346, e346, hx346_0⟩ := Kd.at_int HR341_3.out x33_3 p346 q346
                   cases e346
                   replace hx346_0 := (HB.out.cell (World.block_lt_of_cell? w _ hx346_0)).trans hx346_0
                   replace p346 := eq_true p346
                   replace q346 := eq_true q346
                   go_wp2_with (first | ((with_reducible refine gate_callee (f := 24) rfl ?_); refine goesL_ (some 41) rfl rfl Try.func24 (by kernel_rfl) rfl #[.int .i64 (rd ((rd_T29 l0 x9_1).f3) x33_3), .int .i64 0, .int .i64 (wrap64 (x9_1 - 1))] rfl (by (try simp only [List.map_toArray, List.map_cons, List.map_nil]); first | done | rfl | (simp only [List.length_drop, List.length_take]; rfl)) ?_; (with_reducible refine (impl_within.calls (rd ((rd_T29 l0 x9_1).f3) x33_3) 0 (wrap64 (x9_1 - 1)) true _ A21.out).mono ?_); rintro e w' ⟨rfl, ⟨nd, rfl⟩⟩; refine ⟨_, rfl, ?_⟩; have hcz29_0 : wr.cell? ⟨gb342, 0, none⟩ = some (.int .i64 ((rd_T29 l0 x9_1).f0)) := (blk_cell BK342.out 0).trans rfl; have hcz29_1 : wr.cell? ⟨gb342, 1, none⟩ = some (.int .i64 ((rd_T29 l0 x9_1).f1)) := (blk_cell BK342.out 1).trans rfl; have hcz29_2 : wr.cell? ⟨gb342, 2, none⟩ = some (.int .i64 ((rd_T29 l0 x9_1).f2)) := (blk_cell BK342.out 2).trans rfl; have hcz29_3 : wr.cell? ⟨gb342, 3, none⟩ = some (.slice (some ad346) ((rd_T29 l0 x9_1).f3).length c341_3) := (blk_cell BK342.out 3).trans rfl; have hfz29_0 := blk_frozen BK342.out 0; have hfz29_1 := blk_frozen BK342.out 1; have hfz29_2 := blk_frozen BK342.out 2; have hfz29_3 := blk_frozen BK342.out 3; have p348 : 0 ≤ ((ji24) : Int) := of_decide_eq_true (by first | (with_reducible assumption) | assumption); have q348 : (ji24) < (((rd_T29 l0 x9_1).f3).length : Int) := of_decide_eq_true (by first | (with_reducible assumption) | assumption); obtain ⟨ad348, e348, hx348_0⟩ := Kd.at_int HR341_3.out (ji24) p348 q348; obtain rfl : ad346 = ad348 := (by injection e348); replace hx348_0 := (HB.out.cell (World.block_lt_of_cell? w _ hx348_0)).trans hx348_0; replace p348 := eq_true p348; replace q348 := eq_true q348))
                   go_roundg k3
                   case measure => have := HK1.out; have := HJ4.out; have := HK3.out; omega
                   case rel => exact ⟨(wrap64 (x33_3 + 1)), (by first | rfl | (simp; done) | (simp [*]; done) | (simp only [wrap64, IntKind.wrap_i64]; done) | (simp [wrap64, IntKind.wrap_i64]; done)), H', ⟨by have := HK1.out; have := HJ4.out; have := HK3.out; omega⟩, ⟨by (with_reducible repeat (first | refine blk_drewN ?_ _ | refine blk_drew ?_ | refine blk_alloc ?_ _)); exact BK342.out⟩, ⟨by repeat (first | (with_reducible first | exact HB.out | apply below_alloc | apply pw_below_drewN | apply below_drew1 | refine below_set ?_ GE342.out) | exact HB.out)⟩⟩
                 ·rw [if_neg c26] at H
                  exact absurd H (by simp)
                ·rw [if_neg c25] at H
                 exact absurd H (by simp)
               ·rw [if_neg c23] at H
                have c23b0 : decide (0 < x33_3) = false := decide_eq_false c23
                clear c23
                have H' := Aside0.mk H
                clear H
                have p346 : 0 ≤ (x33_3 : Int) := of_decide_eq_true (by first | (with_reducible assumption) | assumption)
                have q346 : x33_3 < (((rd_T29 l0 x9_1).f3).length : Int) := of_decide_eq_true (by first | (with_reducible assumption) | assumption)
                obtain ⟨ad346, e346, hx346_0⟩ := Kd.at_int HR341_3.out x33_3 p346 q346
                cases e346
                replace hx346_0 := (HB.out.cell (World.block_lt_of_cell? w _ hx346_0)).trans hx346_0
                replace p346 := eq_true p346
                replace q346 := eq_true q346
                go_wp2_with (first | ((with_reducible refine gate_callee (f := 24) rfl ?_); refine goesL_ (some 41) rfl rfl Try.func24 (by kernel_rfl) rfl #[.int .i64 (rd ((rd_T29 l0 x9_1).f3) x33_3), .int .i64 0, .int .i64 (wrap64 (x9_1 - 1))] rfl (by (try simp only [List.map_toArray, List.map_cons, List.map_nil]); first | done | rfl | (simp only [List.length_drop, List.length_take]; rfl)) ?_; (with_reducible refine (impl_within.calls (rd ((rd_T29 l0 x9_1).f3) x33_3) 0 (wrap64 (x9_1 - 1)) true _ A21.out).mono ?_); rintro e w' ⟨rfl, ⟨nd, rfl⟩⟩; refine ⟨_, rfl, ?_⟩))
                go_roundg k3
                case measure => have := HK1.out; have := HJ4.out; have := HK3.out; omega
                case rel => exact ⟨(wrap64 (x33_3 + 1)), (by first | rfl | (simp; done) | (simp [*]; done) | (simp only [wrap64, IntKind.wrap_i64]; done) | (simp [wrap64, IntKind.wrap_i64]; done)), H', ⟨by have := HK1.out; have := HJ4.out; have := HK3.out; omega⟩, ⟨by (with_reducible repeat (first | refine blk_drewN ?_ _ | refine blk_drew ?_ | refine blk_alloc ?_ _)); exact BK342.out⟩, ⟨by repeat (first | (with_reducible first | exact HB.out | apply below_alloc | apply pw_below_drewN | apply below_drew1 | refine below_set ?_ GE342.out) | exact HB.out)⟩⟩
              ·replace c22 := Bool.eq_false_iff.mpr c22
               subst c22
               have H1 : (some false) = some r := by rw [if_neg (show ¬ (false = true) by decide)] at H; exact H
               clear H
               have H := H1
               clear H1
               obtain rfl := Option.some.inj H
               have p346 : 0 ≤ (x33_3 : Int) := of_decide_eq_true (by first | (with_reducible assumption) | assumption)
               have q346 : x33_3 < (((rd_T29 l0 x9_1).f3).length : Int) := of_decide_eq_true (by first | (with_reducible assumption) | assumption)
               obtain ⟨ad346, e346, hx346_0⟩ := Kd.at_int HR341_3.out x33_3 p346 q346
               cases e346
               replace hx346_0 := (HB.out.cell (World.block_lt_of_cell? w _ hx346_0)).trans hx346_0
               replace p346 := eq_true p346
               replace q346 := eq_true q346
               go_wp2_with (first | ((with_reducible refine gate_callee (f := 24) rfl ?_); refine goesL_ (some 41) rfl rfl Try.func24 (by kernel_rfl) rfl #[.int .i64 (rd ((rd_T29 l0 x9_1).f3) x33_3), .int .i64 0, .int .i64 (wrap64 (x9_1 - 1))] rfl (by (try simp only [List.map_toArray, List.map_cons, List.map_nil]); first | done | rfl | (simp only [List.length_drop, List.length_take]; rfl)) ?_; (with_reducible refine (impl_within.calls (rd ((rd_T29 l0 x9_1).f3) x33_3) 0 (wrap64 (x9_1 - 1)) false _ A21.out).mono ?_); rintro e w' ⟨rfl, ⟨nd, rfl⟩⟩; refine ⟨_, rfl, ?_⟩))
               go_ret
               exact ⟨by first | rfl | (simp [errW_none, errW_some] <;> rfl) | (simp [*, errW_none, errW_some] <;> rfl), by repeat (first | (with_reducible first | exact HB.out | apply below_alloc | apply pw_below_drewN | apply below_drew1 | refine below_set ?_ GE342.out) | exact HB.out)⟩
             ·rw [if_neg c20] at H
              exact absurd H (by simp)
            ·rw [if_neg c19] at H
             exact absurd H (by simp)
           ·rw [if_neg c18] at H
            have c18b0 : decide (x33_3 < (((rd_T29 l0 x9_1).f3).length : Int)) = false := decide_eq_false c18
            clear c18
            have H' := Aside0.mk H
            clear H
            go_wp2
            go_roundg k3
            case measure => have := HK1.out; have := HJ4.out; have := HK3.out; omega
            case rel => exact ⟨(wrap64 (x9_1 + 1)), (by first | rfl | (simp; done) | (simp [*]; done) | (simp only [wrap64, IntKind.wrap_i64]; done) | (simp [wrap64, IntKind.wrap_i64]; done)), H', ⟨by have := HK1.out; have := HJ4.out; have := HK3.out; omega⟩, ⟨by repeat (first | (with_reducible first | exact HB.out | apply below_alloc | apply pw_below_drewN | apply below_drew1 | refine below_set ?_ GE342.out) | exact HB.out)⟩⟩
     ·rw [if_neg c4] at H
      exact absurd H (by simp)
    ·rw [if_neg c3] at H
     exact absurd H (by simp)
   ·rw [if_neg c2] at H
    have c2b0 : decide (x9_1 < (l0.length : Int)) = false := decide_eq_false c2
    clear c2
    obtain rfl := Option.some.inj H
    go_wp2
    go_ret
    exact ⟨by first | rfl | (simp [errW_none, errW_some] <;> rfl) | (simp [*, errW_none, errW_some] <;> rfl), by repeat (first | (with_reducible first | exact HB.out | apply below_alloc | apply pw_below_drewN | apply below_drew1) | exact HB.out)⟩

end Go.Proofs.Ytgdndnaonmcdkaa.PAll
