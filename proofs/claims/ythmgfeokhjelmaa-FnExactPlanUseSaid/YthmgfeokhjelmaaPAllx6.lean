-- PRINTED by print.py (a twelfth state) out of the translation. Not trusted: Lean checks it.
import Derived.Test.YthmgfeokhjelmaaPAllx0
import Derived.Test.YthmgfeokhjelmaaPAllx5
namespace Go.Proofs.Ythmgfeokhjelmaa.PAll
open Go.RowKit Go.Proofs.YthmgfeokhjelmaaW.PrintWords Go.Proofs.YthmgfeokhjelmaaW.PrintLast Go.Proofs.YthmgfeokhjelmaaW.PrintMore
attribute [local go_sem] max2_int min2_int max_two min_two max_three min_three max_four min_four   -- for this text's walks alone
set_option linter.unusedVariables false
set_option linter.unusedSimpArgs false

/-! ### impl_StepsValid: function 31 -/
mutual
def impl_StepsValid.l0 : Nat → List (S40) → List (S40) → Int → Int → Option (Bool)
 | 0, _, _, _, _ => none
 | k + 1, x0, x7, x8, x9 => if x9 < x8 then (if 0 ≤ x9 then (if x9 < (x7.length : Int) then ((impl_within.f ((rd_T40 x7 x9).f0) 1 99).bind fun t162 => (if t162 = true then ((impl_within.f ((rd_T40 x7 x9).f1) 0 4).bind fun t163 => (if t163 = true then ((impl_within.f ((rd_T40 x7 x9).f2) 0 4).bind fun t164 => (impl_StepsValid.j1 k x0 x9 x7 x8 x9 (!t164) ((rd_T40 x7 x9).f0) ((rd_T40 x7 x9).f1) ((rd_T40 x7 x9).f2) ((rd_T40 x7 x9).f3))) else (impl_StepsValid.j1 k x0 x9 x7 x8 x9 true ((rd_T40 x7 x9).f0) ((rd_T40 x7 x9).f1) ((rd_T40 x7 x9).f2) ((rd_T40 x7 x9).f3)))) else (impl_StepsValid.j1 k x0 x9 x7 x8 x9 true ((rd_T40 x7 x9).f0) ((rd_T40 x7 x9).f1) ((rd_T40 x7 x9).f2) ((rd_T40 x7 x9).f3)))) else (none)) else (none)) else (some (decide ((x0.length : Int) ≤ 8)))
def impl_StepsValid.j1 : Nat → List (S40) → Int → List (S40) → Int → Int → Bool → Int → Int → Int → List Int → Option (Bool)
 | 0, _, _, _, _, _, _, _, _, _, _ => none
 | k + 1, x0, x3, x7, x8, x9, x29, x162000, x162001, x162002, x162003 => if x29 = true then (some false) else (impl_StepsValid.l1 k x0 x3 x7 x8 x9 x162003 (x162003.length : Int) 0 x162000 x162001 x162002 x162003)
def impl_StepsValid.l1 : Nat → List (S40) → Int → List (S40) → Int → Int → List Int → Int → Int → Int → Int → Int → List Int → Option (Bool)
 | 0, _, _, _, _, _, _, _, _, _, _, _, _ => none
 | k + 1, x0, x3, x7, x8, x9, x31, x32, x33, x162000, x162001, x162002, x162003 => if x33 < x32 then (if 0 ≤ x33 then (if x33 < (x31.length : Int) then ((impl_within.f (rd x31 x33) 0 (wrap64 (x3 - 1))).bind fun t166 => (if t166 = true then (if x33 > 0 then (if 0 ≤ (wrap64 (x33 - 1)) then (if (wrap64 (x33 - 1)) < (x162003.length : Int) then (if (rd x162003 (wrap64 (x33 - 1))) ≥ (rd x31 x33) then (some false) else (impl_StepsValid.l1 k x0 x3 x7 x8 x9 x31 x32 (wrap64 (x33 + 1)) x162000 x162001 x162002 x162003)) else (none)) else (none)) else (impl_StepsValid.l1 k x0 x3 x7 x8 x9 x31 x32 (wrap64 (x33 + 1)) x162000 x162001 x162002 x162003)) else (some false))) else (none)) else (none)) else (impl_StepsValid.l0 k x0 x7 x8 (wrap64 (x9 + 1)))
end
def impl_StepsValid.f (k : Nat) (l0 : List (S40)) : Option (Bool) := impl_StepsValid.l0 k l0 l0 (l0.length : Int) 0
set_option maxHeartbeats 8000000 in
set_option maxRecDepth 100000 in
theorem impl_StepsValid.calls (k : Nat) (A0 : Option Addr) (c0 : Nat) (l0 : List (S40)) (r : Bool) (w : World) (hr0 : Kd.C k40 w A0 l0.length l0) (hc0 : l0.length ≤ c0) (h : impl_StepsValid.f k l0 = some r) :
  Calls Try.prog 31 #[.slice A0 l0.length c0] w fun e w' => e = .returned (.bool r) ∧ Below w.heap.size w w' := by
 have hu40 := Try.underlying40
 have HR0 := Aside0.mk hr0
 have HC0 := Aside0.mk hc0
 clear hr0 hc0
 have HB := Aside0.mk (Below.refl w.heap.size w)
 have H : (impl_StepsValid.l0 k l0 l0 (l0.length : Int) 0) = some r := h
 clear h
 have H' := Aside0.mk H
 clear H
 go_enter Try.func31, Try.ntmps31
 go_wp2
 go_loopg [9] k (fun kq v9 w' => ∃ (x9_1 : Int), v9 = .int .i64 x9_1 ∧ Aside0 (impl_StepsValid.l0 kq l0 l0 (l0.length : Int) x9_1 = some r) ∧ Aside0 (kq ≤ k) ∧ Aside0 (Below w.heap.size w w'))
 case atStart => exact ⟨(0), (by first | rfl | (simp; done) | (simp [*]; done) | (simp only [wrap64, IntKind.wrap_i64]; done) | (simp [wrap64, IntKind.wrap_i64]; done)), H', ⟨Nat.le_refl _⟩, ⟨by repeat (first | (with_reducible first | exact HB.out | apply below_alloc | apply pw_below_drewN | apply below_drew1) | exact HB.out)⟩⟩
 case round =>
  clear H'
  obtain ⟨x9_1, rfl, HA, HK1, HB⟩ := hrel
  cases gk with
  | zero => exact absurd HA.out (by simp [impl_StepsValid.l0])
  | succ k1 =>
   have H := HA.out
   clear HA
   simp only [impl_StepsValid.l0] at H
   by_cases c2 : x9_1 < (l0.length : Int)
   ·rw [if_pos c2] at H
    have c2b0 : decide (x9_1 < (l0.length : Int)) = true := decide_eq_true c2
    clear c2
    by_cases c3 : 0 ≤ x9_1
    ·rw [if_pos c3] at H
     have c3b0 : decide (0 ≤ x9_1) = true := decide_eq_true c3
     clear c3
     by_cases c4 : x9_1 < (l0.length : Int)
     ·rw [if_pos c4] at H
      have c4b0 : decide (x9_1 < (l0.length : Int)) = true := decide_eq_true c4
      clear c4
      have HC5 := Aside0.mk H
      clear H
      have p160 : 0 ≤ (x9_1 : Int) := of_decide_eq_true (by first | (with_reducible assumption) | assumption)
      have q160 : x9_1 < (l0.length : Int) := of_decide_eq_true (by first | (with_reducible assumption) | assumption)
      obtain ⟨ad160, A160_3, c160_3, e160, hx160_0, hx160_1, hx160_2, hx160_3, hl160_3, hi160_3⟩ := at_T40 HR0.out x9_1 p160 q160
      cases e160
      replace hx160_0 := (HB.out.cell (World.block_lt_of_cell? w _ hx160_0)).trans hx160_0
      replace hx160_1 := (HB.out.cell (World.block_lt_of_cell? w _ hx160_1)).trans hx160_1
      replace hx160_2 := (HB.out.cell (World.block_lt_of_cell? w _ hx160_2)).trans hx160_2
      replace hx160_3 := (HB.out.cell (World.block_lt_of_cell? w _ hx160_3)).trans hx160_3
      have HR160_3 := Aside0.mk hi160_3
      have HC160_3 := Aside0.mk hl160_3
      clear hi160_3 hl160_3
      replace p160 := eq_true p160
      replace q160 := eq_true q160
      go_upto_region 4 with (first | ((with_reducible refine gate_dst (N := 4) rfl ?_); refine box_event ?hg (N := 4) ?hd (cs := #[.int .i64 0, .int .i64 0, .int .i64 0, .slice none 0 0]) (t := 40) ?hr ?_; (case hd => rfl); (case hg => rfl); (case hr => first | (go_simp; done) | (go_simp; rfl)); intro gb161 hg w6 hbox hb; have n0_ := Aside0.mk (below_step (by repeat (first | (with_reducible first | exact HB.out | apply below_alloc | apply pw_below_drewN | apply below_drew1) | exact HB.out)) hb); have n1_ := Aside0.mk (hbox); have n2_ := Aside0.mk ((by rw [hg]; exact (below_size (by repeat (first | (with_reducible first | exact HB.out | apply below_alloc | apply pw_below_drewN | apply below_drew1) | exact HB.out))) : w.heap.size ≤ gb161)); have n3_ := Aside0.mk ((by rw [hg]; exact (below_size (by repeat (first | (with_reducible first | exact HB.out | apply below_alloc | apply pw_below_drewN | apply below_drew1) | exact HB.out))) : w.heap.size ≤ gb161)); clear HB; have HB := n0_; have BK161 := n1_; have GW161 := n2_; have GE161 := n3_; clear n0_ n1_ n2_ n3_; clear hb hbox hg; have hcz7_0 : w6.cell? ⟨gb161, 0, none⟩ = some (.int .i64 0) := (blk_cell BK161.out 0).trans rfl; have hcz7_1 : w6.cell? ⟨gb161, 1, none⟩ = some (.int .i64 0) := (blk_cell BK161.out 1).trans rfl; have hcz7_2 : w6.cell? ⟨gb161, 2, none⟩ = some (.int .i64 0) := (blk_cell BK161.out 2).trans rfl; have hcz7_3 : w6.cell? ⟨gb161, 3, none⟩ = some (.slice none 0 0) := (blk_cell BK161.out 3).trans rfl; have hfz7_0 := blk_frozen BK161.out 0; have hfz7_1 := blk_frozen BK161.out 1; have hfz7_2 := blk_frozen BK161.out 2; have hfz7_3 := blk_frozen BK161.out 3))
      (try simp only [Act.put, List.setIfInBounds_toArray, List.set_cons_zero, List.set_cons_succ])
      go_cut [29] (fun v29 wc => ∃ (kq : Nat) (x29_4 : Bool), v29 = .bool x29_4 ∧ Aside0 (impl_StepsValid.j1 kq l0 x9_1 l0 (l0.length : Int) x9_1 x29_4 ((rd_T40 l0 x9_1).f0) ((rd_T40 l0 x9_1).f1) ((rd_T40 l0 x9_1).f2) ((rd_T40 l0 x9_1).f3) = some r) ∧ Aside0 (kq ≤ k1) ∧ Aside0 (wc.heap[gb161]? = some (.cells #[.int .i64 ((rd_T40 l0 x9_1).f0), .int .i64 ((rd_T40 l0 x9_1).f1), .int .i64 ((rd_T40 l0 x9_1).f2), (.slice A160_3 ((rd_T40 l0 x9_1).f3).length c160_3)] 40 (0, 0))) ∧ Aside0 (Below w.heap.size w wc))
      case first =>
       have H := HC5.out
       clear HC5
       replace H := Option.bind_eq_some_iff.mp H
       obtain ⟨t162, A80, H⟩ := H
       replace H : (if t162 = true then ((impl_within.f ((rd_T40 l0 x9_1).f1) 0 4).bind fun t163 => (if t163 = true then ((impl_within.f ((rd_T40 l0 x9_1).f2) 0 4).bind fun t164 => (impl_StepsValid.j1 k1 l0 x9_1 l0 (l0.length : Int) x9_1 (!t164) ((rd_T40 l0 x9_1).f0) ((rd_T40 l0 x9_1).f1) ((rd_T40 l0 x9_1).f2) ((rd_T40 l0 x9_1).f3))) else (impl_StepsValid.j1 k1 l0 x9_1 l0 (l0.length : Int) x9_1 true ((rd_T40 l0 x9_1).f0) ((rd_T40 l0 x9_1).f1) ((rd_T40 l0 x9_1).f2) ((rd_T40 l0 x9_1).f3)))) else (impl_StepsValid.j1 k1 l0 x9_1 l0 (l0.length : Int) x9_1 true ((rd_T40 l0 x9_1).f0) ((rd_T40 l0 x9_1).f1) ((rd_T40 l0 x9_1).f2) ((rd_T40 l0 x9_1).f3))) = some r := H
       have A8 := Aside0.mk A80
       clear A80
       by_cases c9 : t162 = true
       ·subst c9
        have H1 : ((impl_within.f ((rd_T40 l0 x9_1).f1) 0 4).bind fun t163 => (if t163 = true then ((impl_within.f ((rd_T40 l0 x9_1).f2) 0 4).bind fun t164 => (impl_StepsValid.j1 k1 l0 x9_1 l0 (l0.length : Int) x9_1 (!t164) ((rd_T40 l0 x9_1).f0) ((rd_T40 l0 x9_1).f1) ((rd_T40 l0 x9_1).f2) ((rd_T40 l0 x9_1).f3))) else (impl_StepsValid.j1 k1 l0 x9_1 l0 (l0.length : Int) x9_1 true ((rd_T40 l0 x9_1).f0) ((rd_T40 l0 x9_1).f1) ((rd_T40 l0 x9_1).f2) ((rd_T40 l0 x9_1).f3)))) = some r := by rw [if_pos rfl] at H; exact H
        clear H
        have H := H1
        clear H1
        replace H := Option.bind_eq_some_iff.mp H
        obtain ⟨t163, A100, H⟩ := H
        replace H : (if t163 = true then ((impl_within.f ((rd_T40 l0 x9_1).f2) 0 4).bind fun t164 => (impl_StepsValid.j1 k1 l0 x9_1 l0 (l0.length : Int) x9_1 (!t164) ((rd_T40 l0 x9_1).f0) ((rd_T40 l0 x9_1).f1) ((rd_T40 l0 x9_1).f2) ((rd_T40 l0 x9_1).f3))) else (impl_StepsValid.j1 k1 l0 x9_1 l0 (l0.length : Int) x9_1 true ((rd_T40 l0 x9_1).f0) ((rd_T40 l0 x9_1).f1) ((rd_T40 l0 x9_1).f2) ((rd_T40 l0 x9_1).f3))) = some r := H
        have A10 := Aside0.mk A100
        clear A100
        by_cases c11 : t163 = true
        ·subst c11
         have H1 : ((impl_within.f ((rd_T40 l0 x9_1).f2) 0 4).bind fun t164 => (impl_StepsValid.j1 k1 l0 x9_1 l0 (l0.length : Int) x9_1 (!t164) ((rd_T40 l0 x9_1).f0) ((rd_T40 l0 x9_1).f1) ((rd_T40 l0 x9_1).f2) ((rd_T40 l0 x9_1).f3))) = some r := by rw [if_pos rfl] at H; exact H
         clear H
         have H := H1
         clear H1
         replace H := Option.bind_eq_some_iff.mp H
         obtain ⟨t164, A120, H⟩ := H
         replace H : (impl_StepsValid.j1 k1 l0 x9_1 l0 (l0.length : Int) x9_1 (!t164) ((rd_T40 l0 x9_1).f0) ((rd_T40 l0 x9_1).f1) ((rd_T40 l0 x9_1).f2) ((rd_T40 l0 x9_1).f3)) = some r := H
         have A12 := Aside0.mk A120
         clear A120
         have H' := Aside0.mk H
         clear H
         have hcz13_0 : w6.cell? ⟨gb161, 0, none⟩ = some (.int .i64 0) := (blk_cell BK161.out 0).trans rfl
         have hcz13_1 : w6.cell? ⟨gb161, 1, none⟩ = some (.int .i64 0) := (blk_cell BK161.out 1).trans rfl
         have hcz13_2 : w6.cell? ⟨gb161, 2, none⟩ = some (.int .i64 0) := (blk_cell BK161.out 2).trans rfl
         have hcz13_3 : w6.cell? ⟨gb161, 3, none⟩ = some (.slice none 0 0) := (blk_cell BK161.out 3).trans rfl
         have hfz13_0 := blk_frozen BK161.out 0
         have hfz13_1 := blk_frozen BK161.out 1
         have hfz13_2 := blk_frozen BK161.out 2
         have hfz13_3 := blk_frozen BK161.out 3
         go_wp2_with (first | ((with_reducible refine gate_callee (f := 38) rfl ?_); refine goesL_ (some 16) rfl rfl Try.func38 (by kernel_rfl) rfl #[.int .i64 ((rd_T40 l0 x9_1).f0), .int .i64 1, .int .i64 99] rfl (by (try simp only [List.map_toArray, List.map_cons, List.map_nil]); first | done | rfl | (simp only [List.length_drop, List.length_take]; rfl)) ?_; (with_reducible refine (impl_within.calls ((rd_T40 l0 x9_1).f0) 1 99 true _ A8.out).mono ?_); rintro e w' ⟨rfl, ⟨nd, rfl⟩⟩; refine ⟨_, rfl, ?_⟩) | (go_at_call 38; (with_reducible refine (impl_within.calls ((rd_T40 l0 x9_1).f1) 0 4 true _ A10.out).mono ?_); rintro e w' ⟨rfl, ⟨nd, rfl⟩⟩) | (go_at_call 38; (with_reducible refine (impl_within.calls ((rd_T40 l0 x9_1).f2) 0 4 t164 _ A12.out).mono ?_); rintro e w' ⟨rfl, ⟨nd, rfl⟩⟩))
         go_meet
         case rel => exact ⟨_, (!t164), (by first | rfl | (simp; done) | (simp [*]; done) | (simp only [wrap64, IntKind.wrap_i64]; done) | (simp [wrap64, IntKind.wrap_i64]; done)), H', ⟨by have := HK1.out; first | omega | exact Nat.le_refl _⟩, ⟨by (with_reducible repeat (first | refine blk_drewN ?_ _ | refine blk_drew ?_ | refine blk_alloc ?_ _)); refine blk_put (cs := #[.int .i64 ((rd_T40 l0 x9_1).f0), .int .i64 ((rd_T40 l0 x9_1).f1), .int .i64 ((rd_T40 l0 x9_1).f2), .slice none 0 0]) ?_ 3 _ rfl; (with_reducible repeat (first | refine blk_drewN ?_ _ | refine blk_drew ?_ | refine blk_alloc ?_ _)); refine blk_put (cs := #[.int .i64 ((rd_T40 l0 x9_1).f0), .int .i64 ((rd_T40 l0 x9_1).f1), .int .i64 0, .slice none 0 0]) ?_ 2 _ rfl; (with_reducible repeat (first | refine blk_drewN ?_ _ | refine blk_drew ?_ | refine blk_alloc ?_ _)); refine blk_put (cs := #[.int .i64 ((rd_T40 l0 x9_1).f0), .int .i64 0, .int .i64 0, .slice none 0 0]) ?_ 1 _ rfl; (with_reducible repeat (first | refine blk_drewN ?_ _ | refine blk_drew ?_ | refine blk_alloc ?_ _)); refine blk_put (cs := #[.int .i64 0, .int .i64 0, .int .i64 0, .slice none 0 0]) ?_ 0 _ rfl; (with_reducible repeat (first | refine blk_drewN ?_ _ | refine blk_drew ?_ | refine blk_alloc ?_ _)); exact BK161.out⟩, ⟨by repeat (first | (with_reducible first | exact HB.out | apply below_alloc | apply pw_below_drewN | apply below_drew1 | refine below_set ?_ GE161.out) | exact HB.out)⟩⟩
        ·replace c11 := Bool.eq_false_iff.mpr c11
         subst c11
         have H1 : (impl_StepsValid.j1 k1 l0 x9_1 l0 (l0.length : Int) x9_1 true ((rd_T40 l0 x9_1).f0) ((rd_T40 l0 x9_1).f1) ((rd_T40 l0 x9_1).f2) ((rd_T40 l0 x9_1).f3)) = some r := by rw [if_neg (show ¬ (false = true) by decide)] at H; exact H
         clear H
         have H := H1
         clear H1
         have H' := Aside0.mk H
         clear H
         have hcz14_0 : w6.cell? ⟨gb161, 0, none⟩ = some (.int .i64 0) := (blk_cell BK161.out 0).trans rfl
         have hcz14_1 : w6.cell? ⟨gb161, 1, none⟩ = some (.int .i64 0) := (blk_cell BK161.out 1).trans rfl
         have hcz14_2 : w6.cell? ⟨gb161, 2, none⟩ = some (.int .i64 0) := (blk_cell BK161.out 2).trans rfl
         have hcz14_3 : w6.cell? ⟨gb161, 3, none⟩ = some (.slice none 0 0) := (blk_cell BK161.out 3).trans rfl
         have hfz14_0 := blk_frozen BK161.out 0
         have hfz14_1 := blk_frozen BK161.out 1
         have hfz14_2 := blk_frozen BK161.out 2
         have hfz14_3 := blk_frozen BK161.out 3
         go_wp2_with (first | ((with_reducible refine gate_callee (f := 38) rfl ?_); refine goesL_ (some 16) rfl rfl Try.func38 (by kernel_rfl) rfl #[.int .i64 ((rd_T40 l0 x9_1).f0), .int .i64 1, .int .i64 99] rfl (by (try simp only [List.map_toArray, List.map_cons, List.map_nil]); first | done | rfl | (simp only [List.length_drop, List.length_take]; rfl)) ?_; (with_reducible refine (impl_within.calls ((rd_T40 l0 x9_1).f0) 1 99 true _ A8.out).mono ?_); rintro e w' ⟨rfl, ⟨nd, rfl⟩⟩; refine ⟨_, rfl, ?_⟩) | (go_at_call 38; (with_reducible refine (impl_within.calls ((rd_T40 l0 x9_1).f1) 0 4 false _ A10.out).mono ?_); rintro e w' ⟨rfl, ⟨nd, rfl⟩⟩))
         go_meet
         case rel => exact ⟨_, (true), (by first | rfl | (simp; done) | (simp [*]; done) | (simp only [wrap64, IntKind.wrap_i64]; done) | (simp [wrap64, IntKind.wrap_i64]; done)), H', ⟨by have := HK1.out; first | omega | exact Nat.le_refl _⟩, ⟨by (with_reducible repeat (first | refine blk_drewN ?_ _ | refine blk_drew ?_ | refine blk_alloc ?_ _)); refine blk_put (cs := #[.int .i64 ((rd_T40 l0 x9_1).f0), .int .i64 ((rd_T40 l0 x9_1).f1), .int .i64 ((rd_T40 l0 x9_1).f2), .slice none 0 0]) ?_ 3 _ rfl; (with_reducible repeat (first | refine blk_drewN ?_ _ | refine blk_drew ?_ | refine blk_alloc ?_ _)); refine blk_put (cs := #[.int .i64 ((rd_T40 l0 x9_1).f0), .int .i64 ((rd_T40 l0 x9_1).f1), .int .i64 0, .slice none 0 0]) ?_ 2 _ rfl; (with_reducible repeat (first | refine blk_drewN ?_ _ | refine blk_drew ?_ | refine blk_alloc ?_ _)); refine blk_put (cs := #[.int .i64 ((rd_T40 l0 x9_1).f0), .int .i64 0, .int .i64 0, .slice none 0 0]) ?_ 1 _ rfl; (with_reducible repeat (first | refine blk_drewN ?_ _ | refine blk_drew ?_ | refine blk_alloc ?_ _)); refine blk_put (cs := #[.int .i64 0, .int .i64 0, .int .i64 0, .slice none 0 0]) ?_ 0 _ rfl; (with_reducible repeat (first | refine blk_drewN ?_ _ | refine blk_drew ?_ | refine blk_alloc ?_ _)); exact BK161.out⟩, ⟨by repeat (first | (with_reducible first | exact HB.out | apply below_alloc | apply pw_below_drewN | apply below_drew1 | refine below_set ?_ GE161.out) | exact HB.out)⟩⟩
       ·replace c9 := Bool.eq_false_iff.mpr c9
        subst c9
        have H1 : (impl_StepsValid.j1 k1 l0 x9_1 l0 (l0.length : Int) x9_1 true ((rd_T40 l0 x9_1).f0) ((rd_T40 l0 x9_1).f1) ((rd_T40 l0 x9_1).f2) ((rd_T40 l0 x9_1).f3)) = some r := by rw [if_neg (show ¬ (false = true) by decide)] at H; exact H
        clear H
        have H := H1
        clear H1
        have H' := Aside0.mk H
        clear H
        have hcz15_0 : w6.cell? ⟨gb161, 0, none⟩ = some (.int .i64 0) := (blk_cell BK161.out 0).trans rfl
        have hcz15_1 : w6.cell? ⟨gb161, 1, none⟩ = some (.int .i64 0) := (blk_cell BK161.out 1).trans rfl
        have hcz15_2 : w6.cell? ⟨gb161, 2, none⟩ = some (.int .i64 0) := (blk_cell BK161.out 2).trans rfl
        have hcz15_3 : w6.cell? ⟨gb161, 3, none⟩ = some (.slice none 0 0) := (blk_cell BK161.out 3).trans rfl
        have hfz15_0 := blk_frozen BK161.out 0
        have hfz15_1 := blk_frozen BK161.out 1
        have hfz15_2 := blk_frozen BK161.out 2
        have hfz15_3 := blk_frozen BK161.out 3
        go_wp2_with (first | ((with_reducible refine gate_callee (f := 38) rfl ?_); refine goesL_ (some 16) rfl rfl Try.func38 (by kernel_rfl) rfl #[.int .i64 ((rd_T40 l0 x9_1).f0), .int .i64 1, .int .i64 99] rfl (by (try simp only [List.map_toArray, List.map_cons, List.map_nil]); first | done | rfl | (simp only [List.length_drop, List.length_take]; rfl)) ?_; (with_reducible refine (impl_within.calls ((rd_T40 l0 x9_1).f0) 1 99 false _ A8.out).mono ?_); rintro e w' ⟨rfl, ⟨nd, rfl⟩⟩; refine ⟨_, rfl, ?_⟩))
        go_meet
        case rel => exact ⟨_, (true), (by first | rfl | (simp; done) | (simp [*]; done) | (simp only [wrap64, IntKind.wrap_i64]; done) | (simp [wrap64, IntKind.wrap_i64]; done)), H', ⟨by have := HK1.out; first | omega | exact Nat.le_refl _⟩, ⟨by (with_reducible repeat (first | refine blk_drewN ?_ _ | refine blk_drew ?_ | refine blk_alloc ?_ _)); refine blk_put (cs := #[.int .i64 ((rd_T40 l0 x9_1).f0), .int .i64 ((rd_T40 l0 x9_1).f1), .int .i64 ((rd_T40 l0 x9_1).f2), .slice none 0 0]) ?_ 3 _ rfl; (with_reducible repeat (first | refine blk_drewN ?_ _ | refine blk_drew ?_ | refine blk_alloc ?_ _)); refine blk_put (cs := #[.int .i64 ((rd_T40 l0 x9_1).f0), .int .i64 ((rd_T40 l0 x9_1).f1), .int .i64 0, .slice none 0 0]) ?_ 2 _ rfl; (with_reducible repeat (first | refine blk_drewN ?_ _ | refine blk_drew ?_ | refine blk_alloc ?_ _)); refine blk_put (cs := #[.int .i64 ((rd_T40 l0 x9_1).f0), .int .i64 0, .int .i64 0, .slice none 0 0]) ?_ 1 _ rfl; (with_reducible repeat (first | refine blk_drewN ?_ _ | refine blk_drew ?_ | refine blk_alloc ?_ _)); refine blk_put (cs := #[.int .i64 0, .int .i64 0, .int .i64 0, .slice none 0 0]) ?_ 0 _ rfl; (with_reducible repeat (first | refine blk_drewN ?_ _ | refine blk_drew ?_ | refine blk_alloc ?_ _)); exact BK161.out⟩, ⟨by repeat (first | (with_reducible first | exact HB.out | apply below_alloc | apply pw_below_drewN | apply below_drew1 | refine below_set ?_ GE161.out) | exact HB.out)⟩⟩
      case rest =>
       clear HC5
       try clear c1
       try clear p1
       try clear q1
       try clear hx1
       try clear c2
       try clear c2b0
       try clear p2
       try clear c3
       try clear c3b0
       try clear c4
       try clear c4b0
       try clear c9
       try clear c11
       try clear hcz13_0
       try clear hcz13_1
       try clear hcz13_2
       try clear hcz13_3
       try clear hcz14_0
       try clear hcz14_1
       try clear hcz14_2
       try clear hcz14_3
       try clear hcz15_0
       try clear hcz15_1
       try clear hcz15_2
       try clear hcz15_3
       try clear hcz7_0
       try clear hcz7_1
       try clear hcz7_2
       try clear hcz7_3
       try clear hfz13_0
       try clear hfz13_1
       try clear hfz13_2
       try clear hfz13_3
       try clear hfz14_0
       try clear hfz14_1
       try clear hfz14_2
       try clear hfz14_3
       try clear hfz15_0
       try clear hfz15_1
       try clear hfz15_2
       try clear hfz15_3
       try clear hfz7_0
       try clear hfz7_1
       try clear hfz7_2
       try clear hfz7_3
       try clear hx160_0
       try clear hx160_1
       try clear hx160_2
       try clear hx160_3
       try clear p160
       try clear q160
       obtain ⟨kq, x29_4, rfl, HA, HJ4, BK161, HB⟩ := hcut
       cases kq with
       | zero => exact absurd HA.out (by simp [impl_StepsValid.j1])
       | succ kj4 =>
        have H := HA.out
        clear HA
        simp only [impl_StepsValid.j1] at H
        by_cases c16 : x29_4 = true
        ·subst c16
         have H1 : (some false) = some r := by rw [if_pos rfl] at H; exact H
         clear H
         have H := H1
         clear H1
         obtain rfl := Option.some.inj H
         go_wp2
         go_ret
         exact ⟨by first | rfl | (simp [errW_none, errW_some] <;> rfl) | (simp [*, errW_none, errW_some] <;> rfl), by repeat (first | (with_reducible first | exact HB.out | apply below_alloc | apply pw_below_drewN | apply below_drew1 | refine below_set ?_ GE161.out) | exact HB.out)⟩
        ·replace c16 := Bool.eq_false_iff.mpr c16
         subst c16
         have H1 : (impl_StepsValid.l1 kj4 l0 x9_1 l0 (l0.length : Int) x9_1 ((rd_T40 l0 x9_1).f3) (((rd_T40 l0 x9_1).f3).length : Int) 0 ((rd_T40 l0 x9_1).f0) ((rd_T40 l0 x9_1).f1) ((rd_T40 l0 x9_1).f2) ((rd_T40 l0 x9_1).f3)) = some r := by rw [if_neg (show ¬ (false = true) by decide)] at H; exact H
         clear H
         have H := H1
         clear H1
         have H' := Aside0.mk H
         clear H
         have hcz17_0 : wc.cell? ⟨gb161, 0, none⟩ = some (.int .i64 ((rd_T40 l0 x9_1).f0)) := (blk_cell BK161.out 0).trans rfl
         have hcz17_1 : wc.cell? ⟨gb161, 1, none⟩ = some (.int .i64 ((rd_T40 l0 x9_1).f1)) := (blk_cell BK161.out 1).trans rfl
         have hcz17_2 : wc.cell? ⟨gb161, 2, none⟩ = some (.int .i64 ((rd_T40 l0 x9_1).f2)) := (blk_cell BK161.out 2).trans rfl
         have hcz17_3 : wc.cell? ⟨gb161, 3, none⟩ = some (.slice A160_3 ((rd_T40 l0 x9_1).f3).length c160_3) := (blk_cell BK161.out 3).trans rfl
         have hfz17_0 := blk_frozen BK161.out 0
         have hfz17_1 := blk_frozen BK161.out 1
         have hfz17_2 := blk_frozen BK161.out 2
         have hfz17_3 := blk_frozen BK161.out 3
         go_wp2
         go_loopg [33] kj4 (fun kq v33 w' => ∃ (x33_3 : Int), v33 = .int .i64 x33_3 ∧ Aside0 (impl_StepsValid.l1 kq l0 x9_1 l0 (l0.length : Int) x9_1 ((rd_T40 l0 x9_1).f3) (((rd_T40 l0 x9_1).f3).length : Int) x33_3 ((rd_T40 l0 x9_1).f0) ((rd_T40 l0 x9_1).f1) ((rd_T40 l0 x9_1).f2) ((rd_T40 l0 x9_1).f3) = some r) ∧ Aside0 (kq ≤ kj4) ∧ Aside0 (w'.heap[gb161]? = some (.cells #[.int .i64 ((rd_T40 l0 x9_1).f0), .int .i64 ((rd_T40 l0 x9_1).f1), .int .i64 ((rd_T40 l0 x9_1).f2), (.slice A160_3 ((rd_T40 l0 x9_1).f3).length c160_3)] 40 (0, 0))) ∧ Aside0 (Below w.heap.size w w'))
         case atStart => exact ⟨(0), (by first | rfl | (simp; done) | (simp [*]; done) | (simp only [wrap64, IntKind.wrap_i64]; done) | (simp [wrap64, IntKind.wrap_i64]; done)), H', ⟨Nat.le_refl _⟩, ⟨by (with_reducible repeat (first | refine blk_drewN ?_ _ | refine blk_drew ?_ | refine blk_alloc ?_ _)); exact BK161.out⟩, ⟨by repeat (first | (with_reducible first | exact HB.out | apply below_alloc | apply pw_below_drewN | apply below_drew1 | refine below_set ?_ GE161.out) | exact HB.out)⟩⟩
         case round =>
          clear H'
          try clear c1
          try clear p1
          try clear q1
          try clear hx1
          try clear c2
          try clear c2b0
          try clear p2
          try clear c3
          try clear c3b0
          try clear c4
          try clear c4b0
          try clear c9
          try clear c11
          try clear c16
          try clear p16
          try clear q16
          try clear hx16
          try clear hcz13_0
          try clear hcz13_1
          try clear hcz13_2
          try clear hcz13_3
          try clear hcz14_0
          try clear hcz14_1
          try clear hcz14_2
          try clear hcz14_3
          try clear hcz15_0
          try clear hcz15_1
          try clear hcz15_2
          try clear hcz15_3
          try clear hcz17_0
          try clear hcz17_1
          try clear hcz17_2
          try clear hcz17_3
          try clear hcz7_0
          try clear hcz7_1
          try clear hcz7_2
          try clear hcz7_3
          try clear hfz13_0
          try clear hfz13_1
          try clear hfz13_2
          try clear hfz13_3
          try clear hfz14_0
          try clear hfz14_1
          try clear hfz14_2
          try clear hfz14_3
          try clear hfz15_0
          try clear hfz15_1
          try clear hfz15_2
          try clear hfz15_3
          try clear hfz17_0
          try clear hfz17_1
          try clear hfz17_2
          try clear hfz17_3
          try clear hfz7_0
          try clear hfz7_1
          try clear hfz7_2
          try clear hfz7_3
          try clear hx160_0
          try clear hx160_1
          try clear hx160_2
          try clear hx160_3
          try clear p1
          try clear p160
          try clear p2
          try clear q1
          try clear q160
          obtain ⟨x33_3, rfl, HA, HK3, BK161, HB⟩ := hrel
          cases gk with
          | zero => exact absurd HA.out (by simp [impl_StepsValid.l1])
          | succ k3 =>
           have H := HA.out
           clear HA
           simp only [impl_StepsValid.l1] at H
           by_cases c18 : x33_3 < (((rd_T40 l0 x9_1).f3).length : Int)
           ·rw [if_pos c18] at H
            have c18b0 : decide (x33_3 < (((rd_T40 l0 x9_1).f3).length : Int)) = true := decide_eq_true c18
            clear c18
            by_cases c19 : 0 ≤ x33_3
            ·rw [if_pos c19] at H
             have c19b0 : decide (0 ≤ x33_3) = true := decide_eq_true c19
             clear c19
             by_cases c20 : x33_3 < (((rd_T40 l0 x9_1).f3).length : Int)
             ·rw [if_pos c20] at H
              have c20b0 : decide (x33_3 < (((rd_T40 l0 x9_1).f3).length : Int)) = true := decide_eq_true c20
              clear c20
              replace H := Option.bind_eq_some_iff.mp H
              obtain ⟨t166, A210, H⟩ := H
              replace H : (if t166 = true then (if x33_3 > 0 then (if 0 ≤ (wrap64 (x33_3 - 1)) then (if (wrap64 (x33_3 - 1)) < (((rd_T40 l0 x9_1).f3).length : Int) then (if (rd ((rd_T40 l0 x9_1).f3) (wrap64 (x33_3 - 1))) ≥ (rd ((rd_T40 l0 x9_1).f3) x33_3) then (some false) else (impl_StepsValid.l1 k3 l0 x9_1 l0 (l0.length : Int) x9_1 ((rd_T40 l0 x9_1).f3) (((rd_T40 l0 x9_1).f3).length : Int) (wrap64 (x33_3 + 1)) ((rd_T40 l0 x9_1).f0) ((rd_T40 l0 x9_1).f1) ((rd_T40 l0 x9_1).f2) ((rd_T40 l0 x9_1).f3))) else (none)) else (none)) else (impl_StepsValid.l1 k3 l0 x9_1 l0 (l0.length : Int) x9_1 ((rd_T40 l0 x9_1).f3) (((rd_T40 l0 x9_1).f3).length : Int) (wrap64 (x33_3 + 1)) ((rd_T40 l0 x9_1).f0) ((rd_T40 l0 x9_1).f1) ((rd_T40 l0 x9_1).f2) ((rd_T40 l0 x9_1).f3))) else (some false)) = some r := H
              have A21 := Aside0.mk A210
              clear A210
              by_cases c22 : t166 = true
              ·subst c22
               have H1 : (if x33_3 > 0 then (if 0 ≤ (wrap64 (x33_3 - 1)) then (if (wrap64 (x33_3 - 1)) < (((rd_T40 l0 x9_1).f3).length : Int) then (if (rd ((rd_T40 l0 x9_1).f3) (wrap64 (x33_3 - 1))) ≥ (rd ((rd_T40 l0 x9_1).f3) x33_3) then (some false) else (impl_StepsValid.l1 k3 l0 x9_1 l0 (l0.length : Int) x9_1 ((rd_T40 l0 x9_1).f3) (((rd_T40 l0 x9_1).f3).length : Int) (wrap64 (x33_3 + 1)) ((rd_T40 l0 x9_1).f0) ((rd_T40 l0 x9_1).f1) ((rd_T40 l0 x9_1).f2) ((rd_T40 l0 x9_1).f3))) else (none)) else (none)) else (impl_StepsValid.l1 k3 l0 x9_1 l0 (l0.length : Int) x9_1 ((rd_T40 l0 x9_1).f3) (((rd_T40 l0 x9_1).f3).length : Int) (wrap64 (x33_3 + 1)) ((rd_T40 l0 x9_1).f0) ((rd_T40 l0 x9_1).f1) ((rd_T40 l0 x9_1).f2) ((rd_T40 l0 x9_1).f3))) = some r := by rw [if_pos rfl] at H; exact H
               clear H
               have H := H1
               clear H1
               by_cases c23 : x33_3 > 0
               ·rw [if_pos c23] at H
                have c23b0 : decide (0 < x33_3) = true := decide_eq_true c23
                clear c23
                obtain ⟨ji24, hji24⟩ : ∃ j_ : Int, (wrap64 (x33_3 - 1)) = j_ := ⟨_, rfl⟩
                replace H : (if 0 ≤ (ji24) then (if (ji24) < (((rd_T40 l0 x9_1).f3).length : Int) then (if (rd ((rd_T40 l0 x9_1).f3) (ji24)) ≥ (rd ((rd_T40 l0 x9_1).f3) x33_3) then (some false) else (impl_StepsValid.l1 k3 l0 x9_1 l0 (l0.length : Int) x9_1 ((rd_T40 l0 x9_1).f3) (((rd_T40 l0 x9_1).f3).length : Int) (wrap64 (x33_3 + 1)) ((rd_T40 l0 x9_1).f0) ((rd_T40 l0 x9_1).f1) ((rd_T40 l0 x9_1).f2) ((rd_T40 l0 x9_1).f3))) else (none)) else (none)) = some r := by first | (rw [hji24] at H; exact H) | (simp only [hji24] at H ⊢; exact H)
                (try rw [hji24] at A21)
                have hji24w : (IntKind.i64.wrap (x33_3 - 1)) = ji24 := (i64_w _).trans hji24
                by_cases c25 : 0 ≤ (ji24)
                ·rw [if_pos c25] at H
                 have c25b0 : decide (0 ≤ (ji24)) = true := decide_eq_true c25
                 clear c25
                 by_cases c26 : (ji24) < (((rd_T40 l0 x9_1).f3).length : Int)
                 ·rw [if_pos c26] at H
                  have c26b0 : decide ((ji24) < (((rd_T40 l0 x9_1).f3).length : Int)) = true := decide_eq_true c26
                  clear c26
                  by_cases c27 : (rd ((rd_T40 l0 x9_1).f3) (ji24)) ≥ (rd ((rd_T40 l0 x9_1).f3) x33_3)
                  ·rw [if_pos c27] at H
                   have c27b0 : decide ((rd ((rd_T40 l0 x9_1).f3) x33_3) ≤ (rd ((rd_T40 l0 x9_1).f3) (ji24))) = true := decide_eq_true c27
                   clear c27
                   obtain rfl := Option.some.inj H
                   have p165 : 0 ≤ (x33_3 : Int) := of_decide_eq_true (by first | (with_reducible assumption) | assumption)
                   have q165 : x33_3 < (((rd_T40 l0 x9_1).f3).length : Int) := of_decide_eq_true (by first | (with_reducible assumption) | assumption)
                   obtain ⟨ad165, e165, hx165_0⟩ := Kd.at_int HR160_3.out x33_3 p165 q165
                   cases e165
                   replace hx165_0 := (HB.out.cell (World.block_lt_of_cell? w _ hx165_0)).trans hx165_0
                   replace p165 := eq_true p165
                   replace q165 := eq_true q165
                   go_wp2_with (first | ((with_reducible refine gate_callee (f := 38) rfl ?_); refine goesL_ (some 41) rfl rfl Try.func38 (by kernel_rfl) rfl #[.int .i64 (rd ((rd_T40 l0 x9_1).f3) x33_3), .int .i64 0, .int .i64 (wrap64 (x9_1 - 1))] rfl (by (try simp only [List.map_toArray, List.map_cons, List.map_nil]); first | done | rfl | (simp only [List.length_drop, List.length_take]; rfl)) ?_; (with_reducible refine (impl_within.calls (rd ((rd_T40 l0 x9_1).f3) x33_3) 0 (wrap64 (x9_1 - 1)) true _ A21.out).mono ?_); rintro e w' ⟨rfl, ⟨nd, rfl⟩⟩; refine ⟨_, rfl, ?_⟩; have hcz28_0 : wr.cell? ⟨gb161, 0, none⟩ = some (.int .i64 ((rd_T40 l0 x9_1).f0)) := (blk_cell BK161.out 0).trans rfl; have hcz28_1 : wr.cell? ⟨gb161, 1, none⟩ = some (.int .i64 ((rd_T40 l0 x9_1).f1)) := (blk_cell BK161.out 1).trans rfl; have hcz28_2 : wr.cell? ⟨gb161, 2, none⟩ = some (.int .i64 ((rd_T40 l0 x9_1).f2)) := (blk_cell BK161.out 2).trans rfl; have hcz28_3 : wr.cell? ⟨gb161, 3, none⟩ = some (.slice (some ad165) ((rd_T40 l0 x9_1).f3).length c160_3) := (blk_cell BK161.out 3).trans rfl; have hfz28_0 := blk_frozen BK161.out 0; have hfz28_1 := blk_frozen BK161.out 1; have hfz28_2 := blk_frozen BK161.out 2; have hfz28_3 := blk_frozen BK161.out 3; have p167 : 0 ≤ ((ji24) : Int) := of_decide_eq_true (by first | (with_reducible assumption) | assumption); have q167 : (ji24) < (((rd_T40 l0 x9_1).f3).length : Int) := of_decide_eq_true (by first | (with_reducible assumption) | assumption); obtain ⟨ad167, e167, hx167_0⟩ := Kd.at_int HR160_3.out (ji24) p167 q167; obtain rfl : ad165 = ad167 := (by injection e167); replace hx167_0 := (HB.out.cell (World.block_lt_of_cell? w _ hx167_0)).trans hx167_0; replace p167 := eq_true p167; replace q167 := eq_true q167))
                   go_ret
                   exact ⟨by first | rfl | (simp [errW_none, errW_some] <;> rfl) | (simp only [← hji24]; first | rfl | (simp [errW_none, errW_some] <;> rfl)) | (simp [*, errW_none, errW_some] <;> rfl), by repeat (first | (with_reducible first | exact HB.out | apply below_alloc | apply pw_below_drewN | apply below_drew1 | refine below_set ?_ GE161.out) | exact HB.out)⟩
                  ·rw [if_neg c27] at H
                   have c27b0 : decide ((rd ((rd_T40 l0 x9_1).f3) x33_3) ≤ (rd ((rd_T40 l0 x9_1).f3) (ji24))) = false := decide_eq_false c27
                   clear c27
                   have H' := Aside0.mk H
                   clear H
                   have p165 : 0 ≤ (x33_3 : Int) := of_decide_eq_true (by first | (with_reducible assumption) | assumption)
                   have q165 : x33_3 < (((rd_T40 l0 x9_1).f3).length : Int) := of_decide_eq_true (by first | (with_reducible assumption) | assumption)
                   obtain ⟨ad165, e165, hx165_0⟩ := Kd.at_int HR160_3.out x33_3 p165 q165
                   cases e165
                   replace hx165_0 := (HB.out.cell (World.block_lt_of_cell? w _ hx165_0)).trans hx165_0
                   replace p165 := eq_true p165
                   replace q165 := eq_true q165
                   go_wp2_with (first | ((with_reducible refine gate_callee (f := 38) rfl ?_); refine goesL_ (some 41) rfl rfl Try.func38 (by kernel_rfl) rfl #[.int .i64 (rd ((rd_T40 l0 x9_1).f3) x33_3), .int .i64 0, .int .i64 (wrap64 (x9_1 - 1))] rfl (by (try simp only [List.map_toArray, List.map_cons, List.map_nil]); first | done | rfl | (simp only [List.length_drop, List.length_take]; rfl)) ?_; (with_reducible refine (impl_within.calls (rd ((rd_T40 l0 x9_1).f3) x33_3) 0 (wrap64 (x9_1 - 1)) true _ A21.out).mono ?_); rintro e w' ⟨rfl, ⟨nd, rfl⟩⟩; refine ⟨_, rfl, ?_⟩; have hcz29_0 : wr.cell? ⟨gb161, 0, none⟩ = some (.int .i64 ((rd_T40 l0 x9_1).f0)) := (blk_cell BK161.out 0).trans rfl; have hcz29_1 : wr.cell? ⟨gb161, 1, none⟩ = some (.int .i64 ((rd_T40 l0 x9_1).f1)) := (blk_cell BK161.out 1).trans rfl; have hcz29_2 : wr.cell? ⟨gb161, 2, none⟩ = some (.int .i64 ((rd_T40 l0 x9_1).f2)) := (blk_cell BK161.out 2).trans rfl; have hcz29_3 : wr.cell? ⟨gb161, 3, none⟩ = some (.slice (some ad165) ((rd_T40 l0 x9_1).f3).length c160_3) := (blk_cell BK161.out 3).trans rfl; have hfz29_0 := blk_frozen BK161.out 0; have hfz29_1 := blk_frozen BK161.out 1; have hfz29_2 := blk_frozen BK161.out 2; have hfz29_3 := blk_frozen BK161.out 3; have p167 : 0 ≤ ((ji24) : Int) := of_decide_eq_true (by first | (with_reducible assumption) | assumption); have q167 : (ji24) < (((rd_T40 l0 x9_1).f3).length : Int) := of_decide_eq_true (by first | (with_reducible assumption) | assumption); obtain ⟨ad167, e167, hx167_0⟩ := Kd.at_int HR160_3.out (ji24) p167 q167; obtain rfl : ad165 = ad167 := (by injection e167); replace hx167_0 := (HB.out.cell (World.block_lt_of_cell? w _ hx167_0)).trans hx167_0; replace p167 := eq_true p167; replace q167 := eq_true q167))
                   go_roundg k3
                   case measure => have := HK1.out; have := HJ4.out; have := HK3.out; omega
                   case rel => exact ⟨(wrap64 (x33_3 + 1)), (by first | rfl | (simp; done) | (simp [*]; done) | (simp only [wrap64, IntKind.wrap_i64]; done) | (simp [wrap64, IntKind.wrap_i64]; done)), H', ⟨by have := HK1.out; have := HJ4.out; have := HK3.out; omega⟩, ⟨by (with_reducible repeat (first | refine blk_drewN ?_ _ | refine blk_drew ?_ | refine blk_alloc ?_ _)); exact BK161.out⟩, ⟨by repeat (first | (with_reducible first | exact HB.out | apply below_alloc | apply pw_below_drewN | apply below_drew1 | refine below_set ?_ GE161.out) | exact HB.out)⟩⟩
                 ·rw [if_neg c26] at H
                  exact absurd H (by simp)
                ·rw [if_neg c25] at H
                 exact absurd H (by simp)
               ·rw [if_neg c23] at H
                have c23b0 : decide (0 < x33_3) = false := decide_eq_false c23
                clear c23
                have H' := Aside0.mk H
                clear H
                have p165 : 0 ≤ (x33_3 : Int) := of_decide_eq_true (by first | (with_reducible assumption) | assumption)
                have q165 : x33_3 < (((rd_T40 l0 x9_1).f3).length : Int) := of_decide_eq_true (by first | (with_reducible assumption) | assumption)
                obtain ⟨ad165, e165, hx165_0⟩ := Kd.at_int HR160_3.out x33_3 p165 q165
                cases e165
                replace hx165_0 := (HB.out.cell (World.block_lt_of_cell? w _ hx165_0)).trans hx165_0
                replace p165 := eq_true p165
                replace q165 := eq_true q165
                go_wp2_with (first | ((with_reducible refine gate_callee (f := 38) rfl ?_); refine goesL_ (some 41) rfl rfl Try.func38 (by kernel_rfl) rfl #[.int .i64 (rd ((rd_T40 l0 x9_1).f3) x33_3), .int .i64 0, .int .i64 (wrap64 (x9_1 - 1))] rfl (by (try simp only [List.map_toArray, List.map_cons, List.map_nil]); first | done | rfl | (simp only [List.length_drop, List.length_take]; rfl)) ?_; (with_reducible refine (impl_within.calls (rd ((rd_T40 l0 x9_1).f3) x33_3) 0 (wrap64 (x9_1 - 1)) true _ A21.out).mono ?_); rintro e w' ⟨rfl, ⟨nd, rfl⟩⟩; refine ⟨_, rfl, ?_⟩))
                go_roundg k3
                case measure => have := HK1.out; have := HJ4.out; have := HK3.out; omega
                case rel => exact ⟨(wrap64 (x33_3 + 1)), (by first | rfl | (simp; done) | (simp [*]; done) | (simp only [wrap64, IntKind.wrap_i64]; done) | (simp [wrap64, IntKind.wrap_i64]; done)), H', ⟨by have := HK1.out; have := HJ4.out; have := HK3.out; omega⟩, ⟨by (with_reducible repeat (first | refine blk_drewN ?_ _ | refine blk_drew ?_ | refine blk_alloc ?_ _)); exact BK161.out⟩, ⟨by repeat (first | (with_reducible first | exact HB.out | apply below_alloc | apply pw_below_drewN | apply below_drew1 | refine below_set ?_ GE161.out) | exact HB.out)⟩⟩
              ·replace c22 := Bool.eq_false_iff.mpr c22
               subst c22
               have H1 : (some false) = some r := by rw [if_neg (show ¬ (false = true) by decide)] at H; exact H
               clear H
               have H := H1
               clear H1
               obtain rfl := Option.some.inj H
               have p165 : 0 ≤ (x33_3 : Int) := of_decide_eq_true (by first | (with_reducible assumption) | assumption)
               have q165 : x33_3 < (((rd_T40 l0 x9_1).f3).length : Int) := of_decide_eq_true (by first | (with_reducible assumption) | assumption)
               obtain ⟨ad165, e165, hx165_0⟩ := Kd.at_int HR160_3.out x33_3 p165 q165
               cases e165
               replace hx165_0 := (HB.out.cell (World.block_lt_of_cell? w _ hx165_0)).trans hx165_0
               replace p165 := eq_true p165
               replace q165 := eq_true q165
               go_wp2_with (first | ((with_reducible refine gate_callee (f := 38) rfl ?_); refine goesL_ (some 41) rfl rfl Try.func38 (by kernel_rfl) rfl #[.int .i64 (rd ((rd_T40 l0 x9_1).f3) x33_3), .int .i64 0, .int .i64 (wrap64 (x9_1 - 1))] rfl (by (try simp only [List.map_toArray, List.map_cons, List.map_nil]); first | done | rfl | (simp only [List.length_drop, List.length_take]; rfl)) ?_; (with_reducible refine (impl_within.calls (rd ((rd_T40 l0 x9_1).f3) x33_3) 0 (wrap64 (x9_1 - 1)) false _ A21.out).mono ?_); rintro e w' ⟨rfl, ⟨nd, rfl⟩⟩; refine ⟨_, rfl, ?_⟩))
               go_ret
               exact ⟨by first | rfl | (simp [errW_none, errW_some] <;> rfl) | (simp [*, errW_none, errW_some] <;> rfl), by repeat (first | (with_reducible first | exact HB.out | apply below_alloc | apply pw_below_drewN | apply below_drew1 | refine below_set ?_ GE161.out) | exact HB.out)⟩
             ·rw [if_neg c20] at H
              exact absurd H (by simp)
            ·rw [if_neg c19] at H
             exact absurd H (by simp)
           ·rw [if_neg c18] at H
            have c18b0 : decide (x33_3 < (((rd_T40 l0 x9_1).f3).length : Int)) = false := decide_eq_false c18
            clear c18
            have H' := Aside0.mk H
            clear H
            go_wp2
            go_roundg k3
            case measure => have := HK1.out; have := HJ4.out; have := HK3.out; omega
            case rel => exact ⟨(wrap64 (x9_1 + 1)), (by first | rfl | (simp; done) | (simp [*]; done) | (simp only [wrap64, IntKind.wrap_i64]; done) | (simp [wrap64, IntKind.wrap_i64]; done)), H', ⟨by have := HK1.out; have := HJ4.out; have := HK3.out; omega⟩, ⟨by repeat (first | (with_reducible first | exact HB.out | apply below_alloc | apply pw_below_drewN | apply below_drew1 | refine below_set ?_ GE161.out) | exact HB.out)⟩⟩
     ·rw [if_neg c4] at H
      exact absurd H (by simp)
    ·rw [if_neg c3] at H
     exact absurd H (by simp)
   ·rw [if_neg c2] at H
    have c2b0 : decide (x9_1 < (l0.length : Int)) = false := decide_eq_false c2
    clear c2
    obtain rfl := Option.some.inj H
    go_wp2
    go_ret
    exact ⟨by first | rfl | (simp [errW_none, errW_some] <;> rfl) | (simp [*, errW_none, errW_some] <;> rfl), by repeat (first | (with_reducible first | exact HB.out | apply below_alloc | apply pw_below_drewN | apply below_drew1) | exact HB.out)⟩

end Go.Proofs.Ythmgfeokhjelmaa.PAll
