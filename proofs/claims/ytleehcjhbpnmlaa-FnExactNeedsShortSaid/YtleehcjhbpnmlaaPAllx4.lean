-- PRINTED by print.py (a twelfth state) out of the translation. Not trusted: Lean checks it.
import Derived.Test.YtleehcjhbpnmlaaPAllx0
import Derived.Test.YtleehcjhbpnmlaaPAllx3
namespace Go.Proofs.Ytleehcjhbpnmlaa.PAll
open Go.RowKit Go.Proofs.YtleehcjhbpnmlaaW.PrintWords Go.Proofs.YtleehcjhbpnmlaaW.PrintLast Go.Proofs.YtleehcjhbpnmlaaW.PrintMore
attribute [local go_sem] max2_int min2_int max_two min_two max_three min_three max_four min_four   -- for this text's walks alone
set_option linter.unusedVariables false
set_option linter.unusedSimpArgs false

/-! ### impl_FoodsValid: function 44: by hand -/
def impl_FoodsValid.l0 : Nat → List (S29) → List (S29) → Int → Int → Option (Bool)
 | 0, _, _, _, _ => none
 | k + 1, x0, x5, x6, x7 => if x7 < x6 then (if 0 ≤ x7 then (if x7 < (x5.length : Int) then ((impl_isId.f ((rd_T29 x5 x7).f0)).bind fun t199 => (if t199 = true then ((impl_within.f ((rd_T29 x5 x7).f1) 1 3).bind fun t200 => (if t200 = true then ((impl_isSet.f ((rd_T29 x5 x7).f2)).bind fun t201 => (if t201 = true then ((impl_isKind.f ((rd_T29 x5 x7).f3)).bind fun t202 => (if t202 = true then ((impl_within.f ((rd_T29 x5 x7).f4) 0 999).bind fun t203 => (if t203 = true then ((impl_within.f ((rd_T29 x5 x7).f5) 0 999).bind fun t204 => (if t204 = true then (if x7 > 0 then (if 0 ≤ (wrap64 (x7 - 1)) then (if (wrap64 (x7 - 1)) < (x0.length : Int) then (if ((rd_T29 x0 (wrap64 (x7 - 1))).f0) ≥ ((rd_T29 x5 x7).f0) then (some false) else (impl_FoodsValid.l0 k x0 x5 x6 (wrap64 (x7 + 1)))) else (none)) else (none)) else (impl_FoodsValid.l0 k x0 x5 x6 (wrap64 (x7 + 1)))) else (some false))) else (some false))) else (some false))) else (some false))) else (some false))) else (some false))) else (none)) else (none)) else (some (decide ((x0.length : Int) ≤ 6)))
def impl_FoodsValid.f (k : Nat) (l0 : List (S29)) : Option (Bool) := impl_FoodsValid.l0 k l0 l0 (l0.length : Int) 0
set_option maxHeartbeats 8000000 in
set_option maxRecDepth 100000 in
theorem impl_FoodsValid.calls (k : Nat) (A0 : Option Addr) (c0 : Nat) (l0 : List (S29)) (r : Bool) (w : World) (hr0 : Kd.C k29 w A0 l0.length l0) (hc0 : l0.length ≤ c0) (h : impl_FoodsValid.f k l0 = some r) :
  Calls Try.prog 44 #[.slice A0 l0.length c0] w fun e w' => e = .returned (.bool r) ∧ Below w.heap.size w w' := by
 have hu29 := Try.underlying29
 have HR0 := Aside0.mk hr0
 have HC0 := Aside0.mk hc0
 clear hr0 hc0
 have HB := Aside0.mk (Below.refl w.heap.size w)
 have H : (impl_FoodsValid.l0 k l0 l0 (l0.length : Int) 0) = some r := h
 clear h
 have H' := Aside0.mk H
 clear H
 go_enter Try.func44, Try.ntmps44
 go_wp2
 go_loopg [7] k (fun kq v7 w' => ∃ (x7_1 : Int), v7 = .int .i64 x7_1 ∧ Aside0 (impl_FoodsValid.l0 kq l0 l0 (l0.length : Int) x7_1 = some r) ∧ Aside0 (kq ≤ k) ∧ Aside0 (Below w.heap.size w w'))
 case atStart => exact ⟨(0), (by first | rfl | (simp; done) | (simp [*]; done) | (simp only [wrap64, IntKind.wrap_i64]; done) | (simp [wrap64, IntKind.wrap_i64]; done)), H', ⟨Nat.le_refl _⟩, ⟨by repeat (first | (with_reducible first | exact HB.out | apply below_alloc | apply pw_below_drewN | apply below_drew1) | exact HB.out)⟩⟩
 case round =>
  clear H' HB
  obtain ⟨x7_1, rfl, HA, HK1, HB⟩ := hrel
  cases gk with
  | zero => exact absurd HA.out (by simp [impl_FoodsValid.l0])
  | succ k1 =>
   have H := HA.out
   clear HA
   simp only [impl_FoodsValid.l0] at H
   by_cases c4 : x7_1 < (l0.length : Int)
   ·rw [if_pos c4] at H
    have c4b0 : decide (x7_1 < (l0.length : Int)) = true := decide_eq_true c4
    by_cases c5 : 0 ≤ x7_1
    ·rw [if_pos c5, if_pos c4] at H
     clear c4
     have c5b0 : decide (0 ≤ x7_1) = true := decide_eq_true c5
     clear c5
     have HC5 := Aside0.mk H
     clear H
     have p140 : 0 ≤ (x7_1 : Int) := of_decide_eq_true (by first | (with_reducible assumption) | assumption)
     have q140 : x7_1 < (l0.length : Int) := of_decide_eq_true (by first | (with_reducible assumption) | assumption)
     obtain ⟨ad140, e140, hx140_0, hx140_1, hx140_2, hx140_3, hx140_4, hx140_5⟩ := at_T29 HR0.out x7_1 p140 q140
     cases e140
     replace hx140_0 := (HB.out.cell (World.block_lt_of_cell? w _ hx140_0)).trans hx140_0
     replace hx140_1 := (HB.out.cell (World.block_lt_of_cell? w _ hx140_1)).trans hx140_1
     replace hx140_2 := (HB.out.cell (World.block_lt_of_cell? w _ hx140_2)).trans hx140_2
     replace hx140_3 := (HB.out.cell (World.block_lt_of_cell? w _ hx140_3)).trans hx140_3
     replace hx140_4 := (HB.out.cell (World.block_lt_of_cell? w _ hx140_4)).trans hx140_4
     replace hx140_5 := (HB.out.cell (World.block_lt_of_cell? w _ hx140_5)).trans hx140_5
     replace p140 := eq_true p140
     replace q140 := eq_true q140
     go_upto_region 4 with (first | ((with_reducible refine gate_dst (N := 4) rfl ?_); refine box_event ?hg (N := 4) ?hd (cs := #[.int .i64 0, .int .i64 0, .int .i64 0, .int .i64 0, .int .i64 0, .int .i64 0]) (t := 29) ?hr ?_; (case hd => rfl); (case hg => rfl); (case hr => first | (go_simp; done) | (go_simp; rfl)); intro ge hg w6 hbox hb; have n0_ := Aside0.mk (below_step (by repeat (first | (with_reducible first | exact HB.out | apply below_alloc | apply pw_below_drewN | apply below_drew1) | exact HB.out)) hb); have n1_ := Aside0.mk (hbox); have n3_ := Aside0.mk ((by rw [hg]; exact (below_size (by repeat (first | (with_reducible first | exact HB.out | apply below_alloc | apply pw_below_drewN | apply below_drew1) | exact HB.out))) : w.heap.size ≤ ge)); clear HB; have HB := n0_; have BE := n1_; have GE := n3_; clear n0_ n1_ n3_; clear hb hbox hg; have hcz7_0 : w6.cell? ⟨ge, 0, none⟩ = some (.int .i64 0) := (blk_cell BE.out 0).trans rfl; have hfz7_0 := blk_frozen BE.out 0; have hcz7_1 : w6.cell? ⟨ge, 1, none⟩ = some (.int .i64 0) := (blk_cell BE.out 1).trans rfl; have hfz7_1 := blk_frozen BE.out 1; have hcz7_2 : w6.cell? ⟨ge, 2, none⟩ = some (.int .i64 0) := (blk_cell BE.out 2).trans rfl; have hfz7_2 := blk_frozen BE.out 2; have hcz7_3 : w6.cell? ⟨ge, 3, none⟩ = some (.int .i64 0) := (blk_cell BE.out 3).trans rfl; have hfz7_3 := blk_frozen BE.out 3; have hcz7_4 : w6.cell? ⟨ge, 4, none⟩ = some (.int .i64 0) := (blk_cell BE.out 4).trans rfl; have hfz7_4 := blk_frozen BE.out 4; have hcz7_5 : w6.cell? ⟨ge, 5, none⟩ = some (.int .i64 0) := (blk_cell BE.out 5).trans rfl; have hfz7_5 := blk_frozen BE.out 5))
     (try simp only [Act.put, List.setIfInBounds_toArray, List.set_cons_zero, List.set_cons_succ])
     have n0_ : Aside0 (((((((w6.setCell ⟨ge, 0, none⟩ (.int .i64 ((rd_T29 l0 x7_1).f0))).setCell ⟨ge, 1, none⟩ (.int .i64 ((rd_T29 l0 x7_1).f1))).setCell ⟨ge, 2, none⟩ (.int .i64 ((rd_T29 l0 x7_1).f2))).setCell ⟨ge, 3, none⟩ (.int .i64 ((rd_T29 l0 x7_1).f3))).setCell ⟨ge, 4, none⟩ (.int .i64 ((rd_T29 l0 x7_1).f4))).setCell ⟨ge, 5, none⟩ (.int .i64 ((rd_T29 l0 x7_1).f5))).heap[ge]? = some (.cells #[.int .i64 ((rd_T29 l0 x7_1).f0), .int .i64 ((rd_T29 l0 x7_1).f1), .int .i64 ((rd_T29 l0 x7_1).f2), .int .i64 ((rd_T29 l0 x7_1).f3), .int .i64 ((rd_T29 l0 x7_1).f4), .int .i64 ((rd_T29 l0 x7_1).f5)] 29 (0, 0))) := ⟨by refine blk_put (cs := #[.int .i64 ((rd_T29 l0 x7_1).f0), .int .i64 ((rd_T29 l0 x7_1).f1), .int .i64 ((rd_T29 l0 x7_1).f2), .int .i64 ((rd_T29 l0 x7_1).f3), .int .i64 ((rd_T29 l0 x7_1).f4), .int .i64 0]) ?_ 5 _ rfl; refine blk_put (cs := #[.int .i64 ((rd_T29 l0 x7_1).f0), .int .i64 ((rd_T29 l0 x7_1).f1), .int .i64 ((rd_T29 l0 x7_1).f2), .int .i64 ((rd_T29 l0 x7_1).f3), .int .i64 0, .int .i64 0]) ?_ 4 _ rfl; refine blk_put (cs := #[.int .i64 ((rd_T29 l0 x7_1).f0), .int .i64 ((rd_T29 l0 x7_1).f1), .int .i64 ((rd_T29 l0 x7_1).f2), .int .i64 0, .int .i64 0, .int .i64 0]) ?_ 3 _ rfl; refine blk_put (cs := #[.int .i64 ((rd_T29 l0 x7_1).f0), .int .i64 ((rd_T29 l0 x7_1).f1), .int .i64 0, .int .i64 0, .int .i64 0, .int .i64 0]) ?_ 2 _ rfl; refine blk_put (cs := #[.int .i64 ((rd_T29 l0 x7_1).f0), .int .i64 0, .int .i64 0, .int .i64 0, .int .i64 0, .int .i64 0]) ?_ 1 _ rfl; refine blk_put (cs := #[.int .i64 0, .int .i64 0, .int .i64 0, .int .i64 0, .int .i64 0, .int .i64 0]) ?_ 0 _ rfl; exact BE.out⟩
     have n1_ : Aside0 (Below w.heap.size w ((((((w6.setCell ⟨ge, 0, none⟩ (.int .i64 ((rd_T29 l0 x7_1).f0))).setCell ⟨ge, 1, none⟩ (.int .i64 ((rd_T29 l0 x7_1).f1))).setCell ⟨ge, 2, none⟩ (.int .i64 ((rd_T29 l0 x7_1).f2))).setCell ⟨ge, 3, none⟩ (.int .i64 ((rd_T29 l0 x7_1).f3))).setCell ⟨ge, 4, none⟩ (.int .i64 ((rd_T29 l0 x7_1).f4))).setCell ⟨ge, 5, none⟩ (.int .i64 ((rd_T29 l0 x7_1).f5)))) := ⟨by repeat (first | (with_reducible first | exact HB.out | apply below_alloc | apply pw_below_drewN | apply below_drew1 | refine below_set ?_ GE.out) | exact HB.out)⟩
     clear BE HB hcz7_0 hfz7_0 hx140_0 hcz7_1 hfz7_1 hx140_1 hcz7_2 hfz7_2 hx140_2 hcz7_3 hfz7_3 hx140_3 hcz7_4 hfz7_4 hx140_4 hcz7_5 hfz7_5 hx140_5
     generalize ((((((w6.setCell ⟨ge, 0, none⟩ (.int .i64 ((rd_T29 l0 x7_1).f0))).setCell ⟨ge, 1, none⟩ (.int .i64 ((rd_T29 l0 x7_1).f1))).setCell ⟨ge, 2, none⟩ (.int .i64 ((rd_T29 l0 x7_1).f2))).setCell ⟨ge, 3, none⟩ (.int .i64 ((rd_T29 l0 x7_1).f3))).setCell ⟨ge, 4, none⟩ (.int .i64 ((rd_T29 l0 x7_1).f4))).setCell ⟨ge, 5, none⟩ (.int .i64 ((rd_T29 l0 x7_1).f5))) = w7 at n0_ n1_ ⊢
     have BE := n0_
     have HB := n1_
     clear n0_ n1_
     have hcz8_0 : w7.cell? ⟨ge, 0, none⟩ = some (.int .i64 ((rd_T29 l0 x7_1).f0)) := (blk_cell BE.out 0).trans rfl
     have hcz8_1 : w7.cell? ⟨ge, 1, none⟩ = some (.int .i64 ((rd_T29 l0 x7_1).f1)) := (blk_cell BE.out 1).trans rfl
     have hcz8_2 : w7.cell? ⟨ge, 2, none⟩ = some (.int .i64 ((rd_T29 l0 x7_1).f2)) := (blk_cell BE.out 2).trans rfl
     have hcz8_3 : w7.cell? ⟨ge, 3, none⟩ = some (.int .i64 ((rd_T29 l0 x7_1).f3)) := (blk_cell BE.out 3).trans rfl
     have hcz8_4 : w7.cell? ⟨ge, 4, none⟩ = some (.int .i64 ((rd_T29 l0 x7_1).f4)) := (blk_cell BE.out 4).trans rfl
     have hcz8_5 : w7.cell? ⟨ge, 5, none⟩ = some (.int .i64 ((rd_T29 l0 x7_1).f5)) := (blk_cell BE.out 5).trans rfl
     go_cut [60] (fun v60 wc => ∃ (b : Bool), v60 = .bool b ∧ Aside0 ((if b = true then (some false) else (impl_FoodsValid.l0 k1 l0 l0 (l0.length : Int) (wrap64 (x7_1 + 1)))) = some r) ∧ Aside0 (Below w.heap.size w wc))
     case first =>
      have H := HC5.out
      clear HC5
      obtain ⟨t1, A10, H⟩ := Option.bind_eq_some_iff.mp H
      have A1 := Aside0.mk A10
      clear A10
      cases t1 with
      | false =>
       replace H : (some false) = some r := H
       go_quiet (first | (go_at_call 52; (with_reducible refine (impl_isId.calls ((rd_T29 l0 x7_1).f0) false _ A1.out).mono ?_); rintro e w' ⟨rfl, ⟨nd, rfl⟩⟩; first | exact ⟨rfl, _, World.drewN_drewN _ _ _⟩ | exact ⟨rfl, _, Eq.trans (World.drewN_drewN _ _ _) (congrArg (World.drewN _) (Nat.add_assoc _ _ _))⟩))
       try go_wp2
       go_meet
       case rel => exact ⟨true, (by first | rfl | (simp; done) | (simp [*]; done) | (simp only [wrap64, IntKind.wrap_i64]; done) | (simp [wrap64, IntKind.wrap_i64]; done)), ⟨H⟩, ⟨by repeat (first | (with_reducible first | exact HB.out | apply below_alloc | apply pw_below_drewN | apply below_drew1 | refine below_set ?_ GE.out) | exact HB.out)⟩⟩
      | true =>
       rw [if_pos rfl] at H
       obtain ⟨t2, A20, H⟩ := Option.bind_eq_some_iff.mp H
       have A2 := Aside0.mk A20
       clear A20
       cases t2 with
       | false =>
        replace H : (some false) = some r := H
        go_quiet (first | (go_at_call 52; (with_reducible refine (impl_isId.calls ((rd_T29 l0 x7_1).f0) true _ A1.out).mono ?_); rintro e w' ⟨rfl, ⟨nd, rfl⟩⟩; first | exact ⟨rfl, _, World.drewN_drewN _ _ _⟩ | exact ⟨rfl, _, Eq.trans (World.drewN_drewN _ _ _) (congrArg (World.drewN _) (Nat.add_assoc _ _ _))⟩) | (go_at_call 47; (with_reducible refine (impl_within.calls ((rd_T29 l0 x7_1).f1) 1 3 false _ A2.out).mono ?_); rintro e w' ⟨rfl, ⟨nd, rfl⟩⟩; first | exact ⟨rfl, _, World.drewN_drewN _ _ _⟩ | exact ⟨rfl, _, Eq.trans (World.drewN_drewN _ _ _) (congrArg (World.drewN _) (Nat.add_assoc _ _ _))⟩))
        try go_wp2
        go_meet
        case rel => exact ⟨true, (by first | rfl | (simp; done) | (simp [*]; done) | (simp only [wrap64, IntKind.wrap_i64]; done) | (simp [wrap64, IntKind.wrap_i64]; done)), ⟨H⟩, ⟨by repeat (first | (with_reducible first | exact HB.out | apply below_alloc | apply pw_below_drewN | apply below_drew1 | refine below_set ?_ GE.out) | exact HB.out)⟩⟩
       | true =>
        rw [if_pos rfl] at H
        obtain ⟨t3, A30, H⟩ := Option.bind_eq_some_iff.mp H
        have A3 := Aside0.mk A30
        clear A30
        cases t3 with
        | false =>
         replace H : (some false) = some r := H
         go_quiet (first | (go_at_call 52; (with_reducible refine (impl_isId.calls ((rd_T29 l0 x7_1).f0) true _ A1.out).mono ?_); rintro e w' ⟨rfl, ⟨nd, rfl⟩⟩; first | exact ⟨rfl, _, World.drewN_drewN _ _ _⟩ | exact ⟨rfl, _, Eq.trans (World.drewN_drewN _ _ _) (congrArg (World.drewN _) (Nat.add_assoc _ _ _))⟩) | (go_at_call 47; (with_reducible refine (impl_within.calls ((rd_T29 l0 x7_1).f1) 1 3 true _ A2.out).mono ?_); rintro e w' ⟨rfl, ⟨nd, rfl⟩⟩; first | exact ⟨rfl, _, World.drewN_drewN _ _ _⟩ | exact ⟨rfl, _, Eq.trans (World.drewN_drewN _ _ _) (congrArg (World.drewN _) (Nat.add_assoc _ _ _))⟩) | (go_at_call 53; (with_reducible refine (impl_isSet.calls ((rd_T29 l0 x7_1).f2) false _ A3.out).mono ?_); rintro e w' ⟨rfl, ⟨nd, rfl⟩⟩; first | exact ⟨rfl, _, World.drewN_drewN _ _ _⟩ | exact ⟨rfl, _, Eq.trans (World.drewN_drewN _ _ _) (congrArg (World.drewN _) (Nat.add_assoc _ _ _))⟩))
         try go_wp2
         go_meet
         case rel => exact ⟨true, (by first | rfl | (simp; done) | (simp [*]; done) | (simp only [wrap64, IntKind.wrap_i64]; done) | (simp [wrap64, IntKind.wrap_i64]; done)), ⟨H⟩, ⟨by repeat (first | (with_reducible first | exact HB.out | apply below_alloc | apply pw_below_drewN | apply below_drew1 | refine below_set ?_ GE.out) | exact HB.out)⟩⟩
        | true =>
         rw [if_pos rfl] at H
         obtain ⟨t4, A40, H⟩ := Option.bind_eq_some_iff.mp H
         have A4 := Aside0.mk A40
         clear A40
         cases t4 with
         | false =>
          replace H : (some false) = some r := H
          go_quiet (first | (go_at_call 52; (with_reducible refine (impl_isId.calls ((rd_T29 l0 x7_1).f0) true _ A1.out).mono ?_); rintro e w' ⟨rfl, ⟨nd, rfl⟩⟩; first | exact ⟨rfl, _, World.drewN_drewN _ _ _⟩ | exact ⟨rfl, _, Eq.trans (World.drewN_drewN _ _ _) (congrArg (World.drewN _) (Nat.add_assoc _ _ _))⟩) | (go_at_call 47; (with_reducible refine (impl_within.calls ((rd_T29 l0 x7_1).f1) 1 3 true _ A2.out).mono ?_); rintro e w' ⟨rfl, ⟨nd, rfl⟩⟩; first | exact ⟨rfl, _, World.drewN_drewN _ _ _⟩ | exact ⟨rfl, _, Eq.trans (World.drewN_drewN _ _ _) (congrArg (World.drewN _) (Nat.add_assoc _ _ _))⟩) | (go_at_call 53; (with_reducible refine (impl_isSet.calls ((rd_T29 l0 x7_1).f2) true _ A3.out).mono ?_); rintro e w' ⟨rfl, ⟨nd, rfl⟩⟩; first | exact ⟨rfl, _, World.drewN_drewN _ _ _⟩ | exact ⟨rfl, _, Eq.trans (World.drewN_drewN _ _ _) (congrArg (World.drewN _) (Nat.add_assoc _ _ _))⟩) | (go_at_call 54; (with_reducible refine (impl_isKind.calls ((rd_T29 l0 x7_1).f3) false _ A4.out).mono ?_); rintro e w' ⟨rfl, ⟨nd, rfl⟩⟩; first | exact ⟨rfl, _, World.drewN_drewN _ _ _⟩ | exact ⟨rfl, _, Eq.trans (World.drewN_drewN _ _ _) (congrArg (World.drewN _) (Nat.add_assoc _ _ _))⟩))
          try go_wp2
          go_meet
          case rel => exact ⟨true, (by first | rfl | (simp; done) | (simp [*]; done) | (simp only [wrap64, IntKind.wrap_i64]; done) | (simp [wrap64, IntKind.wrap_i64]; done)), ⟨H⟩, ⟨by repeat (first | (with_reducible first | exact HB.out | apply below_alloc | apply pw_below_drewN | apply below_drew1 | refine below_set ?_ GE.out) | exact HB.out)⟩⟩
         | true =>
          rw [if_pos rfl] at H
          obtain ⟨t5, A50, H⟩ := Option.bind_eq_some_iff.mp H
          have A5 := Aside0.mk A50
          clear A50
          cases t5 with
          | false =>
           replace H : (some false) = some r := H
           go_quiet (first | (go_at_call 52; (with_reducible refine (impl_isId.calls ((rd_T29 l0 x7_1).f0) true _ A1.out).mono ?_); rintro e w' ⟨rfl, ⟨nd, rfl⟩⟩; first | exact ⟨rfl, _, World.drewN_drewN _ _ _⟩ | exact ⟨rfl, _, Eq.trans (World.drewN_drewN _ _ _) (congrArg (World.drewN _) (Nat.add_assoc _ _ _))⟩) | (go_at_call 47; (with_reducible refine (impl_within.calls ((rd_T29 l0 x7_1).f1) 1 3 true _ A2.out).mono ?_); rintro e w' ⟨rfl, ⟨nd, rfl⟩⟩; first | exact ⟨rfl, _, World.drewN_drewN _ _ _⟩ | exact ⟨rfl, _, Eq.trans (World.drewN_drewN _ _ _) (congrArg (World.drewN _) (Nat.add_assoc _ _ _))⟩) | (go_at_call 53; (with_reducible refine (impl_isSet.calls ((rd_T29 l0 x7_1).f2) true _ A3.out).mono ?_); rintro e w' ⟨rfl, ⟨nd, rfl⟩⟩; first | exact ⟨rfl, _, World.drewN_drewN _ _ _⟩ | exact ⟨rfl, _, Eq.trans (World.drewN_drewN _ _ _) (congrArg (World.drewN _) (Nat.add_assoc _ _ _))⟩) | (go_at_call 54; (with_reducible refine (impl_isKind.calls ((rd_T29 l0 x7_1).f3) true _ A4.out).mono ?_); rintro e w' ⟨rfl, ⟨nd, rfl⟩⟩; first | exact ⟨rfl, _, World.drewN_drewN _ _ _⟩ | exact ⟨rfl, _, Eq.trans (World.drewN_drewN _ _ _) (congrArg (World.drewN _) (Nat.add_assoc _ _ _))⟩) | (go_at_call 47; (with_reducible refine (impl_within.calls ((rd_T29 l0 x7_1).f4) 0 999 false _ A5.out).mono ?_); rintro e w' ⟨rfl, ⟨nd, rfl⟩⟩; first | exact ⟨rfl, _, World.drewN_drewN _ _ _⟩ | exact ⟨rfl, _, Eq.trans (World.drewN_drewN _ _ _) (congrArg (World.drewN _) (Nat.add_assoc _ _ _))⟩))
           try go_wp2
           go_meet
           case rel => exact ⟨true, (by first | rfl | (simp; done) | (simp [*]; done) | (simp only [wrap64, IntKind.wrap_i64]; done) | (simp [wrap64, IntKind.wrap_i64]; done)), ⟨H⟩, ⟨by repeat (first | (with_reducible first | exact HB.out | apply below_alloc | apply pw_below_drewN | apply below_drew1 | refine below_set ?_ GE.out) | exact HB.out)⟩⟩
          | true =>
           rw [if_pos rfl] at H
           obtain ⟨t6, A60, H⟩ := Option.bind_eq_some_iff.mp H
           have A6 := Aside0.mk A60
           clear A60
           cases t6 with
           | false =>
            replace H : (some false) = some r := H
            go_quiet (first | (go_at_call 52; (with_reducible refine (impl_isId.calls ((rd_T29 l0 x7_1).f0) true _ A1.out).mono ?_); rintro e w' ⟨rfl, ⟨nd, rfl⟩⟩; first | exact ⟨rfl, _, World.drewN_drewN _ _ _⟩ | exact ⟨rfl, _, Eq.trans (World.drewN_drewN _ _ _) (congrArg (World.drewN _) (Nat.add_assoc _ _ _))⟩) | (go_at_call 47; (with_reducible refine (impl_within.calls ((rd_T29 l0 x7_1).f1) 1 3 true _ A2.out).mono ?_); rintro e w' ⟨rfl, ⟨nd, rfl⟩⟩; first | exact ⟨rfl, _, World.drewN_drewN _ _ _⟩ | exact ⟨rfl, _, Eq.trans (World.drewN_drewN _ _ _) (congrArg (World.drewN _) (Nat.add_assoc _ _ _))⟩) | (go_at_call 53; (with_reducible refine (impl_isSet.calls ((rd_T29 l0 x7_1).f2) true _ A3.out).mono ?_); rintro e w' ⟨rfl, ⟨nd, rfl⟩⟩; first | exact ⟨rfl, _, World.drewN_drewN _ _ _⟩ | exact ⟨rfl, _, Eq.trans (World.drewN_drewN _ _ _) (congrArg (World.drewN _) (Nat.add_assoc _ _ _))⟩) | (go_at_call 54; (with_reducible refine (impl_isKind.calls ((rd_T29 l0 x7_1).f3) true _ A4.out).mono ?_); rintro e w' ⟨rfl, ⟨nd, rfl⟩⟩; first | exact ⟨rfl, _, World.drewN_drewN _ _ _⟩ | exact ⟨rfl, _, Eq.trans (World.drewN_drewN _ _ _) (congrArg (World.drewN _) (Nat.add_assoc _ _ _))⟩) | (go_at_call 47; (with_reducible refine (impl_within.calls ((rd_T29 l0 x7_1).f4) 0 999 true _ A5.out).mono ?_); rintro e w' ⟨rfl, ⟨nd, rfl⟩⟩; first | exact ⟨rfl, _, World.drewN_drewN _ _ _⟩ | exact ⟨rfl, _, Eq.trans (World.drewN_drewN _ _ _) (congrArg (World.drewN _) (Nat.add_assoc _ _ _))⟩) | (go_at_call 47; (with_reducible refine (impl_within.calls ((rd_T29 l0 x7_1).f5) 0 999 false _ A6.out).mono ?_); rintro e w' ⟨rfl, ⟨nd, rfl⟩⟩; first | exact ⟨rfl, _, World.drewN_drewN _ _ _⟩ | exact ⟨rfl, _, Eq.trans (World.drewN_drewN _ _ _) (congrArg (World.drewN _) (Nat.add_assoc _ _ _))⟩))
            try go_wp2
            go_meet
            case rel => exact ⟨true, (by first | rfl | (simp; done) | (simp [*]; done) | (simp only [wrap64, IntKind.wrap_i64]; done) | (simp [wrap64, IntKind.wrap_i64]; done)), ⟨H⟩, ⟨by repeat (first | (with_reducible first | exact HB.out | apply below_alloc | apply pw_below_drewN | apply below_drew1 | refine below_set ?_ GE.out) | exact HB.out)⟩⟩
           | true =>
            rw [if_pos rfl] at H
            by_cases c17 : x7_1 > 0
            rotate_left
            ·rw [if_neg c17] at H
             have c17b0 : decide (0 < x7_1) = false := decide_eq_false c17
             clear c17
             go_quiet (first | (go_at_call 52; (with_reducible refine (impl_isId.calls ((rd_T29 l0 x7_1).f0) true _ A1.out).mono ?_); rintro e w' ⟨rfl, ⟨nd, rfl⟩⟩; first | exact ⟨rfl, _, World.drewN_drewN _ _ _⟩ | exact ⟨rfl, _, Eq.trans (World.drewN_drewN _ _ _) (congrArg (World.drewN _) (Nat.add_assoc _ _ _))⟩) | (go_at_call 47; (with_reducible refine (impl_within.calls ((rd_T29 l0 x7_1).f1) 1 3 true _ A2.out).mono ?_); rintro e w' ⟨rfl, ⟨nd, rfl⟩⟩; first | exact ⟨rfl, _, World.drewN_drewN _ _ _⟩ | exact ⟨rfl, _, Eq.trans (World.drewN_drewN _ _ _) (congrArg (World.drewN _) (Nat.add_assoc _ _ _))⟩) | (go_at_call 53; (with_reducible refine (impl_isSet.calls ((rd_T29 l0 x7_1).f2) true _ A3.out).mono ?_); rintro e w' ⟨rfl, ⟨nd, rfl⟩⟩; first | exact ⟨rfl, _, World.drewN_drewN _ _ _⟩ | exact ⟨rfl, _, Eq.trans (World.drewN_drewN _ _ _) (congrArg (World.drewN _) (Nat.add_assoc _ _ _))⟩) | (go_at_call 54; (with_reducible refine (impl_isKind.calls ((rd_T29 l0 x7_1).f3) true _ A4.out).mono ?_); rintro e w' ⟨rfl, ⟨nd, rfl⟩⟩; first | exact ⟨rfl, _, World.drewN_drewN _ _ _⟩ | exact ⟨rfl, _, Eq.trans (World.drewN_drewN _ _ _) (congrArg (World.drewN _) (Nat.add_assoc _ _ _))⟩) | (go_at_call 47; (with_reducible refine (impl_within.calls ((rd_T29 l0 x7_1).f4) 0 999 true _ A5.out).mono ?_); rintro e w' ⟨rfl, ⟨nd, rfl⟩⟩; first | exact ⟨rfl, _, World.drewN_drewN _ _ _⟩ | exact ⟨rfl, _, Eq.trans (World.drewN_drewN _ _ _) (congrArg (World.drewN _) (Nat.add_assoc _ _ _))⟩) | (go_at_call 47; (with_reducible refine (impl_within.calls ((rd_T29 l0 x7_1).f5) 0 999 true _ A6.out).mono ?_); rintro e w' ⟨rfl, ⟨nd, rfl⟩⟩; first | exact ⟨rfl, _, World.drewN_drewN _ _ _⟩ | exact ⟨rfl, _, Eq.trans (World.drewN_drewN _ _ _) (congrArg (World.drewN _) (Nat.add_assoc _ _ _))⟩))
             try go_wp2
             go_meet
             case rel => exact ⟨false, (by first | rfl | (simp; done) | (simp [*]; done) | (simp only [wrap64, IntKind.wrap_i64]; done) | (simp [wrap64, IntKind.wrap_i64]; done)), ⟨H⟩, ⟨by repeat (first | (with_reducible first | exact HB.out | apply below_alloc | apply pw_below_drewN | apply below_drew1 | refine below_set ?_ GE.out) | exact HB.out)⟩⟩
            rw [if_pos c17] at H
            have c17b0 : decide (0 < x7_1) = true := decide_eq_true c17
            clear c17
            obtain ⟨ji18, hji18⟩ : ∃ j_ : Int, (wrap64 (x7_1 - 1)) = j_ := ⟨_, rfl⟩
            rw [hji18] at H
            have hji18w : (IntKind.i64.wrap (x7_1 - 1)) = ji18 := (i64_w _).trans hji18
            by_cases c19 : 0 ≤ ji18
            rotate_left
            ·rw [if_neg c19] at H
             exact absurd H (by simp)
            rw [if_pos c19] at H
            by_cases c20 : ji18 < (l0.length : Int)
            rotate_left
            ·rw [if_neg c20] at H
             exact absurd H (by simp)
            rw [if_pos c20] at H
            have c19b0 : decide (0 ≤ ji18) = true := decide_eq_true c19
            have c20b0 : decide (ji18 < (l0.length : Int)) = true := decide_eq_true c20
            obtain ⟨ad205, e205, hx205_0, hx205_1, hx205_2, hx205_3, hx205_4, hx205_5⟩ := at_T29 HR0.out ji18 c19 c20
            obtain rfl : ad140 = ad205 := (by injection e205)
            replace hx205_0 := (HB.out.cell (World.block_lt_of_cell? w _ hx205_0)).trans hx205_0
            replace hx205_1 := (HB.out.cell (World.block_lt_of_cell? w _ hx205_1)).trans hx205_1
            replace hx205_2 := (HB.out.cell (World.block_lt_of_cell? w _ hx205_2)).trans hx205_2
            replace hx205_3 := (HB.out.cell (World.block_lt_of_cell? w _ hx205_3)).trans hx205_3
            replace hx205_4 := (HB.out.cell (World.block_lt_of_cell? w _ hx205_4)).trans hx205_4
            replace hx205_5 := (HB.out.cell (World.block_lt_of_cell? w _ hx205_5)).trans hx205_5
            replace c19 := eq_true c19
            replace c20 := eq_true c20
            by_cases c21 : ((rd_T29 l0 ji18).f0) ≥ ((rd_T29 l0 x7_1).f0)
            ·rw [if_pos c21] at H
             have c21b0 : decide (((rd_T29 l0 x7_1).f0) ≤ ((rd_T29 l0 ji18).f0)) = true := decide_eq_true c21
             clear c21
             go_quiet (first | (go_at_call 52; (with_reducible refine (impl_isId.calls ((rd_T29 l0 x7_1).f0) true _ A1.out).mono ?_); rintro e w' ⟨rfl, ⟨nd, rfl⟩⟩; first | exact ⟨rfl, _, World.drewN_drewN _ _ _⟩ | exact ⟨rfl, _, Eq.trans (World.drewN_drewN _ _ _) (congrArg (World.drewN _) (Nat.add_assoc _ _ _))⟩) | (go_at_call 47; (with_reducible refine (impl_within.calls ((rd_T29 l0 x7_1).f1) 1 3 true _ A2.out).mono ?_); rintro e w' ⟨rfl, ⟨nd, rfl⟩⟩; first | exact ⟨rfl, _, World.drewN_drewN _ _ _⟩ | exact ⟨rfl, _, Eq.trans (World.drewN_drewN _ _ _) (congrArg (World.drewN _) (Nat.add_assoc _ _ _))⟩) | (go_at_call 53; (with_reducible refine (impl_isSet.calls ((rd_T29 l0 x7_1).f2) true _ A3.out).mono ?_); rintro e w' ⟨rfl, ⟨nd, rfl⟩⟩; first | exact ⟨rfl, _, World.drewN_drewN _ _ _⟩ | exact ⟨rfl, _, Eq.trans (World.drewN_drewN _ _ _) (congrArg (World.drewN _) (Nat.add_assoc _ _ _))⟩) | (go_at_call 54; (with_reducible refine (impl_isKind.calls ((rd_T29 l0 x7_1).f3) true _ A4.out).mono ?_); rintro e w' ⟨rfl, ⟨nd, rfl⟩⟩; first | exact ⟨rfl, _, World.drewN_drewN _ _ _⟩ | exact ⟨rfl, _, Eq.trans (World.drewN_drewN _ _ _) (congrArg (World.drewN _) (Nat.add_assoc _ _ _))⟩) | (go_at_call 47; (with_reducible refine (impl_within.calls ((rd_T29 l0 x7_1).f4) 0 999 true _ A5.out).mono ?_); rintro e w' ⟨rfl, ⟨nd, rfl⟩⟩; first | exact ⟨rfl, _, World.drewN_drewN _ _ _⟩ | exact ⟨rfl, _, Eq.trans (World.drewN_drewN _ _ _) (congrArg (World.drewN _) (Nat.add_assoc _ _ _))⟩) | (go_at_call 47; (with_reducible refine (impl_within.calls ((rd_T29 l0 x7_1).f5) 0 999 true _ A6.out).mono ?_); rintro e w' ⟨rfl, ⟨nd, rfl⟩⟩; first | exact ⟨rfl, _, World.drewN_drewN _ _ _⟩ | exact ⟨rfl, _, Eq.trans (World.drewN_drewN _ _ _) (congrArg (World.drewN _) (Nat.add_assoc _ _ _))⟩))
             try go_wp2
             go_meet
             case rel => exact ⟨true, (by first | rfl | (simp; done) | (simp [*]; done) | (simp only [wrap64, IntKind.wrap_i64]; done) | (simp [wrap64, IntKind.wrap_i64]; done)), ⟨H⟩, ⟨by repeat (first | (with_reducible first | exact HB.out | apply below_alloc | apply pw_below_drewN | apply below_drew1 | refine below_set ?_ GE.out) | exact HB.out)⟩⟩
            ·rw [if_neg c21] at H
             have c21b0 : decide (((rd_T29 l0 x7_1).f0) ≤ ((rd_T29 l0 ji18).f0)) = false := decide_eq_false c21
             clear c21
             go_quiet (first | (go_at_call 52; (with_reducible refine (impl_isId.calls ((rd_T29 l0 x7_1).f0) true _ A1.out).mono ?_); rintro e w' ⟨rfl, ⟨nd, rfl⟩⟩; first | exact ⟨rfl, _, World.drewN_drewN _ _ _⟩ | exact ⟨rfl, _, Eq.trans (World.drewN_drewN _ _ _) (congrArg (World.drewN _) (Nat.add_assoc _ _ _))⟩) | (go_at_call 47; (with_reducible refine (impl_within.calls ((rd_T29 l0 x7_1).f1) 1 3 true _ A2.out).mono ?_); rintro e w' ⟨rfl, ⟨nd, rfl⟩⟩; first | exact ⟨rfl, _, World.drewN_drewN _ _ _⟩ | exact ⟨rfl, _, Eq.trans (World.drewN_drewN _ _ _) (congrArg (World.drewN _) (Nat.add_assoc _ _ _))⟩) | (go_at_call 53; (with_reducible refine (impl_isSet.calls ((rd_T29 l0 x7_1).f2) true _ A3.out).mono ?_); rintro e w' ⟨rfl, ⟨nd, rfl⟩⟩; first | exact ⟨rfl, _, World.drewN_drewN _ _ _⟩ | exact ⟨rfl, _, Eq.trans (World.drewN_drewN _ _ _) (congrArg (World.drewN _) (Nat.add_assoc _ _ _))⟩) | (go_at_call 54; (with_reducible refine (impl_isKind.calls ((rd_T29 l0 x7_1).f3) true _ A4.out).mono ?_); rintro e w' ⟨rfl, ⟨nd, rfl⟩⟩; first | exact ⟨rfl, _, World.drewN_drewN _ _ _⟩ | exact ⟨rfl, _, Eq.trans (World.drewN_drewN _ _ _) (congrArg (World.drewN _) (Nat.add_assoc _ _ _))⟩) | (go_at_call 47; (with_reducible refine (impl_within.calls ((rd_T29 l0 x7_1).f4) 0 999 true _ A5.out).mono ?_); rintro e w' ⟨rfl, ⟨nd, rfl⟩⟩; first | exact ⟨rfl, _, World.drewN_drewN _ _ _⟩ | exact ⟨rfl, _, Eq.trans (World.drewN_drewN _ _ _) (congrArg (World.drewN _) (Nat.add_assoc _ _ _))⟩) | (go_at_call 47; (with_reducible refine (impl_within.calls ((rd_T29 l0 x7_1).f5) 0 999 true _ A6.out).mono ?_); rintro e w' ⟨rfl, ⟨nd, rfl⟩⟩; first | exact ⟨rfl, _, World.drewN_drewN _ _ _⟩ | exact ⟨rfl, _, Eq.trans (World.drewN_drewN _ _ _) (congrArg (World.drewN _) (Nat.add_assoc _ _ _))⟩))
             try go_wp2
             go_meet
             case rel => exact ⟨false, (by first | rfl | (simp; done) | (simp [*]; done) | (simp only [wrap64, IntKind.wrap_i64]; done) | (simp [wrap64, IntKind.wrap_i64]; done)), ⟨H⟩, ⟨by repeat (first | (with_reducible first | exact HB.out | apply below_alloc | apply pw_below_drewN | apply below_drew1 | refine below_set ?_ GE.out) | exact HB.out)⟩⟩
     case rest =>
      clear HC5 HB BE hcz8_0 hcz8_1 hcz8_2 hcz8_3 hcz8_4 hcz8_5
      obtain ⟨b, rfl, HA, HB⟩ := hcut
      have H := HA.out
      clear HA
      cases b with
      | true =>
       obtain rfl := Option.some.inj H
       clear H
       go_wp2
       go_ret
       exact ⟨by first | rfl | (simp; done) | (simp [*]; done), by repeat (first | (with_reducible first | exact HB.out | apply below_alloc | apply pw_below_drewN | apply below_drew1 | refine below_set ?_ GE.out) | exact HB.out)⟩
      | false =>
       rw [if_neg (by simp)] at H
       have H' := Aside0.mk H
       clear H
       go_wp2
       go_roundg k1
       case measure => have := HK1.out; omega
       case rel => exact ⟨(wrap64 (x7_1 + 1)), (by first | rfl | (simp; done) | (simp [*]; done) | (simp only [wrap64, IntKind.wrap_i64]; done) | (simp [wrap64, IntKind.wrap_i64]; done)), H', ⟨by have := HK1.out; omega⟩, ⟨by repeat (first | (with_reducible first | exact HB.out | apply below_alloc | apply pw_below_drewN | apply below_drew1 | refine below_set ?_ GE.out) | exact HB.out)⟩⟩
    ·rw [if_neg c5] at H
     exact absurd H (by simp)
   ·rw [if_neg c4] at H
    have c4b0 : decide (x7_1 < (l0.length : Int)) = false := decide_eq_false c4
    clear c4
    obtain rfl := Option.some.inj H
    clear H
    go_wp2
    go_ret
    exact ⟨by first | rfl | (simp; done) | (simp [*]; done), by repeat (first | (with_reducible first | exact HB.out | apply below_alloc | apply pw_below_drewN | apply below_drew1) | exact HB.out)⟩


/-! ### impl_needsValid: the function literal (46), slices.IndexFunc (55) and slices.ContainsFunc (45) at it: by hand -/
set_option maxHeartbeats 1000000 in
theorem impl_needsValid.clo (n : Int) (r : Bool) (w : World) (h : impl_within.f n 0 999999 = some r) :
  Calls Try.prog 46 #[.int .i64 n] w fun e w' => e = .returned (.bool (!r)) ∧ Drawn0 w w' := by
 have H := Aside0.mk h
 clear h
 go_enter Try.func46, Try.ntmps46
 go_wp2_with (first | ((with_reducible refine gate_callee (f := 47) rfl ?_); refine goesL_ (some 4) rfl rfl Try.func47 (by kernel_rfl) rfl #[.int .i64 n, .int .i64 0, .int .i64 999999] rfl (by (try simp only [List.map_toArray, List.map_cons, List.map_nil]); first | done | rfl) ?_; (with_reducible refine (impl_within.calls n 0 999999 r _ H.out).mono ?_); rintro e w' ⟨rfl, ⟨nd, rfl⟩⟩; refine ⟨_, rfl, ?_⟩))
 go_ret
 exact ⟨by first | rfl | (simp; done) | (simp [*]; done), by repeat (first | exact Drawn0.refl _ | apply Drawn0.step)⟩
/-- the place of the first number that is not in range -/
def impl_needsValid.l0 : Nat → List Int → Int → Option Int
 | 0, _, _ => none
 | k + 1, x0, x8 => if x8 < (x0.length : Int) then (if 0 ≤ x8 then ((impl_within.f (rd x0 x8) 0 999999).bind fun t => (if t = true then (impl_needsValid.l0 k x0 (wrap64 (x8 + 1))) else (some x8))) else (none)) else (some (-1))
set_option maxHeartbeats 4000000 in
theorem impl_needsValid.index (k : Nat) (A0 : Option Addr) (c0 : Nat) (l0 : List Int) (r : Int) (w : World) (hr0 : Kd.C (Kd.int .i64) w A0 l0.length l0) (h : impl_needsValid.l0 k l0 0 = some r) :
  Calls Try.prog 55 #[.slice A0 l0.length c0, Value.func (Fn.func 46) #[] #[]] w fun e w' => e = .returned (.int .i64 r) ∧ Drawn0 w w' := by
 have HR0 := Aside0.mk hr0
 clear hr0
 have H' := Aside0.mk h
 clear h
 go_enter Try.func55, Try.ntmps55
 go_wp2
 go_loopg [8] k (fun kq v8 w' => ∃ (x8_1 : Int), v8 = .int .i64 x8_1 ∧ Aside0 (impl_needsValid.l0 kq l0 x8_1 = some r) ∧ Aside0 (kq ≤ k) ∧ Drawn0 w w')
 case atStart => exact ⟨(0), (by first | rfl | (simp; done) | (simp [*]; done)), H', ⟨Nat.le_refl _⟩, by repeat (first | exact Drawn0.refl _ | apply Drawn0.step)⟩
 case round =>
  clear H'
  obtain ⟨x8_1, rfl, HA, HK1, ⟨m1, rfl⟩⟩ := hrel
  cases gk with
  | zero => exact absurd HA.out (by simp [impl_needsValid.l0])
  | succ k1 =>
   have H := HA.out
   clear HA
   simp only [impl_needsValid.l0] at H
   by_cases c3 : x8_1 < (l0.length : Int)
   ·rw [if_pos c3] at H
    have c3b0 : decide (x8_1 < (l0.length : Int)) = true := decide_eq_true c3
    clear c3
    by_cases c4 : 0 ≤ x8_1
    ·rw [if_pos c4] at H
     have c4b0 : decide (0 ≤ x8_1) = true := decide_eq_true c4
     clear c4
     replace H := Option.bind_eq_some_iff.mp H
     obtain ⟨t124, A50, H⟩ := H
     replace H : (if t124 = true then (impl_needsValid.l0 k1 l0 (wrap64 (x8_1 + 1))) else (some x8_1)) = some r := H
     have A5 := Aside0.mk A50
     clear A50
     have p123 : 0 ≤ (x8_1 : Int) := of_decide_eq_true (by first | (with_reducible assumption) | assumption)
     have q123 : x8_1 < (l0.length : Int) := of_decide_eq_true (by first | (with_reducible assumption) | assumption)
     obtain ⟨ad123, e123, hx123_0⟩ := Kd.at_int HR0.out x8_1 p123 q123
     cases e123
     replace p123 := eq_true p123
     replace q123 := eq_true q123
     by_cases c6 : t124 = true
     ·subst c6
      have H1 : (impl_needsValid.l0 k1 l0 (wrap64 (x8_1 + 1))) = some r := by rw [if_pos rfl] at H; exact H
      clear H
      have H' := Aside0.mk H1
      clear H1
      go_wp2_with (go_at_call 46; refine (impl_needsValid.clo (rd l0 x8_1) true _ A5.out).mono ?_; rintro e w' ⟨rfl, ⟨nd, rfl⟩⟩)
      go_roundg k1
      case measure => have := HK1.out; omega
      case rel => exact ⟨(wrap64 (x8_1 + 1)), (by first | rfl | (simp; done) | (simp [*]; done)), H', ⟨by have := HK1.out; omega⟩, by repeat (first | exact Drawn0.refl _ | apply Drawn0.step)⟩
     ·replace c6 := Bool.eq_false_iff.mpr c6
      subst c6
      have H1 : (some x8_1) = some r := by rw [if_neg (show ¬ (false = true) by decide)] at H; exact H
      clear H
      obtain rfl := Option.some.inj H1
      clear H1
      go_wp2_with (go_at_call 46; refine (impl_needsValid.clo (rd l0 x8_1) false _ A5.out).mono ?_; rintro e w' ⟨rfl, ⟨nd, rfl⟩⟩)
      go_ret
      exact ⟨by first | rfl | (simp; done) | (simp [*]; done), by repeat (first | exact Drawn0.refl _ | apply Drawn0.step)⟩
    ·rw [if_neg c4] at H
     exact absurd H (by simp)
   ·rw [if_neg c3] at H
    have c3b0 : decide (x8_1 < (l0.length : Int)) = false := decide_eq_false c3
    clear c3
    obtain rfl := Option.some.inj H
    go_wp2
    go_ret
    exact ⟨by first | rfl | (simp; done) | (simp [*]; done), by repeat (first | exact Drawn0.refl _ | apply Drawn0.step)⟩
set_option maxHeartbeats 1000000 in
theorem impl_needsValid.contains (k : Nat) (A0 : Option Addr) (c0 : Nat) (l0 : List Int) (r : Int) (b : Bool) (w : World) (hr0 : Kd.C (Kd.int .i64) w A0 l0.length l0) (h : impl_needsValid.l0 k l0 0 = some r) (hb : decide (0 ≤ r) = b) :
  Calls Try.prog 45 #[.slice A0 l0.length c0, Value.func (Fn.func 46) #[] #[]] w fun e w' => e = .returned (.bool b) ∧ Drawn0 w w' := by
 have HR0 := Aside0.mk hr0
 clear hr0
 have H := Aside0.mk h
 clear h
 go_enter Try.func45, Try.ntmps45
 go_wp2_with (go_at_call 55; refine (impl_needsValid.index k _ _ l0 r _ HR0.out H.out).mono ?_; rintro e w' ⟨rfl, ⟨nd, rfl⟩⟩)
 go_ret
 exact ⟨by first | rfl | (simp; done) | (simp [*]; done) | (simp [hb]; done), by repeat (first | exact Drawn0.refl _ | apply Drawn0.step)⟩
/-! ### impl_needsValid: function 35: by hand -/
def impl_needsValid.f (k : Nat) (l0 : List (S29)) (l1 : List Int) : Option Bool := (impl_FoodsValid.f k l0).bind fun t => (if t = true then (if (l1.length : Int) = (l0.length : Int) then ((impl_needsValid.l0 k l1 0).bind fun r => (some (!(decide (0 ≤ r))))) else (some false)) else (some false))
set_option maxHeartbeats 4000000 in
theorem impl_needsValid.calls (k : Nat) (A0 : Option Addr) (c0 : Nat) (l0 : List (S29)) (A1 : Option Addr) (c1 : Nat) (l1 : List Int) (r : Bool) (w : World) (hr0 : Kd.C k29 w A0 l0.length l0) (hc0 : l0.length ≤ c0) (hr1 : Kd.C (Kd.int .i64) w A1 l1.length l1) (hc1 : l1.length ≤ c1) (h : impl_needsValid.f k l0 l1 = some r) :
  Calls Try.prog 35 #[.slice A0 l0.length c0, .slice A1 l1.length c1] w fun e w' => e = .returned (.bool r) ∧ Below w.heap.size w w' := by
 have HR0 := Aside0.mk hr0
 have HC0 := Aside0.mk hc0
 have HR1 := Aside0.mk hr1
 clear hr0 hc0 hr1 hc1
 have HB := Aside0.mk (Below.refl w.heap.size w)
 have H : ((impl_FoodsValid.f k l0).bind fun t => (if t = true then (if (l1.length : Int) = (l0.length : Int) then ((impl_needsValid.l0 k l1 0).bind fun r => (some (!(decide (0 ≤ r))))) else (some false)) else (some false))) = some r := h
 clear h
 replace H := Option.bind_eq_some_iff.mp H
 obtain ⟨t1, A10, H⟩ := H
 have A1_ := Aside0.mk A10
 clear A10
 by_cases c1_ : t1 = true
 ·subst c1_
  have H1 : (if (l1.length : Int) = (l0.length : Int) then ((impl_needsValid.l0 k l1 0).bind fun r => (some (!(decide (0 ≤ r))))) else (some false)) = some r := by simpa using H
  clear H
  by_cases c3 : (l1.length : Int) = (l0.length : Int)
  ·rw [if_pos c3] at H1
   have c3b0 : ((l1.length : Int) == (l0.length : Int)) = true := beq_iff_eq.mpr c3
   have c3b2 : (l1.length == l0.length) = true := beq_iff_eq.mpr (by omega)
   clear c3
   obtain ⟨r1, B10, H⟩ := Option.bind_eq_some_iff.mp H1
   clear H1
   have B1_ := Aside0.mk B10
   clear B10
   obtain rfl := Option.some.inj H
   clear H
   obtain ⟨b1, hb1⟩ : ∃ b, decide (0 ≤ r1) = b := ⟨_, rfl⟩
   have HB1 := Aside0.mk hb1
   rw [hb1]
   clear hb1
   go_enter Try.func35, Try.ntmps35
   go_wp2_with (first | ((with_reducible refine gate_callee (f := 44) rfl ?_); refine goesL_ (some 6) rfl rfl Try.func44 (by kernel_rfl) rfl #[.slice A0 l0.length c0] rfl (by (try simp only [List.map_toArray, List.map_cons, List.map_nil]); first | done | rfl | (simp only [List.length_drop, List.length_take]; rfl)) ?_; (with_reducible refine (impl_FoodsValid.calls k _ _ l0 true _ ?side1 ?side2 A1_.out).mono ?_); (case side1 => repeat (first | exact (Kd.C_below HR0.out HB.out) | (with_reducible refine Kd.C_alloc ?_ _) | (with_reducible refine Kd.C_drewN ?_ _) | (with_reducible refine Kd.C_drew ?_))); (case side2 => exact HC0.out); rintro e w9 ⟨rfl, hb⟩; refine ⟨_, rfl, ?_⟩; have n0_ := Aside0.mk (below_step (by repeat (first | (with_reducible first | exact HB.out | apply below_alloc | apply pw_below_drewN | apply below_drew1) | exact HB.out)) hb); clear HB; have HB := n0_; clear n0_; (try clear hb)) | (go_at_call 45; refine (impl_needsValid.contains k _ _ l1 r1 b1 _ (Kd.C_below HR1.out HB.out) B1_.out HB1.out).mono ?_; rintro e w' ⟨rfl, ⟨nd, rfl⟩⟩))
   go_ret
   exact ⟨by first | rfl | (simp; done) | (simp [*]; done), by repeat (first | (with_reducible first | exact HB.out | apply below_alloc | apply pw_below_drewN | apply below_drew1) | exact HB.out)⟩
  ·rw [if_neg c3] at H1
   have c3b0 : ((l1.length : Int) == (l0.length : Int)) = false := beq_eq_false_iff_ne.mpr c3
   have c3b2 : (l1.length == l0.length) = false := beq_eq_false_iff_ne.mpr (by omega)
   clear c3
   obtain rfl := Option.some.inj H1
   clear H1
   go_enter Try.func35, Try.ntmps35
   go_wp2_with (first | ((with_reducible refine gate_callee (f := 44) rfl ?_); refine goesL_ (some 6) rfl rfl Try.func44 (by kernel_rfl) rfl #[.slice A0 l0.length c0] rfl (by (try simp only [List.map_toArray, List.map_cons, List.map_nil]); first | done | rfl | (simp only [List.length_drop, List.length_take]; rfl)) ?_; (with_reducible refine (impl_FoodsValid.calls k _ _ l0 true _ ?side1 ?side2 A1_.out).mono ?_); (case side1 => repeat (first | exact (Kd.C_below HR0.out HB.out) | (with_reducible refine Kd.C_alloc ?_ _) | (with_reducible refine Kd.C_drewN ?_ _) | (with_reducible refine Kd.C_drew ?_))); (case side2 => exact HC0.out); rintro e w9 ⟨rfl, hb⟩; refine ⟨_, rfl, ?_⟩; have n0_ := Aside0.mk (below_step (by repeat (first | (with_reducible first | exact HB.out | apply below_alloc | apply pw_below_drewN | apply below_drew1) | exact HB.out)) hb); clear HB; have HB := n0_; clear n0_; (try clear hb)))
   go_ret
   exact ⟨by first | rfl | (simp; done) | (simp [*]; done), by repeat (first | (with_reducible first | exact HB.out | apply below_alloc | apply pw_below_drewN | apply below_drew1) | exact HB.out)⟩
 ·replace c1_ := Bool.eq_false_iff.mpr c1_
  subst c1_
  have H1 : (some false) = some r := by simpa using H
  clear H
  obtain rfl := Option.some.inj H1
  clear H1
  go_enter Try.func35, Try.ntmps35
  go_wp2_with (first | ((with_reducible refine gate_callee (f := 44) rfl ?_); refine goesL_ (some 6) rfl rfl Try.func44 (by kernel_rfl) rfl #[.slice A0 l0.length c0] rfl (by (try simp only [List.map_toArray, List.map_cons, List.map_nil]); first | done | rfl | (simp only [List.length_drop, List.length_take]; rfl)) ?_; (with_reducible refine (impl_FoodsValid.calls k _ _ l0 false _ ?side1 ?side2 A1_.out).mono ?_); (case side1 => repeat (first | exact (Kd.C_below HR0.out HB.out) | (with_reducible refine Kd.C_alloc ?_ _) | (with_reducible refine Kd.C_drewN ?_ _) | (with_reducible refine Kd.C_drew ?_))); (case side2 => exact HC0.out); rintro e w9 ⟨rfl, hb⟩; refine ⟨_, rfl, ?_⟩; have n0_ := Aside0.mk (below_step (by repeat (first | (with_reducible first | exact HB.out | apply below_alloc | apply pw_below_drewN | apply below_drew1) | exact HB.out)) hb); clear HB; have HB := n0_; clear n0_; (try clear hb)))
  go_ret
  exact ⟨by first | rfl | (simp; done) | (simp [*]; done), by repeat (first | (with_reducible first | exact HB.out | apply below_alloc | apply pw_below_drewN | apply below_drew1) | exact HB.out)⟩


end Go.Proofs.Ytleehcjhbpnmlaa.PAll
