-- PRINTED by print.py (a twelfth state) out of the translation. Not trusted: Lean checks it.
import Derived.Test.YtacjlhffmoglhaaPAllx0
import Derived.Test.YtacjlhffmoglhaaPAllx3
namespace Go.Proofs.Ytacjlhffmoglhaa.PAll
open Go.RowKit Go.Proofs.YtacjlhffmoglhaaW.PrintWords Go.Proofs.YtacjlhffmoglhaaW.PrintLast Go.Proofs.YtacjlhffmoglhaaW.PrintMore
attribute [local go_sem] max2_int min2_int max_two min_two max_three min_three max_four min_four   -- for this text's walks alone
set_option linter.unusedVariables false
set_option linter.unusedSimpArgs false

/-! ### impl_LedgerValid: function 16: by hand -/
/-- an array of 21 whole numbers: the whole of a block -/
def ArrAt (w : World) (g : Nat) (y : List Int) : Prop := y.length = 21 ∧ w.heap[g]? = some (.cells (nums .i64 y).toArray 51 (0, 0))
theorem ArrAt.drewN {w : World} {g : Nat} {y : List Int} (h : ArrAt w g y) (n : Nat) : ArrAt (w.drewN n) g y := h
theorem ArrAt.drew {w : World} {g : Nat} {y : List Int} (h : ArrAt w g y) : ArrAt w.drew g y := h
theorem ArrAt.lt {w : World} {g : Nat} {y : List Int} (h : ArrAt w g y) : g < w.heap.size := blk_lt h.2
theorem ArrAt.below {w w' : World} {g : Nat} {y : List Int} (h : ArrAt w g y) (hb : Below w.heap.size w w') : ArrAt w' g y := ⟨h.1, (hb.block g h.lt).trans h.2⟩
theorem ArrAt.far {w : World} {g : Nat} {y : List Int} (h : ArrAt w g y) {p : Addr} (hp : g ≠ p.block) (u : Value) : ArrAt (w.setCell p u) g y := ⟨h.1, blk_far h.2 hp u⟩
theorem ArrAt.cell {w : World} {g : Nat} {y : List Int} (h : ArrAt w g y) (i : Int) (h0 : 0 ≤ i) (h1 : i < 21) : w.cell? ⟨g, i.toNat, none⟩ = some (.int .i64 (rd y i)) := by
 have hl := h.1
 rw [blk_cell h.2 i.toNat, List.getElem?_toArray, nums, List.getElem?_map, List.getElem?_eq_getElem (by omega)]
 unfold rd
 rw [List.getD_eq_getElem?_getD, List.getElem?_eq_getElem (by omega)]
 rfl
theorem ArrAt.frozen {w : World} {g : Nat} {y : List Int} (h : ArrAt w g y) (i : Nat) : w.frozen? ⟨g, i, none⟩ = false := blk_frozen h.2 i
theorem ArrAt.put {w : World} {g : Nat} {y : List Int} (h : ArrAt w g y) (i : Nat) (v : Int) : ArrAt (w.setCell ⟨g, i, none⟩ (.int .i64 v)) g (y.set i v) :=
 ⟨by rw [List.length_set]; exact h.1, blk_put h.2 i _ (by rw [List.setIfInBounds_toArray, nums, nums, List.map_set])⟩
theorem setRow_self {w : World} {g : Nat} {cs : Array Value} {t : TypeId} (h : w.heap[g]? = some (.cells cs t (0, 0))) : w.setRow g cs = w := by
 have e : (w.setRow g cs).heap = w.heap := by
  unfold World.setRow
  apply Array.ext
  ·simp
  ·intro i h1 h2
   rw [Array.getElem_modify]
   split
   ·rename_i e
    subst e
    obtain ⟨hh, he⟩ := Array.getElem?_eq_some_iff.1 h
    rw [he]
   ·rfl
 have e2 : w.setRow g cs = { w with heap := (w.setRow g cs).heap } := rfl
 rw [e2, e]
def impl_LedgerValid.l0 : Nat → List (S40) → List Int → Int → Option (Bool)
 | 0, _, _, _ => none
 | k + 1, x0, y, x9 => if x9 < (x0.length : Int) then (if 0 ≤ x9 then ((impl_within.f ((rd_T40 x0 x9).f0) 1 3).bind fun t1 => (if t1 = true then ((impl_isId.f ((rd_T40 x0 x9).f1)).bind fun t2 => (if t2 = true then ((impl_within.f ((rd_T40 x0 x9).f2) 1 9999).bind fun t3 => (if (!t3) = true then (some false) else (if 0 ≤ (rd_T40 x0 x9).f1 then (if (rd_T40 x0 x9).f1 < 21 then (if (rd_T40 x0 x9).f0 = 1 then (if (wrap64 ((rd y ((rd_T40 x0 x9).f1)) + ((rd_T40 x0 x9).f2))) < 0 then (some false) else (impl_LedgerValid.l0 k x0 (y.set ((rd_T40 x0 x9).f1).toNat (wrap64 ((rd y ((rd_T40 x0 x9).f1)) + ((rd_T40 x0 x9).f2)))) (wrap64 (x9 + 1)))) else (if (wrap64 ((rd y ((rd_T40 x0 x9).f1)) - ((rd_T40 x0 x9).f2))) < 0 then (some false) else (impl_LedgerValid.l0 k x0 (y.set ((rd_T40 x0 x9).f1).toNat (wrap64 ((rd y ((rd_T40 x0 x9).f1)) - ((rd_T40 x0 x9).f2)))) (wrap64 (x9 + 1))))) else none) else none))) else (some false))) else (some false))) else (none)) else (some (decide ((x0.length : Int) ≤ 20)))
def impl_LedgerValid.f (k : Nat) (l0 : List (S40)) : Option (Bool) := impl_LedgerValid.l0 k l0 (List.replicate 21 0) 0
set_option maxHeartbeats 8000000 in
set_option maxRecDepth 100000 in
theorem impl_LedgerValid.calls (k : Nat) (A0 : Option Addr) (c0 : Nat) (l0 : List (S40)) (r : Bool) (w : World) (hr0 : Kd.C k40 w A0 l0.length l0) (hc0 : l0.length ≤ c0) (h : impl_LedgerValid.f k l0 = some r) :
  Calls Try.prog 16 #[.slice A0 l0.length c0] w fun e w' => e = .returned (.bool r) ∧ Below w.heap.size w w' := by
 have hu40 := Try.underlying40
 have HR0 := Aside0.mk hr0
 have HC0 := Aside0.mk hc0
 clear hr0 hc0
 have HB := Aside0.mk (Below.refl w.heap.size w)
 have H : (impl_LedgerValid.l0 k l0 (List.replicate 21 0) 0) = some r := h
 clear h
 have H' := Aside0.mk H
 clear H
 go_enter Try.func16, Try.ntmps16
 go_wp2_with (first | ((with_reducible refine gate_dst (N := 3) rfl ?_); refine box_event ?hg (N := 3) ?hd (cs := #[.int .i64 0, .int .i64 0, .int .i64 0, .int .i64 0, .int .i64 0, .int .i64 0, .int .i64 0, .int .i64 0, .int .i64 0, .int .i64 0, .int .i64 0, .int .i64 0, .int .i64 0, .int .i64 0, .int .i64 0, .int .i64 0, .int .i64 0, .int .i64 0, .int .i64 0, .int .i64 0, .int .i64 0]) (t := 51) ?hr ?_; (case hd => rfl); (case hg => rfl); (case hr => first | (go_simp; done) | (go_simp; rfl)); intro gb hg w9 hbox hb; have n0_ := Aside0.mk (below_step (by repeat (first | (with_reducible first | exact HB.out | apply below_alloc | apply pw_below_drewN | apply below_drew1) | exact HB.out)) hb); have n1_ := Aside0.mk (hbox); have n3_ := Aside0.mk ((by rw [hg]; exact (below_size (by repeat (first | (with_reducible first | exact HB.out | apply below_alloc | apply pw_below_drewN | apply below_drew1) | exact HB.out))) : w.heap.size ≤ gb)); clear HB; have HB := n0_; have BA := n1_; have GA := n3_; clear n0_ n1_ n3_; clear hb hbox hg) | ((with_reducible refine gate_store (t := 51) (p := 3) (v := .tmp 6) rfl ?_); refine wpList_store_row (by rfl) 51 (.tmp 3) (.tmp 6) rfl gb #[.int .i64 0, .int .i64 0, .int .i64 0, .int .i64 0, .int .i64 0, .int .i64 0, .int .i64 0, .int .i64 0, .int .i64 0, .int .i64 0, .int .i64 0, .int .i64 0, .int .i64 0, .int .i64 0, .int .i64 0, .int .i64 0, .int .i64 0, .int .i64 0, .int .i64 0, .int .i64 0, .int .i64 0] rfl rfl 51 #[.int .i64 0, .int .i64 0, .int .i64 0, .int .i64 0, .int .i64 0, .int .i64 0, .int .i64 0, .int .i64 0, .int .i64 0, .int .i64 0, .int .i64 0, .int .i64 0, .int .i64 0, .int .i64 0, .int .i64 0, .int .i64 0, .int .i64 0, .int .i64 0, .int .i64 0, .int .i64 0, .int .i64 0] BA.out (by kernel_rfl) rfl (by kernel_rfl) ?_; rw [setRow_self BA.out]))
 have BQ := Aside0.mk (show ArrAt w9 gb (List.replicate 21 0) from ⟨rfl, BA.out⟩)
 clear BA
 go_loopg [9] k (fun kq v9 w' => ∃ (x9_1 : Int) (y : List Int), v9 = .int .i64 x9_1 ∧ Aside0 (impl_LedgerValid.l0 kq l0 y x9_1 = some r) ∧ Aside0 (kq ≤ k) ∧ Aside0 (ArrAt w' gb y) ∧ Aside0 (Below w.heap.size w w'))
 case atStart => exact ⟨(0), (List.replicate 21 0), (by first | rfl | (simp; done) | (simp [*]; done) | (simp only [wrap64, IntKind.wrap_i64]; done) | (simp [wrap64, IntKind.wrap_i64]; done)), H', ⟨Nat.le_refl _⟩, BQ, ⟨by repeat (first | (with_reducible first | exact HB.out | apply below_alloc | apply pw_below_drewN | apply below_drew1) | exact HB.out)⟩⟩
 case round =>
  clear H' BQ HB
  obtain ⟨x9_1, y, rfl, HA, HK1, BQ, HB⟩ := hrel
  cases gk with
  | zero => exact absurd HA.out (by simp [impl_LedgerValid.l0])
  | succ k1 =>
   have H := HA.out
   clear HA
   simp only [impl_LedgerValid.l0] at H
   by_cases c4 : x9_1 < (l0.length : Int)
   ·rw [if_pos c4] at H
    have c4b0 : decide (x9_1 < (l0.length : Int)) = true := decide_eq_true c4
    clear c4
    by_cases c5 : 0 ≤ x9_1
    ·rw [if_pos c5] at H
     have c5b0 : decide (0 ≤ x9_1) = true := decide_eq_true c5
     clear c5
     have HC5 := Aside0.mk H
     clear H
     have p140 : 0 ≤ (x9_1 : Int) := of_decide_eq_true (by first | (with_reducible assumption) | assumption)
     have q140 : x9_1 < (l0.length : Int) := of_decide_eq_true (by first | (with_reducible assumption) | assumption)
     obtain ⟨ad140, e140, hx140_0, hx140_1, hx140_2⟩ := at_T40 HR0.out x9_1 p140 q140
     cases e140
     replace hx140_0 := (HB.out.cell (World.block_lt_of_cell? w _ hx140_0)).trans hx140_0
     replace hx140_1 := (HB.out.cell (World.block_lt_of_cell? w _ hx140_1)).trans hx140_1
     replace hx140_2 := (HB.out.cell (World.block_lt_of_cell? w _ hx140_2)).trans hx140_2
     replace p140 := eq_true p140
     replace q140 := eq_true q140
     go_upto_region 5 with (first | ((with_reducible refine gate_dst (N := 5) rfl ?_); refine box_event ?hg (N := 5) ?hd (cs := #[.int .i64 0, .int .i64 0, .int .i64 0]) (t := 40) ?hr ?_; (case hd => rfl); (case hg => rfl); (case hr => first | (go_simp; done) | (go_simp; rfl)); intro ge hg w6 hbox hb; have n0_ := Aside0.mk (below_step (by repeat (first | (with_reducible first | exact HB.out | apply below_alloc | apply pw_below_drewN | apply below_drew1) | exact HB.out)) hb); have n1_ := Aside0.mk (hbox); have n3_ := Aside0.mk ((by rw [hg]; exact (below_size (by repeat (first | (with_reducible first | exact HB.out | apply below_alloc | apply pw_below_drewN | apply below_drew1) | exact HB.out))) : w.heap.size ≤ ge)); have n4_ := Aside0.mk (ArrAt.below BQ.out hb); have n5_ := Aside0.mk ((by rw [hg]; exact Nat.ne_of_gt BQ.out.lt) : ge ≠ gb); clear HB BQ; have HB := n0_; have BE := n1_; have GE := n3_; have BQ := n4_; have NE := n5_; clear n0_ n1_ n3_ n4_ n5_; clear hb hbox hg; have hcz7_0 : w6.cell? ⟨ge, 0, none⟩ = some (.int .i64 0) := (blk_cell BE.out 0).trans rfl; have hcz7_1 : w6.cell? ⟨ge, 1, none⟩ = some (.int .i64 0) := (blk_cell BE.out 1).trans rfl; have hcz7_2 : w6.cell? ⟨ge, 2, none⟩ = some (.int .i64 0) := (blk_cell BE.out 2).trans rfl; have hfz7_0 := blk_frozen BE.out 0; have hfz7_1 := blk_frozen BE.out 1; have hfz7_2 := blk_frozen BE.out 2))
     (try simp only [Act.put, List.setIfInBounds_toArray, List.set_cons_zero, List.set_cons_succ])
     go_cut [28] (fun v28 wc => ∃ (b : Bool), v28 = .bool b ∧ Aside0 ((if b = true then (some false) else (if 0 ≤ (rd_T40 l0 x9_1).f1 then (if (rd_T40 l0 x9_1).f1 < 21 then (if (rd_T40 l0 x9_1).f0 = 1 then (if (wrap64 ((rd y ((rd_T40 l0 x9_1).f1)) + ((rd_T40 l0 x9_1).f2))) < 0 then (some false) else (impl_LedgerValid.l0 k1 l0 (y.set ((rd_T40 l0 x9_1).f1).toNat (wrap64 ((rd y ((rd_T40 l0 x9_1).f1)) + ((rd_T40 l0 x9_1).f2)))) (wrap64 (x9_1 + 1)))) else (if (wrap64 ((rd y ((rd_T40 l0 x9_1).f1)) - ((rd_T40 l0 x9_1).f2))) < 0 then (some false) else (impl_LedgerValid.l0 k1 l0 (y.set ((rd_T40 l0 x9_1).f1).toNat (wrap64 ((rd y ((rd_T40 l0 x9_1).f1)) - ((rd_T40 l0 x9_1).f2)))) (wrap64 (x9_1 + 1))))) else none) else none)) = some r) ∧ Aside0 (ArrAt wc gb y) ∧ Aside0 (wc.heap[ge]? = some (.cells #[.int .i64 ((rd_T40 l0 x9_1).f0), .int .i64 ((rd_T40 l0 x9_1).f1), .int .i64 ((rd_T40 l0 x9_1).f2)] 40 (0, 0))) ∧ Aside0 (Below w.heap.size w wc))
     case first =>
      have H := HC5.out
      clear HC5
      obtain ⟨t1, A10, H⟩ := Option.bind_eq_some_iff.mp H
      have A1 := Aside0.mk A10
      clear A10
      cases t1 with
      | false =>
       replace H : (some false) = some r := H
       have hcz13_0 : w6.cell? ⟨ge, 0, none⟩ = some (.int .i64 0) := (blk_cell BE.out 0).trans rfl
       have hfz13_0 := blk_frozen BE.out 0
       have hcz13_1 : w6.cell? ⟨ge, 1, none⟩ = some (.int .i64 0) := (blk_cell BE.out 1).trans rfl
       have hfz13_1 := blk_frozen BE.out 1
       have hcz13_2 : w6.cell? ⟨ge, 2, none⟩ = some (.int .i64 0) := (blk_cell BE.out 2).trans rfl
       have hfz13_2 := blk_frozen BE.out 2
       go_wp2_with (first | ((with_reducible refine gate_callee (f := 34) rfl ?_); refine goesL_ (some 15) rfl rfl Try.func34 (by kernel_rfl) rfl #[.int .i64 ((rd_T40 l0 x9_1).f0), .int .i64 1, .int .i64 3] rfl (by (try simp only [List.map_toArray, List.map_cons, List.map_nil]); first | done | rfl | (simp only [List.length_drop, List.length_take]; rfl)) ?_; (with_reducible refine (impl_within.calls ((rd_T40 l0 x9_1).f0) 1 3 false _ A1.out).mono ?_); rintro e w' ⟨rfl, ⟨nd, rfl⟩⟩; refine ⟨_, rfl, ?_⟩))
       go_meet
       case rel => exact ⟨true, (by first | rfl | (simp; done) | (simp [*]; done) | (simp only [wrap64, IntKind.wrap_i64]; done) | (simp [wrap64, IntKind.wrap_i64]; done)), ⟨H⟩, ⟨by (with_reducible repeat (first | apply ArrAt.drewN | apply ArrAt.drew)); refine ArrAt.far ?_ NE.out.symm _; refine ArrAt.far ?_ NE.out.symm _; refine ArrAt.far ?_ NE.out.symm _; exact BQ.out⟩, ⟨by (with_reducible repeat (first | refine blk_drewN ?_ _ | refine blk_drew ?_ | refine blk_alloc ?_ _)); refine blk_put (cs := #[.int .i64 ((rd_T40 l0 x9_1).f0), .int .i64 ((rd_T40 l0 x9_1).f1), .int .i64 0]) ?_ 2 _ rfl; refine blk_put (cs := #[.int .i64 ((rd_T40 l0 x9_1).f0), .int .i64 0, .int .i64 0]) ?_ 1 _ rfl; refine blk_put (cs := #[.int .i64 0, .int .i64 0, .int .i64 0]) ?_ 0 _ rfl; exact BE.out⟩, ⟨by repeat (first | (with_reducible first | exact HB.out | apply below_alloc | apply pw_below_drewN | apply below_drew1 | refine below_set ?_ GE.out | refine below_set ?_ GA.out) | exact HB.out)⟩⟩
      | true =>
       rw [if_pos rfl] at H
       obtain ⟨t2, A20, H⟩ := Option.bind_eq_some_iff.mp H
       have A2 := Aside0.mk A20
       clear A20
       cases t2 with
       | false =>
        replace H : (some false) = some r := H
        have hcz13_0 : w6.cell? ⟨ge, 0, none⟩ = some (.int .i64 0) := (blk_cell BE.out 0).trans rfl
        have hfz13_0 := blk_frozen BE.out 0
        have hcz13_1 : w6.cell? ⟨ge, 1, none⟩ = some (.int .i64 0) := (blk_cell BE.out 1).trans rfl
        have hfz13_1 := blk_frozen BE.out 1
        have hcz13_2 : w6.cell? ⟨ge, 2, none⟩ = some (.int .i64 0) := (blk_cell BE.out 2).trans rfl
        have hfz13_2 := blk_frozen BE.out 2
        go_wp2_with (first | ((with_reducible refine gate_callee (f := 34) rfl ?_); refine goesL_ (some 15) rfl rfl Try.func34 (by kernel_rfl) rfl #[.int .i64 ((rd_T40 l0 x9_1).f0), .int .i64 1, .int .i64 3] rfl (by (try simp only [List.map_toArray, List.map_cons, List.map_nil]); first | done | rfl | (simp only [List.length_drop, List.length_take]; rfl)) ?_; (with_reducible refine (impl_within.calls ((rd_T40 l0 x9_1).f0) 1 3 true _ A1.out).mono ?_); rintro e w' ⟨rfl, ⟨nd, rfl⟩⟩; refine ⟨_, rfl, ?_⟩) | (go_at_call 35; (with_reducible refine (impl_isId.calls ((rd_T40 l0 x9_1).f1) false _ A2.out).mono ?_); rintro e w' ⟨rfl, ⟨nd, rfl⟩⟩))
        go_meet
        case rel => exact ⟨true, (by first | rfl | (simp; done) | (simp [*]; done) | (simp only [wrap64, IntKind.wrap_i64]; done) | (simp [wrap64, IntKind.wrap_i64]; done)), ⟨H⟩, ⟨by (with_reducible repeat (first | apply ArrAt.drewN | apply ArrAt.drew)); refine ArrAt.far ?_ NE.out.symm _; refine ArrAt.far ?_ NE.out.symm _; refine ArrAt.far ?_ NE.out.symm _; exact BQ.out⟩, ⟨by (with_reducible repeat (first | refine blk_drewN ?_ _ | refine blk_drew ?_ | refine blk_alloc ?_ _)); refine blk_put (cs := #[.int .i64 ((rd_T40 l0 x9_1).f0), .int .i64 ((rd_T40 l0 x9_1).f1), .int .i64 0]) ?_ 2 _ rfl; refine blk_put (cs := #[.int .i64 ((rd_T40 l0 x9_1).f0), .int .i64 0, .int .i64 0]) ?_ 1 _ rfl; refine blk_put (cs := #[.int .i64 0, .int .i64 0, .int .i64 0]) ?_ 0 _ rfl; exact BE.out⟩, ⟨by repeat (first | (with_reducible first | exact HB.out | apply below_alloc | apply pw_below_drewN | apply below_drew1 | refine below_set ?_ GE.out | refine below_set ?_ GA.out) | exact HB.out)⟩⟩
       | true =>
        rw [if_pos rfl] at H
        obtain ⟨t3, A30, H⟩ := Option.bind_eq_some_iff.mp H
        have A3 := Aside0.mk A30
        clear A30
        have hcz13_0 : w6.cell? ⟨ge, 0, none⟩ = some (.int .i64 0) := (blk_cell BE.out 0).trans rfl
        have hfz13_0 := blk_frozen BE.out 0
        have hcz13_1 : w6.cell? ⟨ge, 1, none⟩ = some (.int .i64 0) := (blk_cell BE.out 1).trans rfl
        have hfz13_1 := blk_frozen BE.out 1
        have hcz13_2 : w6.cell? ⟨ge, 2, none⟩ = some (.int .i64 0) := (blk_cell BE.out 2).trans rfl
        have hfz13_2 := blk_frozen BE.out 2
        go_wp2_with (first | ((with_reducible refine gate_callee (f := 34) rfl ?_); refine goesL_ (some 15) rfl rfl Try.func34 (by kernel_rfl) rfl #[.int .i64 ((rd_T40 l0 x9_1).f0), .int .i64 1, .int .i64 3] rfl (by (try simp only [List.map_toArray, List.map_cons, List.map_nil]); first | done | rfl | (simp only [List.length_drop, List.length_take]; rfl)) ?_; (with_reducible refine (impl_within.calls ((rd_T40 l0 x9_1).f0) 1 3 true _ A1.out).mono ?_); rintro e w' ⟨rfl, ⟨nd, rfl⟩⟩; refine ⟨_, rfl, ?_⟩) | (go_at_call 35; (with_reducible refine (impl_isId.calls ((rd_T40 l0 x9_1).f1) true _ A2.out).mono ?_); rintro e w' ⟨rfl, ⟨nd, rfl⟩⟩) | (go_at_call 34; (with_reducible refine (impl_within.calls ((rd_T40 l0 x9_1).f2) 1 9999 t3 _ A3.out).mono ?_); rintro e w' ⟨rfl, ⟨nd, rfl⟩⟩))
        go_meet
        case rel => exact ⟨(!t3), (by first | rfl | (simp; done) | (simp [*]; done) | (simp only [wrap64, IntKind.wrap_i64]; done) | (simp [wrap64, IntKind.wrap_i64]; done)), ⟨H⟩, ⟨by (with_reducible repeat (first | apply ArrAt.drewN | apply ArrAt.drew)); refine ArrAt.far ?_ NE.out.symm _; refine ArrAt.far ?_ NE.out.symm _; refine ArrAt.far ?_ NE.out.symm _; exact BQ.out⟩, ⟨by (with_reducible repeat (first | refine blk_drewN ?_ _ | refine blk_drew ?_ | refine blk_alloc ?_ _)); refine blk_put (cs := #[.int .i64 ((rd_T40 l0 x9_1).f0), .int .i64 ((rd_T40 l0 x9_1).f1), .int .i64 0]) ?_ 2 _ rfl; refine blk_put (cs := #[.int .i64 ((rd_T40 l0 x9_1).f0), .int .i64 0, .int .i64 0]) ?_ 1 _ rfl; refine blk_put (cs := #[.int .i64 0, .int .i64 0, .int .i64 0]) ?_ 0 _ rfl; exact BE.out⟩, ⟨by repeat (first | (with_reducible first | exact HB.out | apply below_alloc | apply pw_below_drewN | apply below_drew1 | refine below_set ?_ GE.out | refine below_set ?_ GA.out) | exact HB.out)⟩⟩
     case rest =>
      clear HC5
      try clear hx140_0
      try clear hx140_1
      try clear hx140_2
      try clear p140
      try clear q140
      try clear hcz7_0
      try clear hfz7_0
      try clear hcz7_1
      try clear hfz7_1
      try clear hcz7_2
      try clear hfz7_2
      try clear BE
      try clear BQ
      try clear HB
      obtain ⟨b, rfl, HA, BQ, BE, HB⟩ := hcut
      have H := HA.out
      clear HA
      cases b with
      | true =>
       obtain rfl := Option.some.inj H
       clear H
       go_wp2
       go_ret
       exact ⟨by first | rfl | (simp; done) | (simp [*]; done), by repeat (first | (with_reducible first | exact HB.out | apply below_alloc | apply pw_below_drewN | apply below_drew1 | refine below_set ?_ GE.out | refine below_set ?_ GA.out) | exact HB.out)⟩
      | false =>
       rw [if_neg (by simp)] at H
       by_cases c6 : 0 ≤ (rd_T40 l0 x9_1).f1
       rotate_left
       ·rw [if_neg c6] at H
        exact absurd H (by simp)
       rw [if_pos c6] at H
       by_cases c7 : (rd_T40 l0 x9_1).f1 < 21
       rotate_left
       ·rw [if_neg c7] at H
        exact absurd H (by simp)
       rw [if_pos c7] at H
       have hq : wc.cell? ⟨gb, ((rd_T40 l0 x9_1).f1).toNat, none⟩ = some (.int .i64 (rd y ((rd_T40 l0 x9_1).f1))) := BQ.out.cell _ c6 c7
       have HQ := Aside0.mk hq
       clear hq
       have c6b0 : decide (0 ≤ (rd_T40 l0 x9_1).f1) = true := decide_eq_true c6
       have c7b0 : decide ((rd_T40 l0 x9_1).f1 < 21) = true := decide_eq_true c7
       replace c6 := eq_true c6
       replace c7 := eq_true c7
       by_cases c8 : (rd_T40 l0 x9_1).f0 = 1
       ·rw [if_pos c8] at H
        have c8b0 : (((rd_T40 l0 x9_1).f0) == 1) = true := beq_iff_eq.mpr c8
        have c8b1 : (((rd_T40 l0 x9_1).f0) != 1) = false := bne_eq_false_iff_eq.mpr c8
        clear c8
        have HC8 := Aside0.mk H
        clear H
        have hcz17_0 : wc.cell? ⟨ge, 0, none⟩ = some (.int .i64 ((rd_T40 l0 x9_1).f0)) := (blk_cell BE.out 0).trans rfl
        have hfz17_0 := blk_frozen BE.out 0
        have hcz17_1 : wc.cell? ⟨ge, 1, none⟩ = some (.int .i64 ((rd_T40 l0 x9_1).f1)) := (blk_cell BE.out 1).trans rfl
        have hfz17_1 := blk_frozen BE.out 1
        have hcz17_2 : wc.cell? ⟨ge, 2, none⟩ = some (.int .i64 ((rd_T40 l0 x9_1).f2)) := (blk_cell BE.out 2).trans rfl
        have hfz17_2 := blk_frozen BE.out 2
        try go_wp2
        have n0_ := Aside0.mk (ArrAt.drew BQ.out)
        have n1_ := Aside0.mk (blk_drew BE.out)
        have n2_ := Aside0.mk (below_drew1 HB.out)
        have n3_ : Aside0 (wc.drew.cell? ⟨gb, ((rd_T40 l0 x9_1).f1).toNat, none⟩ = some (.int .i64 (rd y ((rd_T40 l0 x9_1).f1)))) := HQ
        clear BQ BE HB HQ
        have BQ := n0_
        have BE := n1_
        have HB := n2_
        have HQ := n3_
        clear n0_ n1_ n2_ n3_
        clear hcz17_0
        clear hfz17_0
        clear hcz17_1
        clear hfz17_1
        clear hcz17_2
        clear hfz17_2
        refine start_ (n := 9) (S := fun w' => w'.cell? ⟨ge, 1, none⟩ = some (.int .i64 ((rd_T40 l0 x9_1).f1)) ∧ w'.cell? ⟨ge, 2, none⟩ = some (.int .i64 ((rd_T40 l0 x9_1).f2)) ∧ w'.cell? ⟨gb, ((rd_T40 l0 x9_1).f1).toNat, none⟩ = some (.int .i64 (rd y ((rd_T40 l0 x9_1).f1)))) (ds := [8]) #[false, false, false, false, false, false, false, false, false] (by kernel_rfl) rfl rfl ⟨(blk_cell BE.out 1).trans rfl, (blk_cell BE.out 2).trans rfl, HQ.out⟩ (fun hHeld => ?_)
        generalize wc.drew = w21 at BQ BE HB HQ hHeld ⊢
        refine pure_ (i := 0) (N := some 32) (v := ?_) (a' := ?_) #[true, false, false, false, false, false, false, false, false] rfl rfl (by kernel_rfl) (fun _ _ _ h => h) (Or.inl ⟨by rfl, ?_⟩) ?_ ?_
        rotate_left
        ·intro w'
         go_simp
         with_reducible rfl
        rotate_left
        ·simp only [Act.put, List.setIfInBounds_toArray, List.set_cons_zero, List.set_cons_succ, i64_w, i32_w]
         rfl
        refine pure_ (i := 4) (N := some 36) (v := ?_) (a' := ?_) #[true, false, false, false, true, false, false, false, false] rfl rfl (by kernel_rfl) (fun _ _ _ h => h) (Or.inl ⟨by rfl, ?_⟩) ?_ ?_
        rotate_left
        ·intro w'
         go_simp
         with_reducible rfl
        rotate_left
        ·simp only [Act.put, List.setIfInBounds_toArray, List.set_cons_zero, List.set_cons_succ, i64_w, i32_w]
         rfl
        refine take_ (i := 1) (N := some 33) (v := ?_) (a' := ?_) #[true, true, false, false, true, false, false, false, false] rfl rfl (by kernel_rfl) (fun _ _ _ h => h) (Or.inl ⟨by rfl, ?_⟩) hHeld ?_ ?_
        rotate_left
        ·rintro w' ⟨s0, s1, s2⟩
         go_simp
         with_reducible rfl
        rotate_left
        ·simp only [Act.put, List.setIfInBounds_toArray, List.set_cons_zero, List.set_cons_succ, i64_w, i32_w]
         rfl
        refine pure_ (i := 2) (N := some 34) (v := ?_) (a' := ?_) #[true, true, true, false, true, false, false, false, false] rfl rfl (by kernel_rfl) (fun _ _ _ h => h) (Or.inl ⟨by rfl, ?_⟩) ?_ ?_
        rotate_left
        ·intro w'
         go_simp
         with_reducible rfl
        rotate_left
        ·simp only [Act.put, List.setIfInBounds_toArray, List.set_cons_zero, List.set_cons_succ, i64_w, i32_w]
         rfl
        refine take_ (i := 3) (N := some 35) (v := ?_) (a' := ?_) #[true, true, true, true, true, false, false, false, false] rfl rfl (by kernel_rfl) (fun _ _ _ h => h) (Or.inl ⟨by rfl, ?_⟩) hHeld ?_ ?_
        rotate_left
        ·rintro w' ⟨s0, s1, s2⟩
         go_simp
         with_reducible rfl
        rotate_left
        ·simp only [Act.put, List.setIfInBounds_toArray, List.set_cons_zero, List.set_cons_succ, i64_w, i32_w]
         rfl
        refine take_ (i := 5) (N := some 37) (v := ?_) (a' := ?_) #[true, true, true, true, true, true, false, false, false] rfl rfl (by kernel_rfl) (fun _ _ _ h => h) (Or.inl ⟨by rfl, ?_⟩) hHeld ?_ ?_
        rotate_left
        ·rintro w' ⟨s0, s1, s2⟩
         go_simp
         with_reducible rfl
        rotate_left
        ·simp only [Act.put, List.setIfInBounds_toArray, List.set_cons_zero, List.set_cons_succ, i64_w, i32_w]
         rfl
        refine pure_ (i := 6) (N := some 38) (v := ?_) (a' := ?_) #[true, true, true, true, true, true, true, false, false] rfl rfl (by kernel_rfl) (fun _ _ _ h => h) (Or.inl ⟨by rfl, ?_⟩) ?_ ?_
        rotate_left
        ·intro w'
         go_simp
         with_reducible rfl
        rotate_left
        ·simp only [Act.put, List.setIfInBounds_toArray, List.set_cons_zero, List.set_cons_succ, i64_w, i32_w]
         rfl
        refine pure_ (i := 7) (N := some 39) (v := ?_) (a' := ?_) #[true, true, true, true, true, true, true, true, false] rfl rfl (by kernel_rfl) (fun _ _ _ h => h) (Or.inl ⟨by rfl, ?_⟩) ?_ ?_
        rotate_left
        ·intro w'
         go_simp
         with_reducible rfl
        rotate_left
        ·simp only [Act.put, List.setIfInBounds_toArray, List.set_cons_zero, List.set_cons_succ, i64_w, i32_w]
         rfl
        refine last_ (i := 8) (N := none) #[true, true, true, true, true, true, true, true, true] rfl rfl (by kernel_rfl) (by decide) (fun K hK => ?_)
        have hs22 : w21.cell? ⟨gb, ((rd_T40 l0 x9_1).f1).toNat, none⟩ = some (.int .i64 (rd y ((rd_T40 l0 x9_1).f1))) := HQ.out
        have hfs22 := BQ.out.frozen ((rd_T40 l0 x9_1).f1).toNat
        have hns22_0 := NE.out
        have hms22_0 := NE.out.symm
        refine skip_ (w1 := ?_) (by rfl) rfl ?_ ?_
        rotate_left
        ·go_simp
         rfl
        refine hK.out _ _ ?_
        clear hK K
        refine done_ (by kernel_rfl) ?_
        have H := HC8.out
        clear HC8
        have hcz18_0 : w21.cell? ⟨ge, 0, none⟩ = some (.int .i64 ((rd_T40 l0 x9_1).f0)) := (blk_cell BE.out 0).trans rfl
        have hcz18_1 : w21.cell? ⟨ge, 1, none⟩ = some (.int .i64 ((rd_T40 l0 x9_1).f1)) := (blk_cell BE.out 1).trans rfl
        have hcz18_2 : w21.cell? ⟨ge, 2, none⟩ = some (.int .i64 ((rd_T40 l0 x9_1).f2)) := (blk_cell BE.out 2).trans rfl
        by_cases c9 : (wrap64 ((rd y ((rd_T40 l0 x9_1).f1)) + ((rd_T40 l0 x9_1).f2))) < 0
        ·rw [if_pos c9] at H
         have c9b0 : decide ((wrap64 ((rd y ((rd_T40 l0 x9_1).f1)) + ((rd_T40 l0 x9_1).f2))) < 0) = true := decide_eq_true c9
         clear c9
         obtain rfl := Option.some.inj H
         clear H
         go_wp2
         go_ret
         exact ⟨by first | rfl | (simp; done) | (simp [*]; done), by repeat (first | (with_reducible first | exact HB.out | apply below_alloc | apply pw_below_drewN | apply below_drew1 | refine below_set ?_ GE.out | refine below_set ?_ GA.out) | exact HB.out)⟩
        ·rw [if_neg c9] at H
         have c9b0 : decide ((wrap64 ((rd y ((rd_T40 l0 x9_1).f1)) + ((rd_T40 l0 x9_1).f2))) < 0) = false := decide_eq_false c9
         clear c9
         have H' := Aside0.mk H
         clear H
         go_wp2
         go_roundg k1
         case measure => have := HK1.out; omega
         case rel => exact ⟨(wrap64 (x9_1 + 1)), (y.set ((rd_T40 l0 x9_1).f1).toNat (wrap64 ((rd y ((rd_T40 l0 x9_1).f1)) + ((rd_T40 l0 x9_1).f2)))), (by first | rfl | (simp; done) | (simp [*]; done) | (simp only [wrap64, IntKind.wrap_i64]; done) | (simp [wrap64, IntKind.wrap_i64]; done)), H', ⟨by have := HK1.out; omega⟩, ⟨by (with_reducible repeat (first | apply ArrAt.drewN | apply ArrAt.drew)); exact ArrAt.put BQ.out _ _⟩, ⟨by repeat (first | (with_reducible first | exact HB.out | apply below_alloc | apply pw_below_drewN | apply below_drew1 | refine below_set ?_ GE.out | refine below_set ?_ GA.out) | exact HB.out)⟩⟩
       ·rw [if_neg c8] at H
        have c8b0 : (((rd_T40 l0 x9_1).f0) == 1) = false := beq_eq_false_iff_ne.mpr c8
        have c8b1 : (((rd_T40 l0 x9_1).f0) != 1) = true := bne_iff_ne.mpr c8
        clear c8
        have HC8 := Aside0.mk H
        clear H
        have hcz17_0 : wc.cell? ⟨ge, 0, none⟩ = some (.int .i64 ((rd_T40 l0 x9_1).f0)) := (blk_cell BE.out 0).trans rfl
        have hfz17_0 := blk_frozen BE.out 0
        have hcz17_1 : wc.cell? ⟨ge, 1, none⟩ = some (.int .i64 ((rd_T40 l0 x9_1).f1)) := (blk_cell BE.out 1).trans rfl
        have hfz17_1 := blk_frozen BE.out 1
        have hcz17_2 : wc.cell? ⟨ge, 2, none⟩ = some (.int .i64 ((rd_T40 l0 x9_1).f2)) := (blk_cell BE.out 2).trans rfl
        have hfz17_2 := blk_frozen BE.out 2
        try go_wp2
        have n0_ := Aside0.mk (ArrAt.drew BQ.out)
        have n1_ := Aside0.mk (blk_drew BE.out)
        have n2_ := Aside0.mk (below_drew1 HB.out)
        have n3_ : Aside0 (wc.drew.cell? ⟨gb, ((rd_T40 l0 x9_1).f1).toNat, none⟩ = some (.int .i64 (rd y ((rd_T40 l0 x9_1).f1)))) := HQ
        clear BQ BE HB HQ
        have BQ := n0_
        have BE := n1_
        have HB := n2_
        have HQ := n3_
        clear n0_ n1_ n2_ n3_
        clear hcz17_0
        clear hfz17_0
        clear hcz17_1
        clear hfz17_1
        clear hcz17_2
        clear hfz17_2
        refine start_ (n := 9) (S := fun w' => w'.cell? ⟨ge, 1, none⟩ = some (.int .i64 ((rd_T40 l0 x9_1).f1)) ∧ w'.cell? ⟨ge, 2, none⟩ = some (.int .i64 ((rd_T40 l0 x9_1).f2)) ∧ w'.cell? ⟨gb, ((rd_T40 l0 x9_1).f1).toNat, none⟩ = some (.int .i64 (rd y ((rd_T40 l0 x9_1).f1)))) (ds := [8]) #[false, false, false, false, false, false, false, false, false] (by kernel_rfl) rfl rfl ⟨(blk_cell BE.out 1).trans rfl, (blk_cell BE.out 2).trans rfl, HQ.out⟩ (fun hHeld => ?_)
        generalize wc.drew = w21 at BQ BE HB HQ hHeld ⊢
        refine pure_ (i := 0) (N := some 40) (v := ?_) (a' := ?_) #[true, false, false, false, false, false, false, false, false] rfl rfl (by kernel_rfl) (fun _ _ _ h => h) (Or.inl ⟨by rfl, ?_⟩) ?_ ?_
        rotate_left
        ·intro w'
         go_simp
         with_reducible rfl
        rotate_left
        ·simp only [Act.put, List.setIfInBounds_toArray, List.set_cons_zero, List.set_cons_succ, i64_w, i32_w]
         rfl
        refine pure_ (i := 4) (N := some 44) (v := ?_) (a' := ?_) #[true, false, false, false, true, false, false, false, false] rfl rfl (by kernel_rfl) (fun _ _ _ h => h) (Or.inl ⟨by rfl, ?_⟩) ?_ ?_
        rotate_left
        ·intro w'
         go_simp
         with_reducible rfl
        rotate_left
        ·simp only [Act.put, List.setIfInBounds_toArray, List.set_cons_zero, List.set_cons_succ, i64_w, i32_w]
         rfl
        refine take_ (i := 1) (N := some 41) (v := ?_) (a' := ?_) #[true, true, false, false, true, false, false, false, false] rfl rfl (by kernel_rfl) (fun _ _ _ h => h) (Or.inl ⟨by rfl, ?_⟩) hHeld ?_ ?_
        rotate_left
        ·rintro w' ⟨s0, s1, s2⟩
         go_simp
         with_reducible rfl
        rotate_left
        ·simp only [Act.put, List.setIfInBounds_toArray, List.set_cons_zero, List.set_cons_succ, i64_w, i32_w]
         rfl
        refine pure_ (i := 2) (N := some 42) (v := ?_) (a' := ?_) #[true, true, true, false, true, false, false, false, false] rfl rfl (by kernel_rfl) (fun _ _ _ h => h) (Or.inl ⟨by rfl, ?_⟩) ?_ ?_
        rotate_left
        ·intro w'
         go_simp
         with_reducible rfl
        rotate_left
        ·simp only [Act.put, List.setIfInBounds_toArray, List.set_cons_zero, List.set_cons_succ, i64_w, i32_w]
         rfl
        refine take_ (i := 3) (N := some 43) (v := ?_) (a' := ?_) #[true, true, true, true, true, false, false, false, false] rfl rfl (by kernel_rfl) (fun _ _ _ h => h) (Or.inl ⟨by rfl, ?_⟩) hHeld ?_ ?_
        rotate_left
        ·rintro w' ⟨s0, s1, s2⟩
         go_simp
         with_reducible rfl
        rotate_left
        ·simp only [Act.put, List.setIfInBounds_toArray, List.set_cons_zero, List.set_cons_succ, i64_w, i32_w]
         rfl
        refine take_ (i := 5) (N := some 45) (v := ?_) (a' := ?_) #[true, true, true, true, true, true, false, false, false] rfl rfl (by kernel_rfl) (fun _ _ _ h => h) (Or.inl ⟨by rfl, ?_⟩) hHeld ?_ ?_
        rotate_left
        ·rintro w' ⟨s0, s1, s2⟩
         go_simp
         with_reducible rfl
        rotate_left
        ·simp only [Act.put, List.setIfInBounds_toArray, List.set_cons_zero, List.set_cons_succ, i64_w, i32_w]
         rfl
        refine pure_ (i := 6) (N := some 46) (v := ?_) (a' := ?_) #[true, true, true, true, true, true, true, false, false] rfl rfl (by kernel_rfl) (fun _ _ _ h => h) (Or.inl ⟨by rfl, ?_⟩) ?_ ?_
        rotate_left
        ·intro w'
         go_simp
         with_reducible rfl
        rotate_left
        ·simp only [Act.put, List.setIfInBounds_toArray, List.set_cons_zero, List.set_cons_succ, i64_w, i32_w]
         rfl
        refine pure_ (i := 7) (N := some 47) (v := ?_) (a' := ?_) #[true, true, true, true, true, true, true, true, false] rfl rfl (by kernel_rfl) (fun _ _ _ h => h) (Or.inl ⟨by rfl, ?_⟩) ?_ ?_
        rotate_left
        ·intro w'
         go_simp
         with_reducible rfl
        rotate_left
        ·simp only [Act.put, List.setIfInBounds_toArray, List.set_cons_zero, List.set_cons_succ, i64_w, i32_w]
         rfl
        refine last_ (i := 8) (N := none) #[true, true, true, true, true, true, true, true, true] rfl rfl (by kernel_rfl) (by decide) (fun K hK => ?_)
        have hs22 : w21.cell? ⟨gb, ((rd_T40 l0 x9_1).f1).toNat, none⟩ = some (.int .i64 (rd y ((rd_T40 l0 x9_1).f1))) := HQ.out
        have hfs22 := BQ.out.frozen ((rd_T40 l0 x9_1).f1).toNat
        have hns22_0 := NE.out
        have hms22_0 := NE.out.symm
        refine skip_ (w1 := ?_) (by rfl) rfl ?_ ?_
        rotate_left
        ·go_simp
         rfl
        refine hK.out _ _ ?_
        clear hK K
        refine done_ (by kernel_rfl) ?_
        have H := HC8.out
        clear HC8
        have hcz18_0 : w21.cell? ⟨ge, 0, none⟩ = some (.int .i64 ((rd_T40 l0 x9_1).f0)) := (blk_cell BE.out 0).trans rfl
        have hcz18_1 : w21.cell? ⟨ge, 1, none⟩ = some (.int .i64 ((rd_T40 l0 x9_1).f1)) := (blk_cell BE.out 1).trans rfl
        have hcz18_2 : w21.cell? ⟨ge, 2, none⟩ = some (.int .i64 ((rd_T40 l0 x9_1).f2)) := (blk_cell BE.out 2).trans rfl
        by_cases c9 : (wrap64 ((rd y ((rd_T40 l0 x9_1).f1)) - ((rd_T40 l0 x9_1).f2))) < 0
        ·rw [if_pos c9] at H
         have c9b0 : decide ((wrap64 ((rd y ((rd_T40 l0 x9_1).f1)) - ((rd_T40 l0 x9_1).f2))) < 0) = true := decide_eq_true c9
         clear c9
         obtain rfl := Option.some.inj H
         clear H
         go_wp2
         go_ret
         exact ⟨by first | rfl | (simp; done) | (simp [*]; done), by repeat (first | (with_reducible first | exact HB.out | apply below_alloc | apply pw_below_drewN | apply below_drew1 | refine below_set ?_ GE.out | refine below_set ?_ GA.out) | exact HB.out)⟩
        ·rw [if_neg c9] at H
         have c9b0 : decide ((wrap64 ((rd y ((rd_T40 l0 x9_1).f1)) - ((rd_T40 l0 x9_1).f2))) < 0) = false := decide_eq_false c9
         clear c9
         have H' := Aside0.mk H
         clear H
         go_wp2
         go_roundg k1
         case measure => have := HK1.out; omega
         case rel => exact ⟨(wrap64 (x9_1 + 1)), (y.set ((rd_T40 l0 x9_1).f1).toNat (wrap64 ((rd y ((rd_T40 l0 x9_1).f1)) - ((rd_T40 l0 x9_1).f2)))), (by first | rfl | (simp; done) | (simp [*]; done) | (simp only [wrap64, IntKind.wrap_i64]; done) | (simp [wrap64, IntKind.wrap_i64]; done)), H', ⟨by have := HK1.out; omega⟩, ⟨by (with_reducible repeat (first | apply ArrAt.drewN | apply ArrAt.drew)); exact ArrAt.put BQ.out _ _⟩, ⟨by repeat (first | (with_reducible first | exact HB.out | apply below_alloc | apply pw_below_drewN | apply below_drew1 | refine below_set ?_ GE.out | refine below_set ?_ GA.out) | exact HB.out)⟩⟩
    ·rw [if_neg c5] at H
     exact absurd H (by simp)
   ·rw [if_neg c4] at H
    have c4b0 : decide (x9_1 < (l0.length : Int)) = false := decide_eq_false c4
    clear c4
    obtain rfl := Option.some.inj H
    clear H
    go_wp2
    go_ret
    exact ⟨by first | rfl | (simp; done) | (simp [*]; done), by repeat (first | (with_reducible first | exact HB.out | apply below_alloc | apply pw_below_drewN | apply below_drew1) | exact HB.out)⟩


end Go.Proofs.Ytacjlhffmoglhaa.PAll
