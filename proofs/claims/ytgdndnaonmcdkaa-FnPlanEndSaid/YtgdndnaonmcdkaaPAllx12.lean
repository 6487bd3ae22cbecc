-- PRINTED by print.py (a twelfth state) out of the translation. Not trusted: Lean checks it.
import Derived.Test.YtgdndnaonmcdkaaPAllx0
import Derived.Test.YtgdndnaonmcdkaaPAllx1
import Derived.Test.YtgdndnaonmcdkaaPAllx11
namespace Go.Proofs.Ytgdndnaonmcdkaa.PAll
open Go.RowKit Go.Proofs.YtgdndnaonmcdkaaW.PrintWords Go.Proofs.YtgdndnaonmcdkaaW.PrintLast Go.Proofs.YtgdndnaonmcdkaaW.PrintMore
attribute [local go_sem] max2_int min2_int max_two min_two max_three min_three max_four min_four   -- for this text's walks alone
set_option linter.unusedVariables false
set_option linter.unusedSimpArgs false

/-! ### spec_DrawPlanValid: function 7 -/
def spec_DrawPlanValid.j0 : Nat → List (S29) → List Int → Int → Int → Bool → List Int → Int → Int → List Int → Option ((List (S29)) × Int × List Int × List Int)
 | 0, _, _, _, _, _, _, _, _, _ => none
 | k + 1, x6, x8, x9, x26, x27, x305000, x305001, x317000, x317001 => if x27 = true then (if 0 ≤ x9 then (if x9 < (x8.length : Int) then ((spec_l6Rd_pick.f k x305000 x305001 6).bind fun bt322 => (some (x6, x317000, x317001, (x8.set (x9 : Int).toNat (wrap64 ((rd x8 x9) + bt322.1)))))) else (none)) else (none)) else (if x26 = 2 then (if 0 ≤ x9 then (if x9 < (x8.length : Int) then (some (x6, x317000, x317001, (x8.set (x9 : Int).toNat (wrap64 ((rd x8 x9) - 1))))) else (none)) else (none)) else (if x26 = 3 then (if 1 ≤ (x8.length : Int) then (some (x6, x317000, x317001, (x8.drop (1 : Int).toNat))) else (none)) else (some (x6, x317000, x317001, x8))))
def spec_DrawPlanValid.f (k : Nat) (l0 : List Int) : Option ((List (S29)) × Int × List Int × List Int) := (spec_l6Open.f l0).bind fun bt302 => ((spec_l92Plan.f k bt302.1 bt302.2).bind fun bt305 => (if (bt305.2.2.2.1.length : Int) > 0 then ((spec_l6Rd_pick.f k bt302.1 bt305.2.2.2.2 (bt305.2.2.2.1.length : Int)).bind fun bt317 => ((spec_l6Rd_pick.f k bt302.1 bt317.2 8).bind fun bt319 => (if bt319.1 = 0 then (spec_DrawPlanValid.j0 k bt305.1 bt305.2.2.2.1 bt317.1 bt319.1 (bt319.1 == 0) bt302.1 bt319.2 bt305.2.1 bt305.2.2.1) else (spec_DrawPlanValid.j0 k bt305.1 bt305.2.2.2.1 bt317.1 bt319.1 (bt319.1 == 1) bt302.1 bt319.2 bt305.2.1 bt305.2.2.1)))) else (some (bt305.1, bt305.2.1, bt305.2.2.1, bt305.2.2.2.1))))
def spec_DrawPlanValid.T8 : Bool × List (List Nat × List Nat) := (true, [([], []), ([], []), ([], []), ([], []), ([2, 3], [2, 3]), ([4], [4]), ([], []), ([6], [6]), ([5, 7], [5, 7]), ([0, 1, 0, 1, 2, 3, 4, 5, 6, 7, 8], [0, 1]), ([9, 8, 7, 0, 1, 2, 3, 4, 5, 6, 7, 8], [8, 9])])
def spec_DrawPlanValid.B8 : List Nat := [0, 0, 0, 0, 12, 28, 0, 64, 252, 511, 1023]
theorem spec_DrawPlanValid.tab8 : rtab .any (opsOf Try.f7 8) = spec_DrawPlanValid.T8 := by kernel_rfl
theorem spec_DrawPlanValid.bits8 : waitsOk spec_DrawPlanValid.T8.2 spec_DrawPlanValid.B8 = true := by kernel_rfl
set_option maxHeartbeats 8000000 in
set_option maxRecDepth 100000 in
theorem spec_DrawPlanValid.calls (k : Nat) (A0 : Option Addr) (c0 : Nat) (l0 : List Int) (r1 : List (S29)) (r2 : Int) (r3 : List Int) (r4 : List Int) (w : World) (hr0 : Kd.C (Kd.int .u8) w A0 l0.length l0) (hc0 : l0.length ≤ c0) (h : spec_DrawPlanValid.f k l0 = some (r1, r2, r3, r4)) :
  Calls Try.prog 7 #[.slice A0 l0.length c0] w fun e w' => ∃ v0_ v2_ v3_ : Value, e = .returned (.tuple #[v0_, .agg #[.int .i64 r2, v2_], v3_]) ∧ Kd.S k29 29 w' w.heap.size (fun k_ => some k_ ≠ (v2_ : Value).ownBlock ∧ some k_ ≠ (v3_ : Value).ownBlock) v0_ r1 ∧ Kd.R (Kd.int .i64) 3 w' w.heap.size (fun k_ => some k_ ≠ (v3_ : Value).ownBlock) v2_ r3 ∧ Kd.Q (Kd.int .i64) 3 w' w.heap.size (fun k_ => some k_ ≠ (v2_ : Value).ownBlock) v3_ r4 ∧ Below w.heap.size w w' := by
 have hu32 := Try.underlying32
 have HR0 := Aside0.mk hr0
 have HC0 := Aside0.mk hc0
 clear hr0 hc0
 have HB := Aside0.mk (Below.refl w.heap.size w)
 have H : ((spec_l6Open.f l0).bind fun bt302 => ((spec_l92Plan.f k bt302.1 bt302.2).bind fun bt305 => (if (bt305.2.2.2.1.length : Int) > 0 then ((spec_l6Rd_pick.f k bt302.1 bt305.2.2.2.2 (bt305.2.2.2.1.length : Int)).bind fun bt317 => ((spec_l6Rd_pick.f k bt302.1 bt317.2 8).bind fun bt319 => (if bt319.1 = 0 then (spec_DrawPlanValid.j0 k bt305.1 bt305.2.2.2.1 bt317.1 bt319.1 (bt319.1 == 0) bt302.1 bt319.2 bt305.2.1 bt305.2.2.1) else (spec_DrawPlanValid.j0 k bt305.1 bt305.2.2.2.1 bt317.1 bt319.1 (bt319.1 == 1) bt302.1 bt319.2 bt305.2.1 bt305.2.2.1)))) else (some (bt305.1, bt305.2.1, bt305.2.2.1, bt305.2.2.2.1))))) = some (r1, r2, r3, r4) := h
 clear h
 replace H := Option.bind_eq_some_iff.mp H
 obtain ⟨⟨t302, t303⟩, A20, H⟩ := H
 replace H : ((spec_l92Plan.f k t302 t303).bind fun bt305 => (if (bt305.2.2.2.1.length : Int) > 0 then ((spec_l6Rd_pick.f k t302 bt305.2.2.2.2 (bt305.2.2.2.1.length : Int)).bind fun bt317 => ((spec_l6Rd_pick.f k t302 bt317.2 8).bind fun bt319 => (if bt319.1 = 0 then (spec_DrawPlanValid.j0 k bt305.1 bt305.2.2.2.1 bt317.1 bt319.1 (bt319.1 == 0) t302 bt319.2 bt305.2.1 bt305.2.2.1) else (spec_DrawPlanValid.j0 k bt305.1 bt305.2.2.2.1 bt317.1 bt319.1 (bt319.1 == 1) t302 bt319.2 bt305.2.1 bt305.2.2.1)))) else (some (bt305.1, bt305.2.1, bt305.2.2.1, bt305.2.2.2.1)))) = some (r1, r2, r3, r4) := H
 have A2 := Aside0.mk A20
 clear A20
 replace H := Option.bind_eq_some_iff.mp H
 obtain ⟨⟨t305, t308, t309, t312, t315⟩, A30, H⟩ := H
 replace H : (if (t312.length : Int) > 0 then ((spec_l6Rd_pick.f k t302 t315 (t312.length : Int)).bind fun bt317 => ((spec_l6Rd_pick.f k t302 bt317.2 8).bind fun bt319 => (if bt319.1 = 0 then (spec_DrawPlanValid.j0 k t305 t312 bt317.1 bt319.1 (bt319.1 == 0) t302 bt319.2 t308 t309) else (spec_DrawPlanValid.j0 k t305 t312 bt317.1 bt319.1 (bt319.1 == 1) t302 bt319.2 t308 t309)))) else (some (t305, t308, t309, t312))) = some (r1, r2, r3, r4) := H
 have A3 := Aside0.mk A30
 clear A30
 by_cases c4 : (t312.length : Int) > 0
 ·rw [if_pos c4] at H
  have c4b0 : decide (0 < (t312.length : Int)) = true := decide_eq_true c4
  have c4b1 : decide (0 < t312.length) = true := decide_eq_true (by omega)
  clear c4
  replace H := Option.bind_eq_some_iff.mp H
  obtain ⟨⟨t317, t318⟩, A50, H⟩ := H
  replace H : ((spec_l6Rd_pick.f k t302 t318 8).bind fun bt319 => (if bt319.1 = 0 then (spec_DrawPlanValid.j0 k t305 t312 t317 bt319.1 (bt319.1 == 0) t302 bt319.2 t308 t309) else (spec_DrawPlanValid.j0 k t305 t312 t317 bt319.1 (bt319.1 == 1) t302 bt319.2 t308 t309))) = some (r1, r2, r3, r4) := H
  have A5 := Aside0.mk A50
  clear A50
  replace H := Option.bind_eq_some_iff.mp H
  obtain ⟨⟨t319, t320⟩, A60, H⟩ := H
  replace H : (if t319 = 0 then (spec_DrawPlanValid.j0 k t305 t312 t317 t319 (t319 == 0) t302 t320 t308 t309) else (spec_DrawPlanValid.j0 k t305 t312 t317 t319 (t319 == 1) t302 t320 t308 t309)) = some (r1, r2, r3, r4) := H
  have A6 := Aside0.mk A60
  clear A60
  have HC7 := Aside0.mk H
  clear H
  go_enter Try.func7, Try.ntmps7
  go_upto_if 27 with (first | ((with_reducible refine gate_dst (N := 3) rfl ?_); refine box_event ?hg (N := 3) ?hd (cs := #[.int .i64 0, .slice none 0 0]) (t := 32) ?hr ?_; (case hd => rfl); (case hg => rfl); (case hr => first | (go_simp; done) | (go_simp; rfl)); intro gb301 hg w8 hbox hb; have n0_ := Aside0.mk (below_step (by repeat (first | (with_reducible first | exact HB.out | apply below_alloc | apply pw_below_drewN | apply below_drew1) | exact HB.out)) hb); have n1_ := Aside0.mk (hbox); have n2_ := Aside0.mk ((by rw [hg]; exact (below_size (by repeat (first | (with_reducible first | exact HB.out | apply below_alloc | apply pw_below_drewN | apply below_drew1) | exact HB.out))) : w.heap.size ≤ gb301)); have n3_ := Aside0.mk ((by rw [hg]; exact (below_size (by repeat (first | (with_reducible first | exact HB.out | apply below_alloc | apply pw_below_drewN | apply below_drew1) | exact HB.out))) : w.heap.size ≤ gb301)); clear HB; have HB := n0_; have BK301 := n1_; have GW301 := n2_; have GE301 := n3_; clear n0_ n1_ n2_ n3_; clear hb hbox hg) | ((with_reducible refine gate_callee (f := 11) rfl ?_); refine goesL_ (some 11) rfl rfl Try.func11 (by kernel_rfl) rfl #[.slice A0 l0.length c0] rfl (by (try simp only [List.map_toArray, List.map_cons, List.map_nil]); first | done | rfl | (simp only [List.length_drop, List.length_take]; rfl)) ?_; (with_reducible refine (spec_l6Open.calls _ _ l0 t302 t303 w _ ?side1 ?side2 ?side3 A2.out).mono ?_); (case side1 => repeat (first | (with_reducible first | exact HB.out | apply below_alloc | apply pw_below_drewN | apply below_drew1 | refine below_set ?_ GE301.out) | exact HB.out)); (case side2 => exact HR0.out); (case side3 => exact HC0.out); rintro e w9 ⟨g304, rfl, hi, hb, hb2⟩; refine ⟨_, rfl, ?_⟩; have n0_ := Aside0.mk (blk_below (g := gb301) (o := .cells #[.int .i64 0, .slice none 0 0] 32 (0, 0)) (by (with_reducible repeat (first | refine blk_drewN ?_ _ | refine blk_drew ?_ | refine blk_alloc ?_ _)); exact BK301.out) hb2); have n1_ := Aside0.mk (hb); have n2_ := Aside0.mk (hi); have n3_ := Aside0.mk (IsS45.ne_blk hi (blk_below (g := gb301) (o := .cells #[.int .i64 0, .slice none 0 0] 32 (0, 0)) (by (with_reducible repeat (first | refine blk_drewN ?_ _ | refine blk_drew ?_ | refine blk_alloc ?_ _)); exact BK301.out) hb2) (by decide)); have n4_ := Aside0.mk (Ne.symm (IsS45.ne_blk hi (blk_below (g := gb301) (o := .cells #[.int .i64 0, .slice none 0 0] 32 (0, 0)) (by (with_reducible repeat (first | refine blk_drewN ?_ _ | refine blk_drew ?_ | refine blk_alloc ?_ _)); exact BK301.out) hb2) (by decide))); clear BK301; clear HB; have BK301 := n0_; have HB := n1_; have HI304 := n2_; have NB304_301 := n3_; have NB301_304 := n4_; clear n0_ n1_ n2_ n3_ n4_; (try clear hb); (try clear hb2); (try clear hk); (try clear hi)) | ((with_reducible refine gate_callee (f := 12) rfl ?_); refine goesL_ (some 14) rfl rfl Try.func12 (by kernel_rfl) rfl #[.pointer (some ⟨g304, 0, none⟩)] rfl (by (try simp only [List.map_toArray, List.map_cons, List.map_nil]); first | done | rfl | (simp only [List.length_drop, List.length_take]; rfl)) ?_; (with_reducible refine (spec_l92Plan.calls k g304 t302 t303 t305 t308 t309 t312 t315 w _ ?side1 ?side2 A3.out).mono ?_); (case side1 => repeat (first | (with_reducible first | exact HI304.out | apply IsS45.alloc | apply IsS45.drewN | apply IsS45.drew | apply IsS45.set_1 | refine IsS45.far ?_ NB304_301.out _) | exact HI304.out)); (case side2 => repeat (first | (with_reducible first | exact HB.out | apply below_alloc | apply pw_below_drewN | apply below_drew1 | refine below_set ?_ (IsS45.ge HI304.out) | refine below_set ?_ GE301.out) | exact HB.out)); rintro e w10 ⟨v306, v310, v313, rfl, ho0, ho1, ho2, hi, hb, hk⟩; refine ⟨_, rfl, ?_⟩; have n0_ := Aside0.mk (KeepBut.blk hk (g' := gb301) (o := .cells #[.int .i64 0, .slice none 0 0] 32 (0, 0)) (by (with_reducible repeat (first | refine blk_drewN ?_ _ | refine blk_drew ?_ | refine blk_alloc ?_ _)); exact BK301.out) NB301_304.out (by simp)); have n1_ := Aside0.mk (Kd.S_lower ho0 (below_size (by repeat (first | (with_reducible first | exact HB.out | apply below_alloc | apply pw_below_drewN | apply below_drew1 | refine below_set ?_ (IsS45.ge HI304.out) | refine below_set ?_ GE301.out) | exact HB.out)))); have n2_ := Aside0.mk (Kd.R_lower ho1 (below_size (by repeat (first | (with_reducible first | exact HB.out | apply below_alloc | apply pw_below_drewN | apply below_drew1 | refine below_set ?_ (IsS45.ge HI304.out) | refine below_set ?_ GE301.out) | exact HB.out)))); have n3_ := Aside0.mk (Kd.R_lower ho2 (below_size (by repeat (first | (with_reducible first | exact HB.out | apply below_alloc | apply pw_below_drewN | apply below_drew1 | refine below_set ?_ (IsS45.ge HI304.out) | refine below_set ?_ GE301.out) | exact HB.out)))); have n4_ := Aside0.mk (hb); have n5_ := Aside0.mk (hi); clear BK301; clear HB; clear HI304; have BK301 := n0_; have HO307 := n1_; have HO311 := n2_; have HO314 := n3_; have HB := n4_; have HI304 := n5_; clear n0_ n1_ n2_ n3_ n4_ n5_; (try clear hb); (try clear hb2); (try clear hk); (try clear hi); (try clear ho0); (try clear ho1); (try clear ho2)) | ((with_reducible refine gate_dst (N := 7) rfl ?_); refine box_event ?hg (N := 7) ?hd (cs := #[.int .i64 0, .slice none 0 0]) (t := 32) ?hr ?_; (case hd => rfl); (case hg => rfl); (case hr => first | (go_simp; done) | (go_simp; rfl)); intro gb316 hg w11 hbox hb; have n0_ := Aside0.mk (Kd.S_below (by (with_reducible repeat (first | apply Kd.S_alloc | apply Kd.S_drewN | apply Kd.S_drew)); exact HO307.out) hb); have n1_ := Aside0.mk (Kd.R_below (by (with_reducible repeat (first | apply Kd.R_alloc | apply Kd.R_drewN | apply Kd.R_drew)); exact HO311.out) hb); have n2_ := Aside0.mk (Kd.R_below (by (with_reducible repeat (first | apply Kd.R_alloc | apply Kd.R_drewN | apply Kd.R_drew)); exact HO314.out) hb); have n3_ := Aside0.mk (blk_below (g := gb301) (o := .cells #[.int .i64 0, .slice none 0 0] 32 (0, 0)) (by (with_reducible repeat (first | refine blk_drewN ?_ _ | refine blk_drew ?_ | refine blk_alloc ?_ _)); exact BK301.out) hb); have n4_ := Aside0.mk (IsS45.below (by repeat (first | (with_reducible first | exact HI304.out | apply IsS45.alloc | apply IsS45.drewN | apply IsS45.drew | apply IsS45.set_1 | refine IsS45.far ?_ NB304_301.out _) | exact HI304.out)) hb); have n5_ := Aside0.mk (below_step (by repeat (first | (with_reducible first | exact HB.out | apply below_alloc | apply pw_below_drewN | apply below_drew1 | refine below_set ?_ (IsS45.ge HI304.out) | refine below_set ?_ GE301.out) | exact HB.out)) hb); have n6_ := Aside0.mk (hbox); have n7_ := Aside0.mk ((by rw [hg]; exact (below_size (by repeat (first | (with_reducible first | exact HB.out | apply below_alloc | apply pw_below_drewN | apply below_drew1 | refine below_set ?_ (IsS45.ge HI304.out) | refine below_set ?_ GE301.out) | exact HB.out))) : w.heap.size ≤ gb316)); have n8_ := Aside0.mk ((by rw [hg]; exact (below_size (by repeat (first | (with_reducible first | exact HB.out | apply below_alloc | apply pw_below_drewN | apply below_drew1 | refine below_set ?_ (IsS45.ge HI304.out) | refine below_set ?_ GE301.out) | exact HB.out))) : w.heap.size ≤ gb316)); have n9_ := Aside0.mk ((by rw [hg]; exact Nat.ne_of_lt (blk_lt (g := gb301) (o := .cells #[.int .i64 0, .slice none 0 0] 32 (0, 0)) (by (with_reducible repeat (first | refine blk_drewN ?_ _ | refine blk_drew ?_ | refine blk_alloc ?_ _)); exact BK301.out)) : gb301 ≠ gb316)); have n10_ := Aside0.mk ((by rw [hg]; exact Nat.ne_of_gt (blk_lt (g := gb301) (o := .cells #[.int .i64 0, .slice none 0 0] 32 (0, 0)) (by (with_reducible repeat (first | refine blk_drewN ?_ _ | refine blk_drew ?_ | refine blk_alloc ?_ _)); exact BK301.out)) : gb316 ≠ gb301)); have n11_ := Aside0.mk ((by rw [hg]; exact Nat.ne_of_lt (IsS45.lt (show IsS45 w _ g304 t302 t315 from by repeat (first | (with_reducible first | exact HI304.out | apply IsS45.alloc | apply IsS45.drewN | apply IsS45.drew | apply IsS45.set_1 | refine IsS45.far ?_ NB304_301.out _) | exact HI304.out))) : g304 ≠ gb316)); have n12_ := Aside0.mk ((by rw [hg]; exact Nat.ne_of_gt (IsS45.lt (show IsS45 w _ g304 t302 t315 from by repeat (first | (with_reducible first | exact HI304.out | apply IsS45.alloc | apply IsS45.drewN | apply IsS45.drew | apply IsS45.set_1 | refine IsS45.far ?_ NB304_301.out _) | exact HI304.out))) : gb316 ≠ g304)); clear HO307; clear HO311; clear HO314; clear BK301; clear HI304; clear HB; have HO307 := n0_; have HO311 := n1_; have HO314 := n2_; have BK301 := n3_; have HI304 := n4_; have HB := n5_; have BK316 := n6_; have GW316 := n7_; have GE316 := n8_; have NB301_316 := n9_; have NB316_301 := n10_; have NB304_316 := n11_; have NB316_304 := n12_; clear n0_ n1_ n2_ n3_ n4_ n5_ n6_ n7_ n8_ n9_ n10_ n11_ n12_; clear hb hbox hg; have hnb12 := NB316_301.out; have hnc12 := NB301_316.out; have hnb13 := NB316_304.out; have hnc13 := NB304_316.out; have hcz14_0 : w11.cell? ⟨gb316, 0, none⟩ = some (.int .i64 0) := (blk_cell BK316.out 0).trans rfl; have hcz14_1 : w11.cell? ⟨gb316, 1, none⟩ = some (.slice none 0 0) := (blk_cell BK316.out 1).trans rfl; have hfz14_0 := blk_frozen BK316.out 0; have hfz14_1 := blk_frozen BK316.out 1; obtain ⟨Ao15, co15, eo15⟩ := Kd.R_slice HO311.out; subst eo15; obtain ⟨Ao16, co16, eo16⟩ := Kd.R_slice HO314.out; subst eo16) | ((with_reducible refine gate_callee (f := 13) rfl ?_); refine goesL_ (some 24) rfl rfl Try.func13 (by kernel_rfl) rfl #[.pointer (some ⟨g304, 0, none⟩), .int .i64 (t312.length : Int)] rfl (by (try simp only [List.map_toArray, List.map_cons, List.map_nil]); first | done | rfl | (simp only [List.length_drop, List.length_take]; rfl)) ?_; (with_reducible refine (spec_l6Rd_pick.calls k g304 t302 t315 (t312.length : Int) t317 t318 w _ ?side1 ?side2 A5.out).mono ?_); (case side1 => repeat (first | (with_reducible first | exact HI304.out | apply IsS45.alloc | apply IsS45.drewN | apply IsS45.drew | apply IsS45.set_1 | refine IsS45.far ?_ NB304_301.out _ | refine IsS45.far ?_ NB304_316.out _) | exact HI304.out)); (case side2 => repeat (first | (with_reducible first | exact HB.out | apply below_alloc | apply pw_below_drewN | apply below_drew1 | refine below_set ?_ (IsS45.ge HI304.out) | refine below_set ?_ GE301.out | refine below_set ?_ GE316.out) | exact HB.out)); rintro e w17 ⟨rfl, hi, hb, hk⟩; refine ⟨_, rfl, ?_⟩; have n0_ := Aside0.mk (KeepBut.blk hk (g' := gb301) (o := .cells #[.int .i64 0, .slice none 0 0] 32 (0, 0)) (by (with_reducible repeat (first | refine blk_drewN ?_ _ | refine blk_drew ?_ | refine blk_alloc ?_ _)); refine blk_far ?_ NB301_316.out _; (with_reducible repeat (first | refine blk_drewN ?_ _ | refine blk_drew ?_ | refine blk_alloc ?_ _)); refine blk_far ?_ NB301_316.out _; (with_reducible repeat (first | refine blk_drewN ?_ _ | refine blk_drew ?_ | refine blk_alloc ?_ _)); exact BK301.out) NB301_304.out (by simp)); have n1_ := Aside0.mk (Kd.S_mono (Kd.S_keep (IsS45.apartS (show IsS45 w _ g304 t302 t315 from by repeat (first | (with_reducible first | exact HI304.out | apply IsS45.alloc | apply IsS45.drewN | apply IsS45.drew | apply IsS45.set_1 | refine IsS45.far ?_ NB304_301.out _ | refine IsS45.far ?_ NB304_316.out _) | exact HI304.out)) (by (with_reducible repeat (first | apply Kd.S_alloc | apply Kd.S_drewN | apply Kd.S_drew)); exact (Kd.S_mono (Kd.S_far (p := ⟨gb316, 1, none⟩) (Kd.S_far (p := ⟨gb316, 0, none⟩) (Kd.S_types HO307.out BK316.out (by decide)) (fun _ hk => by first | exact hk.2 | trivial) (.int .i64 t308)) (fun _ hk => by first | exact hk.2 | trivial) (.slice Ao15 t309.length co15)) (fun _ h_ => h_.1))) (by decide)) hk (fun _ h => h.2)) (fun _ h => h.1)); have n2_ := Aside0.mk (Kd.R_mono (Kd.R_keep (IsS45.apart (show IsS45 w _ g304 t302 t315 from by repeat (first | (with_reducible first | exact HI304.out | apply IsS45.alloc | apply IsS45.drewN | apply IsS45.drew | apply IsS45.set_1 | refine IsS45.far ?_ NB304_301.out _ | refine IsS45.far ?_ NB304_316.out _) | exact HI304.out)) (by (with_reducible repeat (first | apply Kd.R_alloc | apply Kd.R_drewN | apply Kd.R_drew)); exact (Kd.R_mono (Kd.R_far (p := ⟨gb316, 1, none⟩) (Kd.R_far (p := ⟨gb316, 0, none⟩) (Kd.R_types HO311.out BK316.out (by decide)) (fun _ hk => by first | exact hk.2 | trivial) (.int .i64 t308)) (fun _ hk => by first | exact hk.2 | trivial) (.slice Ao15 t309.length co15)) (fun _ h_ => h_.1))) (by decide)) hk (fun _ h => h.2)) (fun _ h => h.1)); have n3_ := Aside0.mk (Kd.R_mono (Kd.R_keep (IsS45.apart (show IsS45 w _ g304 t302 t315 from by repeat (first | (with_reducible first | exact HI304.out | apply IsS45.alloc | apply IsS45.drewN | apply IsS45.drew | apply IsS45.set_1 | refine IsS45.far ?_ NB304_301.out _ | refine IsS45.far ?_ NB304_316.out _) | exact HI304.out)) (by (with_reducible repeat (first | apply Kd.R_alloc | apply Kd.R_drewN | apply Kd.R_drew)); exact (Kd.R_mono (Kd.R_far (p := ⟨gb316, 1, none⟩) (Kd.R_far (p := ⟨gb316, 0, none⟩) (Kd.R_types HO314.out BK316.out (by decide)) (fun _ hk => by first | exact hk.2 | trivial) (.int .i64 t308)) (fun _ hk => by first | exact hk.2 | trivial) (.slice Ao15 t309.length co15)) (fun _ h_ => h_.1))) (by decide)) hk (fun _ h => h.2)) (fun _ h => h.1)); have n4_ := Aside0.mk (KeepBut.blk hk (g' := gb316) (o := .cells #[.int .i64 t308, .slice Ao15 t309.length co15] 32 (0, 0)) (by (with_reducible repeat (first | refine blk_drewN ?_ _ | refine blk_drew ?_ | refine blk_alloc ?_ _)); refine blk_put (cs := #[.int .i64 t308, .slice none 0 0]) ?_ 1 _ rfl; (with_reducible repeat (first | refine blk_drewN ?_ _ | refine blk_drew ?_ | refine blk_alloc ?_ _)); refine blk_put (cs := #[.int .i64 0, .slice none 0 0]) ?_ 0 _ rfl; (with_reducible repeat (first | refine blk_drewN ?_ _ | refine blk_drew ?_ | refine blk_alloc ?_ _)); exact BK316.out) NB316_304.out (by simp)); have n5_ := Aside0.mk (hb); have n6_ := Aside0.mk (hi); clear BK301; clear HO307; clear HO311; clear HO314; clear BK316; clear HB; clear HI304; have BK301 := n0_; have HO307 := n1_; have HO311 := n2_; have HO314 := n3_; have BK316 := n4_; have HB := n5_; have HI304 := n6_; clear n0_ n1_ n2_ n3_ n4_ n5_ n6_; (try clear hb); (try clear hb2); (try clear hk); (try clear hi)) | ((with_reducible refine gate_callee (f := 13) rfl ?_); refine goesL_ (some 26) rfl rfl Try.func13 (by kernel_rfl) rfl #[.pointer (some ⟨g304, 0, none⟩), .int .i64 8] rfl (by (try simp only [List.map_toArray, List.map_cons, List.map_nil]); first | done | rfl | (simp only [List.length_drop, List.length_take]; rfl)) ?_; (with_reducible refine (spec_l6Rd_pick.calls k g304 t302 t318 8 t319 t320 w _ ?side1 ?side2 A6.out).mono ?_); (case side1 => repeat (first | (with_reducible first | exact HI304.out | apply IsS45.alloc | apply IsS45.drewN | apply IsS45.drew | apply IsS45.set_1 | refine IsS45.far ?_ NB304_301.out _ | refine IsS45.far ?_ NB304_316.out _) | exact HI304.out)); (case side2 => repeat (first | (with_reducible first | exact HB.out | apply below_alloc | apply pw_below_drewN | apply below_drew1 | refine below_set ?_ (IsS45.ge HI304.out) | refine below_set ?_ GE301.out | refine below_set ?_ GE316.out) | exact HB.out)); rintro e w18 ⟨rfl, hi, hb, hk⟩; refine ⟨_, rfl, ?_⟩; have n0_ := Aside0.mk (KeepBut.blk hk (g' := gb301) (o := .cells #[.int .i64 0, .slice none 0 0] 32 (0, 0)) (by (with_reducible repeat (first | refine blk_drewN ?_ _ | refine blk_drew ?_ | refine blk_alloc ?_ _)); exact BK301.out) NB301_304.out (by simp)); have n1_ := Aside0.mk (Kd.S_mono (Kd.S_keep (IsS45.apartS (show IsS45 w _ g304 t302 t318 from by repeat (first | (with_reducible first | exact HI304.out | apply IsS45.alloc | apply IsS45.drewN | apply IsS45.drew | apply IsS45.set_1 | refine IsS45.far ?_ NB304_301.out _ | refine IsS45.far ?_ NB304_316.out _) | exact HI304.out)) (by (with_reducible repeat (first | apply Kd.S_alloc | apply Kd.S_drewN | apply Kd.S_drew)); exact HO307.out) (by decide)) hk (fun _ h => h.2)) (fun _ h => h.1)); have n2_ := Aside0.mk (Kd.R_mono (Kd.R_keep (IsS45.apart (show IsS45 w _ g304 t302 t318 from by repeat (first | (with_reducible first | exact HI304.out | apply IsS45.alloc | apply IsS45.drewN | apply IsS45.drew | apply IsS45.set_1 | refine IsS45.far ?_ NB304_301.out _ | refine IsS45.far ?_ NB304_316.out _) | exact HI304.out)) (by (with_reducible repeat (first | apply Kd.R_alloc | apply Kd.R_drewN | apply Kd.R_drew)); exact HO311.out) (by decide)) hk (fun _ h => h.2)) (fun _ h => h.1)); have n3_ := Aside0.mk (Kd.R_mono (Kd.R_keep (IsS45.apart (show IsS45 w _ g304 t302 t318 from by repeat (first | (with_reducible first | exact HI304.out | apply IsS45.alloc | apply IsS45.drewN | apply IsS45.drew | apply IsS45.set_1 | refine IsS45.far ?_ NB304_301.out _ | refine IsS45.far ?_ NB304_316.out _) | exact HI304.out)) (by (with_reducible repeat (first | apply Kd.R_alloc | apply Kd.R_drewN | apply Kd.R_drew)); exact HO314.out) (by decide)) hk (fun _ h => h.2)) (fun _ h => h.1)); have n4_ := Aside0.mk (KeepBut.blk hk (g' := gb316) (o := .cells #[.int .i64 t308, .slice Ao15 t309.length co15] 32 (0, 0)) (by (with_reducible repeat (first | refine blk_drewN ?_ _ | refine blk_drew ?_ | refine blk_alloc ?_ _)); exact BK316.out) NB316_304.out (by simp)); have n5_ := Aside0.mk (hb); have n6_ := Aside0.mk (hi); clear BK301; clear HO307; clear HO311; clear HO314; clear BK316; clear HB; clear HI304; have BK301 := n0_; have HO307 := n1_; have HO311 := n2_; have HO314 := n3_; have BK316 := n4_; have HB := n5_; have HI304 := n6_; clear n0_ n1_ n2_ n3_ n4_ n5_ n6_; (try clear hb); (try clear hb2); (try clear hk); (try clear hi)))
  (try simp only [Act.put, List.setIfInBounds_toArray, List.set_cons_zero, List.set_cons_succ])
  go_cut [27] (fun v27 wc => ∃ (kq : Nat) (x27_6 : Bool), v27 = .bool x27_6 ∧ Aside0 (spec_DrawPlanValid.j0 kq t305 t312 t317 t319 x27_6 t302 t320 t308 t309 = some (r1, r2, r3, r4)) ∧ Aside0 (kq ≤ k) ∧ Aside0 (Kd.S k29 29 wc w.heap.size (fun k_ => some k_ ≠ ((.slice Ao16 t312.length co16) : Value).ownBlock ∧ some k_ ≠ ((.slice Ao15 t309.length co15) : Value).ownBlock) v306 t305) ∧ Aside0 (Kd.R (Kd.int .i64) 3 wc w.heap.size (fun k_ => some k_ ≠ ((.slice Ao15 t309.length co15) : Value).ownBlock) (.slice Ao16 t312.length co16) t312) ∧ Aside0 (Kd.R (Kd.int .i64) 3 wc w.heap.size (fun k_ => some k_ ≠ ((.slice Ao16 t312.length co16) : Value).ownBlock) (.slice Ao15 t309.length co15) t309) ∧ Aside0 (wc.heap[gb301]? = some (.cells #[.int .i64 0, (.slice none 0 0)] 32 (0, 0))) ∧ Aside0 (wc.heap[gb316]? = some (.cells #[.int .i64 t308, (.slice Ao15 t309.length co15)] 32 (0, 0))) ∧ Aside0 (IsS45 w wc g304 t302 t320) ∧ Aside0 (Below w.heap.size w wc))
  case first =>
   have H := HC7.out
   clear HC7
   by_cases c19 : t319 = 0
   ·rw [if_pos c19] at H
    have c19b0 : (t319 == 0) = true := beq_iff_eq.mpr c19
    have c19b1 : (t319 != 0) = false := bne_eq_false_iff_eq.mpr c19
    clear c19
    (first | rw [c19b0] | (simp only [i64_w, i32_w]; rw [c19b0]) | skip)
    have H' := Aside0.mk H
    clear H
    go_wp2
    go_meet
    case rel => exact ⟨_, ((t319 == 0)), (by first | rfl | (simp; done) | (simp [*]; done) | (simp only [wrap64, IntKind.wrap_i64]; done) | (simp [wrap64, IntKind.wrap_i64]; done)), H', ⟨by first | omega | exact Nat.le_refl _⟩, ⟨by (with_reducible repeat (first | apply Kd.S_alloc | apply Kd.S_drewN | apply Kd.S_drew)); exact Kd.S_mono HO307.out (fun _ hk => ⟨hk.2, hk.1⟩)⟩, ⟨by (with_reducible repeat (first | apply Kd.R_alloc | apply Kd.R_drewN | apply Kd.R_drew)); exact HO314.out⟩, ⟨by (with_reducible repeat (first | apply Kd.R_alloc | apply Kd.R_drewN | apply Kd.R_drew)); exact HO311.out⟩, ⟨by (with_reducible repeat (first | refine blk_drewN ?_ _ | refine blk_drew ?_ | refine blk_alloc ?_ _)); exact BK301.out⟩, ⟨by (with_reducible repeat (first | refine blk_drewN ?_ _ | refine blk_drew ?_ | refine blk_alloc ?_ _)); exact BK316.out⟩, ⟨by repeat (first | (with_reducible first | exact HI304.out | apply IsS45.alloc | apply IsS45.drewN | apply IsS45.drew | apply IsS45.set_1 | refine IsS45.far ?_ NB304_301.out _ | refine IsS45.far ?_ NB304_316.out _) | exact HI304.out)⟩, ⟨by repeat (first | (with_reducible first | exact HB.out | apply below_alloc | apply pw_below_drewN | apply below_drew1 | refine below_set ?_ (IsS45.ge HI304.out) | refine below_set ?_ GE301.out | refine below_set ?_ GE316.out) | exact HB.out)⟩⟩
   ·rw [if_neg c19] at H
    have c19b0 : (t319 == 0) = false := beq_eq_false_iff_ne.mpr c19
    have c19b1 : (t319 != 0) = true := bne_iff_ne.mpr c19
    (first | rw [c19b0] | (simp only [i64_w, i32_w]; rw [c19b0]) | skip)
    have H' := Aside0.mk H
    clear H
    go_wp2
    go_meet
    case rel => exact ⟨_, ((t319 == 1)), (by first | rfl | (simp; done) | (simp [*]; done) | (simp only [wrap64, IntKind.wrap_i64]; done) | (simp [wrap64, IntKind.wrap_i64]; done)), H', ⟨by first | omega | exact Nat.le_refl _⟩, ⟨by (with_reducible repeat (first | apply Kd.S_alloc | apply Kd.S_drewN | apply Kd.S_drew)); exact Kd.S_mono HO307.out (fun _ hk => ⟨hk.2, hk.1⟩)⟩, ⟨by (with_reducible repeat (first | apply Kd.R_alloc | apply Kd.R_drewN | apply Kd.R_drew)); exact HO314.out⟩, ⟨by (with_reducible repeat (first | apply Kd.R_alloc | apply Kd.R_drewN | apply Kd.R_drew)); exact HO311.out⟩, ⟨by (with_reducible repeat (first | refine blk_drewN ?_ _ | refine blk_drew ?_ | refine blk_alloc ?_ _)); exact BK301.out⟩, ⟨by (with_reducible repeat (first | refine blk_drewN ?_ _ | refine blk_drew ?_ | refine blk_alloc ?_ _)); exact BK316.out⟩, ⟨by repeat (first | (with_reducible first | exact HI304.out | apply IsS45.alloc | apply IsS45.drewN | apply IsS45.drew | apply IsS45.set_1 | refine IsS45.far ?_ NB304_301.out _ | refine IsS45.far ?_ NB304_316.out _) | exact HI304.out)⟩, ⟨by repeat (first | (with_reducible first | exact HB.out | apply below_alloc | apply pw_below_drewN | apply below_drew1 | refine below_set ?_ (IsS45.ge HI304.out) | refine below_set ?_ GE301.out | refine below_set ?_ GE316.out) | exact HB.out)⟩⟩
  case rest =>
   clear HC7
   try clear c1
   try clear p2
   try clear c4
   try clear c4b0
   try clear c4b1
   try clear c7
   try clear c11
   try clear c12
   try clear c13
   try clear c19
   try clear c19b0
   try clear c19b1
   try clear hcz14_0
   try clear hcz14_1
   try clear hfz14_0
   try clear hfz14_1
   obtain ⟨kq, x27_6, rfl, HA, HJ6, HO_6, HO_8, HO_317001, BK301, BK316, HI304, HB⟩ := hcut
   cases kq with
   | zero => exact absurd HA.out (by simp [spec_DrawPlanValid.j0])
   | succ kj6 =>
    have H := HA.out
    clear HA
    simp only [spec_DrawPlanValid.j0] at H
    by_cases c20 : x27_6 = true
    ·subst c20
     have H1 : (if 0 ≤ t317 then (if t317 < (t312.length : Int) then ((spec_l6Rd_pick.f kj6 t302 t320 6).bind fun bt322 => (some (t305, t308, t309, (t312.set (t317 : Int).toNat (wrap64 ((rd t312 t317) + bt322.1)))))) else (none)) else (none)) = some (r1, r2, r3, r4) := by rw [if_pos rfl] at H; exact H
     clear H
     have H := H1
     clear H1
     by_cases c21 : 0 ≤ t317
     ·rw [if_pos c21] at H
      have c21b0 : decide (0 ≤ t317) = true := decide_eq_true c21
      clear c21
      by_cases c22 : t317 < (t312.length : Int)
      ·rw [if_pos c22] at H
       have c22b0 : decide (t317 < (t312.length : Int)) = true := decide_eq_true c22
       clear c22
       replace H := Option.bind_eq_some_iff.mp H
       obtain ⟨⟨t322, t323⟩, A230, H⟩ := H
       replace H : (some (t305, t308, t309, (t312.set (t317 : Int).toNat (wrap64 ((rd t312 t317) + t322))))) = some (r1, r2, r3, r4) := H
       have A23 := Aside0.mk A230
       clear A230
       obtain ⟨y324, hy324⟩ : ∃ y_ : List Int, y_ = (t312.set (t317 : Int).toNat (wrap64 ((rd t312 t317) + t322))) := ⟨_, rfl⟩
       replace H : (some (t305, t308, t309, y324)) = some (r1, r2, r3, r4) := by first | (rw [hy324]; with_reducible exact H) | (have H2_ := (Option.bind_some _ _).symm.trans H; rw [hy324]; with_reducible exact H2_) | (have H2_ := (Option.bind_some _ _).symm.trans H; with_reducible exact H2_) | with_reducible exact H | (rw [hy324]; exact H) | exact H
       have Ny324 := Aside0.mk hy324
       clear hy324
       simp only [Option.some.injEq, Prod.mk.injEq] at H
       obtain ⟨rfl, rfl, rfl, rfl⟩ := H
       try go_wp2
       have n0_ := Aside0.mk (Kd.S_drew HO_6.out)
       have n1_ := Aside0.mk (Kd.R_drew HO_8.out)
       have n2_ := Aside0.mk (Kd.R_drew HO_317001.out)
       have n3_ := Aside0.mk (blk_drew BK301.out)
       have n4_ := Aside0.mk (blk_drew BK316.out)
       have n5_ := Aside0.mk (IsS45.drew HI304.out)
       have n6_ := Aside0.mk (below_drew1 HB.out)
       clear HO_6
       clear HO_8
       clear HO_317001
       clear BK301
       clear BK316
       clear HI304
       clear HB
       have HO_6 := n0_
       have HO_8 := n1_
       have HO_317001 := n2_
       have BK301 := n3_
       have BK316 := n4_
       have HI304 := n5_
       have HB := n6_
       clear n0_ n1_ n2_ n3_ n4_ n5_ n6_
       have p321 : 0 ≤ (t317 : Int) := of_decide_eq_true (by first | (with_reducible assumption) | assumption)
       have q321 : t317 < (t312.length : Int) := of_decide_eq_true (by first | (with_reducible assumption) | assumption)
       obtain ⟨ad321, e321, hx321_0⟩ := Kd.at_int (Kd.R_reads' HO_8.out).2.2 t317 p321 q321
       cases e321
       replace p321 := eq_true p321
       replace q321 := eq_true q321
       refine start_ (n := 11) (S := fun w' => w'.cell? (ad321.add (t317).toNat) = some (.int .i64 (rd t312 t317))) (ds := [10]) #[false, false, false, false, false, false, false, false, false, false, false] (by kernel_rfl) rfl rfl (hx321_0) (fun hHeld => ?_); refine with_tabW spec_DrawPlanValid.tab8 spec_DrawPlanValid.bits8 (fun HT_ HW_ => ?_)
       generalize wc.drew = w25 at HO_6 HO_8 HO_317001 BK301 BK316 HI304 HB hx321_0 hHeld ⊢
       refine pure_ (i := 0) (N := some 30) (v := ?_) (a' := ?_) #[true, false, false, false, false, false, false, false, false, false, false] rfl rfl (any_of HT_.out (by kernel_rfl)) (fun _ _ _ h => h) (Or.inl ⟨by rfl, ?_⟩) ?_ ?_
       rotate_left
       ·intro w'
        go_simp
        with_reducible rfl
       rotate_left
       ·simp only [Act.put, List.setIfInBounds_toArray, List.set_cons_zero, List.set_cons_succ, i64_w, i32_w]
        rfl
       refine pure_ (i := 1) (N := some 31) (v := ?_) (a' := ?_) #[true, true, false, false, false, false, false, false, false, false, false] rfl rfl (any_of HT_.out (by kernel_rfl)) (fun _ _ _ h => h) (Or.inl ⟨by rfl, ?_⟩) ?_ ?_
       rotate_left
       ·intro w'
        go_simp
        with_reducible rfl
       rotate_left
       ·simp only [Act.put, List.setIfInBounds_toArray, List.set_cons_zero, List.set_cons_succ, i64_w, i32_w]
        rfl
       refine pure_ (i := 2) (N := some 32) (v := ?_) (a' := ?_) #[true, true, true, false, false, false, false, false, false, false, false] rfl rfl (any_of HT_.out (by kernel_rfl)) (fun _ _ _ h => h) (Or.inl ⟨by rfl, ?_⟩) ?_ ?_
       rotate_left
       ·intro w'
        go_simp
        with_reducible rfl
       rotate_left
       ·simp only [Act.put, List.setIfInBounds_toArray, List.set_cons_zero, List.set_cons_succ, i64_w, i32_w]
        rfl
       refine pure_ (i := 3) (N := some 33) (v := ?_) (a' := ?_) #[true, true, true, true, false, false, false, false, false, false, false] rfl rfl (any_of HT_.out (by kernel_rfl)) (fun _ _ _ h => h) (Or.inl ⟨by rfl, ?_⟩) ?_ ?_
       rotate_left
       ·intro w'
        go_simp
        with_reducible rfl
       rotate_left
       ·simp only [Act.put, List.setIfInBounds_toArray, List.set_cons_zero, List.set_cons_succ, i64_w, i32_w]
        rfl
       refine pure_ (i := 4) (N := some 34) (v := ?_) (a' := ?_) #[true, true, true, true, true, false, false, false, false, false, false] rfl rfl (any_of HT_.out (by kernel_rfl)) (fun _ _ _ h => h) (Or.inl ⟨by rfl, ?_⟩) ?_ ?_
       rotate_left
       ·intro w'
        go_simp
        with_reducible rfl
       rotate_left
       ·simp only [Act.put, List.setIfInBounds_toArray, List.set_cons_zero, List.set_cons_succ, i64_w, i32_w]
        rfl
       refine pure_ (i := 6) (N := some 36) (v := ?_) (a' := ?_) #[true, true, true, true, true, false, true, false, false, false, false] rfl rfl (any_of HT_.out (by kernel_rfl)) (fun _ _ _ h => h) (Or.inl ⟨by rfl, ?_⟩) ?_ ?_
       rotate_left
       ·intro w'
        go_simp
        with_reducible rfl
       rotate_left
       ·simp only [Act.put, List.setIfInBounds_toArray, List.set_cons_zero, List.set_cons_succ, i64_w, i32_w]
        rfl
       refine take_ (i := 5) (N := some 35) (v := ?_) (a' := ?_) #[true, true, true, true, true, true, true, false, false, false, false] rfl rfl (take_ofW HT_.out HW_.out (by kernel_rfl)) (fun _ _ _ h => h) (Or.inl ⟨by rfl, ?_⟩) hHeld ?_ ?_
       rotate_left
       ·intro w' s0
        go_simp
        with_reducible rfl
       rotate_left
       ·simp only [Act.put, List.setIfInBounds_toArray, List.set_cons_zero, List.set_cons_succ, i64_w, i32_w]
        rfl
       refine one_ (i := 7) (N := some 37) #[true, true, true, true, true, true, true, true, false, false, false] rfl rfl (one_of HT_.out (by kernel_rfl)) (by decide) (fun K hK => ?_)
       refine goes_ Try.func13 (by kernel_rfl) rfl #[.pointer (some ⟨g304, 0, none⟩), .int .i64 6] (by rfl) rfl rfl (by (try simp only [List.map_toArray, List.map_cons, List.map_nil]); first | done | rfl | (simp only [List.length_drop, List.length_take]; rfl)) ?_
       with_reducible refine (spec_l6Rd_pick.calls kj6 g304 t302 t320 6 t322 t323 w _ ?side1 ?side2 A23.out).mono ?_
       (case side1 => repeat (first | (with_reducible first | exact HI304.out | apply IsS45.alloc | apply IsS45.drewN | apply IsS45.drew | apply IsS45.set_1 | refine IsS45.far ?_ NB304_301.out _ | refine IsS45.far ?_ NB304_316.out _) | exact HI304.out))
       (case side2 => repeat (first | (with_reducible first | exact HB.out | apply below_alloc | apply pw_below_drewN | apply below_drew1 | refine below_set ?_ (IsS45.ge HI304.out) | refine below_set ?_ GE301.out | refine below_set ?_ GE316.out) | exact HB.out))
       rintro e w26 ⟨rfl, hi, hb, hk⟩
       have HS0_ := keep_cell hk (hHeld) (by first | (rw [add_block]; exact Kd.own_blk (IsS45.own_ne HI304.out HO_8.out (by decide))) | (show (Addr.add _ _).block ≠ _; rw [add_block]; exact Kd.own_blk (IsS45.own_ne HI304.out HO_8.out (by decide))) | exact Kd.own_blk (IsS45.own_ne HI304.out HO_8.out (by decide)))
       refine ⟨_, rfl, ?_⟩
       have n0_ := Aside0.mk (Kd.S_mono (Kd.S_keep (IsS45.apartS (show IsS45 w _ g304 t302 t320 from by repeat (first | (with_reducible first | exact HI304.out | apply IsS45.alloc | apply IsS45.drewN | apply IsS45.drew | apply IsS45.set_1 | refine IsS45.far ?_ NB304_301.out _ | refine IsS45.far ?_ NB304_316.out _) | exact HI304.out)) (by (with_reducible repeat (first | apply Kd.S_alloc | apply Kd.S_drewN | apply Kd.S_drew)); exact HO_6.out) (by decide)) hk (fun _ h => h.2)) (fun _ h => h.1))
       have n1_ := Aside0.mk (Kd.R_mono (Kd.R_keep (IsS45.apart (show IsS45 w _ g304 t302 t320 from by repeat (first | (with_reducible first | exact HI304.out | apply IsS45.alloc | apply IsS45.drewN | apply IsS45.drew | apply IsS45.set_1 | refine IsS45.far ?_ NB304_301.out _ | refine IsS45.far ?_ NB304_316.out _) | exact HI304.out)) (by (with_reducible repeat (first | apply Kd.R_alloc | apply Kd.R_drewN | apply Kd.R_drew)); exact HO_8.out) (by decide)) hk (fun _ h => h.2)) (fun _ h => h.1))
       have n2_ := Aside0.mk (Kd.R_mono (Kd.R_keep (IsS45.apart (show IsS45 w _ g304 t302 t320 from by repeat (first | (with_reducible first | exact HI304.out | apply IsS45.alloc | apply IsS45.drewN | apply IsS45.drew | apply IsS45.set_1 | refine IsS45.far ?_ NB304_301.out _ | refine IsS45.far ?_ NB304_316.out _) | exact HI304.out)) (by (with_reducible repeat (first | apply Kd.R_alloc | apply Kd.R_drewN | apply Kd.R_drew)); exact HO_317001.out) (by decide)) hk (fun _ h => h.2)) (fun _ h => h.1))
       have n3_ := Aside0.mk (KeepBut.blk hk (g' := gb301) (o := .cells #[.int .i64 0, .slice none 0 0] 32 (0, 0)) (by (with_reducible repeat (first | refine blk_drewN ?_ _ | refine blk_drew ?_ | refine blk_alloc ?_ _)); exact BK301.out) NB301_304.out (by simp))
       have n4_ := Aside0.mk (KeepBut.blk hk (g' := gb316) (o := .cells #[.int .i64 t308, .slice Ao15 t309.length co15] 32 (0, 0)) (by (with_reducible repeat (first | refine blk_drewN ?_ _ | refine blk_drew ?_ | refine blk_alloc ?_ _)); exact BK316.out) NB316_304.out (by simp))
       have n5_ := Aside0.mk (hb)
       have n6_ := Aside0.mk (hi)
       clear HO_6
       clear HO_8
       clear HO_317001
       clear BK301
       clear BK316
       clear HB
       clear HI304
       have HO_6 := n0_
       have HO_8 := n1_
       have HO_317001 := n2_
       have BK301 := n3_
       have BK316 := n4_
       have HB := n5_
       have HI304 := n6_
       clear n0_ n1_ n2_ n3_ n4_ n5_ n6_
       (try clear hb)
       (try clear hb2)
       (try clear hk)
       (try clear hi)
       have p24 : 0 ≤ (t317 : Int) := of_decide_eq_true (by first | (with_reducible assumption) | assumption)
       have q24 : (t317 : Int) < ((t312.length : Int) : Int) := of_decide_eq_true (by first | (with_reducible assumption) | assumption)
       obtain ⟨go24, co24, eo24, gb24, gl24, cl24, HG24⟩ := Kd.R_form HO_8.out (by omega)
       (first | cases eo24 | (injection eo24 with ea_ en_ ec_; (first | subst ea_ | (injection ea_ with ea_; subst ea_)); subst ec_; clear en_))
       have GB24 := Aside0.mk gb24
       have GG24 := Aside0.mk HG24
       clear gb24 gl24 HG24
       (first | simp only [add_plain] at hx321_0 | skip)
       obtain ⟨hx24_0, hf24_0⟩ := Kd.R_celln 0 HO_8.out (t317 : Int) p24 q24
       replace p24 := eq_true p24
       replace q24 := eq_true q24
       have HN304_go24 := Aside0.mk (show g304 ≠ go24 from by have h_ := IsS45.own_ne HI304.out HO_8.out (by decide); intro e_; exact h_ (by rw [e_]; rfl))
       have HP27 := Kd.R_putn HO_8.out (t317 : Int) (wrap64 ((rd t312 t317) + t322))
       rw [← Ny324.out] at HP27
       have HQ27 := Aside0.mk HP27
       clear HP27
       refine hK.out _ _ (HS0_) (fun hHeld => ?_)
       clear hK K
       refine norm_ (a' := ?_) ?_ ?_
       rotate_left
       ·show Act.put _ (some 37) _ = _
        simp only [Act.put, List.setIfInBounds_toArray, List.set_cons_zero, List.set_cons_succ, i64_w, i32_w]
        rfl
       refine pure_ (i := 8) (N := some 38) (v := ?_) (a' := ?_) #[true, true, true, true, true, true, true, true, true, false, false] rfl rfl (any_of HT_.out (by kernel_rfl)) (fun _ _ _ h => h) (Or.inl ⟨by rfl, ?_⟩) ?_ ?_
       rotate_left
       ·intro w'
        go_simp
        with_reducible rfl
       rotate_left
       ·simp only [Act.put, List.setIfInBounds_toArray, List.set_cons_zero, List.set_cons_succ, i64_w, i32_w]
        rfl
       refine pure_ (i := 9) (N := some 39) (v := ?_) (a' := ?_) #[true, true, true, true, true, true, true, true, true, true, false] rfl rfl (any_of HT_.out (by kernel_rfl)) (fun _ _ _ h => h) (Or.inl ⟨by rfl, ?_⟩) ?_ ?_
       rotate_left
       ·intro w'
        go_simp
        with_reducible rfl
       rotate_left
       ·simp only [Act.put, List.setIfInBounds_toArray, List.set_cons_zero, List.set_cons_succ, i64_w, i32_w]
        rfl
       refine last_ (i := 10) (N := none) #[true, true, true, true, true, true, true, true, true, true, true] rfl rfl (one_of HT_.out (by kernel_rfl)) (by decide) (fun K hK => ?_)
       refine skip_ (w1 := ?_) (by rfl) rfl ?_ ?_
       rotate_left
       ·go_simp
        rfl
       refine hK.out _ _ ?_
       clear hK K
       refine done_ (done_of HT_.out (by kernel_rfl)) ?_
       have n0_ : Aside0 (Kd.S k29 29 (w26.setCell ⟨go24, (t317 : Int).toNat, none⟩ (.int .i64 (wrap64 ((rd t312 t317) + t322)))) w.heap.size (fun k_ => some k_ ≠ (.slice (some ⟨go24, 0, none⟩) t312.length co16 : Value).ownBlock ∧ some k_ ≠ (.slice Ao15 t309.length co15 : Value).ownBlock) v306 t305) := ⟨by (with_reducible repeat (first | apply Kd.S_alloc | apply Kd.S_drewN | apply Kd.S_drew)); exact Kd.S_mono (Kd.S_far (p := ⟨go24, (t317 : Int).toNat, none⟩) (Kd.S_mono HO_6.out (fun k_ hk => (⟨hk, fun e_ => hk.1 (by rw [e_]; rfl)⟩ : _ ∧ k_ ≠ go24))) (fun _ hk => by first | exact hk.2 | trivial) (.int .i64 (wrap64 ((rd t312 t317) + t322)))) (fun _ hk => ⟨hk.1.1, hk.1.2⟩)⟩
       have n1_ : Aside0 (Kd.R (Kd.int .i64) 3 (w26.setCell ⟨go24, (t317 : Int).toNat, none⟩ (.int .i64 (wrap64 ((rd t312 t317) + t322)))) w.heap.size (fun k_ => some k_ ≠ (.slice Ao15 t309.length co15 : Value).ownBlock) (.slice (some ⟨go24, 0, none⟩) t312.length co16) y324) := ⟨by (with_reducible repeat (first | apply Kd.R_alloc | apply Kd.R_drewN | apply Kd.R_drew)); exact HQ27.out⟩
       have n2_ : Aside0 (Kd.R (Kd.int .i64) 3 (w26.setCell ⟨go24, (t317 : Int).toNat, none⟩ (.int .i64 (wrap64 ((rd t312 t317) + t322)))) w.heap.size (fun k_ => some k_ ≠ (.slice (some ⟨go24, 0, none⟩) t312.length co16 : Value).ownBlock) (.slice Ao15 t309.length co15) t309) := ⟨by (with_reducible repeat (first | apply Kd.R_alloc | apply Kd.R_drewN | apply Kd.R_drew)); exact Kd.R_mono (Kd.R_far (p := ⟨go24, (t317 : Int).toNat, none⟩) (Kd.R_mono HO_317001.out (fun k_ hk => (⟨hk, fun e_ => hk (by rw [e_]; rfl)⟩ : _ ∧ k_ ≠ go24))) (fun _ hk => by first | exact hk.2 | trivial) (.int .i64 (wrap64 ((rd t312 t317) + t322)))) (fun _ hk => hk.1)⟩
       have n3_ : Aside0 ((w26.setCell ⟨go24, (t317 : Int).toNat, none⟩ (.int .i64 (wrap64 ((rd t312 t317) + t322)))).heap[gb301]? = some (.cells #[.int .i64 0, .slice none 0 0] 32 (0, 0))) := ⟨by (with_reducible repeat (first | refine blk_drewN ?_ _ | refine blk_drew ?_ | refine blk_alloc ?_ _)); refine blk_far ?_ (by have h_ := Kd.R_ne HO_8.out BK301.out (by decide); intro e_; exact h_ (by rw [e_]; rfl)) _; (with_reducible repeat (first | refine blk_drewN ?_ _ | refine blk_drew ?_ | refine blk_alloc ?_ _)); exact BK301.out⟩
       have n4_ : Aside0 ((w26.setCell ⟨go24, (t317 : Int).toNat, none⟩ (.int .i64 (wrap64 ((rd t312 t317) + t322)))).heap[gb316]? = some (.cells #[.int .i64 t308, .slice Ao15 t309.length co15] 32 (0, 0))) := ⟨by (with_reducible repeat (first | refine blk_drewN ?_ _ | refine blk_drew ?_ | refine blk_alloc ?_ _)); refine blk_far ?_ (by have h_ := Kd.R_ne HO_8.out BK316.out (by decide); intro e_; exact h_ (by rw [e_]; rfl)) _; (with_reducible repeat (first | refine blk_drewN ?_ _ | refine blk_drew ?_ | refine blk_alloc ?_ _)); exact BK316.out⟩
       have n5_ : Aside0 (IsS45 w (w26.setCell ⟨go24, (t317 : Int).toNat, none⟩ (.int .i64 (wrap64 ((rd t312 t317) + t322)))) g304 t302 t323) := ⟨by repeat (first | (with_reducible first | exact HI304.out | apply IsS45.alloc | apply IsS45.drewN | apply IsS45.drew | apply IsS45.set_1 | refine IsS45.far ?_ HN304_go24.out _ | refine IsS45.far ?_ NB304_301.out _ | refine IsS45.far ?_ NB304_316.out _) | exact HI304.out)⟩
       have n6_ : Aside0 (Below w.heap.size w (w26.setCell ⟨go24, (t317 : Int).toNat, none⟩ (.int .i64 (wrap64 ((rd t312 t317) + t322))))) := ⟨by repeat (first | (with_reducible first | exact HB.out | apply below_alloc | apply pw_below_drewN | apply below_drew1 | refine below_set ?_ GB24.out | refine below_set ?_ (IsS45.ge HI304.out) | refine below_set ?_ GE301.out | refine below_set ?_ GE316.out) | exact HB.out)⟩
       (try clear HO_6)
       (try clear HO_8)
       (try clear HO_317001)
       (try clear BK301)
       (try clear BK316)
       (try clear HI304)
       (try clear HB)
       generalize (w26.setCell ⟨go24, (t317 : Int).toNat, none⟩ (.int .i64 (wrap64 ((rd t312 t317) + t322)))) = w28 at n0_ n1_ n2_ n3_ n4_ n5_ n6_ ⊢
       have HO_6 := n0_
       have HO_8 := n1_
       have HO_317001 := n2_
       have BK301 := n3_
       have BK316 := n4_
       have HI304 := n5_
       have HB := n6_
       clear n0_ n1_ n2_ n3_ n4_ n5_ n6_
       try go_wp2
       have n0_ := Aside0.mk (Kd.S_drew HO_6.out)
       have n1_ := Aside0.mk (Kd.R_drew HO_8.out)
       have n2_ := Aside0.mk (Kd.R_drew HO_317001.out)
       have n3_ := Aside0.mk (blk_drew BK301.out)
       have n4_ := Aside0.mk (blk_drew BK316.out)
       have n5_ := Aside0.mk (IsS45.drew HI304.out)
       have n6_ := Aside0.mk (below_drew1 HB.out)
       clear HO_6
       clear HO_8
       clear HO_317001
       clear BK301
       clear BK316
       clear HI304
       clear HB
       have HO_6 := n0_
       have HO_8 := n1_
       have HO_317001 := n2_
       have BK301 := n3_
       have BK316 := n4_
       have HI304 := n5_
       have HB := n6_
       clear n0_ n1_ n2_ n3_ n4_ n5_ n6_
       refine start_ (n := 6) (S := fun w' => w'.cell? ⟨gb316, 0, none⟩ = some (.int .i64 t308) ∧ w'.cell? ⟨gb316, 1, none⟩ = some (.slice Ao15 t309.length co15)) (ds := []) #[false, false, false, false, false, false] (by kernel_rfl) rfl rfl ⟨(blk_cell BK316.out 0).trans rfl, (blk_cell BK316.out 1).trans rfl⟩ (fun hHeld => ?_)
       generalize w28.drew = w29 at HO_6 HO_8 HO_317001 BK301 BK316 HI304 HB hHeld ⊢
       refine pure_ (i := 0) (N := some 56) (v := ?_) (a' := ?_) #[true, false, false, false, false, false] rfl rfl (by kernel_rfl) (fun _ _ _ h => h) (Or.inl ⟨by rfl, ?_⟩) ?_ ?_
       rotate_left
       ·intro w'
        go_simp
        with_reducible rfl
       rotate_left
       ·simp only [Act.put, List.setIfInBounds_toArray, List.set_cons_zero, List.set_cons_succ, i64_w, i32_w]
        rfl
       refine pure_ (i := 2) (N := some 58) (v := ?_) (a' := ?_) #[true, false, true, false, false, false] rfl rfl (by kernel_rfl) (fun _ _ _ h => h) (Or.inl ⟨by rfl, ?_⟩) ?_ ?_
       rotate_left
       ·intro w'
        go_simp
        with_reducible rfl
       rotate_left
       ·simp only [Act.put, List.setIfInBounds_toArray, List.set_cons_zero, List.set_cons_succ, i64_w, i32_w]
        rfl
       refine pure_ (i := 3) (N := some 2) (v := ?_) (a' := ?_) #[true, false, true, true, false, false] rfl rfl (by kernel_rfl) (fun _ _ _ h => h) (Or.inl ⟨by rfl, ?_⟩) ?_ ?_
       rotate_left
       ·intro w'
        go_simp
        with_reducible rfl
       rotate_left
       ·simp only [Act.put, List.setIfInBounds_toArray, List.set_cons_zero, List.set_cons_succ, i64_w, i32_w]
        rfl
       refine take_ (i := 1) (N := some 57) (v := ?_) (a' := ?_) #[true, true, true, true, false, false] rfl rfl (by kernel_rfl) (fun _ _ _ h => h) (Or.inl ⟨by rfl, ?_⟩) hHeld ?_ ?_
       rotate_left
       ·rintro w' ⟨s0, s1⟩
        go_simp
        with_reducible rfl
       rotate_left
       ·simp only [Act.put, List.setIfInBounds_toArray, List.set_cons_zero, List.set_cons_succ, i64_w, i32_w]
        rfl
       refine one_ (i := 4) (N := none) #[true, true, true, true, true, false] rfl rfl (by kernel_rfl) (by decide) (fun K hK => ?_)
       have hs30 : w29.cell? ⟨gb301, 0, none⟩ = some (.int .i64 0) := (blk_cell BK301.out 0).trans rfl
       have hfs30 := blk_frozen BK301.out 0
       have hns30_1 := NB316_301.out
       have hms30_1 := NB301_316.out
       have hs31 : w29.cell? ⟨gb301, 1, none⟩ = some (.slice none 0 0) := (blk_cell BK301.out 1).trans rfl
       have hfs31 := blk_frozen BK301.out 1
       have hns31_1 := NB316_301.out
       have hms31_1 := NB301_316.out
       refine skip_ (w1 := ?_) (by rfl) rfl ?_ ?_
       rotate_left
       ·go_simp
        rfl
       refine hK.out _ _ ⟨((cell_far (p := ⟨gb301, _, none⟩) NB316_301.out _).trans (((cell_far (p := ⟨gb301, _, none⟩) NB316_301.out _).trans (hHeld.1)))), ((cell_far (p := ⟨gb301, _, none⟩) NB316_301.out _).trans (((cell_far (p := ⟨gb301, _, none⟩) NB316_301.out _).trans (hHeld.2))))⟩ (fun hHeld => ?_)
       clear hK K
       refine pure_ (i := 5) (N := some 4) (v := ?_) (a' := ?_) #[true, true, true, true, true, true] rfl rfl (by kernel_rfl) (fun _ _ _ h => h) (Or.inl ⟨by rfl, ?_⟩) ?_ ?_
       rotate_left
       ·intro w'
        go_simp
        with_reducible rfl
       rotate_left
       ·simp only [Act.put, List.setIfInBounds_toArray, List.set_cons_zero, List.set_cons_succ, i64_w, i32_w]
        rfl
       refine done_ (by kernel_rfl) ?_
       try go_wp2
       refine bodyPost_ret (results_list (rs := [.tmp 2, .cell 3 32, .tmp 4]) rfl (by simp) (.tmp (.cell gb301 32 #[.int .i64 t308, .slice Ao15 t309.length co15] (0, 0) _ rfl (by (with_reducible repeat (first | refine blk_drewN ?_ _ | refine blk_drew ?_ | refine blk_alloc ?_ _)); refine blk_put (cs := #[.int .i64 t308, .slice none 0 0]) ?_ 1 _ rfl; (with_reducible repeat (first | refine blk_drewN ?_ _ | refine blk_drew ?_ | refine blk_alloc ?_ _)); refine blk_put (cs := #[.int .i64 0, .slice none 0 0]) ?_ 0 _ rfl; (with_reducible repeat (first | refine blk_drewN ?_ _ | refine blk_drew ?_ | refine blk_alloc ?_ _)); exact BK301.out) Try.underlying32 rfl (by kernel_rfl) (.tmp .nil)))) rfl ?_
       exact ⟨_, _, _, by first | rfl | (simp [errW_none, errW_some] <;> rfl) | (simp [*, errW_none, errW_some] <;> rfl), by (with_reducible repeat (first | apply Kd.S_alloc | apply Kd.S_drewN | apply Kd.S_drew)); exact Kd.S_mono (Kd.S_far (p := ⟨gb301, 1, none⟩) (Kd.S_far (p := ⟨gb301, 0, none⟩) (Kd.S_types HO_6.out BK301.out (by decide)) (fun _ hk => by first | exact hk.2 | trivial) (.int .i64 t308)) (fun _ hk => by first | exact hk.2 | trivial) (.slice Ao15 t309.length co15)) (fun _ hk => ⟨hk.1.2, hk.1.1⟩), by (with_reducible repeat (first | apply Kd.R_alloc | apply Kd.R_drewN | apply Kd.R_drew)); exact Kd.R_mono (Kd.R_far (p := ⟨gb301, 1, none⟩) (Kd.R_far (p := ⟨gb301, 0, none⟩) (Kd.R_types HO_317001.out BK301.out (by decide)) (fun _ hk => by first | exact hk.2 | trivial) (.int .i64 t308)) (fun _ hk => by first | exact hk.2 | trivial) (.slice Ao15 t309.length co15)) (fun _ hk => hk.1), Kd.Q_of_R (by (with_reducible repeat (first | apply Kd.R_alloc | apply Kd.R_drewN | apply Kd.R_drew)); exact Kd.R_mono (Kd.R_far (p := ⟨gb301, 1, none⟩) (Kd.R_far (p := ⟨gb301, 0, none⟩) (Kd.R_types HO_8.out BK301.out (by decide)) (fun _ hk => by first | exact hk.2 | trivial) (.int .i64 t308)) (fun _ hk => by first | exact hk.2 | trivial) (.slice Ao15 t309.length co15)) (fun _ hk => hk.1)), by repeat (first | (with_reducible first | exact HB.out | apply below_alloc | apply pw_below_drewN | apply below_drew1 | refine below_set ?_ (IsS45.ge HI304.out) | refine below_set ?_ GE301.out | refine below_set ?_ GE316.out) | exact HB.out)⟩
      ·rw [if_neg c22] at H
       exact absurd H (by simp)
     ·rw [if_neg c21] at H
      exact absurd H (by simp)
    ·replace c20 := Bool.eq_false_iff.mpr c20
     subst c20
     have H1 : (if t319 = 2 then (if 0 ≤ t317 then (if t317 < (t312.length : Int) then (some (t305, t308, t309, (t312.set (t317 : Int).toNat (wrap64 ((rd t312 t317) - 1))))) else (none)) else (none)) else (if t319 = 3 then (if 1 ≤ (t312.length : Int) then (some (t305, t308, t309, (t312.drop (1 : Int).toNat))) else (none)) else (some (t305, t308, t309, t312)))) = some (r1, r2, r3, r4) := by rw [if_neg (show ¬ (false = true) by decide)] at H; exact H
     clear H
     have H := H1
     clear H1
     by_cases c32 : t319 = 2
     ·rw [if_pos c32] at H
      have c32b0 : (t319 == 2) = true := beq_iff_eq.mpr c32
      have c32b1 : (t319 != 2) = false := bne_eq_false_iff_eq.mpr c32
      clear c32
      by_cases c33 : 0 ≤ t317
      ·rw [if_pos c33] at H
       have c33b0 : decide (0 ≤ t317) = true := decide_eq_true c33
       clear c33
       by_cases c34 : t317 < (t312.length : Int)
       ·rw [if_pos c34] at H
        have c34b0 : decide (t317 < (t312.length : Int)) = true := decide_eq_true c34
        clear c34
        obtain ⟨y326, hy326⟩ : ∃ y_ : List Int, y_ = (t312.set (t317 : Int).toNat (wrap64 ((rd t312 t317) - 1))) := ⟨_, rfl⟩
        replace H : (some (t305, t308, t309, y326)) = some (r1, r2, r3, r4) := by first | (rw [hy326]; with_reducible exact H) | (have H2_ := (Option.bind_some _ _).symm.trans H; rw [hy326]; with_reducible exact H2_) | (have H2_ := (Option.bind_some _ _).symm.trans H; with_reducible exact H2_) | with_reducible exact H | (rw [hy326]; exact H) | exact H
        have Ny326 := Aside0.mk hy326
        clear hy326
        simp only [Option.some.injEq, Prod.mk.injEq] at H
        obtain ⟨rfl, rfl, rfl, rfl⟩ := H
        have p325 : 0 ≤ (t317 : Int) := of_decide_eq_true (by first | (with_reducible assumption) | assumption)
        have q325 : t317 < (t312.length : Int) := of_decide_eq_true (by first | (with_reducible assumption) | assumption)
        obtain ⟨ad325, e325, hx325_0⟩ := Kd.at_int (Kd.R_reads' HO_8.out).2.2 t317 p325 q325
        cases e325
        replace p325 := eq_true p325
        replace q325 := eq_true q325
        have p35 : 0 ≤ (t317 : Int) := of_decide_eq_true (by first | (with_reducible assumption) | assumption)
        have q35 : (t317 : Int) < ((t312.length : Int) : Int) := of_decide_eq_true (by first | (with_reducible assumption) | assumption)
        obtain ⟨go35, co35, eo35, gb35, gl35, cl35, HG35⟩ := Kd.R_form HO_8.out (by omega)
        (first | cases eo35 | (injection eo35 with ea_ en_ ec_; (first | subst ea_ | (injection ea_ with ea_; subst ea_)); subst ec_; clear en_))
        have GB35 := Aside0.mk gb35
        have GG35 := Aside0.mk HG35
        clear gb35 gl35 HG35
        (first | simp only [add_plain] at hx325_0 | skip)
        obtain ⟨hx35_0, hf35_0⟩ := Kd.R_celln 0 HO_8.out (t317 : Int) p35 q35
        replace p35 := eq_true p35
        replace q35 := eq_true q35
        have HP36 := Kd.R_putg HO_8.out (t317 : Int) (wrap64 ((rd t312 t317) - 1))
        try go_wp2_with (first | ((with_reducible refine gate_store (t := 3) (p := 49) rfl ?_); refine store_event (t := 3) (p := 49) (v := ?vo_w37) (w1 := (wc.setCell ⟨go35, (t317 : Int).toNat, none⟩ (.int .i64 (wrap64 ((rd t312 t317) - 1))))) ?hg ?ho ?hn ?hr ?_; (case ho => rfl); (case hg => rfl); (case hn => rfl); (case hr => first | (go_simp; done) | (go_simp; rfl)); intro w37 hw; have hg : wc.grownBy w37 (some go35) := (by rw [hw]; exact HP36.2); have hp_ : Kd.R (Kd.int .i64) 3 w37 w.heap.size (fun k_ => some k_ ≠ (.slice Ao15 t309.length co15 : Value).ownBlock) (.slice (some ⟨go35, 0, none⟩) t312.length co16) y326 := (by rw [hw, Ny326.out]; exact HP36.1); clear HP36; have n0_ := Aside0.mk (Kd.S_after (v := (.slice (some ⟨go35, 0, none⟩) t312.length co16)) (v1 := (.slice (some ⟨go35, 0, none⟩) t312.length co16)) (ok := (fun k_ => some k_ ≠ (.slice Ao15 t309.length co15 : Value).ownBlock)) (by (with_reducible repeat (first | apply Kd.S_alloc | apply Kd.S_drewN | apply Kd.S_drew)); exact Kd.S_mono HO_6.out (fun _ hk => ⟨hk.2, hk.1⟩)) hg (.inl rfl)); have n1_ := Aside0.mk (hp_); have n2_ := Aside0.mk (Kd.R_after (v := (.slice (some ⟨go35, 0, none⟩) t312.length co16)) (v1 := (.slice (some ⟨go35, 0, none⟩) t312.length co16)) (ok := (fun _ => True)) (by (with_reducible repeat (first | apply Kd.R_alloc | apply Kd.R_drewN | apply Kd.R_drew)); exact Kd.R_mono HO_317001.out (fun _ hk => ⟨trivial, hk⟩)) hg (.inl rfl)); have n3_ := Aside0.mk (blk_grown (g := gb301) (o := .cells #[.int .i64 0, .slice none 0 0] 32 (0, 0)) (by (with_reducible repeat (first | refine blk_drewN ?_ _ | refine blk_drew ?_ | refine blk_alloc ?_ _)); exact BK301.out) hg (Kd.R_ne HO_8.out BK301.out (by decide))); have n4_ := Aside0.mk (blk_grown (g := gb316) (o := .cells #[.int .i64 t308, .slice Ao15 t309.length co15] 32 (0, 0)) (by (with_reducible repeat (first | refine blk_drewN ?_ _ | refine blk_drew ?_ | refine blk_alloc ?_ _)); exact BK316.out) hg (Kd.R_ne HO_8.out BK316.out (by decide))); have n5_ := Aside0.mk (IsS45.grown (by repeat (first | (with_reducible first | exact HI304.out | apply IsS45.alloc | apply IsS45.drewN | apply IsS45.drew | apply IsS45.set_1 | refine IsS45.far ?_ NB304_301.out _ | refine IsS45.far ?_ NB304_316.out _) | exact HI304.out)) hg (IsS45.own_ne HI304.out HO_8.out (by decide))); have n6_ := Aside0.mk ((by rw [hw]; exact below_set (HB.out) GB35.out : Below w.heap.size w w37)); clear HO_6; clear HO_8; clear HO_317001; clear BK301; clear BK316; clear HI304; clear HB; have HO_6 := n0_; have HO_8 := n1_; have HO_317001 := n2_; have BK301 := n3_; have BK316 := n4_; have HI304 := n5_; have HB := n6_; clear n0_ n1_ n2_ n3_ n4_ n5_ n6_; clear hg hw hp_))
        have n0_ := Aside0.mk (Kd.S_drew HO_6.out)
        have n1_ := Aside0.mk (Kd.R_drew HO_8.out)
        have n2_ := Aside0.mk (Kd.R_drew HO_317001.out)
        have n3_ := Aside0.mk (blk_drew BK301.out)
        have n4_ := Aside0.mk (blk_drew BK316.out)
        have n5_ := Aside0.mk (IsS45.drew HI304.out)
        have n6_ := Aside0.mk (below_drew1 HB.out)
        clear HO_6
        clear HO_8
        clear HO_317001
        clear BK301
        clear BK316
        clear HI304
        clear HB
        have HO_6 := n0_
        have HO_8 := n1_
        have HO_317001 := n2_
        have BK301 := n3_
        have BK316 := n4_
        have HI304 := n5_
        have HB := n6_
        clear n0_ n1_ n2_ n3_ n4_ n5_ n6_
        refine start_ (n := 6) (S := fun w' => w'.cell? ⟨gb316, 0, none⟩ = some (.int .i64 t308) ∧ w'.cell? ⟨gb316, 1, none⟩ = some (.slice Ao15 t309.length co15)) (ds := []) #[false, false, false, false, false, false] (by kernel_rfl) rfl rfl ⟨(blk_cell BK316.out 0).trans rfl, (blk_cell BK316.out 1).trans rfl⟩ (fun hHeld => ?_)
        generalize w37.drew = w38 at HO_6 HO_8 HO_317001 BK301 BK316 HI304 HB hHeld ⊢
        refine pure_ (i := 0) (N := some 56) (v := ?_) (a' := ?_) #[true, false, false, false, false, false] rfl rfl (by kernel_rfl) (fun _ _ _ h => h) (Or.inl ⟨by rfl, ?_⟩) ?_ ?_
        rotate_left
        ·intro w'
         go_simp
         with_reducible rfl
        rotate_left
        ·simp only [Act.put, List.setIfInBounds_toArray, List.set_cons_zero, List.set_cons_succ, i64_w, i32_w]
         rfl
        refine pure_ (i := 2) (N := some 58) (v := ?_) (a' := ?_) #[true, false, true, false, false, false] rfl rfl (by kernel_rfl) (fun _ _ _ h => h) (Or.inl ⟨by rfl, ?_⟩) ?_ ?_
        rotate_left
        ·intro w'
         go_simp
         with_reducible rfl
        rotate_left
        ·simp only [Act.put, List.setIfInBounds_toArray, List.set_cons_zero, List.set_cons_succ, i64_w, i32_w]
         rfl
        refine pure_ (i := 3) (N := some 2) (v := ?_) (a' := ?_) #[true, false, true, true, false, false] rfl rfl (by kernel_rfl) (fun _ _ _ h => h) (Or.inl ⟨by rfl, ?_⟩) ?_ ?_
        rotate_left
        ·intro w'
         go_simp
         with_reducible rfl
        rotate_left
        ·simp only [Act.put, List.setIfInBounds_toArray, List.set_cons_zero, List.set_cons_succ, i64_w, i32_w]
         rfl
        refine take_ (i := 1) (N := some 57) (v := ?_) (a' := ?_) #[true, true, true, true, false, false] rfl rfl (by kernel_rfl) (fun _ _ _ h => h) (Or.inl ⟨by rfl, ?_⟩) hHeld ?_ ?_
        rotate_left
        ·rintro w' ⟨s0, s1⟩
         go_simp
         with_reducible rfl
        rotate_left
        ·simp only [Act.put, List.setIfInBounds_toArray, List.set_cons_zero, List.set_cons_succ, i64_w, i32_w]
         rfl
        refine one_ (i := 4) (N := none) #[true, true, true, true, true, false] rfl rfl (by kernel_rfl) (by decide) (fun K hK => ?_)
        have hs39 : w38.cell? ⟨gb301, 0, none⟩ = some (.int .i64 0) := (blk_cell BK301.out 0).trans rfl
        have hfs39 := blk_frozen BK301.out 0
        have hns39_1 := NB316_301.out
        have hms39_1 := NB301_316.out
        have hs40 : w38.cell? ⟨gb301, 1, none⟩ = some (.slice none 0 0) := (blk_cell BK301.out 1).trans rfl
        have hfs40 := blk_frozen BK301.out 1
        have hns40_1 := NB316_301.out
        have hms40_1 := NB301_316.out
        refine skip_ (w1 := ?_) (by rfl) rfl ?_ ?_
        rotate_left
        ·go_simp
         rfl
        refine hK.out _ _ ⟨((cell_far (p := ⟨gb301, _, none⟩) NB316_301.out _).trans (((cell_far (p := ⟨gb301, _, none⟩) NB316_301.out _).trans (hHeld.1)))), ((cell_far (p := ⟨gb301, _, none⟩) NB316_301.out _).trans (((cell_far (p := ⟨gb301, _, none⟩) NB316_301.out _).trans (hHeld.2))))⟩ (fun hHeld => ?_)
        clear hK K
        refine pure_ (i := 5) (N := some 4) (v := ?_) (a' := ?_) #[true, true, true, true, true, true] rfl rfl (by kernel_rfl) (fun _ _ _ h => h) (Or.inl ⟨by rfl, ?_⟩) ?_ ?_
        rotate_left
        ·intro w'
         go_simp
         with_reducible rfl
        rotate_left
        ·simp only [Act.put, List.setIfInBounds_toArray, List.set_cons_zero, List.set_cons_succ, i64_w, i32_w]
         rfl
        refine done_ (by kernel_rfl) ?_
        try go_wp2
        refine bodyPost_ret (results_list (rs := [.tmp 2, .cell 3 32, .tmp 4]) rfl (by simp) (.tmp (.cell gb301 32 #[.int .i64 t308, .slice Ao15 t309.length co15] (0, 0) _ rfl (by (with_reducible repeat (first | refine blk_drewN ?_ _ | refine blk_drew ?_ | refine blk_alloc ?_ _)); refine blk_put (cs := #[.int .i64 t308, .slice none 0 0]) ?_ 1 _ rfl; (with_reducible repeat (first | refine blk_drewN ?_ _ | refine blk_drew ?_ | refine blk_alloc ?_ _)); refine blk_put (cs := #[.int .i64 0, .slice none 0 0]) ?_ 0 _ rfl; (with_reducible repeat (first | refine blk_drewN ?_ _ | refine blk_drew ?_ | refine blk_alloc ?_ _)); exact BK301.out) Try.underlying32 rfl (by kernel_rfl) (.tmp .nil)))) rfl ?_
        exact ⟨_, _, _, by first | rfl | (simp [errW_none, errW_some] <;> rfl) | (simp [*, errW_none, errW_some] <;> rfl), by (with_reducible repeat (first | apply Kd.S_alloc | apply Kd.S_drewN | apply Kd.S_drew)); exact Kd.S_mono (Kd.S_far (p := ⟨gb301, 1, none⟩) (Kd.S_far (p := ⟨gb301, 0, none⟩) (Kd.S_types HO_6.out BK301.out (by decide)) (fun _ hk => by first | exact hk.2 | trivial) (.int .i64 t308)) (fun _ hk => by first | exact hk.2 | trivial) (.slice Ao15 t309.length co15)) (fun _ hk => ⟨hk.1.1, hk.1.2⟩), by (with_reducible repeat (first | apply Kd.R_alloc | apply Kd.R_drewN | apply Kd.R_drew)); exact Kd.R_mono (Kd.R_far (p := ⟨gb301, 1, none⟩) (Kd.R_far (p := ⟨gb301, 0, none⟩) (Kd.R_types HO_317001.out BK301.out (by decide)) (fun _ hk => by first | exact hk.2 | trivial) (.int .i64 t308)) (fun _ hk => by first | exact hk.2 | trivial) (.slice Ao15 t309.length co15)) (fun _ hk => hk.1.2), Kd.Q_of_R (by (with_reducible repeat (first | apply Kd.R_alloc | apply Kd.R_drewN | apply Kd.R_drew)); exact Kd.R_mono (Kd.R_far (p := ⟨gb301, 1, none⟩) (Kd.R_far (p := ⟨gb301, 0, none⟩) (Kd.R_types HO_8.out BK301.out (by decide)) (fun _ hk => by first | exact hk.2 | trivial) (.int .i64 t308)) (fun _ hk => by first | exact hk.2 | trivial) (.slice Ao15 t309.length co15)) (fun _ hk => hk.1)), by repeat (first | (with_reducible first | exact HB.out | apply below_alloc | apply pw_below_drewN | apply below_drew1 | refine below_set ?_ (IsS45.ge HI304.out) | refine below_set ?_ GE301.out | refine below_set ?_ GE316.out) | exact HB.out)⟩
       ·rw [if_neg c34] at H
        exact absurd H (by simp)
      ·rw [if_neg c33] at H
       exact absurd H (by simp)
     ·rw [if_neg c32] at H
      have c32b0 : (t319 == 2) = false := beq_eq_false_iff_ne.mpr c32
      have c32b1 : (t319 != 2) = true := bne_iff_ne.mpr c32
      by_cases c41 : t319 = 3
      ·rw [if_pos c41] at H
       have c41b0 : (t319 == 3) = true := beq_iff_eq.mpr c41
       have c41b1 : (t319 != 3) = false := bne_eq_false_iff_eq.mpr c41
       clear c41
       by_cases c42 : 1 ≤ (t312.length : Int)
       ·rw [if_pos c42] at H
        have c42b0 := eq_true c42
        have c42b1 : decide (1 ≤ (t312.length : Int)) = true := decide_eq_true c42
        clear c42
        obtain ⟨y327, hy327⟩ : ∃ y_ : List Int, y_ = (t312.drop (1 : Int).toNat) := ⟨_, rfl⟩
        replace H : (some (t305, t308, t309, y327)) = some (r1, r2, r3, r4) := by first | (rw [hy327]; with_reducible exact H) | (have H2_ := (Option.bind_some _ _).symm.trans H; rw [hy327]; with_reducible exact H2_) | (have H2_ := (Option.bind_some _ _).symm.trans H; with_reducible exact H2_) | with_reducible exact H | (rw [hy327]; exact H) | exact H
        have Ny327 := Aside0.mk hy327
        clear hy327
        simp only [Option.some.injEq, Prod.mk.injEq] at H
        obtain ⟨rfl, rfl, rfl, rfl⟩ := H
        try go_wp2
        have n0_ := Aside0.mk (Kd.S_drew HO_6.out)
        have n1_ := Aside0.mk (Kd.R_drew HO_8.out)
        have n2_ := Aside0.mk (Kd.R_drew HO_317001.out)
        have n3_ := Aside0.mk (blk_drew BK301.out)
        have n4_ := Aside0.mk (blk_drew BK316.out)
        have n5_ := Aside0.mk (IsS45.drew HI304.out)
        have n6_ := Aside0.mk (below_drew1 HB.out)
        clear HO_6
        clear HO_8
        clear HO_317001
        clear BK301
        clear BK316
        clear HI304
        clear HB
        have HO_6 := n0_
        have HO_8 := n1_
        have HO_317001 := n2_
        have BK301 := n3_
        have BK316 := n4_
        have HI304 := n5_
        have HB := n6_
        clear n0_ n1_ n2_ n3_ n4_ n5_ n6_
        have q44 : (1 : Int) ≤ ((t312.length : Int) : Int) := of_decide_eq_true (by first | (with_reducible assumption) | assumption)
        obtain ⟨i044, hi044, _, hsz44, _⟩ := info_parts info3
        have hcut44 := cut_from (P := Try.prog) 24 3 .i64 Try.underlying24 hi044 1 hsz44 Ao16 t312.length co16 1 (by omega) q44
        have hr44 := Kd.Q_drop (k := (1 : Int).toNat) (Kd.Q_of_R HO_8.out) (by omega)
        obtain ⟨A44, hA44⟩ : ∃ A1, A1 = (if co16 = (1 : Int).toNat then Ao16 else (Ao16 : Option Addr).map (·.add ((1 : Int).toNat * 1))) := ⟨_, rfl⟩
        obtain ⟨c44, hc44⟩ : ∃ c1, c1 = co16 - (1 : Int).toNat := ⟨_, rfl⟩
        have hy44 : y327.length = t312.length - (1 : Int).toNat := (by rw [Ny327.out, List.length_drop])
        rw [← Ny327.out] at hr44
        rw [← hy44, ← hA44, ← hc44] at hcut44
        replace hr44 : Kd.Q (Kd.int .i64) 3 wc.drew w.heap.size (fun k_ => some k_ ≠ (.slice Ao15 t309.length co15 : Value).ownBlock) (.slice A44 y327.length c44) y327 := (by rw [hA44, hc44, hy44]; exact hr44)
        have HE44 : Aside0 ((Value.slice A44 y327.length c44).ownBlock = (.slice Ao16 t312.length co16 : Value).ownBlock) := ⟨by rw [hA44]; split <;> (cases (Ao16 : Option Addr) <;> rfl)⟩
        clear hy44 hi044 hsz44 HO_8 hA44 hc44
        have HO329 := Aside0.mk hr44
        clear hr44
        replace q44 := eq_true q44
        have n_ := Aside0.mk (Kd.S_mono (ok' := fun k_ => (some k_ ≠ (.slice A44 y327.length c44 : Value).ownBlock ∧ some k_ ≠ (.slice Ao15 t309.length co15 : Value).ownBlock)) HO_6.out (fun k_ hk => ⟨(by rw [HE44.out]; exact hk.1), hk.2⟩))
        clear HO_6
        have HO_6 := n_
        clear n_
        have n_ := Aside0.mk (Kd.R_mono (ok' := fun k_ => some k_ ≠ (.slice A44 y327.length c44 : Value).ownBlock) HO_317001.out (fun k_ hk => (by rw [HE44.out]; exact hk)))
        clear HO_317001
        have HO_317001 := n_
        clear n_
        refine start_ (n := 7) (S := fun w' => w'.cell? ⟨gb316, 0, none⟩ = some (.int .i64 t308) ∧ w'.cell? ⟨gb316, 1, none⟩ = some (.slice Ao15 t309.length co15)) (ds := []) #[false, false, false, false, false, false, false] (by kernel_rfl) rfl rfl ⟨(blk_cell BK316.out 0).trans rfl, (blk_cell BK316.out 1).trans rfl⟩ (fun hHeld => ?_)
        generalize wc.drew = w43 at HO_6 HO_317001 BK301 BK316 HI304 HB HO329 hHeld ⊢
        refine pure_ (i := 0) (N := some 52) (v := ?_) (a' := ?_) #[true, false, false, false, false, false, false] rfl rfl (by kernel_rfl) (fun _ _ _ h => h) (Or.inl ⟨by rfl, ?_⟩) ?_ ?_
        rotate_left
        ·intro w'
         go_simp
         with_reducible rfl
        rotate_left
        ·simp only [Act.put, List.setIfInBounds_toArray, List.set_cons_zero, List.set_cons_succ, i64_w, i32_w]
         rfl
        refine pure_ (i := 2) (N := some 54) (v := ?_) (a' := ?_) #[true, false, true, false, false, false, false] rfl rfl (by kernel_rfl) (fun _ _ _ h => h) (Or.inl ⟨by rfl, ?_⟩) ?_ ?_
        rotate_left
        ·intro w'
         go_simp
         with_reducible rfl
        rotate_left
        ·simp only [Act.put, List.setIfInBounds_toArray, List.set_cons_zero, List.set_cons_succ, i64_w, i32_w]
         rfl
        refine pure_ (i := 3) (N := some 55) (v := ?_) (a' := ?_) #[true, false, true, true, false, false, false] rfl rfl (by kernel_rfl) (fun _ _ _ h => h) (Or.inl ⟨by rfl, ?_⟩) ?_ ?_
        rotate_left
        ·intro w'
         go_simp
         with_reducible rfl
        rotate_left
        ·simp only [Act.put, List.setIfInBounds_toArray, List.set_cons_zero, List.set_cons_succ, i64_w, i32_w]
         rfl
        refine pure_ (i := 4) (N := some 2) (v := ?_) (a' := ?_) #[true, false, true, true, true, false, false] rfl rfl (by kernel_rfl) (fun _ _ _ h => h) (Or.inl ⟨by rfl, ?_⟩) ?_ ?_
        rotate_left
        ·intro w'
         go_simp
         with_reducible rfl
        rotate_left
        ·simp only [Act.put, List.setIfInBounds_toArray, List.set_cons_zero, List.set_cons_succ, i64_w, i32_w]
         rfl
        refine take_ (i := 1) (N := some 53) (v := ?_) (a' := ?_) #[true, true, true, true, true, false, false] rfl rfl (by kernel_rfl) (fun _ _ _ h => h) (Or.inl ⟨by rfl, ?_⟩) hHeld ?_ ?_
        rotate_left
        ·rintro w' ⟨s0, s1⟩
         go_simp
         with_reducible rfl
        rotate_left
        ·simp only [Act.put, List.setIfInBounds_toArray, List.set_cons_zero, List.set_cons_succ, i64_w, i32_w]
         rfl
        refine one_ (i := 5) (N := none) #[true, true, true, true, true, true, false] rfl rfl (by kernel_rfl) (by decide) (fun K hK => ?_)
        have hs45 : w43.cell? ⟨gb301, 0, none⟩ = some (.int .i64 0) := (blk_cell BK301.out 0).trans rfl
        have hfs45 := blk_frozen BK301.out 0
        have hns45_1 := NB316_301.out
        have hms45_1 := NB301_316.out
        have hs46 : w43.cell? ⟨gb301, 1, none⟩ = some (.slice none 0 0) := (blk_cell BK301.out 1).trans rfl
        have hfs46 := blk_frozen BK301.out 1
        have hns46_1 := NB316_301.out
        have hms46_1 := NB301_316.out
        refine skip_ (w1 := ?_) (by rfl) rfl ?_ ?_
        rotate_left
        ·go_simp
         rfl
        refine hK.out _ _ ⟨((cell_far (p := ⟨gb301, _, none⟩) NB316_301.out _).trans (((cell_far (p := ⟨gb301, _, none⟩) NB316_301.out _).trans (hHeld.1)))), ((cell_far (p := ⟨gb301, _, none⟩) NB316_301.out _).trans (((cell_far (p := ⟨gb301, _, none⟩) NB316_301.out _).trans (hHeld.2))))⟩ (fun hHeld => ?_)
        clear hK K
        refine pure_ (i := 6) (N := some 4) (v := ?_) (a' := ?_) #[true, true, true, true, true, true, true] rfl rfl (by kernel_rfl) (fun _ _ _ h => h) (Or.inl ⟨by rfl, ?_⟩) ?_ ?_
        rotate_left
        ·intro w'
         go_simp
         with_reducible rfl
        rotate_left
        ·simp only [Act.put, List.setIfInBounds_toArray, List.set_cons_zero, List.set_cons_succ, i64_w, i32_w]
         rfl
        refine done_ (by kernel_rfl) ?_
        try go_wp2
        refine bodyPost_ret (results_list (rs := [.tmp 2, .cell 3 32, .tmp 4]) rfl (by simp) (.tmp (.cell gb301 32 #[.int .i64 t308, .slice Ao15 t309.length co15] (0, 0) _ rfl (by (with_reducible repeat (first | refine blk_drewN ?_ _ | refine blk_drew ?_ | refine blk_alloc ?_ _)); refine blk_put (cs := #[.int .i64 t308, .slice none 0 0]) ?_ 1 _ rfl; (with_reducible repeat (first | refine blk_drewN ?_ _ | refine blk_drew ?_ | refine blk_alloc ?_ _)); refine blk_put (cs := #[.int .i64 0, .slice none 0 0]) ?_ 0 _ rfl; (with_reducible repeat (first | refine blk_drewN ?_ _ | refine blk_drew ?_ | refine blk_alloc ?_ _)); exact BK301.out) Try.underlying32 rfl (by kernel_rfl) (.tmp .nil)))) rfl ?_
        exact ⟨_, _, _, by first | rfl | (simp [errW_none, errW_some] <;> rfl) | (simp [*, errW_none, errW_some] <;> rfl), by (with_reducible repeat (first | apply Kd.S_alloc | apply Kd.S_drewN | apply Kd.S_drew)); exact Kd.S_mono (Kd.S_far (p := ⟨gb301, 1, none⟩) (Kd.S_far (p := ⟨gb301, 0, none⟩) (Kd.S_types HO_6.out BK301.out (by decide)) (fun _ hk => by first | exact hk.2 | trivial) (.int .i64 t308)) (fun _ hk => by first | exact hk.2 | trivial) (.slice Ao15 t309.length co15)) (fun _ hk => ⟨hk.1.2, hk.1.1⟩), by (with_reducible repeat (first | apply Kd.R_alloc | apply Kd.R_drewN | apply Kd.R_drew)); exact Kd.R_mono (Kd.R_far (p := ⟨gb301, 1, none⟩) (Kd.R_far (p := ⟨gb301, 0, none⟩) (Kd.R_types HO_317001.out BK301.out (by decide)) (fun _ hk => by first | exact hk.2 | trivial) (.int .i64 t308)) (fun _ hk => by first | exact hk.2 | trivial) (.slice Ao15 t309.length co15)) (fun _ hk => hk.1), by (with_reducible repeat (first | apply Kd.Q_alloc | apply Kd.Q_drewN | apply Kd.Q_drew)); exact Kd.Q_mono (Kd.Q_far (p := ⟨gb301, 1, none⟩) (Kd.Q_far (p := ⟨gb301, 0, none⟩) (Kd.Q_types HO329.out BK301.out (by decide)) (fun _ hk => by first | exact hk.2 | trivial) (.int .i64 t308)) (fun _ hk => by first | exact hk.2 | trivial) (.slice Ao15 t309.length co15)) (fun _ hk => hk.1), by repeat (first | (with_reducible first | exact HB.out | apply below_alloc | apply pw_below_drewN | apply below_drew1 | refine below_set ?_ (IsS45.ge HI304.out) | refine below_set ?_ GE301.out | refine below_set ?_ GE316.out) | exact HB.out)⟩
       ·rw [if_neg c42] at H
        exact absurd H (by simp)
      ·rw [if_neg c41] at H
       have c41b0 : (t319 == 3) = false := beq_eq_false_iff_ne.mpr c41
       have c41b1 : (t319 != 3) = true := bne_iff_ne.mpr c41
       simp only [Option.some.injEq, Prod.mk.injEq] at H
       obtain ⟨rfl, rfl, rfl, rfl⟩ := H
       try go_wp2
       have n0_ := Aside0.mk (Kd.S_drew HO_6.out)
       have n1_ := Aside0.mk (Kd.R_drew HO_8.out)
       have n2_ := Aside0.mk (Kd.R_drew HO_317001.out)
       have n3_ := Aside0.mk (blk_drew BK301.out)
       have n4_ := Aside0.mk (blk_drew BK316.out)
       have n5_ := Aside0.mk (IsS45.drew HI304.out)
       have n6_ := Aside0.mk (below_drew1 HB.out)
       clear HO_6
       clear HO_8
       clear HO_317001
       clear BK301
       clear BK316
       clear HI304
       clear HB
       have HO_6 := n0_
       have HO_8 := n1_
       have HO_317001 := n2_
       have BK301 := n3_
       have BK316 := n4_
       have HI304 := n5_
       have HB := n6_
       clear n0_ n1_ n2_ n3_ n4_ n5_ n6_
       refine start_ (n := 6) (S := fun w' => w'.cell? ⟨gb316, 0, none⟩ = some (.int .i64 t308) ∧ w'.cell? ⟨gb316, 1, none⟩ = some (.slice Ao15 t309.length co15)) (ds := []) #[false, false, false, false, false, false] (by kernel_rfl) rfl rfl ⟨(blk_cell BK316.out 0).trans rfl, (blk_cell BK316.out 1).trans rfl⟩ (fun hHeld => ?_)
       generalize wc.drew = w47 at HO_6 HO_8 HO_317001 BK301 BK316 HI304 HB hHeld ⊢
       refine pure_ (i := 0) (N := some 56) (v := ?_) (a' := ?_) #[true, false, false, false, false, false] rfl rfl (by kernel_rfl) (fun _ _ _ h => h) (Or.inl ⟨by rfl, ?_⟩) ?_ ?_
       rotate_left
       ·intro w'
        go_simp
        with_reducible rfl
       rotate_left
       ·simp only [Act.put, List.setIfInBounds_toArray, List.set_cons_zero, List.set_cons_succ, i64_w, i32_w]
        rfl
       refine pure_ (i := 2) (N := some 58) (v := ?_) (a' := ?_) #[true, false, true, false, false, false] rfl rfl (by kernel_rfl) (fun _ _ _ h => h) (Or.inl ⟨by rfl, ?_⟩) ?_ ?_
       rotate_left
       ·intro w'
        go_simp
        with_reducible rfl
       rotate_left
       ·simp only [Act.put, List.setIfInBounds_toArray, List.set_cons_zero, List.set_cons_succ, i64_w, i32_w]
        rfl
       refine pure_ (i := 3) (N := some 2) (v := ?_) (a' := ?_) #[true, false, true, true, false, false] rfl rfl (by kernel_rfl) (fun _ _ _ h => h) (Or.inl ⟨by rfl, ?_⟩) ?_ ?_
       rotate_left
       ·intro w'
        go_simp
        with_reducible rfl
       rotate_left
       ·simp only [Act.put, List.setIfInBounds_toArray, List.set_cons_zero, List.set_cons_succ, i64_w, i32_w]
        rfl
       refine take_ (i := 1) (N := some 57) (v := ?_) (a' := ?_) #[true, true, true, true, false, false] rfl rfl (by kernel_rfl) (fun _ _ _ h => h) (Or.inl ⟨by rfl, ?_⟩) hHeld ?_ ?_
       rotate_left
       ·rintro w' ⟨s0, s1⟩
        go_simp
        with_reducible rfl
       rotate_left
       ·simp only [Act.put, List.setIfInBounds_toArray, List.set_cons_zero, List.set_cons_succ, i64_w, i32_w]
        rfl
       refine one_ (i := 4) (N := none) #[true, true, true, true, true, false] rfl rfl (by kernel_rfl) (by decide) (fun K hK => ?_)
       have hs48 : w47.cell? ⟨gb301, 0, none⟩ = some (.int .i64 0) := (blk_cell BK301.out 0).trans rfl
       have hfs48 := blk_frozen BK301.out 0
       have hns48_1 := NB316_301.out
       have hms48_1 := NB301_316.out
       have hs49 : w47.cell? ⟨gb301, 1, none⟩ = some (.slice none 0 0) := (blk_cell BK301.out 1).trans rfl
       have hfs49 := blk_frozen BK301.out 1
       have hns49_1 := NB316_301.out
       have hms49_1 := NB301_316.out
       refine skip_ (w1 := ?_) (by rfl) rfl ?_ ?_
       rotate_left
       ·go_simp
        rfl
       refine hK.out _ _ ⟨((cell_far (p := ⟨gb301, _, none⟩) NB316_301.out _).trans (((cell_far (p := ⟨gb301, _, none⟩) NB316_301.out _).trans (hHeld.1)))), ((cell_far (p := ⟨gb301, _, none⟩) NB316_301.out _).trans (((cell_far (p := ⟨gb301, _, none⟩) NB316_301.out _).trans (hHeld.2))))⟩ (fun hHeld => ?_)
       clear hK K
       refine pure_ (i := 5) (N := some 4) (v := ?_) (a' := ?_) #[true, true, true, true, true, true] rfl rfl (by kernel_rfl) (fun _ _ _ h => h) (Or.inl ⟨by rfl, ?_⟩) ?_ ?_
       rotate_left
       ·intro w'
        go_simp
        with_reducible rfl
       rotate_left
       ·simp only [Act.put, List.setIfInBounds_toArray, List.set_cons_zero, List.set_cons_succ, i64_w, i32_w]
        rfl
       refine done_ (by kernel_rfl) ?_
       try go_wp2
       refine bodyPost_ret (results_list (rs := [.tmp 2, .cell 3 32, .tmp 4]) rfl (by simp) (.tmp (.cell gb301 32 #[.int .i64 t308, .slice Ao15 t309.length co15] (0, 0) _ rfl (by (with_reducible repeat (first | refine blk_drewN ?_ _ | refine blk_drew ?_ | refine blk_alloc ?_ _)); refine blk_put (cs := #[.int .i64 t308, .slice none 0 0]) ?_ 1 _ rfl; (with_reducible repeat (first | refine blk_drewN ?_ _ | refine blk_drew ?_ | refine blk_alloc ?_ _)); refine blk_put (cs := #[.int .i64 0, .slice none 0 0]) ?_ 0 _ rfl; (with_reducible repeat (first | refine blk_drewN ?_ _ | refine blk_drew ?_ | refine blk_alloc ?_ _)); exact BK301.out) Try.underlying32 rfl (by kernel_rfl) (.tmp .nil)))) rfl ?_
       exact ⟨_, _, _, by first | rfl | (simp [errW_none, errW_some] <;> rfl) | (simp [*, errW_none, errW_some] <;> rfl), by (with_reducible repeat (first | apply Kd.S_alloc | apply Kd.S_drewN | apply Kd.S_drew)); exact Kd.S_mono (Kd.S_far (p := ⟨gb301, 1, none⟩) (Kd.S_far (p := ⟨gb301, 0, none⟩) (Kd.S_types HO_6.out BK301.out (by decide)) (fun _ hk => by first | exact hk.2 | trivial) (.int .i64 t308)) (fun _ hk => by first | exact hk.2 | trivial) (.slice Ao15 t309.length co15)) (fun _ hk => ⟨hk.1.2, hk.1.1⟩), by (with_reducible repeat (first | apply Kd.R_alloc | apply Kd.R_drewN | apply Kd.R_drew)); exact Kd.R_mono (Kd.R_far (p := ⟨gb301, 1, none⟩) (Kd.R_far (p := ⟨gb301, 0, none⟩) (Kd.R_types HO_317001.out BK301.out (by decide)) (fun _ hk => by first | exact hk.2 | trivial) (.int .i64 t308)) (fun _ hk => by first | exact hk.2 | trivial) (.slice Ao15 t309.length co15)) (fun _ hk => hk.1), Kd.Q_of_R (by (with_reducible repeat (first | apply Kd.R_alloc | apply Kd.R_drewN | apply Kd.R_drew)); exact Kd.R_mono (Kd.R_far (p := ⟨gb301, 1, none⟩) (Kd.R_far (p := ⟨gb301, 0, none⟩) (Kd.R_types HO_8.out BK301.out (by decide)) (fun _ hk => by first | exact hk.2 | trivial) (.int .i64 t308)) (fun _ hk => by first | exact hk.2 | trivial) (.slice Ao15 t309.length co15)) (fun _ hk => hk.1)), by repeat (first | (with_reducible first | exact HB.out | apply below_alloc | apply pw_below_drewN | apply below_drew1 | refine below_set ?_ (IsS45.ge HI304.out) | refine below_set ?_ GE301.out | refine below_set ?_ GE316.out) | exact HB.out)⟩
 ·rw [if_neg c4] at H
  have c4b0 : decide (0 < (t312.length : Int)) = false := decide_eq_false c4
  have c4b1 : decide (0 < t312.length) = false := decide_eq_false (by omega)
  clear c4
  simp only [Option.some.injEq, Prod.mk.injEq] at H
  obtain ⟨rfl, rfl, rfl, rfl⟩ := H
  go_enter Try.func7, Try.ntmps7
  try go_wp2_with (first | ((with_reducible refine gate_dst (N := 3) rfl ?_); refine box_event ?hg (N := 3) ?hd (cs := #[.int .i64 0, .slice none 0 0]) (t := 32) ?hr ?_; (case hd => rfl); (case hg => rfl); (case hr => first | (go_simp; done) | (go_simp; rfl)); intro gb301 hg w50 hbox hb; have n0_ := Aside0.mk (below_step (by repeat (first | (with_reducible first | exact HB.out | apply below_alloc | apply pw_below_drewN | apply below_drew1) | exact HB.out)) hb); have n1_ := Aside0.mk (hbox); have n2_ := Aside0.mk ((by rw [hg]; exact (below_size (by repeat (first | (with_reducible first | exact HB.out | apply below_alloc | apply pw_below_drewN | apply below_drew1) | exact HB.out))) : w.heap.size ≤ gb301)); have n3_ := Aside0.mk ((by rw [hg]; exact (below_size (by repeat (first | (with_reducible first | exact HB.out | apply below_alloc | apply pw_below_drewN | apply below_drew1) | exact HB.out))) : w.heap.size ≤ gb301)); clear HB; have HB := n0_; have BK301 := n1_; have GW301 := n2_; have GE301 := n3_; clear n0_ n1_ n2_ n3_; clear hb hbox hg) | ((with_reducible refine gate_callee (f := 11) rfl ?_); refine goesL_ (some 11) rfl rfl Try.func11 (by kernel_rfl) rfl #[.slice A0 l0.length c0] rfl (by (try simp only [List.map_toArray, List.map_cons, List.map_nil]); first | done | rfl | (simp only [List.length_drop, List.length_take]; rfl)) ?_; (with_reducible refine (spec_l6Open.calls _ _ l0 t302 t303 w _ ?side1 ?side2 ?side3 A2.out).mono ?_); (case side1 => repeat (first | (with_reducible first | exact HB.out | apply below_alloc | apply pw_below_drewN | apply below_drew1 | refine below_set ?_ GE301.out) | exact HB.out)); (case side2 => exact HR0.out); (case side3 => exact HC0.out); rintro e w51 ⟨g304, rfl, hi, hb, hb2⟩; refine ⟨_, rfl, ?_⟩; have n0_ := Aside0.mk (blk_below (g := gb301) (o := .cells #[.int .i64 0, .slice none 0 0] 32 (0, 0)) (by (with_reducible repeat (first | refine blk_drewN ?_ _ | refine blk_drew ?_ | refine blk_alloc ?_ _)); exact BK301.out) hb2); have n1_ := Aside0.mk (hb); have n2_ := Aside0.mk (hi); have n3_ := Aside0.mk (IsS45.ne_blk hi (blk_below (g := gb301) (o := .cells #[.int .i64 0, .slice none 0 0] 32 (0, 0)) (by (with_reducible repeat (first | refine blk_drewN ?_ _ | refine blk_drew ?_ | refine blk_alloc ?_ _)); exact BK301.out) hb2) (by decide)); have n4_ := Aside0.mk (Ne.symm (IsS45.ne_blk hi (blk_below (g := gb301) (o := .cells #[.int .i64 0, .slice none 0 0] 32 (0, 0)) (by (with_reducible repeat (first | refine blk_drewN ?_ _ | refine blk_drew ?_ | refine blk_alloc ?_ _)); exact BK301.out) hb2) (by decide))); clear BK301; clear HB; have BK301 := n0_; have HB := n1_; have HI304 := n2_; have NB304_301 := n3_; have NB301_304 := n4_; clear n0_ n1_ n2_ n3_ n4_; (try clear hb); (try clear hb2); (try clear hk); (try clear hi)) | ((with_reducible refine gate_callee (f := 12) rfl ?_); refine goesL_ (some 14) rfl rfl Try.func12 (by kernel_rfl) rfl #[.pointer (some ⟨g304, 0, none⟩)] rfl (by (try simp only [List.map_toArray, List.map_cons, List.map_nil]); first | done | rfl | (simp only [List.length_drop, List.length_take]; rfl)) ?_; (with_reducible refine (spec_l92Plan.calls k g304 t302 t303 t305 t308 t309 t312 t315 w _ ?side1 ?side2 A3.out).mono ?_); (case side1 => repeat (first | (with_reducible first | exact HI304.out | apply IsS45.alloc | apply IsS45.drewN | apply IsS45.drew | apply IsS45.set_1 | refine IsS45.far ?_ NB304_301.out _) | exact HI304.out)); (case side2 => repeat (first | (with_reducible first | exact HB.out | apply below_alloc | apply pw_below_drewN | apply below_drew1 | refine below_set ?_ (IsS45.ge HI304.out) | refine below_set ?_ GE301.out) | exact HB.out)); rintro e w52 ⟨v306, v310, v313, rfl, ho0, ho1, ho2, hi, hb, hk⟩; refine ⟨_, rfl, ?_⟩; have n0_ := Aside0.mk (KeepBut.blk hk (g' := gb301) (o := .cells #[.int .i64 0, .slice none 0 0] 32 (0, 0)) (by (with_reducible repeat (first | refine blk_drewN ?_ _ | refine blk_drew ?_ | refine blk_alloc ?_ _)); exact BK301.out) NB301_304.out (by simp)); have n1_ := Aside0.mk (Kd.S_lower ho0 (below_size (by repeat (first | (with_reducible first | exact HB.out | apply below_alloc | apply pw_below_drewN | apply below_drew1 | refine below_set ?_ (IsS45.ge HI304.out) | refine below_set ?_ GE301.out) | exact HB.out)))); have n2_ := Aside0.mk (Kd.R_lower ho1 (below_size (by repeat (first | (with_reducible first | exact HB.out | apply below_alloc | apply pw_below_drewN | apply below_drew1 | refine below_set ?_ (IsS45.ge HI304.out) | refine below_set ?_ GE301.out) | exact HB.out)))); have n3_ := Aside0.mk (Kd.R_lower ho2 (below_size (by repeat (first | (with_reducible first | exact HB.out | apply below_alloc | apply pw_below_drewN | apply below_drew1 | refine below_set ?_ (IsS45.ge HI304.out) | refine below_set ?_ GE301.out) | exact HB.out)))); have n4_ := Aside0.mk (hb); have n5_ := Aside0.mk (hi); clear BK301; clear HB; clear HI304; have BK301 := n0_; have HO307 := n1_; have HO311 := n2_; have HO314 := n3_; have HB := n4_; have HI304 := n5_; clear n0_ n1_ n2_ n3_ n4_ n5_; (try clear hb); (try clear hb2); (try clear hk); (try clear hi); (try clear ho0); (try clear ho1); (try clear ho2)) | ((with_reducible refine gate_dst (N := 7) rfl ?_); refine box_event ?hg (N := 7) ?hd (cs := #[.int .i64 0, .slice none 0 0]) (t := 32) ?hr ?_; (case hd => rfl); (case hg => rfl); (case hr => first | (go_simp; done) | (go_simp; rfl)); intro gb316 hg w53 hbox hb; have n0_ := Aside0.mk (Kd.S_below (by (with_reducible repeat (first | apply Kd.S_alloc | apply Kd.S_drewN | apply Kd.S_drew)); exact HO307.out) hb); have n1_ := Aside0.mk (Kd.R_below (by (with_reducible repeat (first | apply Kd.R_alloc | apply Kd.R_drewN | apply Kd.R_drew)); exact HO311.out) hb); have n2_ := Aside0.mk (Kd.R_below (by (with_reducible repeat (first | apply Kd.R_alloc | apply Kd.R_drewN | apply Kd.R_drew)); exact HO314.out) hb); have n3_ := Aside0.mk (blk_below (g := gb301) (o := .cells #[.int .i64 0, .slice none 0 0] 32 (0, 0)) (by (with_reducible repeat (first | refine blk_drewN ?_ _ | refine blk_drew ?_ | refine blk_alloc ?_ _)); exact BK301.out) hb); have n4_ := Aside0.mk (IsS45.below (by repeat (first | (with_reducible first | exact HI304.out | apply IsS45.alloc | apply IsS45.drewN | apply IsS45.drew | apply IsS45.set_1 | refine IsS45.far ?_ NB304_301.out _) | exact HI304.out)) hb); have n5_ := Aside0.mk (below_step (by repeat (first | (with_reducible first | exact HB.out | apply below_alloc | apply pw_below_drewN | apply below_drew1 | refine below_set ?_ (IsS45.ge HI304.out) | refine below_set ?_ GE301.out) | exact HB.out)) hb); have n6_ := Aside0.mk (hbox); have n7_ := Aside0.mk ((by rw [hg]; exact (below_size (by repeat (first | (with_reducible first | exact HB.out | apply below_alloc | apply pw_below_drewN | apply below_drew1 | refine below_set ?_ (IsS45.ge HI304.out) | refine below_set ?_ GE301.out) | exact HB.out))) : w.heap.size ≤ gb316)); have n8_ := Aside0.mk ((by rw [hg]; exact (below_size (by repeat (first | (with_reducible first | exact HB.out | apply below_alloc | apply pw_below_drewN | apply below_drew1 | refine below_set ?_ (IsS45.ge HI304.out) | refine below_set ?_ GE301.out) | exact HB.out))) : w.heap.size ≤ gb316)); have n9_ := Aside0.mk ((by rw [hg]; exact Nat.ne_of_lt (blk_lt (g := gb301) (o := .cells #[.int .i64 0, .slice none 0 0] 32 (0, 0)) (by (with_reducible repeat (first | refine blk_drewN ?_ _ | refine blk_drew ?_ | refine blk_alloc ?_ _)); exact BK301.out)) : gb301 ≠ gb316)); have n10_ := Aside0.mk ((by rw [hg]; exact Nat.ne_of_gt (blk_lt (g := gb301) (o := .cells #[.int .i64 0, .slice none 0 0] 32 (0, 0)) (by (with_reducible repeat (first | refine blk_drewN ?_ _ | refine blk_drew ?_ | refine blk_alloc ?_ _)); exact BK301.out)) : gb316 ≠ gb301)); have n11_ := Aside0.mk ((by rw [hg]; exact Nat.ne_of_lt (IsS45.lt (show IsS45 w _ g304 t302 t315 from by repeat (first | (with_reducible first | exact HI304.out | apply IsS45.alloc | apply IsS45.drewN | apply IsS45.drew | apply IsS45.set_1 | refine IsS45.far ?_ NB304_301.out _) | exact HI304.out))) : g304 ≠ gb316)); have n12_ := Aside0.mk ((by rw [hg]; exact Nat.ne_of_gt (IsS45.lt (show IsS45 w _ g304 t302 t315 from by repeat (first | (with_reducible first | exact HI304.out | apply IsS45.alloc | apply IsS45.drewN | apply IsS45.drew | apply IsS45.set_1 | refine IsS45.far ?_ NB304_301.out _) | exact HI304.out))) : gb316 ≠ g304)); clear HO307; clear HO311; clear HO314; clear BK301; clear HI304; clear HB; have HO307 := n0_; have HO311 := n1_; have HO314 := n2_; have BK301 := n3_; have HI304 := n4_; have HB := n5_; have BK316 := n6_; have GW316 := n7_; have GE316 := n8_; have NB301_316 := n9_; have NB316_301 := n10_; have NB304_316 := n11_; have NB316_304 := n12_; clear n0_ n1_ n2_ n3_ n4_ n5_ n6_ n7_ n8_ n9_ n10_ n11_ n12_; clear hb hbox hg; have hnb54 := NB316_301.out; have hnc54 := NB301_316.out; have hnb55 := NB316_304.out; have hnc55 := NB304_316.out; have hcz56_0 : w53.cell? ⟨gb316, 0, none⟩ = some (.int .i64 0) := (blk_cell BK316.out 0).trans rfl; have hcz56_1 : w53.cell? ⟨gb316, 1, none⟩ = some (.slice none 0 0) := (blk_cell BK316.out 1).trans rfl; have hfz56_0 := blk_frozen BK316.out 0; have hfz56_1 := blk_frozen BK316.out 1; obtain ⟨Ao57, co57, eo57⟩ := Kd.R_slice HO311.out; subst eo57; obtain ⟨Ao58, co58, eo58⟩ := Kd.R_slice HO314.out; subst eo58))
  have n0_ : Aside0 (Kd.S k29 29 ((w53.setCell ⟨gb316, 0, none⟩ (.int .i64 t308)).setCell ⟨gb316, 1, none⟩ (.slice Ao57 t309.length co57)) w.heap.size (fun k_ => some k_ ≠ (.slice Ao57 t309.length co57 : Value).ownBlock ∧ some k_ ≠ (.slice Ao58 t312.length co58 : Value).ownBlock) v306 t305) := ⟨by (with_reducible repeat (first | apply Kd.S_alloc | apply Kd.S_drewN | apply Kd.S_drew)); exact Kd.S_mono (Kd.S_far (p := ⟨gb316, 1, none⟩) (Kd.S_far (p := ⟨gb316, 0, none⟩) (Kd.S_types HO307.out BK316.out (by decide)) (fun _ hk => by first | exact hk.2 | trivial) (.int .i64 t308)) (fun _ hk => by first | exact hk.2 | trivial) (.slice Ao57 t309.length co57)) (fun _ hk => ⟨hk.1.1, hk.1.2⟩)⟩
  have n1_ : Aside0 (Kd.R (Kd.int .i64) 3 ((w53.setCell ⟨gb316, 0, none⟩ (.int .i64 t308)).setCell ⟨gb316, 1, none⟩ (.slice Ao57 t309.length co57)) w.heap.size (fun k_ => some k_ ≠ (.slice Ao58 t312.length co58 : Value).ownBlock) (.slice Ao57 t309.length co57) t309) := ⟨by (with_reducible repeat (first | apply Kd.R_alloc | apply Kd.R_drewN | apply Kd.R_drew)); exact Kd.R_mono (Kd.R_far (p := ⟨gb316, 1, none⟩) (Kd.R_far (p := ⟨gb316, 0, none⟩) (Kd.R_types HO311.out BK316.out (by decide)) (fun _ hk => by first | exact hk.2 | trivial) (.int .i64 t308)) (fun _ hk => by first | exact hk.2 | trivial) (.slice Ao57 t309.length co57)) (fun _ hk => hk.1)⟩
  have n2_ : Aside0 (Kd.R (Kd.int .i64) 3 ((w53.setCell ⟨gb316, 0, none⟩ (.int .i64 t308)).setCell ⟨gb316, 1, none⟩ (.slice Ao57 t309.length co57)) w.heap.size (fun k_ => some k_ ≠ (.slice Ao57 t309.length co57 : Value).ownBlock) (.slice Ao58 t312.length co58) t312) := ⟨by (with_reducible repeat (first | apply Kd.R_alloc | apply Kd.R_drewN | apply Kd.R_drew)); exact Kd.R_mono (Kd.R_far (p := ⟨gb316, 1, none⟩) (Kd.R_far (p := ⟨gb316, 0, none⟩) (Kd.R_types HO314.out BK316.out (by decide)) (fun _ hk => by first | exact hk.2 | trivial) (.int .i64 t308)) (fun _ hk => by first | exact hk.2 | trivial) (.slice Ao57 t309.length co57)) (fun _ hk => hk.1)⟩
  have n3_ : Aside0 (((w53.setCell ⟨gb316, 0, none⟩ (.int .i64 t308)).setCell ⟨gb316, 1, none⟩ (.slice Ao57 t309.length co57)).heap[gb301]? = some (.cells #[.int .i64 0, .slice none 0 0] 32 (0, 0))) := ⟨by (with_reducible repeat (first | refine blk_drewN ?_ _ | refine blk_drew ?_ | refine blk_alloc ?_ _)); refine blk_far ?_ NB301_316.out _; (with_reducible repeat (first | refine blk_drewN ?_ _ | refine blk_drew ?_ | refine blk_alloc ?_ _)); refine blk_far ?_ NB301_316.out _; (with_reducible repeat (first | refine blk_drewN ?_ _ | refine blk_drew ?_ | refine blk_alloc ?_ _)); exact BK301.out⟩
  have n4_ : Aside0 (((w53.setCell ⟨gb316, 0, none⟩ (.int .i64 t308)).setCell ⟨gb316, 1, none⟩ (.slice Ao57 t309.length co57)).heap[gb316]? = some (.cells #[.int .i64 t308, .slice Ao57 t309.length co57] 32 (0, 0))) := ⟨by (with_reducible repeat (first | refine blk_drewN ?_ _ | refine blk_drew ?_ | refine blk_alloc ?_ _)); refine blk_put (cs := #[.int .i64 t308, .slice none 0 0]) ?_ 1 _ rfl; (with_reducible repeat (first | refine blk_drewN ?_ _ | refine blk_drew ?_ | refine blk_alloc ?_ _)); refine blk_put (cs := #[.int .i64 0, .slice none 0 0]) ?_ 0 _ rfl; (with_reducible repeat (first | refine blk_drewN ?_ _ | refine blk_drew ?_ | refine blk_alloc ?_ _)); exact BK316.out⟩
  have n5_ : Aside0 (IsS45 w ((w53.setCell ⟨gb316, 0, none⟩ (.int .i64 t308)).setCell ⟨gb316, 1, none⟩ (.slice Ao57 t309.length co57)) g304 t302 t315) := ⟨by repeat (first | (with_reducible first | exact HI304.out | apply IsS45.alloc | apply IsS45.drewN | apply IsS45.drew | apply IsS45.set_1 | refine IsS45.far ?_ NB304_301.out _ | refine IsS45.far ?_ NB304_316.out _) | exact HI304.out)⟩
  have n6_ : Aside0 (Below w.heap.size w ((w53.setCell ⟨gb316, 0, none⟩ (.int .i64 t308)).setCell ⟨gb316, 1, none⟩ (.slice Ao57 t309.length co57))) := ⟨by repeat (first | (with_reducible first | exact HB.out | apply below_alloc | apply pw_below_drewN | apply below_drew1 | refine below_set ?_ (IsS45.ge HI304.out) | refine below_set ?_ GE301.out | refine below_set ?_ GE316.out) | exact HB.out)⟩
  (try clear HO307)
  (try clear HO311)
  (try clear HO314)
  (try clear BK301)
  (try clear BK316)
  (try clear HI304)
  (try clear HB)
  generalize ((w53.setCell ⟨gb316, 0, none⟩ (.int .i64 t308)).setCell ⟨gb316, 1, none⟩ (.slice Ao57 t309.length co57)) = w59 at n0_ n1_ n2_ n3_ n4_ n5_ n6_ ⊢
  have HO307 := n0_
  have HO311 := n1_
  have HO314 := n2_
  have BK301 := n3_
  have BK316 := n4_
  have HI304 := n5_
  have HB := n6_
  clear n0_ n1_ n2_ n3_ n4_ n5_ n6_
  have n0_ := Aside0.mk (Kd.S_drew HO307.out)
  have n1_ := Aside0.mk (Kd.R_drew HO311.out)
  have n2_ := Aside0.mk (Kd.R_drew HO314.out)
  have n3_ := Aside0.mk (blk_drew BK301.out)
  have n4_ := Aside0.mk (blk_drew BK316.out)
  have n5_ := Aside0.mk (IsS45.drew HI304.out)
  have n6_ := Aside0.mk (below_drew1 HB.out)
  clear HO307
  clear HO311
  clear HO314
  clear BK301
  clear BK316
  clear HI304
  clear HB
  have HO307 := n0_
  have HO311 := n1_
  have HO314 := n2_
  have BK301 := n3_
  have BK316 := n4_
  have HI304 := n5_
  have HB := n6_
  clear n0_ n1_ n2_ n3_ n4_ n5_ n6_
  refine start_ (n := 6) (S := fun w' => w'.cell? ⟨gb316, 0, none⟩ = some (.int .i64 t308) ∧ w'.cell? ⟨gb316, 1, none⟩ = some (.slice Ao57 t309.length co57)) (ds := []) #[false, false, false, false, false, false] (by kernel_rfl) rfl rfl ⟨(blk_cell BK316.out 0).trans rfl, (blk_cell BK316.out 1).trans rfl⟩ (fun hHeld => ?_)
  generalize w59.drew = w60 at HO307 HO311 HO314 BK301 BK316 HI304 HB hHeld ⊢
  refine pure_ (i := 0) (N := some 56) (v := ?_) (a' := ?_) #[true, false, false, false, false, false] rfl rfl (by kernel_rfl) (fun _ _ _ h => h) (Or.inl ⟨by rfl, ?_⟩) ?_ ?_
  rotate_left
  ·intro w'
   go_simp
   with_reducible rfl
  rotate_left
  ·simp only [Act.put, List.setIfInBounds_toArray, List.set_cons_zero, List.set_cons_succ, i64_w, i32_w]
   rfl
  refine pure_ (i := 2) (N := some 58) (v := ?_) (a' := ?_) #[true, false, true, false, false, false] rfl rfl (by kernel_rfl) (fun _ _ _ h => h) (Or.inl ⟨by rfl, ?_⟩) ?_ ?_
  rotate_left
  ·intro w'
   go_simp
   with_reducible rfl
  rotate_left
  ·simp only [Act.put, List.setIfInBounds_toArray, List.set_cons_zero, List.set_cons_succ, i64_w, i32_w]
   rfl
  refine pure_ (i := 3) (N := some 2) (v := ?_) (a' := ?_) #[true, false, true, true, false, false] rfl rfl (by kernel_rfl) (fun _ _ _ h => h) (Or.inl ⟨by rfl, ?_⟩) ?_ ?_
  rotate_left
  ·intro w'
   go_simp
   with_reducible rfl
  rotate_left
  ·simp only [Act.put, List.setIfInBounds_toArray, List.set_cons_zero, List.set_cons_succ, i64_w, i32_w]
   rfl
  refine take_ (i := 1) (N := some 57) (v := ?_) (a' := ?_) #[true, true, true, true, false, false] rfl rfl (by kernel_rfl) (fun _ _ _ h => h) (Or.inl ⟨by rfl, ?_⟩) hHeld ?_ ?_
  rotate_left
  ·rintro w' ⟨s0, s1⟩
   go_simp
   with_reducible rfl
  rotate_left
  ·simp only [Act.put, List.setIfInBounds_toArray, List.set_cons_zero, List.set_cons_succ, i64_w, i32_w]
   rfl
  refine one_ (i := 4) (N := none) #[true, true, true, true, true, false] rfl rfl (by kernel_rfl) (by decide) (fun K hK => ?_)
  have hs61 : w60.cell? ⟨gb301, 0, none⟩ = some (.int .i64 0) := (blk_cell BK301.out 0).trans rfl
  have hfs61 := blk_frozen BK301.out 0
  have hns61_1 := NB316_301.out
  have hms61_1 := NB301_316.out
  have hs62 : w60.cell? ⟨gb301, 1, none⟩ = some (.slice none 0 0) := (blk_cell BK301.out 1).trans rfl
  have hfs62 := blk_frozen BK301.out 1
  have hns62_1 := NB316_301.out
  have hms62_1 := NB301_316.out
  refine skip_ (w1 := ?_) (by rfl) rfl ?_ ?_
  rotate_left
  ·go_simp
   rfl
  refine hK.out _ _ ⟨((cell_far (p := ⟨gb301, _, none⟩) NB316_301.out _).trans (((cell_far (p := ⟨gb301, _, none⟩) NB316_301.out _).trans (hHeld.1)))), ((cell_far (p := ⟨gb301, _, none⟩) NB316_301.out _).trans (((cell_far (p := ⟨gb301, _, none⟩) NB316_301.out _).trans (hHeld.2))))⟩ (fun hHeld => ?_)
  clear hK K
  refine pure_ (i := 5) (N := some 4) (v := ?_) (a' := ?_) #[true, true, true, true, true, true] rfl rfl (by kernel_rfl) (fun _ _ _ h => h) (Or.inl ⟨by rfl, ?_⟩) ?_ ?_
  rotate_left
  ·intro w'
   go_simp
   with_reducible rfl
  rotate_left
  ·simp only [Act.put, List.setIfInBounds_toArray, List.set_cons_zero, List.set_cons_succ, i64_w, i32_w]
   rfl
  refine done_ (by kernel_rfl) ?_
  try go_wp2
  refine bodyPost_ret (results_list (rs := [.tmp 2, .cell 3 32, .tmp 4]) rfl (by simp) (.tmp (.cell gb301 32 #[.int .i64 t308, .slice Ao57 t309.length co57] (0, 0) _ rfl (by (with_reducible repeat (first | refine blk_drewN ?_ _ | refine blk_drew ?_ | refine blk_alloc ?_ _)); refine blk_put (cs := #[.int .i64 t308, .slice none 0 0]) ?_ 1 _ rfl; (with_reducible repeat (first | refine blk_drewN ?_ _ | refine blk_drew ?_ | refine blk_alloc ?_ _)); refine blk_put (cs := #[.int .i64 0, .slice none 0 0]) ?_ 0 _ rfl; (with_reducible repeat (first | refine blk_drewN ?_ _ | refine blk_drew ?_ | refine blk_alloc ?_ _)); exact BK301.out) Try.underlying32 rfl (by kernel_rfl) (.tmp .nil)))) rfl ?_
  exact ⟨_, _, _, by first | rfl | (simp [errW_none, errW_some] <;> rfl) | (simp [*, errW_none, errW_some] <;> rfl), by (with_reducible repeat (first | apply Kd.S_alloc | apply Kd.S_drewN | apply Kd.S_drew)); exact Kd.S_mono (Kd.S_far (p := ⟨gb301, 1, none⟩) (Kd.S_far (p := ⟨gb301, 0, none⟩) (Kd.S_types HO307.out BK301.out (by decide)) (fun _ hk => by first | exact hk.2 | trivial) (.int .i64 t308)) (fun _ hk => by first | exact hk.2 | trivial) (.slice Ao57 t309.length co57)) (fun _ hk => ⟨hk.1.1, hk.1.2⟩), by (with_reducible repeat (first | apply Kd.R_alloc | apply Kd.R_drewN | apply Kd.R_drew)); exact Kd.R_mono (Kd.R_far (p := ⟨gb301, 1, none⟩) (Kd.R_far (p := ⟨gb301, 0, none⟩) (Kd.R_types HO311.out BK301.out (by decide)) (fun _ hk => by first | exact hk.2 | trivial) (.int .i64 t308)) (fun _ hk => by first | exact hk.2 | trivial) (.slice Ao57 t309.length co57)) (fun _ hk => hk.1), Kd.Q_of_R (by (with_reducible repeat (first | apply Kd.R_alloc | apply Kd.R_drewN | apply Kd.R_drew)); exact Kd.R_mono (Kd.R_far (p := ⟨gb301, 1, none⟩) (Kd.R_far (p := ⟨gb301, 0, none⟩) (Kd.R_types HO314.out BK301.out (by decide)) (fun _ hk => by first | exact hk.2 | trivial) (.int .i64 t308)) (fun _ hk => by first | exact hk.2 | trivial) (.slice Ao57 t309.length co57)) (fun _ hk => hk.1)), by repeat (first | (with_reducible first | exact HB.out | apply below_alloc | apply pw_below_drewN | apply below_drew1 | refine below_set ?_ (IsS45.ge HI304.out) | refine below_set ?_ GE301.out | refine below_set ?_ GE316.out) | exact HB.out)⟩

end Go.Proofs.Ytgdndnaonmcdkaa.PAll
