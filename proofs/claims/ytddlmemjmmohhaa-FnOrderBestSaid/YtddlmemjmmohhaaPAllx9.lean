-- PRINTED by print.py (a twelfth state) out of the translation. Not trusted: Lean checks it.
import Derived.Test.YtddlmemjmmohhaaPAllx0
import Derived.Test.YtddlmemjmmohhaaPAllx1
import Derived.Test.YtddlmemjmmohhaaPAllx2
import Derived.Test.YtddlmemjmmohhaaPAllx3
import Derived.Test.YtddlmemjmmohhaaPAllx4
namespace Go.Proofs.Ytddlmemjmmohhaa.PAll
open Go.RowKit Go.Proofs.YtddlmemjmmohhaaW.PrintWords Go.Proofs.YtddlmemjmmohhaaW.PrintLast Go.Proofs.YtddlmemjmmohhaaW.PrintMore
attribute [local go_sem] max2_int min2_int max_two min_two max_three min_three max_four min_four   -- for this text's walks alone
set_option linter.unusedVariables false
set_option linter.unusedSimpArgs false

/-! ### spec_DrawOrderLeast: function 24 -/
def spec_DrawOrderLeast.f (k : Nat) (l0 : List Int) : Option ((List (S37)) × Int) := (spec_l6Open.f l0).bind fun bt269 => ((spec_l92Offers.f k bt269.1 bt269.2).bind fun bt272 => ((spec_l6Rd_pick.f k bt269.1 bt272.2 12).bind fun bt276 => (if bt276.1 = 0 then ((some (([(-1), 0, 99, 100] : List Int) : List Int)).bind fun y278 => ((spec_l6Rd_pick.f k bt269.1 bt276.2 4).bind fun bt281 => (if 0 ≤ bt281.1 then (if bt281.1 < (y278.length : Int) then (some (bt272.1, rd y278 bt281.1)) else (none)) else (none)))) else ((spec_l6Rd_pick.f k bt269.1 bt276.2 60).bind fun bt284 => (some (bt272.1, bt284.1))))))
def spec_DrawOrderLeast.T4 : Bool × List (List Nat × List Nat) := (true, [([], []), ([], []), ([], []), ([2], [2]), ([1, 3], [1, 3]), ([4], [4]), ([0, 3, 0], [0]), ([5, 6, 0, 1, 2, 3, 4, 5, 6], [5])])
def spec_DrawOrderLeast.B4 : List Nat := [0, 0, 0, 4, 14, 30, 13, 127]
theorem spec_DrawOrderLeast.tab4 : rtab .any (opsOf Try.f24 4) = spec_DrawOrderLeast.T4 := by kernel_rfl
theorem spec_DrawOrderLeast.bits4 : waitsOk spec_DrawOrderLeast.T4.2 spec_DrawOrderLeast.B4 = true := by kernel_rfl
set_option maxHeartbeats 8000000 in
set_option maxRecDepth 100000 in
theorem spec_DrawOrderLeast.calls (k : Nat) (A0 : Option Addr) (c0 : Nat) (l0 : List Int) (r1 : List (S37)) (r2 : Int) (w : World) (hr0 : Kd.C (Kd.int .u8) w A0 l0.length l0) (hc0 : l0.length ≤ c0) (h : spec_DrawOrderLeast.f k l0 = some (r1, r2)) :
  Calls Try.prog 24 #[.slice A0 l0.length c0] w fun e w' => ∃ v0_ : Value, e = .returned (.tuple #[v0_, .int .i64 r2]) ∧ Kd.R k37 37 w' w.heap.size (fun _ => True) v0_ r1 ∧ Below w.heap.size w w' := by
 have HR0 := Aside0.mk hr0
 have HC0 := Aside0.mk hc0
 clear hr0 hc0
 have HB := Aside0.mk (Below.refl w.heap.size w)
 have H : ((spec_l6Open.f l0).bind fun bt269 => ((spec_l92Offers.f k bt269.1 bt269.2).bind fun bt272 => ((spec_l6Rd_pick.f k bt269.1 bt272.2 12).bind fun bt276 => (if bt276.1 = 0 then ((some (([(-1), 0, 99, 100] : List Int) : List Int)).bind fun y278 => ((spec_l6Rd_pick.f k bt269.1 bt276.2 4).bind fun bt281 => (if 0 ≤ bt281.1 then (if bt281.1 < (y278.length : Int) then (some (bt272.1, rd y278 bt281.1)) else (none)) else (none)))) else ((spec_l6Rd_pick.f k bt269.1 bt276.2 60).bind fun bt284 => (some (bt272.1, bt284.1))))))) = some (r1, r2) := h
 clear h
 replace H := Option.bind_eq_some_iff.mp H
 obtain ⟨⟨t269, t270⟩, A20, H⟩ := H
 replace H : ((spec_l92Offers.f k t269 t270).bind fun bt272 => ((spec_l6Rd_pick.f k t269 bt272.2 12).bind fun bt276 => (if bt276.1 = 0 then ((some (([(-1), 0, 99, 100] : List Int) : List Int)).bind fun y278 => ((spec_l6Rd_pick.f k t269 bt276.2 4).bind fun bt281 => (if 0 ≤ bt281.1 then (if bt281.1 < (y278.length : Int) then (some (bt272.1, rd y278 bt281.1)) else (none)) else (none)))) else ((spec_l6Rd_pick.f k t269 bt276.2 60).bind fun bt284 => (some (bt272.1, bt284.1)))))) = some (r1, r2) := H
 have A2 := Aside0.mk A20
 clear A20
 replace H := Option.bind_eq_some_iff.mp H
 obtain ⟨⟨t272, t275⟩, A30, H⟩ := H
 replace H : ((spec_l6Rd_pick.f k t269 t275 12).bind fun bt276 => (if bt276.1 = 0 then ((some (([(-1), 0, 99, 100] : List Int) : List Int)).bind fun y278 => ((spec_l6Rd_pick.f k t269 bt276.2 4).bind fun bt281 => (if 0 ≤ bt281.1 then (if bt281.1 < (y278.length : Int) then (some (t272, rd y278 bt281.1)) else (none)) else (none)))) else ((spec_l6Rd_pick.f k t269 bt276.2 60).bind fun bt284 => (some (t272, bt284.1))))) = some (r1, r2) := H
 have A3 := Aside0.mk A30
 clear A30
 replace H := Option.bind_eq_some_iff.mp H
 obtain ⟨⟨t276, t277⟩, A40, H⟩ := H
 replace H : (if t276 = 0 then ((some (([(-1), 0, 99, 100] : List Int) : List Int)).bind fun y278 => ((spec_l6Rd_pick.f k t269 t277 4).bind fun bt281 => (if 0 ≤ bt281.1 then (if bt281.1 < (y278.length : Int) then (some (t272, rd y278 bt281.1)) else (none)) else (none)))) else ((spec_l6Rd_pick.f k t269 t277 60).bind fun bt284 => (some (t272, bt284.1)))) = some (r1, r2) := H
 have A4 := Aside0.mk A40
 clear A40
 by_cases c5 : t276 = 0
 ·rw [if_pos c5] at H
  have c5b0 : (t276 == 0) = true := beq_iff_eq.mpr c5
  have c5b1 : (t276 != 0) = false := bne_eq_false_iff_eq.mpr c5
  clear c5
  obtain ⟨y278, hy278⟩ : ∃ y_ : List Int, y_ = (([(-1), 0, 99, 100] : List Int)) := ⟨_, rfl⟩
  replace H : ((spec_l6Rd_pick.f k t269 t277 4).bind fun bt281 => (if 0 ≤ bt281.1 then (if bt281.1 < (y278.length : Int) then (some (t272, rd y278 bt281.1)) else (none)) else (none))) = some (r1, r2) := by first | (rw [hy278]; with_reducible exact H) | (have H2_ := (Option.bind_some _ _).symm.trans H; rw [hy278]; with_reducible exact H2_) | (have H2_ := (Option.bind_some _ _).symm.trans H; with_reducible exact H2_) | with_reducible exact H | (rw [hy278]; exact H) | exact H
  have Ny278 := Aside0.mk hy278
  clear hy278
  replace H := Option.bind_eq_some_iff.mp H
  obtain ⟨⟨t281, t282⟩, A60, H⟩ := H
  replace H : (if 0 ≤ t281 then (if t281 < (y278.length : Int) then (some (t272, rd y278 t281)) else (none)) else (none)) = some (r1, r2) := H
  have A6 := Aside0.mk A60
  clear A60
  by_cases c7 : 0 ≤ t281
  ·rw [if_pos c7] at H
   have c7b0 : decide (0 ≤ t281) = true := decide_eq_true c7
   clear c7
   by_cases c8 : t281 < (y278.length : Int)
   ·rw [if_pos c8] at H
    have c8b0 : decide (t281 < (y278.length : Int)) = true := decide_eq_true c8
    clear c8
    simp only [Option.some.injEq, Prod.mk.injEq] at H
    obtain ⟨rfl, rfl⟩ := H
    go_enter Try.func24, Try.ntmps24
    try go_wp2_with (first | ((with_reducible refine gate_callee (f := 40) rfl ?_); refine goesL_ (some 7) rfl rfl Try.func40 (by kernel_rfl) rfl #[.slice A0 l0.length c0] rfl (by (try simp only [List.map_toArray, List.map_cons, List.map_nil]); first | done | rfl | (simp only [List.length_drop, List.length_take]; rfl)) ?_; (with_reducible refine (spec_l6Open.calls _ _ l0 t269 t270 w _ ?side1 ?side2 ?side3 A2.out).mono ?_); (case side1 => repeat (first | (with_reducible first | exact HB.out | apply below_alloc | apply pw_below_drewN | apply below_drew1) | exact HB.out)); (case side2 => exact HR0.out); (case side3 => exact HC0.out); rintro e w9 ⟨g271, rfl, hi, hb, hb2⟩; refine ⟨_, rfl, ?_⟩; have n0_ := Aside0.mk (hb); have n1_ := Aside0.mk (hi); clear HB; have HB := n0_; have HI271 := n1_; clear n0_ n1_; (try clear hb); (try clear hb2); (try clear hk); (try clear hi)) | ((with_reducible refine gate_callee (f := 39) rfl ?_); refine goesL_ (some 9) rfl rfl Try.func39 (by kernel_rfl) rfl #[.pointer (some ⟨g271, 0, none⟩)] rfl (by (try simp only [List.map_toArray, List.map_cons, List.map_nil]); first | done | rfl | (simp only [List.length_drop, List.length_take]; rfl)) ?_; (with_reducible refine (spec_l92Offers.calls k g271 t269 t270 t272 t275 w _ ?side1 ?side2 A3.out).mono ?_); (case side1 => repeat (first | (with_reducible first | exact HI271.out | apply IsS61.alloc | apply IsS61.drewN | apply IsS61.drew | apply IsS61.set_1) | exact HI271.out)); (case side2 => repeat (first | (with_reducible first | exact HB.out | apply below_alloc | apply pw_below_drewN | apply below_drew1 | refine below_set ?_ (IsS61.ge HI271.out)) | exact HB.out)); rintro e w10 ⟨v273, rfl, ho0, hi, hb, hk⟩; refine ⟨_, rfl, ?_⟩; have n0_ := Aside0.mk (Kd.R_lower ho0 (below_size (by repeat (first | (with_reducible first | exact HB.out | apply below_alloc | apply pw_below_drewN | apply below_drew1 | refine below_set ?_ (IsS61.ge HI271.out)) | exact HB.out)))); have n1_ := Aside0.mk (hb); have n2_ := Aside0.mk (hi); clear HB; clear HI271; have HO274 := n0_; have HB := n1_; have HI271 := n2_; clear n0_ n1_ n2_; (try clear hb); (try clear hb2); (try clear hk); (try clear hi); (try clear ho0)) | ((with_reducible refine gate_callee (f := 47) rfl ?_); refine goesL_ (some 11) rfl rfl Try.func47 (by kernel_rfl) rfl #[.pointer (some ⟨g271, 0, none⟩), .int .i64 12] rfl (by (try simp only [List.map_toArray, List.map_cons, List.map_nil]); first | done | rfl | (simp only [List.length_drop, List.length_take]; rfl)) ?_; (with_reducible refine (spec_l6Rd_pick.calls k g271 t269 t275 12 t276 t277 w _ ?side1 ?side2 A4.out).mono ?_); (case side1 => repeat (first | (with_reducible first | exact HI271.out | apply IsS61.alloc | apply IsS61.drewN | apply IsS61.drew | apply IsS61.set_1) | exact HI271.out)); (case side2 => repeat (first | (with_reducible first | exact HB.out | apply below_alloc | apply pw_below_drewN | apply below_drew1 | refine below_set ?_ (IsS61.ge HI271.out)) | exact HB.out)); rintro e w11 ⟨rfl, hi, hb, hk⟩; refine ⟨_, rfl, ?_⟩; have n0_ := Aside0.mk (Kd.R_mono (Kd.R_keep (IsS61.apart (show IsS61 w _ g271 t269 t275 from by repeat (first | (with_reducible first | exact HI271.out | apply IsS61.alloc | apply IsS61.drewN | apply IsS61.drew | apply IsS61.set_1) | exact HI271.out)) (by (with_reducible repeat (first | apply Kd.R_alloc | apply Kd.R_drewN | apply Kd.R_drew)); exact HO274.out) (by decide)) hk (fun _ h => h.2)) (fun _ h => h.1)); have n1_ := Aside0.mk (hb); have n2_ := Aside0.mk (hi); clear HO274; clear HB; clear HI271; have HO274 := n0_; have HB := n1_; have HI271 := n2_; clear n0_ n1_ n2_; (try clear hb); (try clear hb2); (try clear hk); (try clear hi)))
    have pi283 : (0 ≤ (t281 : Int)) = True := eq_true (of_decide_eq_true (by first | (with_reducible assumption) | assumption))
    have qi283 : (t281 < (y278.length : Int)) = True := eq_true (of_decide_eq_true (by first | (with_reducible assumption) | assumption))
    have n0_ := Aside0.mk (Kd.R_drew HO274.out)
    have n1_ := Aside0.mk (IsS61.drew HI271.out)
    have n2_ := Aside0.mk (below_drew1 HB.out)
    clear HO274
    clear HI271
    clear HB
    have HO274 := n0_
    have HI271 := n1_
    have HB := n2_
    clear n0_ n1_ n2_
    refine start_ (n := 8) (S := fun w' => True) (ds := []) #[false, false, false, false, false, false, false, false] (by kernel_rfl) rfl rfl trivial (fun hHeld => ?_); refine with_tabW spec_DrawOrderLeast.tab4 spec_DrawOrderLeast.bits4 (fun HT_ HW_ => ?_)
    generalize w11.drew = w12 at HO274 HI271 HB hHeld ⊢
    refine pure_ (i := 0) (N := some 13) (v := ?_) (a' := ?_) #[true, false, false, false, false, false, false, false] rfl rfl (any_of HT_.out (by kernel_rfl)) (fun _ _ _ h => h) (Or.inl ⟨by rfl, ?_⟩) ?_ ?_
    rotate_left
    ·intro w'
     go_simp
     with_reducible rfl
    rotate_left
    ·simp only [Act.put, List.setIfInBounds_toArray, List.set_cons_zero, List.set_cons_succ, i64_w, i32_w]
     rfl
    refine pure_ (i := 2) (N := some 15) (v := ?_) (a' := ?_) #[true, false, true, false, false, false, false, false] rfl rfl (any_of HT_.out (by kernel_rfl)) (fun _ _ _ h => h) (Or.inl ⟨by rfl, ?_⟩) ?_ ?_
    rotate_left
    ·intro w'
     go_simp
     with_reducible rfl
    rotate_left
    ·simp only [Act.put, List.setIfInBounds_toArray, List.set_cons_zero, List.set_cons_succ, i64_w, i32_w]
     rfl
    refine inv_at [1, 3, 4, 5, 6, 7] (fun a0_ b a w' => ∃ (v279 : Value) (adz_v279 : Addr) (m4_ : Value), a = putSel a0_ b [(1, 14, v279), (3, 16, .int .i64 t281), (4, 17, m4_), (5, 18, .int .i64 (rd y278 t281)), (6, 2, v273), (7, 3, .int .i64 (rd y278 t281))] ∧ (Kd.R k37 37 w' w.heap.size (fun _ => True) v273 t272) ∧ (b 3 = false → IsS61 w w' g271 t269 t277) ∧ (Below w.heap.size w w') ∧ (b 1 = true → Kd.R (Kd.int .i64) 3 w' w.heap.size (fun _ => True) v279 y278) ∧ (b 1 = true → ∃ c_, (v279 : Value) = .slice (some adz_v279) y278.length c_) ∧ (b 3 = true → IsS61 w w' g271 t269 t282) ∧ (b 4 = true → (m4_ : Value) = .pointer (some (adz_v279.add (t281).toNat)))) HT_.out HW_.out (by kernel_rfl) (by kernel_rfl) ?_ ?_ ?_
    ·exact ⟨.bool false, ⟨0, 0, none⟩, .bool false, by simp only [putSel, Bool.false_eq_true, if_false], HO274.out, fun _ => HI271.out, HB.out, fun h_ => absurd h_ (by decide), fun h_ => absurd h_ (by decide), fun h_ => absurd h_ (by decide), fun h_ => absurd h_ (by decide)⟩
    ·skip
     clear HB HI271 HO274
     refine steps_cons ?_ ?_
     ·rintro b a w' ⟨v279, adz_v279, m4_, ha, Q_HO274, Q_HI271, Q_HB, Q_HO280, Q_HA_HO280, Q_HI271_e3, Q_X4_⟩ hb_ hon hoff
      refine ⟨_, rfl, fun K hK => ?_⟩
      replace ha := Aside0.mk ha
      have HO274 := Aside0.mk Q_HO274
      have HB := Aside0.mk Q_HB
      refine Kd.R_lit_step (Kd.int .i64) _ 3 ?hg (N := 14) ?hd (xs := ([(-1), 0, 99, 100] : List Int)) (inner := [.int .i64 (-1), .int .i64 0, .int .i64 99, .int .i64 100]) (ok := fun _ => True) (okp := fun _ => True) ?hr ?hp (fun _ hk => hk) trivial (Below.refl _ _) (Nat.le_refl _) (by simp) ?_; (case hd => rfl); (case hg => rfl); (case hr => first | (go_simp; done) | (go_simp; rfl)); (case hp => exact (Reps.one (show Kd.M (Kd.int .i64) _ _ _ (-1) [.int .i64 (-1)] from rfl) (Reps.one (show Kd.M (Kd.int .i64) _ _ _ 0 [.int .i64 0] from rfl) (Reps.one (show Kd.M (Kd.int .i64) _ _ _ 99 [.int .i64 99] from rfl) (Reps.one (show Kd.M (Kd.int .i64) _ _ _ 100 [.int .i64 100] from rfl) (Reps.none _ _))))))
      intro v279 w13 ho14 hb hg_ hnew_
      clear hg_ hnew_
      (first | rw [← Ny278.out] at ho14 | (simp only [Int.reduceToNat] at ho14; rw [← Ny278.out] at ho14))
      have n0_ := Aside0.mk (Kd.R_below (by (with_reducible repeat (first | apply Kd.R_alloc | apply Kd.R_drewN | apply Kd.R_drew)); exact HO274.out) hb)
      have n1_ := Aside0.mk (Kd.R_lower ho14 (below_size (by repeat (first | (with_reducible first | exact HB.out | apply below_alloc | apply pw_below_drewN | apply below_drew1) | exact HB.out))))
      have n3_ := Aside0.mk (below_step (by repeat (first | (with_reducible first | exact HB.out | apply below_alloc | apply pw_below_drewN | apply below_drew1) | exact HB.out)) hb)
      have z_HI271 := fun (h0_ : b 3 = false) => (show IsS61 w w13 g271 t269 t277 from by first | exact (IsS61.below (by repeat (first | (with_reducible first | exact (Q_HI271 h0_) | apply IsS61.alloc | apply IsS61.drewN | apply IsS61.drew | apply IsS61.set_1) | exact (Q_HI271 h0_))) hb))
      have z_HI271_e3 := fun (h0_ : b 3 = true) => (show IsS61 w w13 g271 t269 t282 from by first | exact (IsS61.below (by repeat (first | (with_reducible first | exact (Q_HI271_e3 h0_) | apply IsS61.alloc | apply IsS61.drewN | apply IsS61.drew | apply IsS61.set_1) | exact (Q_HI271_e3 h0_))) hb))
      clear HO274
      clear HB
      have HO274 := n0_
      have HO280 := n1_
      have HB := n3_
      clear n0_ n1_ n3_
      clear hb ho14
      obtain ⟨Ao15, co15, eo15⟩ := Kd.R_slice HO280.out
      subst eo15
      obtain ⟨ado15, fo15, _⟩ := Kd.at_int (Kd.R_reads' HO280.out).2.2 0 (by decide) (by rw [Ny278.out]; simp)
      cases fo15
      refine hK.out _ _ ⟨.slice (some ado15) y278.length co15, ado15, m4_, (by rw [ha.out]; exact putSel_upk 0 hb_ rfl rfl rfl), (by (with_reducible repeat (first | apply Kd.R_alloc | apply Kd.R_drewN | apply Kd.R_drew)); exact HO274.out), z_HI271, (by repeat (first | (with_reducible first | exact HB.out | apply below_alloc | apply pw_below_drewN | apply below_drew1) | exact HB.out)), fun _ => (by (with_reducible repeat (first | apply Kd.R_alloc | apply Kd.R_drewN | apply Kd.R_drew)); exact HO280.out), fun _ => ⟨_, rfl⟩, z_HI271_e3, fun h0_ => absurd ((hoff 4 (by kernel_rfl)).symm.trans h0_) (by decide)⟩
     refine steps_cons ?_ ?_
     ·rintro b a w' ⟨v279, adz_v279, m4_, ha, Q_HO274, Q_HI271, Q_HB, Q_HO280, Q_HA_HO280, Q_HI271_e3, Q_X4_⟩ hb_ hon hoff
      refine ⟨_, rfl, fun K hK => ?_⟩
      have e15 : a.tmps[15]? = some (.pointer (some ⟨g271, 0, none⟩)) := by rw [ha]; exact (putSel_off rfl).trans rfl
      replace ha := Aside0.mk ha
      have HO274 := Aside0.mk Q_HO274
      have HI271 := Aside0.mk (Q_HI271 hb_)
      have HB := Aside0.mk Q_HB
      refine goes_ Try.func47 (by kernel_rfl) rfl #[.pointer (some ⟨g271, 0, none⟩), .int .i64 4] (by rfl) rfl rfl (by first | (simp only [List.map_toArray, List.map_cons, List.map_nil, Act.eval, Array.getD_eq_getD_getElem?, Option.getD_some, e15]; done) | (simp only [List.map_toArray, List.map_cons, List.map_nil, Act.eval, Array.getD_eq_getD_getElem?, Option.getD_some, e15]; rfl)) ?_
      with_reducible refine (spec_l6Rd_pick.calls k g271 t269 t277 4 t281 t282 w _ ?side1 ?side2 A6.out).mono ?_
      (case side1 => repeat (first | (with_reducible first | exact HI271.out | apply IsS61.alloc | apply IsS61.drewN | apply IsS61.drew | apply IsS61.set_1) | exact HI271.out))
      (case side2 => repeat (first | (with_reducible first | exact HB.out | apply below_alloc | apply pw_below_drewN | apply below_drew1 | refine below_set ?_ (IsS61.ge HI271.out)) | exact HB.out))
      rintro e w13 ⟨rfl, hi, hb, hk⟩
      refine ⟨_, rfl, ?_⟩
      have n0_ := Aside0.mk (Kd.R_mono (Kd.R_keep (IsS61.apart (show IsS61 w _ g271 t269 t277 from by repeat (first | (with_reducible first | exact HI271.out | apply IsS61.alloc | apply IsS61.drewN | apply IsS61.drew | apply IsS61.set_1) | exact HI271.out)) (by (with_reducible repeat (first | apply Kd.R_alloc | apply Kd.R_drewN | apply Kd.R_drew)); exact HO274.out) (by decide)) hk (fun _ h => h.2)) (fun _ h => h.1))
      have n1_ := Aside0.mk (hb)
      have n2_ := Aside0.mk (hi)
      have z_HO280 := fun (h0_ : b 1 = true) => (show Kd.R (Kd.int .i64) 3 w13 w.heap.size (fun _ => True) v279 y278 from by first | exact (Kd.R_mono (Kd.R_keep (IsS61.apart (show IsS61 w _ g271 t269 t277 from by repeat (first | (with_reducible first | exact HI271.out | apply IsS61.alloc | apply IsS61.drewN | apply IsS61.drew | apply IsS61.set_1) | exact HI271.out)) (by (with_reducible repeat (first | apply Kd.R_alloc | apply Kd.R_drewN | apply Kd.R_drew)); exact (Q_HO280 h0_)) (by decide)) hk (fun _ h => h.2)) (fun _ h => h.1)) | exact Kd.R_mono (Kd.R_mono (Kd.R_keep (IsS61.apart (show IsS61 w _ g271 t269 t277 from by repeat (first | (with_reducible first | exact HI271.out | apply IsS61.alloc | apply IsS61.drewN | apply IsS61.drew | apply IsS61.set_1) | exact HI271.out)) (by (with_reducible repeat (first | apply Kd.R_alloc | apply Kd.R_drewN | apply Kd.R_drew)); exact (Q_HO280 h0_)) (by decide)) hk (fun _ h => h.2)) (fun _ h => h.1)) (fun _ h_ => by first | trivial | exact h_ | exact h_.1))
      clear HO274
      clear HB
      clear HI271
      have HO274 := n0_
      have HB := n1_
      have HI271 := n2_
      clear n0_ n1_ n2_
      (try clear hb)
      (try clear hb2)
      (try clear hk)
      (try clear hi)
      refine hK.out _ _ ⟨v279, adz_v279, m4_, (by rw [ha.out]; exact putSel_upk 1 hb_ rfl rfl rfl), (by (with_reducible repeat (first | apply Kd.R_alloc | apply Kd.R_drewN | apply Kd.R_drew)); exact HO274.out), fun h0_ => absurd ((up_self b 3).symm.trans h0_) (by decide), (by repeat (first | (with_reducible first | exact HB.out | apply below_alloc | apply pw_below_drewN | apply below_drew1 | refine below_set ?_ (IsS61.ge HI271.out)) | exact HB.out)), z_HO280, Q_HA_HO280, fun _ => (by repeat (first | (with_reducible first | exact HI271.out | apply IsS61.alloc | apply IsS61.drewN | apply IsS61.drew | apply IsS61.set_1) | exact HI271.out)), fun h0_ => absurd ((hoff 4 (by kernel_rfl)).symm.trans h0_) (by decide)⟩
     refine steps_cons ?_ ?_
     ·rintro b a w' ⟨v279, adz_v279, m4_, ha, Q_HO274, Q_HI271, Q_HB, Q_HO280, Q_HA_HO280, Q_HI271_e3, Q_X4_⟩ hb_ hon hoff
      refine ⟨_, rfl, fun K hK => ?_⟩
      have e14 : a.tmps[14]? = some (v279) := by rw [ha]; exact putSel_on (e := (1, 14, v279)) 0 rfl rfl (hon 1 (by kernel_rfl)) rfl
      have e16 : a.tmps[16]? = some (.int .i64 t281) := by rw [ha]; exact putSel_on (e := (3, 16, .int .i64 t281)) 1 rfl rfl (hon 3 (by kernel_rfl)) rfl
      replace ha := Aside0.mk ha
      have HO274 := Aside0.mk Q_HO274
      have HB := Aside0.mk Q_HB
      have HO280 := Aside0.mk (Q_HO280 (hon 1 (by kernel_rfl)))
      have HA_HO280 := Aside0.mk (Q_HA_HO280 (hon 1 (by kernel_rfl)))
      have HI271 := Aside0.mk (Q_HI271_e3 (hon 3 (by kernel_rfl)))
      obtain ⟨c_, hv_⟩ := HA_HO280.out
      rw [hv_] at e14
      refine value_ (w1 := w') (v := .pointer (some (adz_v279.add (t281).toNat))) (by rfl) rfl ?_ ?_
      ·go_simp
       (try simp only [i64_w])
       try rfl
      refine hK.out _ _ ⟨v279, adz_v279, (.pointer (some (adz_v279.add (t281).toNat))), (by rw [ha.out]; exact putSel_upk 2 hb_ rfl rfl rfl), Q_HO274, fun h0_ => absurd ((hon 3 (by kernel_rfl)).symm.trans h0_) (by decide), Q_HB, Q_HO280, Q_HA_HO280, Q_HI271_e3, fun _ => rfl⟩
     refine steps_cons ?_ ?_
     ·rintro b a w' ⟨v279, adz_v279, m4_, ha, Q_HO274, Q_HI271, Q_HB, Q_HO280, Q_HA_HO280, Q_HI271_e3, Q_X4_⟩ hb_ hon hoff
      refine ⟨_, rfl, fun K hK => ?_⟩
      have e17 : a.tmps[17]? = some (m4_) := by rw [ha]; exact putSel_on (e := (4, 17, m4_)) 2 rfl rfl (hon 4 (by kernel_rfl)) rfl
      rw [Q_X4_ (hon 4 (by kernel_rfl))] at e17
      replace ha := Aside0.mk ha
      have HO274 := Aside0.mk Q_HO274
      have HB := Aside0.mk Q_HB
      have HO280 := Aside0.mk (Q_HO280 (hon 1 (by kernel_rfl)))
      have HA_HO280 := Aside0.mk (Q_HA_HO280 (hon 1 (by kernel_rfl)))
      have HI271 := Aside0.mk (Q_HI271_e3 (hon 3 (by kernel_rfl)))
      obtain ⟨c_, hv_⟩ := HA_HO280.out
      have hF_ := HO280.out
      rw [hv_] at hF_
      obtain ⟨ad_, ea_, hx_⟩ := Kd.at_int (Kd.R_reads' hF_).2.2 t281 (of_eq_true pi283) (of_eq_true qi283)
      cases ea_
      refine value_ (w1 := w') (v := .int .i64 (rd y278 t281)) (by rfl) rfl ?_ ?_
      ·go_simp
       (try simp only [i64_w])
       try rfl
      refine hK.out _ _ ⟨v279, adz_v279, m4_, (by rw [ha.out]; exact putSel_upk 3 hb_ rfl rfl rfl), Q_HO274, fun h0_ => absurd ((hon 3 (by kernel_rfl)).symm.trans h0_) (by decide), Q_HB, Q_HO280, Q_HA_HO280, Q_HI271_e3, Q_X4_⟩
     refine steps_cons ?_ ?_
     ·rintro b a w' ⟨v279, adz_v279, m4_, ha, Q_HO274, Q_HI271, Q_HB, Q_HO280, Q_HA_HO280, Q_HI271_e3, Q_X4_⟩ hb_ hon hoff
      refine ⟨_, rfl, fun K hK => ?_⟩
      have e13 : a.tmps[13]? = some (v273) := by rw [ha]; exact (putSel_off rfl).trans rfl
      replace ha := Aside0.mk ha
      have HO274 := Aside0.mk Q_HO274
      have HB := Aside0.mk Q_HB
      have HI271 := Aside0.mk (Q_HI271_e3 (hon 3 (by kernel_rfl)))
      refine value_ (w1 := w') (v := v273) (by rfl) rfl ?_ ?_
      ·go_simp
       (try simp only [i64_w])
       try rfl
      refine hK.out _ _ ⟨v279, adz_v279, m4_, (by rw [ha.out]; exact putSel_upk 4 hb_ rfl rfl rfl), Q_HO274, fun h0_ => absurd ((hon 3 (by kernel_rfl)).symm.trans h0_) (by decide), Q_HB, Q_HO280, Q_HA_HO280, Q_HI271_e3, Q_X4_⟩
     refine steps_cons ?_ ?_
     ·rintro b a w' ⟨v279, adz_v279, m4_, ha, Q_HO274, Q_HI271, Q_HB, Q_HO280, Q_HA_HO280, Q_HI271_e3, Q_X4_⟩ hb_ hon hoff
      refine ⟨_, rfl, fun K hK => ?_⟩
      have e18 : a.tmps[18]? = some (.int .i64 (rd y278 t281)) := by rw [ha]; exact putSel_on (e := (5, 18, .int .i64 (rd y278 t281))) 3 rfl rfl (hon 5 (by kernel_rfl)) rfl
      replace ha := Aside0.mk ha
      have HO274 := Aside0.mk Q_HO274
      have HB := Aside0.mk Q_HB
      have HO280 := Aside0.mk (Q_HO280 (hon 1 (by kernel_rfl)))
      have HA_HO280 := Aside0.mk (Q_HA_HO280 (hon 1 (by kernel_rfl)))
      have HI271 := Aside0.mk (Q_HI271_e3 (hon 3 (by kernel_rfl)))
      refine value_ (w1 := w') (v := .int .i64 (rd y278 t281)) (by rfl) rfl ?_ ?_
      ·go_simp
       (try simp only [i64_w])
       try rfl
      refine hK.out _ _ ⟨v279, adz_v279, m4_, (by rw [ha.out]; exact putSel_upk 5 hb_ rfl rfl rfl), Q_HO274, fun h0_ => absurd ((hon 3 (by kernel_rfl)).symm.trans h0_) (by decide), Q_HB, Q_HO280, Q_HA_HO280, Q_HI271_e3, Q_X4_⟩
     exact steps_nil
    rintro b a w17 hall ⟨v279, adz_v279, m4_, ha, Q_HO274, Q_HI271, Q_HB, Q_HO280, Q_HA_HO280, Q_HI271_e3, Q_X4_⟩
    clear HB HI271 HO274
    have hb1_ := hall 1 (by kernel_rfl)
    have hb3_ := hall 3 (by kernel_rfl)
    have hb4_ := hall 4 (by kernel_rfl)
    have hb5_ := hall 5 (by kernel_rfl)
    have hb6_ := hall 6 (by kernel_rfl)
    have hb7_ := hall 7 (by kernel_rfl)
    subst ha
    obtain rfl := Q_X4_ hb4_
    simp only [putSel, hb1_, hb3_, hb4_, hb5_, hb6_, hb7_, if_true, Act.put, List.setIfInBounds_toArray, List.set_cons_zero, List.set_cons_succ]
    have HO274 := Aside0.mk Q_HO274
    clear Q_HO274
    clear Q_HI271
    have HB := Aside0.mk Q_HB
    clear Q_HB
    have HO280 := Aside0.mk (Q_HO280 hb1_)
    clear Q_HO280
    have HA_HO280 := Aside0.mk (Q_HA_HO280 hb1_)
    clear Q_HA_HO280
    have HI271 := Aside0.mk (Q_HI271_e3 hb3_)
    clear Q_HI271_e3
    clear hall hb1_ hb3_ hb4_ hb5_ hb6_ hb7_
    obtain ⟨co18, eo18⟩ := HA_HO280.out
    clear HA_HO280
    subst eo18
    try go_wp2
    go_ret2
    exact ⟨_, by first | rfl | (simp [errW_none, errW_some] <;> rfl) | (simp [*, errW_none, errW_some] <;> rfl), by (with_reducible repeat (first | apply Kd.R_alloc | apply Kd.R_drewN | apply Kd.R_drew)); exact HO274.out, by repeat (first | (with_reducible first | exact HB.out | apply below_alloc | apply pw_below_drewN | apply below_drew1 | refine below_set ?_ (IsS61.ge HI271.out)) | exact HB.out)⟩
   ·rw [if_neg c8] at H
    exact absurd H (by simp)
  ·rw [if_neg c7] at H
   exact absurd H (by simp)
 ·rw [if_neg c5] at H
  have c5b0 : (t276 == 0) = false := beq_eq_false_iff_ne.mpr c5
  have c5b1 : (t276 != 0) = true := bne_iff_ne.mpr c5
  replace H := Option.bind_eq_some_iff.mp H
  obtain ⟨⟨t284, t285⟩, A190, H⟩ := H
  replace H : (some (t272, t284)) = some (r1, r2) := H
  have A19 := Aside0.mk A190
  clear A190
  simp only [Option.some.injEq, Prod.mk.injEq] at H
  obtain ⟨rfl, rfl⟩ := H
  go_enter Try.func24, Try.ntmps24
  go_wp2_with (first | ((with_reducible refine gate_callee (f := 40) rfl ?_); refine goesL_ (some 7) rfl rfl Try.func40 (by kernel_rfl) rfl #[.slice A0 l0.length c0] rfl (by (try simp only [List.map_toArray, List.map_cons, List.map_nil]); first | done | rfl | (simp only [List.length_drop, List.length_take]; rfl)) ?_; (with_reducible refine (spec_l6Open.calls _ _ l0 t269 t270 w _ ?side1 ?side2 ?side3 A2.out).mono ?_); (case side1 => repeat (first | (with_reducible first | exact HB.out | apply below_alloc | apply pw_below_drewN | apply below_drew1) | exact HB.out)); (case side2 => exact HR0.out); (case side3 => exact HC0.out); rintro e w20 ⟨g271, rfl, hi, hb, hb2⟩; refine ⟨_, rfl, ?_⟩; have n0_ := Aside0.mk (hb); have n1_ := Aside0.mk (hi); clear HB; have HB := n0_; have HI271 := n1_; clear n0_ n1_; (try clear hb); (try clear hb2); (try clear hk); (try clear hi)) | ((with_reducible refine gate_callee (f := 39) rfl ?_); refine goesL_ (some 9) rfl rfl Try.func39 (by kernel_rfl) rfl #[.pointer (some ⟨g271, 0, none⟩)] rfl (by (try simp only [List.map_toArray, List.map_cons, List.map_nil]); first | done | rfl | (simp only [List.length_drop, List.length_take]; rfl)) ?_; (with_reducible refine (spec_l92Offers.calls k g271 t269 t270 t272 t275 w _ ?side1 ?side2 A3.out).mono ?_); (case side1 => repeat (first | (with_reducible first | exact HI271.out | apply IsS61.alloc | apply IsS61.drewN | apply IsS61.drew | apply IsS61.set_1) | exact HI271.out)); (case side2 => repeat (first | (with_reducible first | exact HB.out | apply below_alloc | apply pw_below_drewN | apply below_drew1 | refine below_set ?_ (IsS61.ge HI271.out)) | exact HB.out)); rintro e w21 ⟨v273, rfl, ho0, hi, hb, hk⟩; refine ⟨_, rfl, ?_⟩; have n0_ := Aside0.mk (Kd.R_lower ho0 (below_size (by repeat (first | (with_reducible first | exact HB.out | apply below_alloc | apply pw_below_drewN | apply below_drew1 | refine below_set ?_ (IsS61.ge HI271.out)) | exact HB.out)))); have n1_ := Aside0.mk (hb); have n2_ := Aside0.mk (hi); clear HB; clear HI271; have HO274 := n0_; have HB := n1_; have HI271 := n2_; clear n0_ n1_ n2_; (try clear hb); (try clear hb2); (try clear hk); (try clear hi); (try clear ho0)) | ((with_reducible refine gate_callee (f := 47) rfl ?_); refine goesL_ (some 11) rfl rfl Try.func47 (by kernel_rfl) rfl #[.pointer (some ⟨g271, 0, none⟩), .int .i64 12] rfl (by (try simp only [List.map_toArray, List.map_cons, List.map_nil]); first | done | rfl | (simp only [List.length_drop, List.length_take]; rfl)) ?_; (with_reducible refine (spec_l6Rd_pick.calls k g271 t269 t275 12 t276 t277 w _ ?side1 ?side2 A4.out).mono ?_); (case side1 => repeat (first | (with_reducible first | exact HI271.out | apply IsS61.alloc | apply IsS61.drewN | apply IsS61.drew | apply IsS61.set_1) | exact HI271.out)); (case side2 => repeat (first | (with_reducible first | exact HB.out | apply below_alloc | apply pw_below_drewN | apply below_drew1 | refine below_set ?_ (IsS61.ge HI271.out)) | exact HB.out)); rintro e w22 ⟨rfl, hi, hb, hk⟩; refine ⟨_, rfl, ?_⟩; have n0_ := Aside0.mk (Kd.R_mono (Kd.R_keep (IsS61.apart (show IsS61 w _ g271 t269 t275 from by repeat (first | (with_reducible first | exact HI271.out | apply IsS61.alloc | apply IsS61.drewN | apply IsS61.drew | apply IsS61.set_1) | exact HI271.out)) (by (with_reducible repeat (first | apply Kd.R_alloc | apply Kd.R_drewN | apply Kd.R_drew)); exact HO274.out) (by decide)) hk (fun _ h => h.2)) (fun _ h => h.1)); have n1_ := Aside0.mk (hb); have n2_ := Aside0.mk (hi); clear HO274; clear HB; clear HI271; have HO274 := n0_; have HB := n1_; have HI271 := n2_; clear n0_ n1_ n2_; (try clear hb); (try clear hb2); (try clear hk); (try clear hi)) | ((with_reducible refine gate_callee (f := 47) rfl ?_); refine goesL_ (some 21) rfl rfl Try.func47 (by kernel_rfl) rfl #[.pointer (some ⟨g271, 0, none⟩), .int .i64 60] rfl (by (try simp only [List.map_toArray, List.map_cons, List.map_nil]); first | done | rfl | (simp only [List.length_drop, List.length_take]; rfl)) ?_; (with_reducible refine (spec_l6Rd_pick.calls k g271 t269 t277 60 t284 t285 w _ ?side1 ?side2 A19.out).mono ?_); (case side1 => repeat (first | (with_reducible first | exact HI271.out | apply IsS61.alloc | apply IsS61.drewN | apply IsS61.drew | apply IsS61.set_1) | exact HI271.out)); (case side2 => repeat (first | (with_reducible first | exact HB.out | apply below_alloc | apply pw_below_drewN | apply below_drew1 | refine below_set ?_ (IsS61.ge HI271.out)) | exact HB.out)); rintro e w23 ⟨rfl, hi, hb, hk⟩; refine ⟨_, rfl, ?_⟩; have n0_ := Aside0.mk (Kd.R_mono (Kd.R_keep (IsS61.apart (show IsS61 w _ g271 t269 t277 from by repeat (first | (with_reducible first | exact HI271.out | apply IsS61.alloc | apply IsS61.drewN | apply IsS61.drew | apply IsS61.set_1) | exact HI271.out)) (by (with_reducible repeat (first | apply Kd.R_alloc | apply Kd.R_drewN | apply Kd.R_drew)); exact HO274.out) (by decide)) hk (fun _ h => h.2)) (fun _ h => h.1)); have n1_ := Aside0.mk (hb); have n2_ := Aside0.mk (hi); clear HO274; clear HB; clear HI271; have HO274 := n0_; have HB := n1_; have HI271 := n2_; clear n0_ n1_ n2_; (try clear hb); (try clear hb2); (try clear hk); (try clear hi)))
  go_ret2
  exact ⟨_, by first | rfl | (simp [errW_none, errW_some] <;> rfl) | (simp [*, errW_none, errW_some] <;> rfl), by (with_reducible repeat (first | apply Kd.R_alloc | apply Kd.R_drewN | apply Kd.R_drew)); exact HO274.out, by repeat (first | (with_reducible first | exact HB.out | apply below_alloc | apply pw_below_drewN | apply below_drew1 | refine below_set ?_ (IsS61.ge HI271.out)) | exact HB.out)⟩

/-! ### spec_l22Counts: function 48 -/
def spec_l22Counts.l0 : Nat → List (S37) → List Int → Int → Option (Bool)
 | 0, _, _, _ => none
 | k + 1, x0, x1, x5 => if x5 < (x1.length : Int) then (if 0 ≤ x5 then ((spec_l6In.f (rd x1 x5) 0 99).bind fun t303 => (if t303 = true then (spec_l22Counts.l0 k x0 x1 (wrap64 (x5 + 1))) else (some false))) else (none)) else ((spec_OffersValid.f k x0).bind fun t304 => (if t304 = true then (some ((x1.length : Int) == (x0.length : Int))) else (some false)))
def spec_l22Counts.f (k : Nat) (l0 : List (S37)) (l1 : List Int) : Option (Bool) := spec_l22Counts.l0 k l0 l1 0
set_option maxHeartbeats 8000000 in
set_option maxRecDepth 100000 in
theorem spec_l22Counts.calls (k : Nat) (A0 : Option Addr) (c0 : Nat) (l0 : List (S37)) (A1 : Option Addr) (c1 : Nat) (l1 : List Int) (r : Bool) (w : World) (hr0 : Kd.C k37 w A0 l0.length l0) (hc0 : l0.length ≤ c0) (hr1 : Kd.C (Kd.int .i64) w A1 l1.length l1) (hc1 : l1.length ≤ c1) (h : spec_l22Counts.f k l0 l1 = some r) :
  Calls Try.prog 48 #[.slice A0 l0.length c0, .slice A1 l1.length c1] w fun e w' => e = .returned (.bool r) ∧ Below w.heap.size w w' := by
 have HR0 := Aside0.mk hr0
 have HC0 := Aside0.mk hc0
 clear hr0 hc0
 have HR1 := Aside0.mk hr1
 have HC1 := Aside0.mk hc1
 clear hr1 hc1
 have HB := Aside0.mk (Below.refl w.heap.size w)
 have H : (spec_l22Counts.l0 k l0 l1 0) = some r := h
 clear h
 have H' := Aside0.mk H
 clear H
 go_enter Try.func48, Try.ntmps48
 go_wp2
 go_loopg [5] k (fun kq v5 w' => ∃ (x5_1 : Int), v5 = .int .i64 x5_1 ∧ Aside0 (spec_l22Counts.l0 kq l0 l1 x5_1 = some r) ∧ Aside0 (kq ≤ k) ∧ Aside0 (Below w.heap.size w w'))
 case atStart => exact ⟨(0), (by first | rfl | (simp; done) | (simp [*]; done)), H', ⟨Nat.le_refl _⟩, ⟨by repeat (first | (with_reducible first | exact HB.out | apply below_alloc | apply pw_below_drewN | apply below_drew1) | exact HB.out)⟩⟩
 case round =>
  clear H'
  try clear c1
  try clear p2
  obtain ⟨x5_1, rfl, HA, HK1, HB⟩ := hrel
  cases gk with
  | zero => exact absurd HA.out (by simp [spec_l22Counts.l0])
  | succ k1 =>
   have H := HA.out
   clear HA
   simp only [spec_l22Counts.l0] at H
   by_cases c3 : x5_1 < (l1.length : Int)
   ·rw [if_pos c3] at H
    have c3b0 : decide (x5_1 < (l1.length : Int)) = true := decide_eq_true c3
    clear c3
    by_cases c4 : 0 ≤ x5_1
    ·rw [if_pos c4] at H
     have c4b0 : decide (0 ≤ x5_1) = true := decide_eq_true c4
     clear c4
     replace H := Option.bind_eq_some_iff.mp H
     obtain ⟨t303, A50, H⟩ := H
     replace H : (if t303 = true then (spec_l22Counts.l0 k1 l0 l1 (wrap64 (x5_1 + 1))) else (some false)) = some r := H
     have A5 := Aside0.mk A50
     clear A50
     by_cases c6 : t303 = true
     ·subst c6
      have H1 : (spec_l22Counts.l0 k1 l0 l1 (wrap64 (x5_1 + 1))) = some r := by rw [if_pos rfl] at H; exact H
      clear H
      have H := H1
      clear H1
      have H' := Aside0.mk H
      clear H
      have p302 : 0 ≤ (x5_1 : Int) := of_decide_eq_true (by first | (with_reducible assumption) | assumption)
      have q302 : x5_1 < (l1.length : Int) := of_decide_eq_true (by first | (with_reducible assumption) | assumption)
      obtain ⟨ad302, e302, hx302_0⟩ := Kd.at_int HR1.out x5_1 p302 q302
      cases e302
      replace hx302_0 := (HB.out.cell (World.block_lt_of_cell? w _ hx302_0)).trans hx302_0
      replace p302 := eq_true p302
      replace q302 := eq_true q302
      go_wp2_with (first | ((with_reducible refine gate_callee (f := 42) rfl ?_); refine goesL_ (some 16) rfl rfl Try.func42 (by kernel_rfl) rfl #[.int .i64 (rd l1 x5_1), .int .i64 0, .int .i64 99] rfl (by (try simp only [List.map_toArray, List.map_cons, List.map_nil]); first | done | rfl | (simp only [List.length_drop, List.length_take]; rfl)) ?_; (with_reducible refine (spec_l6In.calls (rd l1 x5_1) 0 99 true _ A5.out).mono ?_); rintro e w' ⟨rfl, ⟨nd, rfl⟩⟩; refine ⟨_, rfl, ?_⟩))
      go_roundg k1
      case measure => have := HK1.out; omega
      case rel => exact ⟨(wrap64 (x5_1 + 1)), (by first | rfl | (simp; done) | (simp [*]; done)), H', ⟨by have := HK1.out; omega⟩, ⟨by repeat (first | (with_reducible first | exact HB.out | apply below_alloc | apply pw_below_drewN | apply below_drew1) | exact HB.out)⟩⟩
     ·replace c6 := Bool.eq_false_iff.mpr c6
      subst c6
      have H1 : (some false) = some r := by rw [if_neg (show ¬ (false = true) by decide)] at H; exact H
      clear H
      have H := H1
      clear H1
      obtain rfl := Option.some.inj H
      have p302 : 0 ≤ (x5_1 : Int) := of_decide_eq_true (by first | (with_reducible assumption) | assumption)
      have q302 : x5_1 < (l1.length : Int) := of_decide_eq_true (by first | (with_reducible assumption) | assumption)
      obtain ⟨ad302, e302, hx302_0⟩ := Kd.at_int HR1.out x5_1 p302 q302
      cases e302
      replace hx302_0 := (HB.out.cell (World.block_lt_of_cell? w _ hx302_0)).trans hx302_0
      replace p302 := eq_true p302
      replace q302 := eq_true q302
      go_wp2_with (first | ((with_reducible refine gate_callee (f := 42) rfl ?_); refine goesL_ (some 16) rfl rfl Try.func42 (by kernel_rfl) rfl #[.int .i64 (rd l1 x5_1), .int .i64 0, .int .i64 99] rfl (by (try simp only [List.map_toArray, List.map_cons, List.map_nil]); first | done | rfl | (simp only [List.length_drop, List.length_take]; rfl)) ?_; (with_reducible refine (spec_l6In.calls (rd l1 x5_1) 0 99 false _ A5.out).mono ?_); rintro e w' ⟨rfl, ⟨nd, rfl⟩⟩; refine ⟨_, rfl, ?_⟩))
      go_ret
      exact ⟨by first | rfl | (simp [errW_none, errW_some] <;> rfl) | (simp [*, errW_none, errW_some] <;> rfl), by repeat (first | (with_reducible first | exact HB.out | apply below_alloc | apply pw_below_drewN | apply below_drew1) | exact HB.out)⟩
    ·rw [if_neg c4] at H
     exact absurd H (by simp)
   ·rw [if_neg c3] at H
    have c3b0 : decide (x5_1 < (l1.length : Int)) = false := decide_eq_false c3
    clear c3
    replace H := Option.bind_eq_some_iff.mp H
    obtain ⟨t304, A70, H⟩ := H
    replace H : (if t304 = true then (some ((l1.length : Int) == (l0.length : Int))) else (some false)) = some r := H
    have A7 := Aside0.mk A70
    clear A70
    by_cases c8 : t304 = true
    ·subst c8
     have H1 : (some ((l1.length : Int) == (l0.length : Int))) = some r := by rw [if_pos rfl] at H; exact H
     clear H
     have H := H1
     clear H1
     obtain rfl := Option.some.inj H
     go_wp2_with (first | ((with_reducible refine gate_callee (f := 18) rfl ?_); refine goesL_ (some 19) rfl rfl Try.func18 (by kernel_rfl) rfl #[.slice A0 l0.length c0] rfl (by (try simp only [List.map_toArray, List.map_cons, List.map_nil]); first | done | rfl | (simp only [List.length_drop, List.length_take]; rfl)) ?_; (with_reducible refine (spec_OffersValid.calls k1 _ _ l0 true _ ?side1 ?side2 A7.out).mono ?_); (case side1 => repeat (first | exact (Kd.C_below HR0.out HB.out) | (with_reducible refine Kd.C_alloc ?_ _) | (with_reducible refine Kd.C_drewN ?_ _) | (with_reducible refine Kd.C_drew ?_))); (case side2 => exact HC0.out); rintro e w9 ⟨rfl, hb⟩; refine ⟨_, rfl, ?_⟩; have n0_ := Aside0.mk (below_step (by repeat (first | (with_reducible first | exact HB.out | apply below_alloc | apply pw_below_drewN | apply below_drew1) | exact HB.out)) hb); clear HB; have HB := n0_; clear n0_; (try clear hb); (try clear hb2); (try clear hk); (try clear hi)))
     go_ret
     exact ⟨by first | rfl | (simp [errW_none, errW_some] <;> rfl) | (simp [*, errW_none, errW_some] <;> rfl), by repeat (first | (with_reducible first | exact HB.out | apply below_alloc | apply pw_below_drewN | apply below_drew1) | exact HB.out)⟩
    ·replace c8 := Bool.eq_false_iff.mpr c8
     subst c8
     have H1 : (some false) = some r := by rw [if_neg (show ¬ (false = true) by decide)] at H; exact H
     clear H
     have H := H1
     clear H1
     obtain rfl := Option.some.inj H
     go_wp2_with (first | ((with_reducible refine gate_callee (f := 18) rfl ?_); refine goesL_ (some 19) rfl rfl Try.func18 (by kernel_rfl) rfl #[.slice A0 l0.length c0] rfl (by (try simp only [List.map_toArray, List.map_cons, List.map_nil]); first | done | rfl | (simp only [List.length_drop, List.length_take]; rfl)) ?_; (with_reducible refine (spec_OffersValid.calls k1 _ _ l0 false _ ?side1 ?side2 A7.out).mono ?_); (case side1 => repeat (first | exact (Kd.C_below HR0.out HB.out) | (with_reducible refine Kd.C_alloc ?_ _) | (with_reducible refine Kd.C_drewN ?_ _) | (with_reducible refine Kd.C_drew ?_))); (case side2 => exact HC0.out); rintro e w10 ⟨rfl, hb⟩; refine ⟨_, rfl, ?_⟩; have n0_ := Aside0.mk (below_step (by repeat (first | (with_reducible first | exact HB.out | apply below_alloc | apply pw_below_drewN | apply below_drew1) | exact HB.out)) hb); clear HB; have HB := n0_; clear n0_; (try clear hb); (try clear hb2); (try clear hk); (try clear hi)))
     go_ret
     exact ⟨by first | rfl | (simp [errW_none, errW_some] <;> rfl) | (simp [*, errW_none, errW_some] <;> rfl), by repeat (first | (with_reducible first | exact HB.out | apply below_alloc | apply pw_below_drewN | apply below_drew1) | exact HB.out)⟩

end Go.Proofs.Ytddlmemjmmohhaa.PAll
