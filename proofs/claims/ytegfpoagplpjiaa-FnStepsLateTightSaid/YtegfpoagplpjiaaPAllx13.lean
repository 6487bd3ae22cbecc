-- PRINTED by print.py (a twelfth state) out of the translation. Not trusted: Lean checks it.
import Derived.Test.YtegfpoagplpjiaaPAllx0
import Derived.Test.YtegfpoagplpjiaaPAllx1
import Derived.Test.YtegfpoagplpjiaaPAllx2
import Derived.Test.YtegfpoagplpjiaaPAllx3
import Derived.Test.YtegfpoagplpjiaaPAllx12
namespace Go.Proofs.Ytegfpoagplpjiaa.PAll
open Go.RowKit Go.Proofs.YtegfpoagplpjiaaW.PrintWords Go.Proofs.YtegfpoagplpjiaaW.PrintLast Go.Proofs.YtegfpoagplpjiaaW.PrintMore
attribute [local go_sem] max2_int min2_int max_two min_two max_three min_three max_four min_four   -- for this text's walks alone
set_option linter.unusedVariables false
set_option linter.unusedSimpArgs false

/-! ### spec_DrawStepsLate: function 32 -/
def spec_DrawStepsLate.f (k : Nat) (l0 : List Int) : Option ((List (S28)) × Int) := (spec_l6Open.f l0).bind fun bt405 => ((spec_l92Steps.f k bt405.1 bt405.2).bind fun bt408 => ((spec_l6Rd_pick.f k bt405.1 bt408.2 12).bind fun bt412 => (if bt412.1 = 0 then ((some (([(-1), 999, 1000] : List Int) : List Int)).bind fun y414 => ((spec_l6Rd_pick.f k bt405.1 bt412.2 3).bind fun bt417 => (if 0 ≤ bt417.1 then (if bt417.1 < (y414.length : Int) then (some (bt408.1, rd y414 bt417.1)) else (none)) else (none)))) else ((spec_StepsLength.f k bt408.1).bind fun t420 => ((spec_l6Rd_pick.f k bt405.1 bt412.2 12).bind fun bt421 => (some (bt408.1, wrap64 ((wrap64 (t420 + bt421.1)) - 1))))))))
def spec_DrawStepsLate.T4 : Bool × List (List Nat × List Nat) := (true, [([], []), ([], []), ([], []), ([2], [2]), ([1, 3], [1, 3]), ([4], [4]), ([0, 3, 0], [0]), ([5, 6, 0, 1, 2, 3, 4, 5, 6], [5])])
def spec_DrawStepsLate.B4 : List Nat := [0, 0, 0, 4, 14, 30, 13, 127]
theorem spec_DrawStepsLate.tab4 : rtab .any (opsOf Try.f32 4) = spec_DrawStepsLate.T4 := by kernel_rfl
theorem spec_DrawStepsLate.bits4 : waitsOk spec_DrawStepsLate.T4.2 spec_DrawStepsLate.B4 = true := by kernel_rfl
set_option maxHeartbeats 8000000 in
set_option maxRecDepth 100000 in
theorem spec_DrawStepsLate.calls (k : Nat) (A0 : Option Addr) (c0 : Nat) (l0 : List Int) (r1 : List (S28)) (r2 : Int) (w : World) (hr0 : Kd.C (Kd.int .u8) w A0 l0.length l0) (hc0 : l0.length ≤ c0) (h : spec_DrawStepsLate.f k l0 = some (r1, r2)) :
  Calls Try.prog 32 #[.slice A0 l0.length c0] w fun e w' => ∃ v0_ : Value, e = .returned (.tuple #[v0_, .int .i64 r2]) ∧ Kd.S k28 28 w' w.heap.size (fun _ => True) v0_ r1 ∧ Below w.heap.size w w' := by
 have HR0 := Aside0.mk hr0
 have HC0 := Aside0.mk hc0
 clear hr0 hc0
 have HB := Aside0.mk (Below.refl w.heap.size w)
 have H : ((spec_l6Open.f l0).bind fun bt405 => ((spec_l92Steps.f k bt405.1 bt405.2).bind fun bt408 => ((spec_l6Rd_pick.f k bt405.1 bt408.2 12).bind fun bt412 => (if bt412.1 = 0 then ((some (([(-1), 999, 1000] : List Int) : List Int)).bind fun y414 => ((spec_l6Rd_pick.f k bt405.1 bt412.2 3).bind fun bt417 => (if 0 ≤ bt417.1 then (if bt417.1 < (y414.length : Int) then (some (bt408.1, rd y414 bt417.1)) else (none)) else (none)))) else ((spec_StepsLength.f k bt408.1).bind fun t420 => ((spec_l6Rd_pick.f k bt405.1 bt412.2 12).bind fun bt421 => (some (bt408.1, wrap64 ((wrap64 (t420 + bt421.1)) - 1))))))))) = some (r1, r2) := h
 clear h
 replace H := Option.bind_eq_some_iff.mp H
 obtain ⟨⟨t405, t406⟩, A20, H⟩ := H
 replace H : ((spec_l92Steps.f k t405 t406).bind fun bt408 => ((spec_l6Rd_pick.f k t405 bt408.2 12).bind fun bt412 => (if bt412.1 = 0 then ((some (([(-1), 999, 1000] : List Int) : List Int)).bind fun y414 => ((spec_l6Rd_pick.f k t405 bt412.2 3).bind fun bt417 => (if 0 ≤ bt417.1 then (if bt417.1 < (y414.length : Int) then (some (bt408.1, rd y414 bt417.1)) else (none)) else (none)))) else ((spec_StepsLength.f k bt408.1).bind fun t420 => ((spec_l6Rd_pick.f k t405 bt412.2 12).bind fun bt421 => (some (bt408.1, wrap64 ((wrap64 (t420 + bt421.1)) - 1)))))))) = some (r1, r2) := H
 have A2 := Aside0.mk A20
 clear A20
 replace H := Option.bind_eq_some_iff.mp H
 obtain ⟨⟨t408, t411⟩, A30, H⟩ := H
 replace H : ((spec_l6Rd_pick.f k t405 t411 12).bind fun bt412 => (if bt412.1 = 0 then ((some (([(-1), 999, 1000] : List Int) : List Int)).bind fun y414 => ((spec_l6Rd_pick.f k t405 bt412.2 3).bind fun bt417 => (if 0 ≤ bt417.1 then (if bt417.1 < (y414.length : Int) then (some (t408, rd y414 bt417.1)) else (none)) else (none)))) else ((spec_StepsLength.f k t408).bind fun t420 => ((spec_l6Rd_pick.f k t405 bt412.2 12).bind fun bt421 => (some (t408, wrap64 ((wrap64 (t420 + bt421.1)) - 1))))))) = some (r1, r2) := H
 have A3 := Aside0.mk A30
 clear A30
 replace H := Option.bind_eq_some_iff.mp H
 obtain ⟨⟨t412, t413⟩, A40, H⟩ := H
 replace H : (if t412 = 0 then ((some (([(-1), 999, 1000] : List Int) : List Int)).bind fun y414 => ((spec_l6Rd_pick.f k t405 t413 3).bind fun bt417 => (if 0 ≤ bt417.1 then (if bt417.1 < (y414.length : Int) then (some (t408, rd y414 bt417.1)) else (none)) else (none)))) else ((spec_StepsLength.f k t408).bind fun t420 => ((spec_l6Rd_pick.f k t405 t413 12).bind fun bt421 => (some (t408, wrap64 ((wrap64 (t420 + bt421.1)) - 1)))))) = some (r1, r2) := H
 have A4 := Aside0.mk A40
 clear A40
 by_cases c5 : t412 = 0
 ·rw [if_pos c5] at H
  have c5b0 : (t412 == 0) = true := beq_iff_eq.mpr c5
  have c5b1 : (t412 != 0) = false := bne_eq_false_iff_eq.mpr c5
  clear c5
  obtain ⟨y414, hy414⟩ : ∃ y_ : List Int, y_ = (([(-1), 999, 1000] : List Int)) := ⟨_, rfl⟩
  replace H : ((spec_l6Rd_pick.f k t405 t413 3).bind fun bt417 => (if 0 ≤ bt417.1 then (if bt417.1 < (y414.length : Int) then (some (t408, rd y414 bt417.1)) else (none)) else (none))) = some (r1, r2) := by first | (rw [hy414]; with_reducible exact H) | (have H2_ := (Option.bind_some _ _).symm.trans H; rw [hy414]; with_reducible exact H2_) | (have H2_ := (Option.bind_some _ _).symm.trans H; with_reducible exact H2_) | with_reducible exact H | (rw [hy414]; exact H) | exact H
  have Ny414 := Aside0.mk hy414
  clear hy414
  replace H := Option.bind_eq_some_iff.mp H
  obtain ⟨⟨t417, t418⟩, A60, H⟩ := H
  replace H : (if 0 ≤ t417 then (if t417 < (y414.length : Int) then (some (t408, rd y414 t417)) else (none)) else (none)) = some (r1, r2) := H
  have A6 := Aside0.mk A60
  clear A60
  by_cases c7 : 0 ≤ t417
  ·rw [if_pos c7] at H
   have c7b0 : decide (0 ≤ t417) = true := decide_eq_true c7
   clear c7
   by_cases c8 : t417 < (y414.length : Int)
   ·rw [if_pos c8] at H
    have c8b0 : decide (t417 < (y414.length : Int)) = true := decide_eq_true c8
    clear c8
    simp only [Option.some.injEq, Prod.mk.injEq] at H
    obtain ⟨rfl, rfl⟩ := H
    go_enter Try.func32, Try.ntmps32
    try go_wp2_with (first | ((with_reducible refine gate_callee (f := 41) rfl ?_); refine goesL_ (some 7) rfl rfl Try.func41 (by kernel_rfl) rfl #[.slice A0 l0.length c0] rfl (by (try simp only [List.map_toArray, List.map_cons, List.map_nil]); first | done | rfl | (simp only [List.length_drop, List.length_take]; rfl)) ?_; (with_reducible refine (spec_l6Open.calls _ _ l0 t405 t406 w _ ?side1 ?side2 ?side3 A2.out).mono ?_); (case side1 => repeat (first | (with_reducible first | exact HB.out | apply below_alloc | apply pw_below_drewN | apply below_drew1) | exact HB.out)); (case side2 => exact HR0.out); (case side3 => exact HC0.out); rintro e w9 ⟨g407, rfl, hi, hb, hb2⟩; refine ⟨_, rfl, ?_⟩; have n0_ := Aside0.mk (hb); have n1_ := Aside0.mk (hi); clear HB; have HB := n0_; have HI407 := n1_; clear n0_ n1_; (try clear hb); (try clear hb2); (try clear hk); (try clear hi)) | ((with_reducible refine gate_callee (f := 40) rfl ?_); refine goesL_ (some 9) rfl rfl Try.func40 (by kernel_rfl) rfl #[.pointer (some ⟨g407, 0, none⟩)] rfl (by (try simp only [List.map_toArray, List.map_cons, List.map_nil]); first | done | rfl | (simp only [List.length_drop, List.length_take]; rfl)) ?_; (with_reducible refine (spec_l92Steps.calls k g407 t405 t406 t408 t411 w _ ?side1 ?side2 A3.out).mono ?_); (case side1 => repeat (first | (with_reducible first | exact HI407.out | apply IsS58.alloc | apply IsS58.drewN | apply IsS58.drew | apply IsS58.set_1) | exact HI407.out)); (case side2 => repeat (first | (with_reducible first | exact HB.out | apply below_alloc | apply pw_below_drewN | apply below_drew1 | refine below_set ?_ (IsS58.ge HI407.out)) | exact HB.out)); rintro e w10 ⟨v409, rfl, ho0, hi, hb, hk⟩; refine ⟨_, rfl, ?_⟩; have n0_ := Aside0.mk (Kd.S_lower ho0 (below_size (by repeat (first | (with_reducible first | exact HB.out | apply below_alloc | apply pw_below_drewN | apply below_drew1 | refine below_set ?_ (IsS58.ge HI407.out)) | exact HB.out)))); have n1_ := Aside0.mk (hb); have n2_ := Aside0.mk (hi); clear HB; clear HI407; have HO410 := n0_; have HB := n1_; have HI407 := n2_; clear n0_ n1_ n2_; (try clear hb); (try clear hb2); (try clear hk); (try clear hi); (try clear ho0)) | ((with_reducible refine gate_callee (f := 49) rfl ?_); refine goesL_ (some 11) rfl rfl Try.func49 (by kernel_rfl) rfl #[.pointer (some ⟨g407, 0, none⟩), .int .i64 12] rfl (by (try simp only [List.map_toArray, List.map_cons, List.map_nil]); first | done | rfl | (simp only [List.length_drop, List.length_take]; rfl)) ?_; (with_reducible refine (spec_l6Rd_pick.calls k g407 t405 t411 12 t412 t413 w _ ?side1 ?side2 A4.out).mono ?_); (case side1 => repeat (first | (with_reducible first | exact HI407.out | apply IsS58.alloc | apply IsS58.drewN | apply IsS58.drew | apply IsS58.set_1) | exact HI407.out)); (case side2 => repeat (first | (with_reducible first | exact HB.out | apply below_alloc | apply pw_below_drewN | apply below_drew1 | refine below_set ?_ (IsS58.ge HI407.out)) | exact HB.out)); rintro e w11 ⟨rfl, hi, hb, hk⟩; refine ⟨_, rfl, ?_⟩; have n0_ := Aside0.mk (Kd.S_mono (Kd.S_keep (IsS58.apartS (show IsS58 w _ g407 t405 t411 from by repeat (first | (with_reducible first | exact HI407.out | apply IsS58.alloc | apply IsS58.drewN | apply IsS58.drew | apply IsS58.set_1) | exact HI407.out)) (by (with_reducible repeat (first | apply Kd.S_alloc | apply Kd.S_drewN | apply Kd.S_drew)); exact HO410.out) (by decide)) hk (fun _ h => h.2)) (fun _ h => h.1)); have n1_ := Aside0.mk (hb); have n2_ := Aside0.mk (hi); clear HO410; clear HB; clear HI407; have HO410 := n0_; have HB := n1_; have HI407 := n2_; clear n0_ n1_ n2_; (try clear hb); (try clear hb2); (try clear hk); (try clear hi)))
    have pi419 : (0 ≤ (t417 : Int)) = True := eq_true (of_decide_eq_true (by first | (with_reducible assumption) | assumption))
    have qi419 : (t417 < (y414.length : Int)) = True := eq_true (of_decide_eq_true (by first | (with_reducible assumption) | assumption))
    have n0_ := Aside0.mk (Kd.S_drew HO410.out)
    have n1_ := Aside0.mk (IsS58.drew HI407.out)
    have n2_ := Aside0.mk (below_drew1 HB.out)
    clear HO410
    clear HI407
    clear HB
    have HO410 := n0_
    have HI407 := n1_
    have HB := n2_
    clear n0_ n1_ n2_
    refine start_ (n := 8) (S := fun w' => True) (ds := []) #[false, false, false, false, false, false, false, false] (by kernel_rfl) rfl rfl trivial (fun hHeld => ?_); refine with_tabW spec_DrawStepsLate.tab4 spec_DrawStepsLate.bits4 (fun HT_ HW_ => ?_)
    generalize w11.drew = w12 at HO410 HI407 HB hHeld ⊢
    refine pure_ (i := 0) (N := some 13) (v := ?_) (a' := ?_) #[true, false, false, false, false, false, false, false] rfl rfl (any_of HT_.out (by kernel_rfl)) (fun _ _ _ h => h) (Or.inl ⟨by rfl, ?_⟩) ?_ ?_
    rotate_left
    ·intro w'
     go_simp
     with_reducible rfl
    rotate_left
    ·simp only [Act.put, List.setIfInBounds_toArray, List.set_cons_zero, List.set_cons_succ, i64_w, i32_w]
     rfl
    refine pure_ (i := 2) (N := some 15) (v := ?_) (a' := ?_) #[true, false, true, false, false, false, false, false] rfl rfl (any_of HT_.out (by kernel_rfl)) (fun _ _ _ h => h) (Or.inl ⟨by rfl, ?_⟩) ?_ ?_
    rotate_left
    ·intro w'
     go_simp
     with_reducible rfl
    rotate_left
    ·simp only [Act.put, List.setIfInBounds_toArray, List.set_cons_zero, List.set_cons_succ, i64_w, i32_w]
     rfl
    refine inv_at [1, 3, 4, 5, 6, 7] (fun a0_ b a w' => ∃ (v415 : Value) (adz_v415 : Addr) (m4_ : Value), a = putSel a0_ b [(1, 14, v415), (3, 16, .int .i64 t417), (4, 17, m4_), (5, 18, .int .i64 (rd y414 t417)), (6, 2, v409), (7, 3, .int .i64 (rd y414 t417))] ∧ (Kd.S k28 28 w' w.heap.size (fun _ => True) v409 t408) ∧ (b 3 = false → IsS58 w w' g407 t405 t413) ∧ (Below w.heap.size w w') ∧ (b 1 = true → Kd.R (Kd.int .i64) 3 w' w.heap.size (fun _ => True) v415 y414) ∧ (b 1 = true → ∃ c_, (v415 : Value) = .slice (some adz_v415) y414.length c_) ∧ (b 3 = true → IsS58 w w' g407 t405 t418) ∧ (b 4 = true → (m4_ : Value) = .pointer (some (adz_v415.add (t417).toNat)))) HT_.out HW_.out (by kernel_rfl) (by kernel_rfl) ?_ ?_ ?_
    ·exact ⟨.bool false, ⟨0, 0, none⟩, .bool false, by simp only [putSel, Bool.false_eq_true, if_false], HO410.out, fun _ => HI407.out, HB.out, fun h_ => absurd h_ (by decide), fun h_ => absurd h_ (by decide), fun h_ => absurd h_ (by decide), fun h_ => absurd h_ (by decide)⟩
    ·skip
     clear HB HI407 HO410
     refine steps_cons ?_ ?_
     ·rintro b a w' ⟨v415, adz_v415, m4_, ha, Q_HO410, Q_HI407, Q_HB, Q_HO416, Q_HA_HO416, Q_HI407_e3, Q_X4_⟩ hb_ hon hoff
      refine ⟨_, rfl, fun K hK => ?_⟩
      replace ha := Aside0.mk ha
      have HO410 := Aside0.mk Q_HO410
      have HB := Aside0.mk Q_HB
      refine Kd.R_lit_step (Kd.int .i64) _ 3 ?hg (N := 14) ?hd (xs := ([(-1), 999, 1000] : List Int)) (inner := [.int .i64 (-1), .int .i64 999, .int .i64 1000]) (ok := fun _ => True) (okp := fun _ => True) ?hr ?hp (fun _ hk => hk) trivial (Below.refl _ _) (Nat.le_refl _) (by simp) ?_; (case hd => rfl); (case hg => rfl); (case hr => first | (go_simp; done) | (go_simp; rfl)); (case hp => exact (Reps.one (show Kd.M (Kd.int .i64) _ _ _ (-1) [.int .i64 (-1)] from rfl) (Reps.one (show Kd.M (Kd.int .i64) _ _ _ 999 [.int .i64 999] from rfl) (Reps.one (show Kd.M (Kd.int .i64) _ _ _ 1000 [.int .i64 1000] from rfl) (Reps.none _ _)))))
      intro v415 w13 ho14 hb hg_ hnew_
      clear hg_ hnew_
      (first | rw [← Ny414.out] at ho14 | (simp only [Int.reduceToNat] at ho14; rw [← Ny414.out] at ho14))
      have n0_ := Aside0.mk (Kd.S_elder' (by (with_reducible repeat (first | apply Kd.S_alloc | apply Kd.S_drewN | apply Kd.S_drew)); exact HO410.out) (Kd.R_base ho14) hb)
      have n1_ := Aside0.mk (Kd.R_lower ho14 (below_size (by repeat (first | (with_reducible first | exact HB.out | apply below_alloc | apply pw_below_drewN | apply below_drew1) | exact HB.out))))
      have n3_ := Aside0.mk (below_step (by repeat (first | (with_reducible first | exact HB.out | apply below_alloc | apply pw_below_drewN | apply below_drew1) | exact HB.out)) hb)
      have z_HI407 := fun (h0_ : b 3 = false) => (show IsS58 w w13 g407 t405 t413 from by first | exact (IsS58.below (by repeat (first | (with_reducible first | exact (Q_HI407 h0_) | apply IsS58.alloc | apply IsS58.drewN | apply IsS58.drew | apply IsS58.set_1) | exact (Q_HI407 h0_))) hb))
      have z_HI407_e3 := fun (h0_ : b 3 = true) => (show IsS58 w w13 g407 t405 t418 from by first | exact (IsS58.below (by repeat (first | (with_reducible first | exact (Q_HI407_e3 h0_) | apply IsS58.alloc | apply IsS58.drewN | apply IsS58.drew | apply IsS58.set_1) | exact (Q_HI407_e3 h0_))) hb))
      clear HO410
      clear HB
      have HO410 := n0_
      have HO416 := n1_
      have HB := n3_
      clear n0_ n1_ n3_
      clear hb ho14
      obtain ⟨Ao15, co15, eo15⟩ := Kd.R_slice HO416.out
      subst eo15
      obtain ⟨ado15, fo15, _⟩ := Kd.at_int (Kd.R_reads' HO416.out).2.2 0 (by decide) (by rw [Ny414.out]; simp)
      cases fo15
      refine hK.out _ _ ⟨.slice (some ado15) y414.length co15, ado15, m4_, (by rw [ha.out]; exact putSel_upk 0 hb_ rfl rfl rfl), (by (with_reducible repeat (first | apply Kd.S_alloc | apply Kd.S_drewN | apply Kd.S_drew)); exact Kd.S_mono HO410.out (fun _ hk => by first | exact hk.2 | trivial)), z_HI407, (by repeat (first | (with_reducible first | exact HB.out | apply below_alloc | apply pw_below_drewN | apply below_drew1) | exact HB.out)), fun _ => (by (with_reducible repeat (first | apply Kd.R_alloc | apply Kd.R_drewN | apply Kd.R_drew)); exact HO416.out), fun _ => ⟨_, rfl⟩, z_HI407_e3, fun h0_ => absurd ((hoff 4 (by kernel_rfl)).symm.trans h0_) (by decide)⟩
     refine steps_cons ?_ ?_
     ·rintro b a w' ⟨v415, adz_v415, m4_, ha, Q_HO410, Q_HI407, Q_HB, Q_HO416, Q_HA_HO416, Q_HI407_e3, Q_X4_⟩ hb_ hon hoff
      refine ⟨_, rfl, fun K hK => ?_⟩
      have e15 : a.tmps[15]? = some (.pointer (some ⟨g407, 0, none⟩)) := by rw [ha]; exact (putSel_off rfl).trans rfl
      replace ha := Aside0.mk ha
      have HO410 := Aside0.mk Q_HO410
      have HI407 := Aside0.mk (Q_HI407 hb_)
      have HB := Aside0.mk Q_HB
      refine goes_ Try.func49 (by kernel_rfl) rfl #[.pointer (some ⟨g407, 0, none⟩), .int .i64 3] (by rfl) rfl rfl (by first | (simp only [List.map_toArray, List.map_cons, List.map_nil, Act.eval, Array.getD_eq_getD_getElem?, Option.getD_some, e15]; done) | (simp only [List.map_toArray, List.map_cons, List.map_nil, Act.eval, Array.getD_eq_getD_getElem?, Option.getD_some, e15]; rfl)) ?_
      with_reducible refine (spec_l6Rd_pick.calls k g407 t405 t413 3 t417 t418 w _ ?side1 ?side2 A6.out).mono ?_
      (case side1 => repeat (first | (with_reducible first | exact HI407.out | apply IsS58.alloc | apply IsS58.drewN | apply IsS58.drew | apply IsS58.set_1) | exact HI407.out))
      (case side2 => repeat (first | (with_reducible first | exact HB.out | apply below_alloc | apply pw_below_drewN | apply below_drew1 | refine below_set ?_ (IsS58.ge HI407.out)) | exact HB.out))
      rintro e w13 ⟨rfl, hi, hb, hk⟩
      refine ⟨_, rfl, ?_⟩
      have n0_ := Aside0.mk (Kd.S_mono (Kd.S_keep (IsS58.apartS (show IsS58 w _ g407 t405 t413 from by repeat (first | (with_reducible first | exact HI407.out | apply IsS58.alloc | apply IsS58.drewN | apply IsS58.drew | apply IsS58.set_1) | exact HI407.out)) (by (with_reducible repeat (first | apply Kd.S_alloc | apply Kd.S_drewN | apply Kd.S_drew)); exact HO410.out) (by decide)) hk (fun _ h => h.2)) (fun _ h => h.1))
      have n1_ := Aside0.mk (hb)
      have n2_ := Aside0.mk (hi)
      have z_HO416 := fun (h0_ : b 1 = true) => (show Kd.R (Kd.int .i64) 3 w13 w.heap.size (fun _ => True) v415 y414 from by first | exact (Kd.R_mono (Kd.R_keep (IsS58.apart (show IsS58 w _ g407 t405 t413 from by repeat (first | (with_reducible first | exact HI407.out | apply IsS58.alloc | apply IsS58.drewN | apply IsS58.drew | apply IsS58.set_1) | exact HI407.out)) (by (with_reducible repeat (first | apply Kd.R_alloc | apply Kd.R_drewN | apply Kd.R_drew)); exact (Q_HO416 h0_)) (by decide)) hk (fun _ h => h.2)) (fun _ h => h.1)) | exact Kd.R_mono (Kd.R_mono (Kd.R_keep (IsS58.apart (show IsS58 w _ g407 t405 t413 from by repeat (first | (with_reducible first | exact HI407.out | apply IsS58.alloc | apply IsS58.drewN | apply IsS58.drew | apply IsS58.set_1) | exact HI407.out)) (by (with_reducible repeat (first | apply Kd.R_alloc | apply Kd.R_drewN | apply Kd.R_drew)); exact (Q_HO416 h0_)) (by decide)) hk (fun _ h => h.2)) (fun _ h => h.1)) (fun _ h_ => by first | trivial | exact h_ | exact h_.1))
      clear HO410
      clear HB
      clear HI407
      have HO410 := n0_
      have HB := n1_
      have HI407 := n2_
      clear n0_ n1_ n2_
      (try clear hb)
      (try clear hb2)
      (try clear hk)
      (try clear hi)
      refine hK.out _ _ ⟨v415, adz_v415, m4_, (by rw [ha.out]; exact putSel_upk 1 hb_ rfl rfl rfl), (by (with_reducible repeat (first | apply Kd.S_alloc | apply Kd.S_drewN | apply Kd.S_drew)); exact HO410.out), fun h0_ => absurd ((up_self b 3).symm.trans h0_) (by decide), (by repeat (first | (with_reducible first | exact HB.out | apply below_alloc | apply pw_below_drewN | apply below_drew1 | refine below_set ?_ (IsS58.ge HI407.out)) | exact HB.out)), z_HO416, Q_HA_HO416, fun _ => (by repeat (first | (with_reducible first | exact HI407.out | apply IsS58.alloc | apply IsS58.drewN | apply IsS58.drew | apply IsS58.set_1) | exact HI407.out)), fun h0_ => absurd ((hoff 4 (by kernel_rfl)).symm.trans h0_) (by decide)⟩
     refine steps_cons ?_ ?_
     ·rintro b a w' ⟨v415, adz_v415, m4_, ha, Q_HO410, Q_HI407, Q_HB, Q_HO416, Q_HA_HO416, Q_HI407_e3, Q_X4_⟩ hb_ hon hoff
      refine ⟨_, rfl, fun K hK => ?_⟩
      have e14 : a.tmps[14]? = some (v415) := by rw [ha]; exact putSel_on (e := (1, 14, v415)) 0 rfl rfl (hon 1 (by kernel_rfl)) rfl
      have e16 : a.tmps[16]? = some (.int .i64 t417) := by rw [ha]; exact putSel_on (e := (3, 16, .int .i64 t417)) 1 rfl rfl (hon 3 (by kernel_rfl)) rfl
      replace ha := Aside0.mk ha
      have HO410 := Aside0.mk Q_HO410
      have HB := Aside0.mk Q_HB
      have HO416 := Aside0.mk (Q_HO416 (hon 1 (by kernel_rfl)))
      have HA_HO416 := Aside0.mk (Q_HA_HO416 (hon 1 (by kernel_rfl)))
      have HI407 := Aside0.mk (Q_HI407_e3 (hon 3 (by kernel_rfl)))
      obtain ⟨c_, hv_⟩ := HA_HO416.out
      rw [hv_] at e14
      refine value_ (w1 := w') (v := .pointer (some (adz_v415.add (t417).toNat))) (by rfl) rfl ?_ ?_
      ·go_simp
       (try simp only [i64_w])
       try rfl
      refine hK.out _ _ ⟨v415, adz_v415, (.pointer (some (adz_v415.add (t417).toNat))), (by rw [ha.out]; exact putSel_upk 2 hb_ rfl rfl rfl), Q_HO410, fun h0_ => absurd ((hon 3 (by kernel_rfl)).symm.trans h0_) (by decide), Q_HB, Q_HO416, Q_HA_HO416, Q_HI407_e3, fun _ => rfl⟩
     refine steps_cons ?_ ?_
     ·rintro b a w' ⟨v415, adz_v415, m4_, ha, Q_HO410, Q_HI407, Q_HB, Q_HO416, Q_HA_HO416, Q_HI407_e3, Q_X4_⟩ hb_ hon hoff
      refine ⟨_, rfl, fun K hK => ?_⟩
      have e17 : a.tmps[17]? = some (m4_) := by rw [ha]; exact putSel_on (e := (4, 17, m4_)) 2 rfl rfl (hon 4 (by kernel_rfl)) rfl
      rw [Q_X4_ (hon 4 (by kernel_rfl))] at e17
      replace ha := Aside0.mk ha
      have HO410 := Aside0.mk Q_HO410
      have HB := Aside0.mk Q_HB
      have HO416 := Aside0.mk (Q_HO416 (hon 1 (by kernel_rfl)))
      have HA_HO416 := Aside0.mk (Q_HA_HO416 (hon 1 (by kernel_rfl)))
      have HI407 := Aside0.mk (Q_HI407_e3 (hon 3 (by kernel_rfl)))
      obtain ⟨c_, hv_⟩ := HA_HO416.out
      have hF_ := HO416.out
      rw [hv_] at hF_
      obtain ⟨ad_, ea_, hx_⟩ := Kd.at_int (Kd.R_reads' hF_).2.2 t417 (of_eq_true pi419) (of_eq_true qi419)
      cases ea_
      refine value_ (w1 := w') (v := .int .i64 (rd y414 t417)) (by rfl) rfl ?_ ?_
      ·go_simp
       (try simp only [i64_w])
       try rfl
      refine hK.out _ _ ⟨v415, adz_v415, m4_, (by rw [ha.out]; exact putSel_upk 3 hb_ rfl rfl rfl), Q_HO410, fun h0_ => absurd ((hon 3 (by kernel_rfl)).symm.trans h0_) (by decide), Q_HB, Q_HO416, Q_HA_HO416, Q_HI407_e3, Q_X4_⟩
     refine steps_cons ?_ ?_
     ·rintro b a w' ⟨v415, adz_v415, m4_, ha, Q_HO410, Q_HI407, Q_HB, Q_HO416, Q_HA_HO416, Q_HI407_e3, Q_X4_⟩ hb_ hon hoff
      refine ⟨_, rfl, fun K hK => ?_⟩
      have e13 : a.tmps[13]? = some (v409) := by rw [ha]; exact (putSel_off rfl).trans rfl
      replace ha := Aside0.mk ha
      have HO410 := Aside0.mk Q_HO410
      have HB := Aside0.mk Q_HB
      have HI407 := Aside0.mk (Q_HI407_e3 (hon 3 (by kernel_rfl)))
      refine value_ (w1 := w') (v := v409) (by rfl) rfl ?_ ?_
      ·go_simp
       (try simp only [i64_w])
       try rfl
      refine hK.out _ _ ⟨v415, adz_v415, m4_, (by rw [ha.out]; exact putSel_upk 4 hb_ rfl rfl rfl), Q_HO410, fun h0_ => absurd ((hon 3 (by kernel_rfl)).symm.trans h0_) (by decide), Q_HB, Q_HO416, Q_HA_HO416, Q_HI407_e3, Q_X4_⟩
     refine steps_cons ?_ ?_
     ·rintro b a w' ⟨v415, adz_v415, m4_, ha, Q_HO410, Q_HI407, Q_HB, Q_HO416, Q_HA_HO416, Q_HI407_e3, Q_X4_⟩ hb_ hon hoff
      refine ⟨_, rfl, fun K hK => ?_⟩
      have e18 : a.tmps[18]? = some (.int .i64 (rd y414 t417)) := by rw [ha]; exact putSel_on (e := (5, 18, .int .i64 (rd y414 t417))) 3 rfl rfl (hon 5 (by kernel_rfl)) rfl
      replace ha := Aside0.mk ha
      have HO410 := Aside0.mk Q_HO410
      have HB := Aside0.mk Q_HB
      have HO416 := Aside0.mk (Q_HO416 (hon 1 (by kernel_rfl)))
      have HA_HO416 := Aside0.mk (Q_HA_HO416 (hon 1 (by kernel_rfl)))
      have HI407 := Aside0.mk (Q_HI407_e3 (hon 3 (by kernel_rfl)))
      refine value_ (w1 := w') (v := .int .i64 (rd y414 t417)) (by rfl) rfl ?_ ?_
      ·go_simp
       (try simp only [i64_w])
       try rfl
      refine hK.out _ _ ⟨v415, adz_v415, m4_, (by rw [ha.out]; exact putSel_upk 5 hb_ rfl rfl rfl), Q_HO410, fun h0_ => absurd ((hon 3 (by kernel_rfl)).symm.trans h0_) (by decide), Q_HB, Q_HO416, Q_HA_HO416, Q_HI407_e3, Q_X4_⟩
     exact steps_nil
    rintro b a w17 hall ⟨v415, adz_v415, m4_, ha, Q_HO410, Q_HI407, Q_HB, Q_HO416, Q_HA_HO416, Q_HI407_e3, Q_X4_⟩
    clear HB HI407 HO410
    have hb1_ := hall 1 (by kernel_rfl)
    have hb3_ := hall 3 (by kernel_rfl)
    have hb4_ := hall 4 (by kernel_rfl)
    have hb5_ := hall 5 (by kernel_rfl)
    have hb6_ := hall 6 (by kernel_rfl)
    have hb7_ := hall 7 (by kernel_rfl)
    subst ha
    obtain rfl := Q_X4_ hb4_
    simp only [putSel, hb1_, hb3_, hb4_, hb5_, hb6_, hb7_, if_true, Act.put, List.setIfInBounds_toArray, List.set_cons_zero, List.set_cons_succ]
    have HO410 := Aside0.mk Q_HO410
    clear Q_HO410
    clear Q_HI407
    have HB := Aside0.mk Q_HB
    clear Q_HB
    have HO416 := Aside0.mk (Q_HO416 hb1_)
    clear Q_HO416
    have HA_HO416 := Aside0.mk (Q_HA_HO416 hb1_)
    clear Q_HA_HO416
    have HI407 := Aside0.mk (Q_HI407_e3 hb3_)
    clear Q_HI407_e3
    clear hall hb1_ hb3_ hb4_ hb5_ hb6_ hb7_
    obtain ⟨co18, eo18⟩ := HA_HO416.out
    clear HA_HO416
    subst eo18
    try go_wp2
    go_ret2
    exact ⟨_, by first | rfl | (simp [errW_none, errW_some] <;> rfl) | (simp [*, errW_none, errW_some] <;> rfl), by (with_reducible repeat (first | apply Kd.S_alloc | apply Kd.S_drewN | apply Kd.S_drew)); exact Kd.S_mono HO410.out (fun _ hk => trivial), by repeat (first | (with_reducible first | exact HB.out | apply below_alloc | apply pw_below_drewN | apply below_drew1 | refine below_set ?_ (IsS58.ge HI407.out)) | exact HB.out)⟩
   ·rw [if_neg c8] at H
    exact absurd H (by simp)
  ·rw [if_neg c7] at H
   exact absurd H (by simp)
 ·rw [if_neg c5] at H
  have c5b0 : (t412 == 0) = false := beq_eq_false_iff_ne.mpr c5
  have c5b1 : (t412 != 0) = true := bne_iff_ne.mpr c5
  replace H := Option.bind_eq_some_iff.mp H
  obtain ⟨t420, A190, H⟩ := H
  replace H : ((spec_l6Rd_pick.f k t405 t413 12).bind fun bt421 => (some (t408, wrap64 ((wrap64 (t420 + bt421.1)) - 1)))) = some (r1, r2) := H
  have A19 := Aside0.mk A190
  clear A190
  replace H := Option.bind_eq_some_iff.mp H
  obtain ⟨⟨t421, t422⟩, A200, H⟩ := H
  replace H : (some (t408, wrap64 ((wrap64 (t420 + t421)) - 1))) = some (r1, r2) := H
  have A20 := Aside0.mk A200
  clear A200
  simp only [Option.some.injEq, Prod.mk.injEq] at H
  obtain ⟨rfl, rfl⟩ := H
  go_enter Try.func32, Try.ntmps32
  go_wp2_with (first | ((with_reducible refine gate_callee (f := 41) rfl ?_); refine goesL_ (some 7) rfl rfl Try.func41 (by kernel_rfl) rfl #[.slice A0 l0.length c0] rfl (by (try simp only [List.map_toArray, List.map_cons, List.map_nil]); first | done | rfl | (simp only [List.length_drop, List.length_take]; rfl)) ?_; (with_reducible refine (spec_l6Open.calls _ _ l0 t405 t406 w _ ?side1 ?side2 ?side3 A2.out).mono ?_); (case side1 => repeat (first | (with_reducible first | exact HB.out | apply below_alloc | apply pw_below_drewN | apply below_drew1) | exact HB.out)); (case side2 => exact HR0.out); (case side3 => exact HC0.out); rintro e w21 ⟨g407, rfl, hi, hb, hb2⟩; refine ⟨_, rfl, ?_⟩; have n0_ := Aside0.mk (hb); have n1_ := Aside0.mk (hi); clear HB; have HB := n0_; have HI407 := n1_; clear n0_ n1_; (try clear hb); (try clear hb2); (try clear hk); (try clear hi)) | ((with_reducible refine gate_callee (f := 40) rfl ?_); refine goesL_ (some 9) rfl rfl Try.func40 (by kernel_rfl) rfl #[.pointer (some ⟨g407, 0, none⟩)] rfl (by (try simp only [List.map_toArray, List.map_cons, List.map_nil]); first | done | rfl | (simp only [List.length_drop, List.length_take]; rfl)) ?_; (with_reducible refine (spec_l92Steps.calls k g407 t405 t406 t408 t411 w _ ?side1 ?side2 A3.out).mono ?_); (case side1 => repeat (first | (with_reducible first | exact HI407.out | apply IsS58.alloc | apply IsS58.drewN | apply IsS58.drew | apply IsS58.set_1) | exact HI407.out)); (case side2 => repeat (first | (with_reducible first | exact HB.out | apply below_alloc | apply pw_below_drewN | apply below_drew1 | refine below_set ?_ (IsS58.ge HI407.out)) | exact HB.out)); rintro e w22 ⟨v409, rfl, ho0, hi, hb, hk⟩; refine ⟨_, rfl, ?_⟩; have n0_ := Aside0.mk (Kd.S_lower ho0 (below_size (by repeat (first | (with_reducible first | exact HB.out | apply below_alloc | apply pw_below_drewN | apply below_drew1 | refine below_set ?_ (IsS58.ge HI407.out)) | exact HB.out)))); have n1_ := Aside0.mk (hb); have n2_ := Aside0.mk (hi); clear HB; clear HI407; have HO410 := n0_; have HB := n1_; have HI407 := n2_; clear n0_ n1_ n2_; (try clear hb); (try clear hb2); (try clear hk); (try clear hi); (try clear ho0)) | ((with_reducible refine gate_callee (f := 49) rfl ?_); refine goesL_ (some 11) rfl rfl Try.func49 (by kernel_rfl) rfl #[.pointer (some ⟨g407, 0, none⟩), .int .i64 12] rfl (by (try simp only [List.map_toArray, List.map_cons, List.map_nil]); first | done | rfl | (simp only [List.length_drop, List.length_take]; rfl)) ?_; (with_reducible refine (spec_l6Rd_pick.calls k g407 t405 t411 12 t412 t413 w _ ?side1 ?side2 A4.out).mono ?_); (case side1 => repeat (first | (with_reducible first | exact HI407.out | apply IsS58.alloc | apply IsS58.drewN | apply IsS58.drew | apply IsS58.set_1) | exact HI407.out)); (case side2 => repeat (first | (with_reducible first | exact HB.out | apply below_alloc | apply pw_below_drewN | apply below_drew1 | refine below_set ?_ (IsS58.ge HI407.out)) | exact HB.out)); rintro e w23 ⟨rfl, hi, hb, hk⟩; refine ⟨_, rfl, ?_⟩; have n0_ := Aside0.mk (Kd.S_mono (Kd.S_keep (IsS58.apartS (show IsS58 w _ g407 t405 t411 from by repeat (first | (with_reducible first | exact HI407.out | apply IsS58.alloc | apply IsS58.drewN | apply IsS58.drew | apply IsS58.set_1) | exact HI407.out)) (by (with_reducible repeat (first | apply Kd.S_alloc | apply Kd.S_drewN | apply Kd.S_drew)); exact HO410.out) (by decide)) hk (fun _ h => h.2)) (fun _ h => h.1)); have n1_ := Aside0.mk (hb); have n2_ := Aside0.mk (hi); clear HO410; clear HB; clear HI407; have HO410 := n0_; have HB := n1_; have HI407 := n2_; clear n0_ n1_ n2_; (try clear hb); (try clear hb2); (try clear hk); (try clear hi); obtain ⟨Ao24, co24, eo24⟩ := Kd.S_slice HO410.out; subst eo24) | ((with_reducible refine gate_callee (f := 31) rfl ?_); refine goesL_ (some 21) rfl rfl Try.func31 (by kernel_rfl) rfl #[.slice Ao24 t408.length co24] rfl (by (try simp only [List.map_toArray, List.map_cons, List.map_nil]); first | done | rfl | (simp only [List.length_drop, List.length_take]; rfl)) ?_; (with_reducible refine (spec_StepsLength.calls k _ _ t408 t420 _ ?side1 ?side2 A19.out).mono ?_); (case side1 => repeat (first | exact (Kd.S_reads' HO410.out).2.2 | (with_reducible refine Kd.C_alloc ?_ _) | (with_reducible refine Kd.C_drewN ?_ _) | (with_reducible refine Kd.C_drew ?_))); (case side2 => exact (Kd.S_reads' HO410.out).2.1); rintro e w25 ⟨rfl, hb⟩; refine ⟨_, rfl, ?_⟩; have n0_ := Aside0.mk (Kd.S_below (by (with_reducible repeat (first | apply Kd.S_alloc | apply Kd.S_drewN | apply Kd.S_drew)); exact HO410.out) hb); have n1_ := Aside0.mk (IsS58.below (by repeat (first | (with_reducible first | exact HI407.out | apply IsS58.alloc | apply IsS58.drewN | apply IsS58.drew | apply IsS58.set_1) | exact HI407.out)) hb); have n2_ := Aside0.mk (below_step (by repeat (first | (with_reducible first | exact HB.out | apply below_alloc | apply pw_below_drewN | apply below_drew1 | refine below_set ?_ (IsS58.ge HI407.out)) | exact HB.out)) hb); clear HO410; clear HI407; clear HB; have HO410 := n0_; have HI407 := n1_; have HB := n2_; clear n0_ n1_ n2_; (try clear hb); (try clear hb2); (try clear hk); (try clear hi)) | ((with_reducible refine gate_callee (f := 49) rfl ?_); refine goesL_ (some 23) rfl rfl Try.func49 (by kernel_rfl) rfl #[.pointer (some ⟨g407, 0, none⟩), .int .i64 12] rfl (by (try simp only [List.map_toArray, List.map_cons, List.map_nil]); first | done | rfl | (simp only [List.length_drop, List.length_take]; rfl)) ?_; (with_reducible refine (spec_l6Rd_pick.calls k g407 t405 t413 12 t421 t422 w _ ?side1 ?side2 A20.out).mono ?_); (case side1 => repeat (first | (with_reducible first | exact HI407.out | apply IsS58.alloc | apply IsS58.drewN | apply IsS58.drew | apply IsS58.set_1) | exact HI407.out)); (case side2 => repeat (first | (with_reducible first | exact HB.out | apply below_alloc | apply pw_below_drewN | apply below_drew1 | refine below_set ?_ (IsS58.ge HI407.out)) | exact HB.out)); rintro e w26 ⟨rfl, hi, hb, hk⟩; refine ⟨_, rfl, ?_⟩; have n0_ := Aside0.mk (Kd.S_mono (Kd.S_keep (IsS58.apartS (show IsS58 w _ g407 t405 t413 from by repeat (first | (with_reducible first | exact HI407.out | apply IsS58.alloc | apply IsS58.drewN | apply IsS58.drew | apply IsS58.set_1) | exact HI407.out)) (by (with_reducible repeat (first | apply Kd.S_alloc | apply Kd.S_drewN | apply Kd.S_drew)); exact HO410.out) (by decide)) hk (fun _ h => h.2)) (fun _ h => h.1)); have n1_ := Aside0.mk (hb); have n2_ := Aside0.mk (hi); clear HO410; clear HB; clear HI407; have HO410 := n0_; have HB := n1_; have HI407 := n2_; clear n0_ n1_ n2_; (try clear hb); (try clear hb2); (try clear hk); (try clear hi)))
  go_ret2
  exact ⟨_, by first | rfl | (simp [errW_none, errW_some] <;> rfl) | (simp [*, errW_none, errW_some] <;> rfl), by (with_reducible repeat (first | apply Kd.S_alloc | apply Kd.S_drewN | apply Kd.S_drew)); exact HO410.out, by repeat (first | (with_reducible first | exact HB.out | apply below_alloc | apply pw_below_drewN | apply below_drew1 | refine below_set ?_ (IsS58.ge HI407.out)) | exact HB.out)⟩

end Go.Proofs.Ytegfpoagplpjiaa.PAll
