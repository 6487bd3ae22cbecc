-- PRINTED by print.py (a twelfth state) out of the translation. Not trusted: Lean checks it.
import Derived.Test.YtegfpoagplpjiaaPAllx0
import Derived.Test.YtegfpoagplpjiaaPAllx11
import Derived.Test.YtegfpoagplpjiaaPAllx13
import Derived.Test.YtegfpoagplpjiaaPAllx14
import Derived.Test.YtegfpoagplpjiaaPAllx15
namespace Go.Proofs.Ytegfpoagplpjiaa.PAll
open Go.RowKit Go.Proofs.YtegfpoagplpjiaaW.PrintWords Go.Proofs.YtegfpoagplpjiaaW.PrintLast Go.Proofs.YtegfpoagplpjiaaW.PrintMore
attribute [local go_sem] max2_int min2_int max_two min_two max_three min_three max_four min_four   -- for this text's walks alone
set_option linter.unusedVariables false
set_option linter.unusedSimpArgs false

/-! ### laws_FnStepsLate: function 11 -/
mutual
def laws_FnStepsLate.j0 : Nat → List (S28) → Int → List Int → Bool → List Int → Bool → Bool → Option (Bool)
 | 0, _, _, _, _, _, _, _ => none
 | k + 1, x3, x4, x5, x6, x7, x8, x44 => if x44 = true then (if (x6 == x8) = true then ((laws_sameInts.f k x5 x7).bind fun t473 => (some t473)) else (some false)) else (laws_FnStepsLate.l0 k x3 x4 x5 0)
def laws_FnStepsLate.l0 : Nat → List (S28) → Int → List Int → Int → Option (Bool)
 | 0, _, _, _, _ => none
 | k + 1, x3, x4, x5, x9 => if x9 < (x3.length : Int) then (laws_FnStepsLate.j2 k x3 x4 x5 x9 (decide (x9 < (x5.length : Int)))) else (laws_FnStepsLate.j2 k x3 x4 x5 x9 false)
def laws_FnStepsLate.j2 : Nat → List (S28) → Int → List Int → Int → Bool → Option (Bool)
 | 0, _, _, _, _, _ => none
 | k + 1, x3, x4, x5, x9, x62 => if x62 = true then (if 0 ≤ x9 then (if x9 < (x5.length : Int) then (if (rd x5 x9) < 0 then (laws_FnStepsLate.j3 k x3 x4 x5 x9 true) else (if x9 < (x3.length : Int) then (laws_FnStepsLate.j3 k x3 x4 x5 x9 (decide ((wrap64 ((rd x5 x9) + ((rd_T28 x3 x9).f0))) > x4))) else (none))) else (none)) else (none)) else (some ((x5.length : Int) == (x3.length : Int)))
def laws_FnStepsLate.j3 : Nat → List (S28) → Int → List Int → Int → Bool → Option (Bool)
 | 0, _, _, _, _, _ => none
 | k + 1, x3, x4, x5, x9, x83 => if x83 = true then (some false) else (laws_FnStepsLate.l1 k x3 x4 x5 x9 0)
def laws_FnStepsLate.l1 : Nat → List (S28) → Int → List Int → Int → Int → Option (Bool)
 | 0, _, _, _, _, _ => none
 | k + 1, x3, x4, x5, x9, x10 => if 0 ≤ x9 then (if x9 < (x3.length : Int) then (if x10 < (((rd_T28 x3 x9).f3).length : Int) then (if 0 ≤ x10 then (if 0 ≤ (rd ((rd_T28 x3 x9).f3) x10) then (if (rd ((rd_T28 x3 x9).f3) x10) < (x5.length : Int) then (if (rd ((rd_T28 x3 x9).f3) x10) < (x3.length : Int) then (if x9 < (x5.length : Int) then (if (wrap64 ((rd x5 (rd ((rd_T28 x3 x9).f3) x10)) + ((rd_T28 x3 (rd ((rd_T28 x3 x9).f3) x10)).f0))) > (rd x5 x9) then (some false) else (laws_FnStepsLate.l1 k x3 x4 x5 x9 (wrap64 (x10 + 1)))) else (none)) else (none)) else (none)) else (none)) else (none)) else (laws_FnStepsLate.l0 k x3 x4 x5 (wrap64 (x9 + 1)))) else (none)) else (none)
end
def laws_FnStepsLate.f (k : Nat) (l0 : List Int) : Option (Bool) := if (l0.length : Int) > 1048576 then (some true) else ((spec_DrawStepsLate.f k l0).bind fun bt460 => ((impl_StepsLate.f k bt460.1 bt460.2).bind fun bt464 => ((spec_StepsLate.f k bt460.1 bt460.2).bind fun bt468 => (if (bt464.2 != bt468.2) = true then (laws_FnStepsLate.j0 k bt460.1 bt460.2 bt464.1 bt464.2 bt468.1 bt468.2 true) else ((laws_sameInts.f k bt464.1 bt468.1).bind fun t472 => (if t472 = true then (laws_FnStepsLate.j0 k bt460.1 bt460.2 bt464.1 bt464.2 bt468.1 bt468.2 (!bt464.2)) else (laws_FnStepsLate.j0 k bt460.1 bt460.2 bt464.1 bt464.2 bt468.1 bt468.2 true)))))))
set_option maxHeartbeats 8000000 in
set_option maxRecDepth 100000 in
theorem laws_FnStepsLate.calls (k : Nat) (A0 : Option Addr) (c0 : Nat) (l0 : List Int) (r : Bool) (w : World) (hr0 : Kd.C (Kd.int .u8) w A0 l0.length l0) (hc0 : l0.length ≤ c0) (h : laws_FnStepsLate.f k l0 = some r) :
  Calls Try.prog 11 #[.slice A0 l0.length c0] w fun e w' => e = .returned (.bool r) ∧ Below w.heap.size w w' := by
 have HR0 := Aside0.mk hr0
 have HC0 := Aside0.mk hc0
 clear hr0 hc0
 have HB := Aside0.mk (Below.refl w.heap.size w)
 have H : (if (l0.length : Int) > 1048576 then (some true) else ((spec_DrawStepsLate.f k l0).bind fun bt460 => ((impl_StepsLate.f k bt460.1 bt460.2).bind fun bt464 => ((spec_StepsLate.f k bt460.1 bt460.2).bind fun bt468 => (if (bt464.2 != bt468.2) = true then (laws_FnStepsLate.j0 k bt460.1 bt460.2 bt464.1 bt464.2 bt468.1 bt468.2 true) else ((laws_sameInts.f k bt464.1 bt468.1).bind fun t472 => (if t472 = true then (laws_FnStepsLate.j0 k bt460.1 bt460.2 bt464.1 bt464.2 bt468.1 bt468.2 (!bt464.2)) else (laws_FnStepsLate.j0 k bt460.1 bt460.2 bt464.1 bt464.2 bt468.1 bt468.2 true)))))))) = some r := h
 clear h
 by_cases c2 : (l0.length : Int) > 1048576
 ·rw [if_pos c2] at H
  have c2b0 : decide (1048576 < (l0.length : Int)) = true := decide_eq_true c2
  have c2b1 : decide (1048576 < l0.length) = true := decide_eq_true (by omega)
  clear c2
  obtain rfl := Option.some.inj H
  go_enter Try.func11, Try.ntmps11
  go_wp2
  repeat (go_quiet (fail); try go_wp2)
  go_ret
  exact ⟨by first | rfl | (simp [errW_none, errW_some] <;> rfl) | (simp [*, errW_none, errW_some] <;> rfl), by repeat (first | (with_reducible first | exact HB.out | apply below_alloc | apply pw_below_drewN | apply below_drew1) | exact HB.out)⟩
 ·rw [if_neg c2] at H
  have c2b0 : decide (1048576 < (l0.length : Int)) = false := decide_eq_false c2
  have c2b1 : decide (1048576 < l0.length) = false := decide_eq_false (by omega)
  clear c2
  replace H := Option.bind_eq_some_iff.mp H
  obtain ⟨⟨t460, t461⟩, A30, H⟩ := H
  replace H : ((impl_StepsLate.f k t460 t461).bind fun bt464 => ((spec_StepsLate.f k t460 t461).bind fun bt468 => (if (bt464.2 != bt468.2) = true then (laws_FnStepsLate.j0 k t460 t461 bt464.1 bt464.2 bt468.1 bt468.2 true) else ((laws_sameInts.f k bt464.1 bt468.1).bind fun t472 => (if t472 = true then (laws_FnStepsLate.j0 k t460 t461 bt464.1 bt464.2 bt468.1 bt468.2 (!bt464.2)) else (laws_FnStepsLate.j0 k t460 t461 bt464.1 bt464.2 bt468.1 bt468.2 true)))))) = some r := H
  have A3 := Aside0.mk A30
  clear A30
  replace H := Option.bind_eq_some_iff.mp H
  obtain ⟨⟨t464, t465⟩, A40, H⟩ := H
  replace H : ((spec_StepsLate.f k t460 t461).bind fun bt468 => (if (t465 != bt468.2) = true then (laws_FnStepsLate.j0 k t460 t461 t464 t465 bt468.1 bt468.2 true) else ((laws_sameInts.f k t464 bt468.1).bind fun t472 => (if t472 = true then (laws_FnStepsLate.j0 k t460 t461 t464 t465 bt468.1 bt468.2 (!t465)) else (laws_FnStepsLate.j0 k t460 t461 t464 t465 bt468.1 bt468.2 true))))) = some r := H
  have A4 := Aside0.mk A40
  clear A40
  replace H := Option.bind_eq_some_iff.mp H
  obtain ⟨⟨t468, t469⟩, A50, H⟩ := H
  replace H : (if (t465 != t469) = true then (laws_FnStepsLate.j0 k t460 t461 t464 t465 t468 t469 true) else ((laws_sameInts.f k t464 t468).bind fun t472 => (if t472 = true then (laws_FnStepsLate.j0 k t460 t461 t464 t465 t468 t469 (!t465)) else (laws_FnStepsLate.j0 k t460 t461 t464 t465 t468 t469 true)))) = some r := H
  have A5 := Aside0.mk A50
  clear A50
  have HC6 := Aside0.mk H
  clear H
  go_enter Try.func11, Try.ntmps11
  go_upto_region 6 with (first | (go_at_call 32; (with_reducible refine (spec_DrawStepsLate.calls k _ _ l0 t460 t461 _ ?side1 ?side2 A3.out).mono ?_); (case side1 => repeat (first | exact HR0.out | (with_reducible refine Kd.C_alloc ?_ _) | (with_reducible refine Kd.C_drewN ?_ _) | (with_reducible refine Kd.C_drew ?_))); (case side2 => exact HC0.out); rintro e w7 ⟨v462, rfl, ho0, hb⟩; have n0_ := Aside0.mk (Kd.S_lower ho0 (below_size (by repeat (first | (with_reducible first | exact HB.out | apply below_alloc | apply pw_below_drewN | apply below_drew1) | exact HB.out)))); have n1_ := Aside0.mk (below_step (by repeat (first | (with_reducible first | exact HB.out | apply below_alloc | apply pw_below_drewN | apply below_drew1) | exact HB.out)) hb); clear HB; have HO463 := n0_; have HB := n1_; clear n0_ n1_; (try clear hb); (try clear hb2); (try clear hk); (try clear hi); (try clear ho0); obtain ⟨Ao8, co8, eo8⟩ := Kd.S_slice HO463.out; subst eo8) | (go_at_call 33; (with_reducible refine (impl_StepsLate.calls k _ _ t460 t461 t464 t465 _ ?side1 ?side2 A4.out).mono ?_); (case side1 => repeat (first | exact (Kd.S_reads' HO463.out).2.2 | (with_reducible refine Kd.C_alloc ?_ _) | (with_reducible refine Kd.C_drewN ?_ _) | (with_reducible refine Kd.C_drew ?_))); (case side2 => exact (Kd.S_reads' HO463.out).2.1); rintro e w9 ⟨v466, rfl, ho0, hb⟩; have n0_ := Aside0.mk (Kd.S_elder' (by (with_reducible repeat (first | apply Kd.S_alloc | apply Kd.S_drewN | apply Kd.S_drew)); exact HO463.out) (Kd.R_base ho0) hb); have n1_ := Aside0.mk (Kd.R_lower ho0 (below_size (by repeat (first | (with_reducible first | exact HB.out | apply below_alloc | apply pw_below_drewN | apply below_drew1) | exact HB.out)))); have n2_ := Aside0.mk (below_step (by repeat (first | (with_reducible first | exact HB.out | apply below_alloc | apply pw_below_drewN | apply below_drew1) | exact HB.out)) hb); clear HO463; clear HB; have HO463 := n0_; have HO467 := n1_; have HB := n2_; clear n0_ n1_ n2_; (try clear hb); (try clear hb2); (try clear hk); (try clear hi); (try clear ho0)) | (go_at_call 34; (with_reducible refine (spec_StepsLate.calls k _ _ t460 t461 t468 t469 _ ?side1 ?side2 A5.out).mono ?_); (case side1 => repeat (first | exact (Kd.S_reads' HO463.out).2.2 | (with_reducible refine Kd.C_alloc ?_ _) | (with_reducible refine Kd.C_drewN ?_ _) | (with_reducible refine Kd.C_drew ?_))); (case side2 => exact (Kd.S_reads' HO463.out).2.1); rintro e w10 ⟨v470, rfl, ho0, hb⟩; have n0_ := Aside0.mk (Kd.S_elder' (by (with_reducible repeat (first | apply Kd.S_alloc | apply Kd.S_drewN | apply Kd.S_drew)); exact HO463.out) (Kd.R_base ho0) hb); have n1_ := Aside0.mk (Kd.R_elder' (by (with_reducible repeat (first | apply Kd.R_alloc | apply Kd.R_drewN | apply Kd.R_drew)); exact HO467.out) (Kd.R_base ho0) hb); have n2_ := Aside0.mk (Kd.R_lower (Kd.R_new' ho0 (Kd.R_lt (by (with_reducible repeat (first | apply Kd.R_alloc | apply Kd.R_drewN | apply Kd.R_drew)); exact HO467.out))) (below_size (by repeat (first | (with_reducible first | exact HB.out | apply below_alloc | apply pw_below_drewN | apply below_drew1) | exact HB.out)))); have n3_ := Aside0.mk (below_step (by repeat (first | (with_reducible first | exact HB.out | apply below_alloc | apply pw_below_drewN | apply below_drew1) | exact HB.out)) hb); clear HO463; clear HO467; clear HB; have HO463 := n0_; have HO467 := n1_; have HO471 := n2_; have HB := n3_; clear n0_ n1_ n2_ n3_; (try clear hb); (try clear hb2); (try clear hk); (try clear hi); (try clear ho0)))
  repeat (go_quiet (first | (go_at_call 32; (with_reducible refine (spec_DrawStepsLate.calls k _ _ l0 t460 t461 _ ?side1 ?side2 A3.out).mono ?_); (case side1 => repeat (first | exact HR0.out | (with_reducible refine Kd.C_alloc ?_ _) | (with_reducible refine Kd.C_drewN ?_ _) | (with_reducible refine Kd.C_drew ?_))); (case side2 => exact HC0.out); rintro e w7 ⟨v462, rfl, ho0, hb⟩; have n0_ := Aside0.mk (Kd.S_lower ho0 (below_size (by repeat (first | (with_reducible first | exact HB.out | apply below_alloc | apply pw_below_drewN | apply below_drew1) | exact HB.out)))); have n1_ := Aside0.mk (below_step (by repeat (first | (with_reducible first | exact HB.out | apply below_alloc | apply pw_below_drewN | apply below_drew1) | exact HB.out)) hb); clear HB; have HO463 := n0_; have HB := n1_; clear n0_ n1_; (try clear hb); (try clear hb2); (try clear hk); (try clear hi); (try clear ho0); obtain ⟨Ao8, co8, eo8⟩ := Kd.S_slice HO463.out; subst eo8) | (go_at_call 33; (with_reducible refine (impl_StepsLate.calls k _ _ t460 t461 t464 t465 _ ?side1 ?side2 A4.out).mono ?_); (case side1 => repeat (first | exact (Kd.S_reads' HO463.out).2.2 | (with_reducible refine Kd.C_alloc ?_ _) | (with_reducible refine Kd.C_drewN ?_ _) | (with_reducible refine Kd.C_drew ?_))); (case side2 => exact (Kd.S_reads' HO463.out).2.1); rintro e w9 ⟨v466, rfl, ho0, hb⟩; have n0_ := Aside0.mk (Kd.S_elder' (by (with_reducible repeat (first | apply Kd.S_alloc | apply Kd.S_drewN | apply Kd.S_drew)); exact HO463.out) (Kd.R_base ho0) hb); have n1_ := Aside0.mk (Kd.R_lower ho0 (below_size (by repeat (first | (with_reducible first | exact HB.out | apply below_alloc | apply pw_below_drewN | apply below_drew1) | exact HB.out)))); have n2_ := Aside0.mk (below_step (by repeat (first | (with_reducible first | exact HB.out | apply below_alloc | apply pw_below_drewN | apply below_drew1) | exact HB.out)) hb); clear HO463; clear HB; have HO463 := n0_; have HO467 := n1_; have HB := n2_; clear n0_ n1_ n2_; (try clear hb); (try clear hb2); (try clear hk); (try clear hi); (try clear ho0)) | (go_at_call 34; (with_reducible refine (spec_StepsLate.calls k _ _ t460 t461 t468 t469 _ ?side1 ?side2 A5.out).mono ?_); (case side1 => repeat (first | exact (Kd.S_reads' HO463.out).2.2 | (with_reducible refine Kd.C_alloc ?_ _) | (with_reducible refine Kd.C_drewN ?_ _) | (with_reducible refine Kd.C_drew ?_))); (case side2 => exact (Kd.S_reads' HO463.out).2.1); rintro e w10 ⟨v470, rfl, ho0, hb⟩; have n0_ := Aside0.mk (Kd.S_elder' (by (with_reducible repeat (first | apply Kd.S_alloc | apply Kd.S_drewN | apply Kd.S_drew)); exact HO463.out) (Kd.R_base ho0) hb); have n1_ := Aside0.mk (Kd.R_elder' (by (with_reducible repeat (first | apply Kd.R_alloc | apply Kd.R_drewN | apply Kd.R_drew)); exact HO467.out) (Kd.R_base ho0) hb); have n2_ := Aside0.mk (Kd.R_lower (Kd.R_new' ho0 (Kd.R_lt (by (with_reducible repeat (first | apply Kd.R_alloc | apply Kd.R_drewN | apply Kd.R_drew)); exact HO467.out))) (below_size (by repeat (first | (with_reducible first | exact HB.out | apply below_alloc | apply pw_below_drewN | apply below_drew1) | exact HB.out)))); have n3_ := Aside0.mk (below_step (by repeat (first | (with_reducible first | exact HB.out | apply below_alloc | apply pw_below_drewN | apply below_drew1) | exact HB.out)) hb); clear HO463; clear HO467; clear HB; have HO463 := n0_; have HO467 := n1_; have HO471 := n2_; have HB := n3_; clear n0_ n1_ n2_ n3_; (try clear hb); (try clear hb2); (try clear hk); (try clear hi); (try clear ho0))); go_upto_region 6 with (first | (go_at_call 32; (with_reducible refine (spec_DrawStepsLate.calls k _ _ l0 t460 t461 _ ?side1 ?side2 A3.out).mono ?_); (case side1 => repeat (first | exact HR0.out | (with_reducible refine Kd.C_alloc ?_ _) | (with_reducible refine Kd.C_drewN ?_ _) | (with_reducible refine Kd.C_drew ?_))); (case side2 => exact HC0.out); rintro e w7 ⟨v462, rfl, ho0, hb⟩; have n0_ := Aside0.mk (Kd.S_lower ho0 (below_size (by repeat (first | (with_reducible first | exact HB.out | apply below_alloc | apply pw_below_drewN | apply below_drew1) | exact HB.out)))); have n1_ := Aside0.mk (below_step (by repeat (first | (with_reducible first | exact HB.out | apply below_alloc | apply pw_below_drewN | apply below_drew1) | exact HB.out)) hb); clear HB; have HO463 := n0_; have HB := n1_; clear n0_ n1_; (try clear hb); (try clear hb2); (try clear hk); (try clear hi); (try clear ho0); obtain ⟨Ao8, co8, eo8⟩ := Kd.S_slice HO463.out; subst eo8) | (go_at_call 33; (with_reducible refine (impl_StepsLate.calls k _ _ t460 t461 t464 t465 _ ?side1 ?side2 A4.out).mono ?_); (case side1 => repeat (first | exact (Kd.S_reads' HO463.out).2.2 | (with_reducible refine Kd.C_alloc ?_ _) | (with_reducible refine Kd.C_drewN ?_ _) | (with_reducible refine Kd.C_drew ?_))); (case side2 => exact (Kd.S_reads' HO463.out).2.1); rintro e w9 ⟨v466, rfl, ho0, hb⟩; have n0_ := Aside0.mk (Kd.S_elder' (by (with_reducible repeat (first | apply Kd.S_alloc | apply Kd.S_drewN | apply Kd.S_drew)); exact HO463.out) (Kd.R_base ho0) hb); have n1_ := Aside0.mk (Kd.R_lower ho0 (below_size (by repeat (first | (with_reducible first | exact HB.out | apply below_alloc | apply pw_below_drewN | apply below_drew1) | exact HB.out)))); have n2_ := Aside0.mk (below_step (by repeat (first | (with_reducible first | exact HB.out | apply below_alloc | apply pw_below_drewN | apply below_drew1) | exact HB.out)) hb); clear HO463; clear HB; have HO463 := n0_; have HO467 := n1_; have HB := n2_; clear n0_ n1_ n2_; (try clear hb); (try clear hb2); (try clear hk); (try clear hi); (try clear ho0)) | (go_at_call 34; (with_reducible refine (spec_StepsLate.calls k _ _ t460 t461 t468 t469 _ ?side1 ?side2 A5.out).mono ?_); (case side1 => repeat (first | exact (Kd.S_reads' HO463.out).2.2 | (with_reducible refine Kd.C_alloc ?_ _) | (with_reducible refine Kd.C_drewN ?_ _) | (with_reducible refine Kd.C_drew ?_))); (case side2 => exact (Kd.S_reads' HO463.out).2.1); rintro e w10 ⟨v470, rfl, ho0, hb⟩; have n0_ := Aside0.mk (Kd.S_elder' (by (with_reducible repeat (first | apply Kd.S_alloc | apply Kd.S_drewN | apply Kd.S_drew)); exact HO463.out) (Kd.R_base ho0) hb); have n1_ := Aside0.mk (Kd.R_elder' (by (with_reducible repeat (first | apply Kd.R_alloc | apply Kd.R_drewN | apply Kd.R_drew)); exact HO467.out) (Kd.R_base ho0) hb); have n2_ := Aside0.mk (Kd.R_lower (Kd.R_new' ho0 (Kd.R_lt (by (with_reducible repeat (first | apply Kd.R_alloc | apply Kd.R_drewN | apply Kd.R_drew)); exact HO467.out))) (below_size (by repeat (first | (with_reducible first | exact HB.out | apply below_alloc | apply pw_below_drewN | apply below_drew1) | exact HB.out)))); have n3_ := Aside0.mk (below_step (by repeat (first | (with_reducible first | exact HB.out | apply below_alloc | apply pw_below_drewN | apply below_drew1) | exact HB.out)) hb); clear HO463; clear HO467; clear HB; have HO463 := n0_; have HO467 := n1_; have HO471 := n2_; have HB := n3_; clear n0_ n1_ n2_ n3_; (try clear hb); (try clear hb2); (try clear hk); (try clear hi); (try clear ho0))))
  (try simp only [Act.put, List.setIfInBounds_toArray, List.set_cons_zero, List.set_cons_succ])
  go_cut [44] (fun v44 wc => ∃ (kq : Nat) (x44_5 : Bool), v44 = .bool x44_5 ∧ Aside0 (laws_FnStepsLate.j0 kq t460 t461 t464 t465 t468 t469 x44_5 = some r) ∧ Aside0 (kq ≤ k) ∧ Aside0 (Kd.S k28 28 wc w.heap.size (fun k_ => some k_ ≠ (v466 : Value).ownBlock ∧ some k_ ≠ (v470 : Value).ownBlock) (.slice Ao8 t460.length co8) t460) ∧ Aside0 (Kd.R (Kd.int .i64) 3 wc w.heap.size (fun k_ => some k_ ≠ (v470 : Value).ownBlock) v466 t464) ∧ Aside0 (Kd.R (Kd.int .i64) 3 wc w.heap.size (fun k_ => some k_ ≠ (v466 : Value).ownBlock) v470 t468) ∧ Aside0 (Below w.heap.size w wc))
  case first =>
   have H := HC6.out
   clear HC6
   by_cases c11 : (t465 != t469) = true
   ·rw [if_pos c11] at H
    have c11b0 : (t465 != t469) = true := c11
    (try (have c11b1 : decide (t465 = t469) = false := by simpa using c11))
    (try (have c11b2 : (t465 == t469) = false := by simpa using c11))
    (try (have c11b3 : ¬ (t465 = t469) := by simpa using c11))
    clear c11
    (first | rw [c11b0] | (simp only [i64_w, i32_w]; rw [c11b0]) | skip)
    have H' := Aside0.mk H
    clear H
    go_wp2
    repeat (go_quiet (fail); try go_wp2)
    go_meet
    case rel => exact ⟨_, (true), (by first | rfl | (simp; done) | (simp [*]; done)), H', ⟨by first | omega | exact Nat.le_refl _⟩, ⟨by (with_reducible repeat (first | apply Kd.S_alloc | apply Kd.S_drewN | apply Kd.S_drew)); exact Kd.S_mono HO463.out (fun _ hk => ⟨hk.1.2, hk.2⟩)⟩, ⟨by (with_reducible repeat (first | apply Kd.R_alloc | apply Kd.R_drewN | apply Kd.R_drew)); exact Kd.R_mono HO467.out (fun _ hk => hk.2)⟩, ⟨by (with_reducible repeat (first | apply Kd.R_alloc | apply Kd.R_drewN | apply Kd.R_drew)); exact Kd.R_mono HO471.out (fun _ hk => hk.2)⟩, ⟨by repeat (first | (with_reducible first | exact HB.out | apply below_alloc | apply pw_below_drewN | apply below_drew1) | exact HB.out)⟩⟩
   ·rw [if_neg c11] at H
    have c11b0 : (t465 != t469) = false := by simpa using c11
    (try (have c11b1 : decide (t465 = t469) = true := by simpa using c11))
    (try (have c11b2 : (t465 == t469) = true := by simpa using c11))
    clear c11
    (first | rw [c11b0] | (simp only [i64_w, i32_w]; rw [c11b0]) | skip)
    replace H := Option.bind_eq_some_iff.mp H
    obtain ⟨t472, A120, H⟩ := H
    replace H : (if t472 = true then (laws_FnStepsLate.j0 k t460 t461 t464 t465 t468 t469 (!t465)) else (laws_FnStepsLate.j0 k t460 t461 t464 t465 t468 t469 true)) = some r := H
    have A12 := Aside0.mk A120
    clear A120
    by_cases c13 : t472 = true
    ·subst c13
     have H1 : (laws_FnStepsLate.j0 k t460 t461 t464 t465 t468 t469 (!t465)) = some r := by rw [if_pos rfl] at H; exact H
     clear H
     have H := H1
     clear H1
     have H' := Aside0.mk H
     clear H
     obtain ⟨Ao14, co14, eo14⟩ := Kd.R_slice HO467.out
     subst eo14
     obtain ⟨Ao15, co15, eo15⟩ := Kd.R_slice HO471.out
     subst eo15
     go_wp2_with (first | (go_at_call 28; (with_reducible refine (laws_sameInts.calls k _ _ t464 _ _ t468 true _ ?side1 ?side2 ?side3 ?side4 A12.out).mono ?_); (case side1 => repeat (first | exact (Kd.R_reads' HO467.out).2.2 | (with_reducible refine Kd.C_alloc ?_ _) | (with_reducible refine Kd.C_drewN ?_ _) | (with_reducible refine Kd.C_drew ?_))); (case side2 => exact (Kd.R_reads' HO467.out).2.1); (case side3 => repeat (first | exact (Kd.R_reads' HO471.out).2.2 | (with_reducible refine Kd.C_alloc ?_ _) | (with_reducible refine Kd.C_drewN ?_ _) | (with_reducible refine Kd.C_drew ?_))); (case side4 => exact (Kd.R_reads' HO471.out).2.1); rintro e w' ⟨rfl, ⟨nd, rfl⟩⟩; (try first | exact ⟨rfl, _, World.drewN_drewN _ _ _⟩ | exact ⟨rfl, _, Eq.trans (World.drewN_drewN _ _ _) (congrArg (World.drewN _) (Nat.add_assoc _ _ _))⟩)))
     repeat (go_quiet (first | (go_at_call 28; (with_reducible refine (laws_sameInts.calls k _ _ t464 _ _ t468 true _ ?side1 ?side2 ?side3 ?side4 A12.out).mono ?_); (case side1 => repeat (first | exact (Kd.R_reads' HO467.out).2.2 | (with_reducible refine Kd.C_alloc ?_ _) | (with_reducible refine Kd.C_drewN ?_ _) | (with_reducible refine Kd.C_drew ?_))); (case side2 => exact (Kd.R_reads' HO467.out).2.1); (case side3 => repeat (first | exact (Kd.R_reads' HO471.out).2.2 | (with_reducible refine Kd.C_alloc ?_ _) | (with_reducible refine Kd.C_drewN ?_ _) | (with_reducible refine Kd.C_drew ?_))); (case side4 => exact (Kd.R_reads' HO471.out).2.1); rintro e w' ⟨rfl, ⟨nd, rfl⟩⟩; (try first | exact ⟨rfl, _, World.drewN_drewN _ _ _⟩ | exact ⟨rfl, _, Eq.trans (World.drewN_drewN _ _ _) (congrArg (World.drewN _) (Nat.add_assoc _ _ _))⟩))); try go_wp2_with (first | (go_at_call 28; (with_reducible refine (laws_sameInts.calls k _ _ t464 _ _ t468 true _ ?side1 ?side2 ?side3 ?side4 A12.out).mono ?_); (case side1 => repeat (first | exact (Kd.R_reads' HO467.out).2.2 | (with_reducible refine Kd.C_alloc ?_ _) | (with_reducible refine Kd.C_drewN ?_ _) | (with_reducible refine Kd.C_drew ?_))); (case side2 => exact (Kd.R_reads' HO467.out).2.1); (case side3 => repeat (first | exact (Kd.R_reads' HO471.out).2.2 | (with_reducible refine Kd.C_alloc ?_ _) | (with_reducible refine Kd.C_drewN ?_ _) | (with_reducible refine Kd.C_drew ?_))); (case side4 => exact (Kd.R_reads' HO471.out).2.1); rintro e w' ⟨rfl, ⟨nd, rfl⟩⟩; (try first | exact ⟨rfl, _, World.drewN_drewN _ _ _⟩ | exact ⟨rfl, _, Eq.trans (World.drewN_drewN _ _ _) (congrArg (World.drewN _) (Nat.add_assoc _ _ _))⟩))))
     go_meet
     case rel => exact ⟨_, (!t465), (by first | rfl | (simp; done) | (simp [*]; done)), H', ⟨by first | omega | exact Nat.le_refl _⟩, ⟨by (with_reducible repeat (first | apply Kd.S_alloc | apply Kd.S_drewN | apply Kd.S_drew)); exact Kd.S_mono HO463.out (fun _ hk => ⟨hk.1.2, hk.2⟩)⟩, ⟨by (with_reducible repeat (first | apply Kd.R_alloc | apply Kd.R_drewN | apply Kd.R_drew)); exact Kd.R_mono HO467.out (fun _ hk => hk.2)⟩, ⟨by (with_reducible repeat (first | apply Kd.R_alloc | apply Kd.R_drewN | apply Kd.R_drew)); exact Kd.R_mono HO471.out (fun _ hk => hk.2)⟩, ⟨by repeat (first | (with_reducible first | exact HB.out | apply below_alloc | apply pw_below_drewN | apply below_drew1) | exact HB.out)⟩⟩
    ·replace c13 := Bool.eq_false_iff.mpr c13
     subst c13
     have H1 : (laws_FnStepsLate.j0 k t460 t461 t464 t465 t468 t469 true) = some r := by rw [if_neg (show ¬ (false = true) by decide)] at H; exact H
     clear H
     have H := H1
     clear H1
     have H' := Aside0.mk H
     clear H
     obtain ⟨Ao16, co16, eo16⟩ := Kd.R_slice HO467.out
     subst eo16
     obtain ⟨Ao17, co17, eo17⟩ := Kd.R_slice HO471.out
     subst eo17
     go_wp2_with (first | (go_at_call 28; (with_reducible refine (laws_sameInts.calls k _ _ t464 _ _ t468 false _ ?side1 ?side2 ?side3 ?side4 A12.out).mono ?_); (case side1 => repeat (first | exact (Kd.R_reads' HO467.out).2.2 | (with_reducible refine Kd.C_alloc ?_ _) | (with_reducible refine Kd.C_drewN ?_ _) | (with_reducible refine Kd.C_drew ?_))); (case side2 => exact (Kd.R_reads' HO467.out).2.1); (case side3 => repeat (first | exact (Kd.R_reads' HO471.out).2.2 | (with_reducible refine Kd.C_alloc ?_ _) | (with_reducible refine Kd.C_drewN ?_ _) | (with_reducible refine Kd.C_drew ?_))); (case side4 => exact (Kd.R_reads' HO471.out).2.1); rintro e w' ⟨rfl, ⟨nd, rfl⟩⟩; (try first | exact ⟨rfl, _, World.drewN_drewN _ _ _⟩ | exact ⟨rfl, _, Eq.trans (World.drewN_drewN _ _ _) (congrArg (World.drewN _) (Nat.add_assoc _ _ _))⟩)))
     repeat (go_quiet (first | (go_at_call 28; (with_reducible refine (laws_sameInts.calls k _ _ t464 _ _ t468 false _ ?side1 ?side2 ?side3 ?side4 A12.out).mono ?_); (case side1 => repeat (first | exact (Kd.R_reads' HO467.out).2.2 | (with_reducible refine Kd.C_alloc ?_ _) | (with_reducible refine Kd.C_drewN ?_ _) | (with_reducible refine Kd.C_drew ?_))); (case side2 => exact (Kd.R_reads' HO467.out).2.1); (case side3 => repeat (first | exact (Kd.R_reads' HO471.out).2.2 | (with_reducible refine Kd.C_alloc ?_ _) | (with_reducible refine Kd.C_drewN ?_ _) | (with_reducible refine Kd.C_drew ?_))); (case side4 => exact (Kd.R_reads' HO471.out).2.1); rintro e w' ⟨rfl, ⟨nd, rfl⟩⟩; (try first | exact ⟨rfl, _, World.drewN_drewN _ _ _⟩ | exact ⟨rfl, _, Eq.trans (World.drewN_drewN _ _ _) (congrArg (World.drewN _) (Nat.add_assoc _ _ _))⟩))); try go_wp2_with (first | (go_at_call 28; (with_reducible refine (laws_sameInts.calls k _ _ t464 _ _ t468 false _ ?side1 ?side2 ?side3 ?side4 A12.out).mono ?_); (case side1 => repeat (first | exact (Kd.R_reads' HO467.out).2.2 | (with_reducible refine Kd.C_alloc ?_ _) | (with_reducible refine Kd.C_drewN ?_ _) | (with_reducible refine Kd.C_drew ?_))); (case side2 => exact (Kd.R_reads' HO467.out).2.1); (case side3 => repeat (first | exact (Kd.R_reads' HO471.out).2.2 | (with_reducible refine Kd.C_alloc ?_ _) | (with_reducible refine Kd.C_drewN ?_ _) | (with_reducible refine Kd.C_drew ?_))); (case side4 => exact (Kd.R_reads' HO471.out).2.1); rintro e w' ⟨rfl, ⟨nd, rfl⟩⟩; (try first | exact ⟨rfl, _, World.drewN_drewN _ _ _⟩ | exact ⟨rfl, _, Eq.trans (World.drewN_drewN _ _ _) (congrArg (World.drewN _) (Nat.add_assoc _ _ _))⟩))))
     go_meet
     case rel => exact ⟨_, (true), (by first | rfl | (simp; done) | (simp [*]; done)), H', ⟨by first | omega | exact Nat.le_refl _⟩, ⟨by (with_reducible repeat (first | apply Kd.S_alloc | apply Kd.S_drewN | apply Kd.S_drew)); exact Kd.S_mono HO463.out (fun _ hk => ⟨hk.1.2, hk.2⟩)⟩, ⟨by (with_reducible repeat (first | apply Kd.R_alloc | apply Kd.R_drewN | apply Kd.R_drew)); exact Kd.R_mono HO467.out (fun _ hk => hk.2)⟩, ⟨by (with_reducible repeat (first | apply Kd.R_alloc | apply Kd.R_drewN | apply Kd.R_drew)); exact Kd.R_mono HO471.out (fun _ hk => hk.2)⟩, ⟨by repeat (first | (with_reducible first | exact HB.out | apply below_alloc | apply pw_below_drewN | apply below_drew1) | exact HB.out)⟩⟩
  case rest =>
   clear HC6
   try clear c1
   try clear c2
   try clear c2b0
   try clear c2b1
   try clear p2
   try clear c11
   try clear c11b0
   try clear c11b1
   try clear c11b2
   try clear c13
   obtain ⟨kq, x44_5, rfl, HA, HJ5, HO_3, HO_5, HO_7, HB⟩ := hcut
   cases kq with
   | zero => exact absurd HA.out (by simp [laws_FnStepsLate.j0])
   | succ kj5 =>
    have H := HA.out
    clear HA
    simp only [laws_FnStepsLate.j0] at H
    by_cases c18 : x44_5 = true
    ·subst c18
     have H1 : (if (t465 == t469) = true then ((laws_sameInts.f kj5 t464 t468).bind fun t473 => (some t473)) else (some false)) = some r := by rw [if_pos rfl] at H; exact H
     clear H
     have H := H1
     clear H1
     by_cases c19 : (t465 == t469) = true
     ·rw [if_pos c19] at H
      have c19b0 : (t465 == t469) = true := c19
      (try (have c19b1 : decide (t465 = t469) = true := by simpa using c19))
      (try (have c19b2 : (t465 == t469) = true := by simpa using c19))
      clear c19
      replace H := Option.bind_eq_some_iff.mp H
      obtain ⟨t473, A200, H⟩ := H
      replace H : (some t473) = some r := H
      have A20 := Aside0.mk A200
      clear A200
      obtain rfl := Option.some.inj H
      obtain ⟨Ao21, co21, eo21⟩ := Kd.R_slice HO_5.out
      subst eo21
      obtain ⟨Ao22, co22, eo22⟩ := Kd.R_slice HO_7.out
      subst eo22
      go_wp2_with (first | (go_at_call 28; (with_reducible refine (laws_sameInts.calls kj5 _ _ t464 _ _ t468 t473 _ ?side1 ?side2 ?side3 ?side4 A20.out).mono ?_); (case side1 => repeat (first | exact (Kd.R_reads' HO_5.out).2.2 | (with_reducible refine Kd.C_alloc ?_ _) | (with_reducible refine Kd.C_drewN ?_ _) | (with_reducible refine Kd.C_drew ?_))); (case side2 => exact (Kd.R_reads' HO_5.out).2.1); (case side3 => repeat (first | exact (Kd.R_reads' HO_7.out).2.2 | (with_reducible refine Kd.C_alloc ?_ _) | (with_reducible refine Kd.C_drewN ?_ _) | (with_reducible refine Kd.C_drew ?_))); (case side4 => exact (Kd.R_reads' HO_7.out).2.1); rintro e w' ⟨rfl, ⟨nd, rfl⟩⟩; (try first | exact ⟨rfl, _, World.drewN_drewN _ _ _⟩ | exact ⟨rfl, _, Eq.trans (World.drewN_drewN _ _ _) (congrArg (World.drewN _) (Nat.add_assoc _ _ _))⟩)))
      repeat (go_quiet (first | (go_at_call 28; (with_reducible refine (laws_sameInts.calls kj5 _ _ t464 _ _ t468 t473 _ ?side1 ?side2 ?side3 ?side4 A20.out).mono ?_); (case side1 => repeat (first | exact (Kd.R_reads' HO_5.out).2.2 | (with_reducible refine Kd.C_alloc ?_ _) | (with_reducible refine Kd.C_drewN ?_ _) | (with_reducible refine Kd.C_drew ?_))); (case side2 => exact (Kd.R_reads' HO_5.out).2.1); (case side3 => repeat (first | exact (Kd.R_reads' HO_7.out).2.2 | (with_reducible refine Kd.C_alloc ?_ _) | (with_reducible refine Kd.C_drewN ?_ _) | (with_reducible refine Kd.C_drew ?_))); (case side4 => exact (Kd.R_reads' HO_7.out).2.1); rintro e w' ⟨rfl, ⟨nd, rfl⟩⟩; (try first | exact ⟨rfl, _, World.drewN_drewN _ _ _⟩ | exact ⟨rfl, _, Eq.trans (World.drewN_drewN _ _ _) (congrArg (World.drewN _) (Nat.add_assoc _ _ _))⟩))); try go_wp2_with (first | (go_at_call 28; (with_reducible refine (laws_sameInts.calls kj5 _ _ t464 _ _ t468 t473 _ ?side1 ?side2 ?side3 ?side4 A20.out).mono ?_); (case side1 => repeat (first | exact (Kd.R_reads' HO_5.out).2.2 | (with_reducible refine Kd.C_alloc ?_ _) | (with_reducible refine Kd.C_drewN ?_ _) | (with_reducible refine Kd.C_drew ?_))); (case side2 => exact (Kd.R_reads' HO_5.out).2.1); (case side3 => repeat (first | exact (Kd.R_reads' HO_7.out).2.2 | (with_reducible refine Kd.C_alloc ?_ _) | (with_reducible refine Kd.C_drewN ?_ _) | (with_reducible refine Kd.C_drew ?_))); (case side4 => exact (Kd.R_reads' HO_7.out).2.1); rintro e w' ⟨rfl, ⟨nd, rfl⟩⟩; (try first | exact ⟨rfl, _, World.drewN_drewN _ _ _⟩ | exact ⟨rfl, _, Eq.trans (World.drewN_drewN _ _ _) (congrArg (World.drewN _) (Nat.add_assoc _ _ _))⟩))))
      go_ret
      exact ⟨by first | rfl | (simp [errW_none, errW_some] <;> rfl) | (simp [*, errW_none, errW_some] <;> rfl), by repeat (first | (with_reducible first | exact HB.out | apply below_alloc | apply pw_below_drewN | apply below_drew1) | exact HB.out)⟩
     ·rw [if_neg c19] at H
      have c19b0 : (t465 == t469) = false := by simpa using c19
      (try (have c19b1 : decide (t465 = t469) = false := by simpa using c19))
      (try (have c19b2 : (t465 == t469) = false := by simpa using c19))
      (try (have c19b3 : ¬ (t465 = t469) := by simpa using c19))
      clear c19
      obtain rfl := Option.some.inj H
      go_wp2
      repeat (go_quiet (fail); try go_wp2)
      go_ret
      exact ⟨by first | rfl | (simp [errW_none, errW_some] <;> rfl) | (simp [*, errW_none, errW_some] <;> rfl), by repeat (first | (with_reducible first | exact HB.out | apply below_alloc | apply pw_below_drewN | apply below_drew1) | exact HB.out)⟩
    ·replace c18 := Bool.eq_false_iff.mpr c18
     subst c18
     have H1 : (laws_FnStepsLate.l0 kj5 t460 t461 t464 0) = some r := by rw [if_neg (show ¬ (false = true) by decide)] at H; exact H
     clear H
     have H := H1
     clear H1
     have H' := Aside0.mk H
     clear H
     go_wp2
     repeat (go_quiet (fail); try go_wp2)
     go_loopg [9] kj5 (fun kq v9 w' => ∃ (x9_2 : Int), v9 = .int .i64 x9_2 ∧ Aside0 (laws_FnStepsLate.l0 kq t460 t461 t464 x9_2 = some r) ∧ Aside0 (kq ≤ kj5) ∧ Aside0 (Kd.S k28 28 w' w.heap.size (fun k_ => some k_ ≠ (v466 : Value).ownBlock) (.slice Ao8 t460.length co8) t460) ∧ Aside0 (Kd.R (Kd.int .i64) 3 w' w.heap.size (fun _ => True) v466 t464) ∧ Aside0 (Below w.heap.size w w'))
     case atStart => exact ⟨(0), (by first | rfl | (simp; done) | (simp [*]; done)), H', ⟨Nat.le_refl _⟩, ⟨by (with_reducible repeat (first | apply Kd.S_alloc | apply Kd.S_drewN | apply Kd.S_drew)); exact Kd.S_mono HO_3.out (fun _ hk => hk.1)⟩, ⟨by (with_reducible repeat (first | apply Kd.R_alloc | apply Kd.R_drewN | apply Kd.R_drew)); exact Kd.R_mono HO_5.out (fun _ hk => trivial)⟩, ⟨by repeat (first | (with_reducible first | exact HB.out | apply below_alloc | apply pw_below_drewN | apply below_drew1) | exact HB.out)⟩⟩
     case round =>
      clear H'
      try clear c1
      try clear c2
      try clear c2b0
      try clear c2b1
      try clear p2
      try clear c11
      try clear c11b0
      try clear c11b1
      try clear c11b2
      try clear c13
      try clear c18
      try clear c19
      try clear c19b0
      try clear c19b1
      try clear c19b2
      try clear p2
      obtain ⟨x9_2, rfl, HA, HK2, HO_3, HO_5, HB⟩ := hrel
      cases gk with
      | zero => exact absurd HA.out (by simp [laws_FnStepsLate.l0])
      | succ k2 =>
       have H := HA.out
       clear HA
       simp only [laws_FnStepsLate.l0] at H
       have HC23 := Aside0.mk H
       clear H
       go_upto_region 9 with (fail)
       repeat (go_quiet (fail); go_upto_region 9 with (fail))
       go_cut [62] (fun v62 wc => ∃ (kq : Nat) (x62_22 : Bool), v62 = .bool x62_22 ∧ Aside0 (laws_FnStepsLate.j2 kq t460 t461 t464 x9_2 x62_22 = some r) ∧ Aside0 (kq ≤ k2) ∧ Aside0 (Kd.S k28 28 wc w.heap.size (fun k_ => some k_ ≠ (v466 : Value).ownBlock) (.slice Ao8 t460.length co8) t460) ∧ Aside0 (Kd.R (Kd.int .i64) 3 wc w.heap.size (fun _ => True) v466 t464) ∧ Aside0 (Below w.heap.size w wc))
       case first =>
        have H := HC23.out
        clear HC23
        by_cases c24 : x9_2 < (t460.length : Int)
        ·rw [if_pos c24] at H
         have c24b0 : decide (x9_2 < (t460.length : Int)) = true := decide_eq_true c24
         clear c24
         (first | rw [c24b0] | (simp only [i64_w, i32_w]; rw [c24b0]) | skip)
         have H' := Aside0.mk H
         clear H
         obtain ⟨Ao25, co25, eo25⟩ := Kd.R_slice HO_5.out
         subst eo25
         go_wp2
         repeat (go_quiet (fail); try go_wp2)
         go_meet
         case rel => exact ⟨_, (decide (x9_2 < (t464.length : Int))), (by first | rfl | (simp; done) | (simp [*]; done)), H', ⟨by have := HJ5.out; have := HK2.out; first | omega | exact Nat.le_refl _⟩, ⟨by (with_reducible repeat (first | apply Kd.S_alloc | apply Kd.S_drewN | apply Kd.S_drew)); exact HO_3.out⟩, ⟨by (with_reducible repeat (first | apply Kd.R_alloc | apply Kd.R_drewN | apply Kd.R_drew)); exact HO_5.out⟩, ⟨by repeat (first | (with_reducible first | exact HB.out | apply below_alloc | apply pw_below_drewN | apply below_drew1) | exact HB.out)⟩⟩
        ·rw [if_neg c24] at H
         have c24b0 : decide (x9_2 < (t460.length : Int)) = false := decide_eq_false c24
         clear c24
         (first | rw [c24b0] | (simp only [i64_w, i32_w]; rw [c24b0]) | skip)
         have H' := Aside0.mk H
         clear H
         go_wp2
         repeat (go_quiet (fail); try go_wp2)
         go_meet
         case rel => exact ⟨_, (false), (by first | rfl | (simp; done) | (simp [*]; done)), H', ⟨by have := HJ5.out; have := HK2.out; first | omega | exact Nat.le_refl _⟩, ⟨by (with_reducible repeat (first | apply Kd.S_alloc | apply Kd.S_drewN | apply Kd.S_drew)); exact HO_3.out⟩, ⟨by (with_reducible repeat (first | apply Kd.R_alloc | apply Kd.R_drewN | apply Kd.R_drew)); exact HO_5.out⟩, ⟨by repeat (first | (with_reducible first | exact HB.out | apply below_alloc | apply pw_below_drewN | apply below_drew1) | exact HB.out)⟩⟩
       case rest =>
        clear HC23
        try clear c1
        try clear c2
        try clear c2b0
        try clear c2b1
        try clear p2
        try clear c11
        try clear c11b0
        try clear c11b1
        try clear c11b2
        try clear c13
        try clear c18
        try clear c19
        try clear c19b0
        try clear c19b1
        try clear c19b2
        try clear c24
        try clear c24b0
        try clear p2
        obtain ⟨kq, x62_22, rfl, HA, HJ22, HO_3, HO_5, HB⟩ := hcut
        cases kq with
        | zero => exact absurd HA.out (by simp [laws_FnStepsLate.j2])
        | succ kj22 =>
         have H := HA.out
         clear HA
         simp only [laws_FnStepsLate.j2] at H
         by_cases c26 : x62_22 = true
         ·subst c26
          have H1 : (if 0 ≤ x9_2 then (if x9_2 < (t464.length : Int) then (if (rd t464 x9_2) < 0 then (laws_FnStepsLate.j3 kj22 t460 t461 t464 x9_2 true) else (if x9_2 < (t460.length : Int) then (laws_FnStepsLate.j3 kj22 t460 t461 t464 x9_2 (decide ((wrap64 ((rd t464 x9_2) + ((rd_T28 t460 x9_2).f0))) > t461))) else (none))) else (none)) else (none)) = some r := by rw [if_pos rfl] at H; exact H
          clear H
          have H := H1
          clear H1
          have HC27 := Aside0.mk H
          clear H
          go_upto_region 11 with (fail)
          repeat (go_quiet (fail); go_upto_region 11 with (fail))
          go_cut [83] (fun v83 wc => ∃ (kq : Nat) (x83_26 : Bool), v83 = .bool x83_26 ∧ Aside0 (laws_FnStepsLate.j3 kq t460 t461 t464 x9_2 x83_26 = some r) ∧ Aside0 (kq ≤ kj22) ∧ Aside0 (Kd.S k28 28 wc w.heap.size (fun k_ => some k_ ≠ (v466 : Value).ownBlock) (.slice Ao8 t460.length co8) t460) ∧ Aside0 (Kd.R (Kd.int .i64) 3 wc w.heap.size (fun _ => True) v466 t464) ∧ Aside0 (Below w.heap.size w wc))
          case first =>
           have H := HC27.out
           clear HC27
           by_cases c28 : 0 ≤ x9_2
           ·rw [if_pos c28] at H
            have c28b0 : decide (0 ≤ x9_2) = true := decide_eq_true c28
            clear c28
            (first | rw [c28b0] | (simp only [i64_w, i32_w]; rw [c28b0]) | skip)
            by_cases c29 : x9_2 < (t464.length : Int)
            ·rw [if_pos c29] at H
             have c29b0 : decide (x9_2 < (t464.length : Int)) = true := decide_eq_true c29
             clear c29
             by_cases c30 : (rd t464 x9_2) < 0
             ·rw [if_pos c30] at H
              have c30b0 : decide ((rd t464 x9_2) < 0) = true := decide_eq_true c30
              clear c30
              have H' := Aside0.mk H
              clear H
              obtain ⟨Ao31, co31, eo31⟩ := Kd.R_slice HO_5.out
              subst eo31
              have p474 : 0 ≤ (x9_2 : Int) := of_decide_eq_true (by first | (with_reducible assumption) | assumption)
              have q474 : x9_2 < (t464.length : Int) := of_decide_eq_true (by first | (with_reducible assumption) | assumption)
              obtain ⟨ad474, e474, hx474_0⟩ := Kd.at_int (Kd.R_reads' HO_5.out).2.2 x9_2 p474 q474
              cases e474
              replace p474 := eq_true p474
              replace q474 := eq_true q474
              go_wp2
              repeat (go_quiet (fail); try go_wp2)
              go_meet
              case rel => exact ⟨_, (true), (by first | rfl | (simp; done) | (simp [*]; done)), H', ⟨by have := HJ5.out; have := HK2.out; have := HJ22.out; first | omega | exact Nat.le_refl _⟩, ⟨by (with_reducible repeat (first | apply Kd.S_alloc | apply Kd.S_drewN | apply Kd.S_drew)); exact HO_3.out⟩, ⟨by (with_reducible repeat (first | apply Kd.R_alloc | apply Kd.R_drewN | apply Kd.R_drew)); exact HO_5.out⟩, ⟨by repeat (first | (with_reducible first | exact HB.out | apply below_alloc | apply pw_below_drewN | apply below_drew1) | exact HB.out)⟩⟩
             ·rw [if_neg c30] at H
              have c30b0 : decide ((rd t464 x9_2) < 0) = false := decide_eq_false c30
              clear c30
              by_cases c32 : x9_2 < (t460.length : Int)
              ·rw [if_pos c32] at H
               have c32b0 : decide (x9_2 < (t460.length : Int)) = true := decide_eq_true c32
               clear c32
               have H' := Aside0.mk H
               clear H
               obtain ⟨Ao33, co33, eo33⟩ := Kd.R_slice HO_5.out
               subst eo33
               have p474 : 0 ≤ (x9_2 : Int) := of_decide_eq_true (by first | (with_reducible assumption) | assumption)
               have q474 : x9_2 < (t464.length : Int) := of_decide_eq_true (by first | (with_reducible assumption) | assumption)
               obtain ⟨ad474, e474, hx474_0⟩ := Kd.at_int (Kd.R_reads' HO_5.out).2.2 x9_2 p474 q474
               cases e474
               replace p474 := eq_true p474
               replace q474 := eq_true q474
               have p475 : 0 ≤ (x9_2 : Int) := of_decide_eq_true (by first | (with_reducible assumption) | assumption)
               have q475 : x9_2 < (t464.length : Int) := of_decide_eq_true (by first | (with_reducible assumption) | assumption)
               obtain ⟨ad475, e475, hx475_0⟩ := Kd.at_int (Kd.R_reads' HO_5.out).2.2 x9_2 p475 q475
               obtain rfl : ad474 = ad475 := (by injection e475)
               replace p475 := eq_true p475
               replace q475 := eq_true q475
               have p476 : 0 ≤ (x9_2 : Int) := of_decide_eq_true (by first | (with_reducible assumption) | assumption)
               have q476 : x9_2 < (t460.length : Int) := of_decide_eq_true (by first | (with_reducible assumption) | assumption)
               obtain ⟨ad476, A476_3, c476_3, e476, hx476_0, hx476_1, hx476_2, hx476_3, hl476_3, hi476_3⟩ := at_T28 (Kd.S_reads' HO_3.out).2.2 x9_2 p476 q476
               cases e476
               obtain ⟨ce476, hce476, hMe476, hcc476⟩ := Kd.S_get HO_3.out z28 x9_2 p476 (by first | exact q476 | exact of_decide_eq_true (by first | (with_reducible assumption) | assumption) | (have e_ := (Kd.S_reads' HO_3.out).1; omega))
               obtain ⟨ve476_3, rfl, ge476_3⟩ := k28_openM hMe476
               have hv476_3 := hcc476 3 _ rfl
               rw [add_field _ _ 3 (by omega)] at hv476_3
               replace hv476_3 := Option.some.inj (hv476_3.symm.trans hx476_3)
               rw [hv476_3] at ge476_3
               have HL476_3 := Aside0.mk (show Kd.R (Kd.int .i64) 3 _ _ _ _ ((rd_T28 t460 x9_2).f3) from ge476_3)
               clear hv476_3 ge476_3
               clear hcc476 hce476
               have HR476_3 := Aside0.mk hi476_3
               have HC476_3 := Aside0.mk hl476_3
               clear hi476_3 hl476_3
               replace p476 := eq_true p476
               replace q476 := eq_true q476
               go_wp2
               repeat (go_quiet (fail); try go_wp2)
               go_meet
               case rel => exact ⟨_, (decide ((wrap64 ((rd t464 x9_2) + ((rd_T28 t460 x9_2).f0))) > t461)), (by first | rfl | (simp; done) | (simp [*]; done)), H', ⟨by have := HJ5.out; have := HK2.out; have := HJ22.out; first | omega | exact Nat.le_refl _⟩, ⟨by (with_reducible repeat (first | apply Kd.S_alloc | apply Kd.S_drewN | apply Kd.S_drew)); exact HO_3.out⟩, ⟨by (with_reducible repeat (first | apply Kd.R_alloc | apply Kd.R_drewN | apply Kd.R_drew)); exact HO_5.out⟩, ⟨by repeat (first | (with_reducible first | exact HB.out | apply below_alloc | apply pw_below_drewN | apply below_drew1) | exact HB.out)⟩⟩
              ·rw [if_neg c32] at H
               exact absurd H (by simp)
            ·rw [if_neg c29] at H
             exact absurd H (by simp)
           ·rw [if_neg c28] at H
            exact absurd H (by simp)
          case rest =>
           clear HC27
           try clear c1
           try clear c2
           try clear c2b0
           try clear c2b1
           try clear p2
           try clear c3
           try clear c4
           try clear p4
           try clear q4
           try clear hx4
           try clear p6
           try clear c11
           try clear c11b0
           try clear c11b1
           try clear c11b2
           try clear c13
           try clear c18
           try clear c19
           try clear c19b0
           try clear c19b1
           try clear c19b2
           try clear c24
           try clear c24b0
           try clear c26
           try clear c28
           try clear c28b0
           try clear c29
           try clear c29b0
           try clear c30
           try clear c30b0
           try clear c32
           try clear c32b0
           try clear hx474_0
           try clear hx475_0
           try clear hx476_0
           try clear hx476_1
           try clear hx476_2
           try clear hx476_3
           try clear p2
           try clear p474
           try clear p475
           try clear p476
           try clear q474
           try clear q475
           try clear q476
           obtain ⟨kq, x83_26, rfl, HA, HJ26, HO_3, HO_5, HB⟩ := hcut
           cases kq with
           | zero => exact absurd HA.out (by simp [laws_FnStepsLate.j3])
           | succ kj26 =>
            have H := HA.out
            clear HA
            simp only [laws_FnStepsLate.j3] at H
            by_cases c34 : x83_26 = true
            ·subst c34
             have H1 : (some false) = some r := by rw [if_pos rfl] at H; exact H
             clear H
             have H := H1
             clear H1
             obtain rfl := Option.some.inj H
             go_wp2
             repeat (go_quiet (fail); try go_wp2)
             go_ret
             exact ⟨by first | rfl | (simp [errW_none, errW_some] <;> rfl) | (simp [*, errW_none, errW_some] <;> rfl), by repeat (first | (with_reducible first | exact HB.out | apply below_alloc | apply pw_below_drewN | apply below_drew1) | exact HB.out)⟩
            ·replace c34 := Bool.eq_false_iff.mpr c34
             subst c34
             have H1 : (laws_FnStepsLate.l1 kj26 t460 t461 t464 x9_2 0) = some r := by rw [if_neg (show ¬ (false = true) by decide)] at H; exact H
             clear H
             have H := H1
             clear H1
             have H' := Aside0.mk H
             clear H
             go_wp2
             repeat (go_quiet (fail); try go_wp2)
             go_loopg [10] kj26 (fun kq v10 w' => ∃ (x10_5 : Int), v10 = .int .i64 x10_5 ∧ Aside0 (laws_FnStepsLate.l1 kq t460 t461 t464 x9_2 x10_5 = some r) ∧ Aside0 (kq ≤ kj26) ∧ Aside0 (Kd.S k28 28 w' w.heap.size (fun k_ => some k_ ≠ (v466 : Value).ownBlock) (.slice Ao8 t460.length co8) t460) ∧ Aside0 (Kd.R (Kd.int .i64) 3 w' w.heap.size (fun _ => True) v466 t464) ∧ Aside0 (Below w.heap.size w w'))
             case atStart => exact ⟨(0), (by first | rfl | (simp; done) | (simp [*]; done)), H', ⟨Nat.le_refl _⟩, ⟨by (with_reducible repeat (first | apply Kd.S_alloc | apply Kd.S_drewN | apply Kd.S_drew)); exact HO_3.out⟩, ⟨by (with_reducible repeat (first | apply Kd.R_alloc | apply Kd.R_drewN | apply Kd.R_drew)); exact HO_5.out⟩, ⟨by repeat (first | (with_reducible first | exact HB.out | apply below_alloc | apply pw_below_drewN | apply below_drew1) | exact HB.out)⟩⟩
             case round =>
              clear H'
              try clear c1
              try clear c2
              try clear c2b0
              try clear c2b1
              try clear p2
              try clear c3
              try clear c4
              try clear p4
              try clear q4
              try clear hx4
              try clear p6
              try clear c11
              try clear c11b0
              try clear c11b1
              try clear c11b2
              try clear c13
              try clear c18
              try clear c19
              try clear c19b0
              try clear c19b1
              try clear c19b2
              try clear c24
              try clear c24b0
              try clear c26
              try clear c28
              try clear c28b0
              try clear c29
              try clear c29b0
              try clear c30
              try clear c30b0
              try clear c32
              try clear c32b0
              try clear c34
              try clear hx474_0
              try clear hx475_0
              try clear hx476_0
              try clear hx476_1
              try clear hx476_2
              try clear hx476_3
              try clear p2
              try clear p4
              try clear p474
              try clear p475
              try clear p476
              try clear p6
              try clear q4
              try clear q474
              try clear q475
              try clear q476
              obtain ⟨x10_5, rfl, HA, HK5, HO_3, HO_5, HB⟩ := hrel
              cases gk with
              | zero => exact absurd HA.out (by simp [laws_FnStepsLate.l1])
              | succ k5 =>
               have H := HA.out
               clear HA
               simp only [laws_FnStepsLate.l1] at H
               by_cases c35 : 0 ≤ x9_2
               ·rw [if_pos c35] at H
                have c35b0 : decide (0 ≤ x9_2) = true := decide_eq_true c35
                clear c35
                by_cases c36 : x9_2 < (t460.length : Int)
                ·rw [if_pos c36] at H
                 have c36b0 : decide (x9_2 < (t460.length : Int)) = true := decide_eq_true c36
                 clear c36
                 by_cases c37 : x10_5 < (((rd_T28 t460 x9_2).f3).length : Int)
                 ·rw [if_pos c37] at H
                  have c37b0 : decide (x10_5 < (((rd_T28 t460 x9_2).f3).length : Int)) = true := decide_eq_true c37
                  clear c37
                  by_cases c38 : 0 ≤ x10_5
                  ·rw [if_pos c38] at H
                   have c38b0 : decide (0 ≤ x10_5) = true := decide_eq_true c38
                   clear c38
                   by_cases c39 : 0 ≤ (rd ((rd_T28 t460 x9_2).f3) x10_5)
                   ·rw [if_pos c39] at H
                    have c39b0 : decide (0 ≤ (rd ((rd_T28 t460 x9_2).f3) x10_5)) = true := decide_eq_true c39
                    clear c39
                    by_cases c40 : (rd ((rd_T28 t460 x9_2).f3) x10_5) < (t464.length : Int)
                    ·rw [if_pos c40] at H
                     have c40b0 : decide ((rd ((rd_T28 t460 x9_2).f3) x10_5) < (t464.length : Int)) = true := decide_eq_true c40
                     clear c40
                     by_cases c41 : (rd ((rd_T28 t460 x9_2).f3) x10_5) < (t460.length : Int)
                     ·rw [if_pos c41] at H
                      have c41b0 : decide ((rd ((rd_T28 t460 x9_2).f3) x10_5) < (t460.length : Int)) = true := decide_eq_true c41
                      clear c41
                      by_cases c42 : x9_2 < (t464.length : Int)
                      ·rw [if_pos c42] at H
                       have c42b0 : decide (x9_2 < (t464.length : Int)) = true := decide_eq_true c42
                       clear c42
                       by_cases c43 : (wrap64 ((rd t464 (rd ((rd_T28 t460 x9_2).f3) x10_5)) + ((rd_T28 t460 (rd ((rd_T28 t460 x9_2).f3) x10_5)).f0))) > (rd t464 x9_2)
                       ·rw [if_pos c43] at H
                        have c43b0 : decide ((rd t464 x9_2) < (wrap64 ((rd t464 (rd ((rd_T28 t460 x9_2).f3) x10_5)) + ((rd_T28 t460 (rd ((rd_T28 t460 x9_2).f3) x10_5)).f0)))) = true := decide_eq_true c43
                        clear c43
                        obtain rfl := Option.some.inj H
                        have p477 : 0 ≤ (x9_2 : Int) := of_decide_eq_true (by first | (with_reducible assumption) | assumption)
                        have q477 : x9_2 < (t460.length : Int) := of_decide_eq_true (by first | (with_reducible assumption) | assumption)
                        obtain ⟨ad477, A477_3, c477_3, e477, hx477_0, hx477_1, hx477_2, hx477_3, hl477_3, hi477_3⟩ := at_T28 (Kd.S_reads' HO_3.out).2.2 x9_2 p477 q477
                        cases e477
                        obtain ⟨ce477, hce477, hMe477, hcc477⟩ := Kd.S_get HO_3.out z28 x9_2 p477 (by first | exact q477 | exact of_decide_eq_true (by first | (with_reducible assumption) | assumption) | (have e_ := (Kd.S_reads' HO_3.out).1; omega))
                        obtain ⟨ve477_3, rfl, ge477_3⟩ := k28_openM hMe477
                        have hv477_3 := hcc477 3 _ rfl
                        rw [add_field _ _ 3 (by omega)] at hv477_3
                        replace hv477_3 := Option.some.inj (hv477_3.symm.trans hx477_3)
                        rw [hv477_3] at ge477_3
                        have HL477_3 := Aside0.mk (show Kd.R (Kd.int .i64) 3 _ _ _ _ ((rd_T28 t460 x9_2).f3) from ge477_3)
                        clear hv477_3 ge477_3
                        clear hcc477 hce477
                        have HR477_3 := Aside0.mk hi477_3
                        have HC477_3 := Aside0.mk hl477_3
                        clear hi477_3 hl477_3
                        replace p477 := eq_true p477
                        replace q477 := eq_true q477
                        have p478 : 0 ≤ (x9_2 : Int) := of_decide_eq_true (by first | (with_reducible assumption) | assumption)
                        have q478 : x9_2 < (t460.length : Int) := of_decide_eq_true (by first | (with_reducible assumption) | assumption)
                        obtain ⟨ad478, A478_3, c478_3, e478, hx478_0, hx478_1, hx478_2, hx478_3, hl478_3, hi478_3⟩ := at_T28 (Kd.S_reads' HO_3.out).2.2 x9_2 p478 q478
                        obtain rfl : ad477 = ad478 := (by injection e478)
                        obtain ⟨ce478, hce478, hMe478, hcc478⟩ := Kd.S_get HO_3.out z28 x9_2 p478 (by first | exact q478 | exact of_decide_eq_true (by first | (with_reducible assumption) | assumption) | (have e_ := (Kd.S_reads' HO_3.out).1; omega))
                        obtain ⟨ve478_3, rfl, ge478_3⟩ := k28_openM hMe478
                        have hv478_3 := hcc478 3 _ rfl
                        rw [add_field _ _ 3 (by omega)] at hv478_3
                        replace hv478_3 := Option.some.inj (hv478_3.symm.trans hx478_3)
                        rw [hv478_3] at ge478_3
                        have HL478_3 := Aside0.mk (show Kd.R (Kd.int .i64) 3 _ _ _ _ ((rd_T28 t460 x9_2).f3) from ge478_3)
                        clear hv478_3 ge478_3
                        clear hcc478 hce478
                        have HR478_3 := Aside0.mk hi478_3
                        have HC478_3 := Aside0.mk hl478_3
                        clear hi478_3 hl478_3
                        replace p478 := eq_true p478
                        replace q478 := eq_true q478
                        have ea_ := Option.some.inj (hx477_3.symm.trans hx478_3)
                        injection ea_ with ea_ en_ ec_
                        subst ea_
                        subst ec_
                        clear en_
                        have p479 : 0 ≤ (x10_5 : Int) := of_decide_eq_true (by first | (with_reducible assumption) | assumption)
                        have q479 : x10_5 < (((rd_T28 t460 x9_2).f3).length : Int) := of_decide_eq_true (by first | (with_reducible assumption) | assumption)
                        obtain ⟨ad479, e479, hx479_0⟩ := Kd.at_int (by repeat (first | (with_reducible exact HR478_3.out) | (with_reducible refine Kd.C_alloc ?_ _) | (with_reducible refine Kd.C_drewN ?_ _) | (with_reducible refine Kd.C_drew ?_) | exact HR478_3.out)) x10_5 p479 q479
                        cases e479
                        replace p479 := eq_true p479
                        replace q479 := eq_true q479
                        obtain ⟨Ao44, co44, eo44⟩ := Kd.R_slice HO_5.out
                        subst eo44
                        have p480 : 0 ≤ ((rd ((rd_T28 t460 x9_2).f3) x10_5) : Int) := of_decide_eq_true (by first | (with_reducible assumption) | assumption)
                        have q480 : (rd ((rd_T28 t460 x9_2).f3) x10_5) < (t464.length : Int) := of_decide_eq_true (by first | (with_reducible assumption) | assumption)
                        obtain ⟨ad480, e480, hx480_0⟩ := Kd.at_int (Kd.R_reads' HO_5.out).2.2 (rd ((rd_T28 t460 x9_2).f3) x10_5) p480 q480
                        cases e480
                        replace p480 := eq_true p480
                        replace q480 := eq_true q480
                        have p481 : 0 ≤ ((rd ((rd_T28 t460 x9_2).f3) x10_5) : Int) := of_decide_eq_true (by first | (with_reducible assumption) | assumption)
                        have q481 : (rd ((rd_T28 t460 x9_2).f3) x10_5) < (t460.length : Int) := of_decide_eq_true (by first | (with_reducible assumption) | assumption)
                        obtain ⟨ad481, A481_3, c481_3, e481, hx481_0, hx481_1, hx481_2, hx481_3, hl481_3, hi481_3⟩ := at_T28 (Kd.S_reads' HO_3.out).2.2 (rd ((rd_T28 t460 x9_2).f3) x10_5) p481 q481
                        obtain rfl : ad477 = ad481 := (by injection e481)
                        obtain ⟨ce481, hce481, hMe481, hcc481⟩ := Kd.S_get HO_3.out z28 (rd ((rd_T28 t460 x9_2).f3) x10_5) p481 (by first | exact q481 | exact of_decide_eq_true (by first | (with_reducible assumption) | assumption) | (have e_ := (Kd.S_reads' HO_3.out).1; omega))
                        obtain ⟨ve481_3, rfl, ge481_3⟩ := k28_openM hMe481
                        have hv481_3 := hcc481 3 _ rfl
                        rw [add_field _ _ 3 (by omega)] at hv481_3
                        replace hv481_3 := Option.some.inj (hv481_3.symm.trans hx481_3)
                        rw [hv481_3] at ge481_3
                        have HL481_3 := Aside0.mk (show Kd.R (Kd.int .i64) 3 _ _ _ _ ((rd_T28 t460 (rd ((rd_T28 t460 x9_2).f3) x10_5)).f3) from ge481_3)
                        clear hv481_3 ge481_3
                        clear hcc481 hce481
                        have HR481_3 := Aside0.mk hi481_3
                        have HC481_3 := Aside0.mk hl481_3
                        clear hi481_3 hl481_3
                        replace p481 := eq_true p481
                        replace q481 := eq_true q481
                        have p482 : 0 ≤ (x9_2 : Int) := of_decide_eq_true (by first | (with_reducible assumption) | assumption)
                        have q482 : x9_2 < (t464.length : Int) := of_decide_eq_true (by first | (with_reducible assumption) | assumption)
                        obtain ⟨ad482, e482, hx482_0⟩ := Kd.at_int (Kd.R_reads' HO_5.out).2.2 x9_2 p482 q482
                        obtain rfl : ad480 = ad482 := (by injection e482)
                        replace p482 := eq_true p482
                        replace q482 := eq_true q482
                        go_wp2
                        repeat (go_quiet (fail); try go_wp2)
                        go_ret
                        exact ⟨by first | rfl | (simp [errW_none, errW_some] <;> rfl) | (simp [*, errW_none, errW_some] <;> rfl), by repeat (first | (with_reducible first | exact HB.out | apply below_alloc | apply pw_below_drewN | apply below_drew1) | exact HB.out)⟩
                       ·rw [if_neg c43] at H
                        have c43b0 : decide ((rd t464 x9_2) < (wrap64 ((rd t464 (rd ((rd_T28 t460 x9_2).f3) x10_5)) + ((rd_T28 t460 (rd ((rd_T28 t460 x9_2).f3) x10_5)).f0)))) = false := decide_eq_false c43
                        clear c43
                        have H' := Aside0.mk H
                        clear H
                        have p477 : 0 ≤ (x9_2 : Int) := of_decide_eq_true (by first | (with_reducible assumption) | assumption)
                        have q477 : x9_2 < (t460.length : Int) := of_decide_eq_true (by first | (with_reducible assumption) | assumption)
                        obtain ⟨ad477, A477_3, c477_3, e477, hx477_0, hx477_1, hx477_2, hx477_3, hl477_3, hi477_3⟩ := at_T28 (Kd.S_reads' HO_3.out).2.2 x9_2 p477 q477
                        cases e477
                        obtain ⟨ce477, hce477, hMe477, hcc477⟩ := Kd.S_get HO_3.out z28 x9_2 p477 (by first | exact q477 | exact of_decide_eq_true (by first | (with_reducible assumption) | assumption) | (have e_ := (Kd.S_reads' HO_3.out).1; omega))
                        obtain ⟨ve477_3, rfl, ge477_3⟩ := k28_openM hMe477
                        have hv477_3 := hcc477 3 _ rfl
                        rw [add_field _ _ 3 (by omega)] at hv477_3
                        replace hv477_3 := Option.some.inj (hv477_3.symm.trans hx477_3)
                        rw [hv477_3] at ge477_3
                        have HL477_3 := Aside0.mk (show Kd.R (Kd.int .i64) 3 _ _ _ _ ((rd_T28 t460 x9_2).f3) from ge477_3)
                        clear hv477_3 ge477_3
                        clear hcc477 hce477
                        have HR477_3 := Aside0.mk hi477_3
                        have HC477_3 := Aside0.mk hl477_3
                        clear hi477_3 hl477_3
                        replace p477 := eq_true p477
                        replace q477 := eq_true q477
                        have p478 : 0 ≤ (x9_2 : Int) := of_decide_eq_true (by first | (with_reducible assumption) | assumption)
                        have q478 : x9_2 < (t460.length : Int) := of_decide_eq_true (by first | (with_reducible assumption) | assumption)
                        obtain ⟨ad478, A478_3, c478_3, e478, hx478_0, hx478_1, hx478_2, hx478_3, hl478_3, hi478_3⟩ := at_T28 (Kd.S_reads' HO_3.out).2.2 x9_2 p478 q478
                        obtain rfl : ad477 = ad478 := (by injection e478)
                        obtain ⟨ce478, hce478, hMe478, hcc478⟩ := Kd.S_get HO_3.out z28 x9_2 p478 (by first | exact q478 | exact of_decide_eq_true (by first | (with_reducible assumption) | assumption) | (have e_ := (Kd.S_reads' HO_3.out).1; omega))
                        obtain ⟨ve478_3, rfl, ge478_3⟩ := k28_openM hMe478
                        have hv478_3 := hcc478 3 _ rfl
                        rw [add_field _ _ 3 (by omega)] at hv478_3
                        replace hv478_3 := Option.some.inj (hv478_3.symm.trans hx478_3)
                        rw [hv478_3] at ge478_3
                        have HL478_3 := Aside0.mk (show Kd.R (Kd.int .i64) 3 _ _ _ _ ((rd_T28 t460 x9_2).f3) from ge478_3)
                        clear hv478_3 ge478_3
                        clear hcc478 hce478
                        have HR478_3 := Aside0.mk hi478_3
                        have HC478_3 := Aside0.mk hl478_3
                        clear hi478_3 hl478_3
                        replace p478 := eq_true p478
                        replace q478 := eq_true q478
                        have ea_ := Option.some.inj (hx477_3.symm.trans hx478_3)
                        injection ea_ with ea_ en_ ec_
                        subst ea_
                        subst ec_
                        clear en_
                        have p479 : 0 ≤ (x10_5 : Int) := of_decide_eq_true (by first | (with_reducible assumption) | assumption)
                        have q479 : x10_5 < (((rd_T28 t460 x9_2).f3).length : Int) := of_decide_eq_true (by first | (with_reducible assumption) | assumption)
                        obtain ⟨ad479, e479, hx479_0⟩ := Kd.at_int (by repeat (first | (with_reducible exact HR478_3.out) | (with_reducible refine Kd.C_alloc ?_ _) | (with_reducible refine Kd.C_drewN ?_ _) | (with_reducible refine Kd.C_drew ?_) | exact HR478_3.out)) x10_5 p479 q479
                        cases e479
                        replace p479 := eq_true p479
                        replace q479 := eq_true q479
                        obtain ⟨Ao45, co45, eo45⟩ := Kd.R_slice HO_5.out
                        subst eo45
                        have p480 : 0 ≤ ((rd ((rd_T28 t460 x9_2).f3) x10_5) : Int) := of_decide_eq_true (by first | (with_reducible assumption) | assumption)
                        have q480 : (rd ((rd_T28 t460 x9_2).f3) x10_5) < (t464.length : Int) := of_decide_eq_true (by first | (with_reducible assumption) | assumption)
                        obtain ⟨ad480, e480, hx480_0⟩ := Kd.at_int (Kd.R_reads' HO_5.out).2.2 (rd ((rd_T28 t460 x9_2).f3) x10_5) p480 q480
                        cases e480
                        replace p480 := eq_true p480
                        replace q480 := eq_true q480
                        have p481 : 0 ≤ ((rd ((rd_T28 t460 x9_2).f3) x10_5) : Int) := of_decide_eq_true (by first | (with_reducible assumption) | assumption)
                        have q481 : (rd ((rd_T28 t460 x9_2).f3) x10_5) < (t460.length : Int) := of_decide_eq_true (by first | (with_reducible assumption) | assumption)
                        obtain ⟨ad481, A481_3, c481_3, e481, hx481_0, hx481_1, hx481_2, hx481_3, hl481_3, hi481_3⟩ := at_T28 (Kd.S_reads' HO_3.out).2.2 (rd ((rd_T28 t460 x9_2).f3) x10_5) p481 q481
                        obtain rfl : ad477 = ad481 := (by injection e481)
                        obtain ⟨ce481, hce481, hMe481, hcc481⟩ := Kd.S_get HO_3.out z28 (rd ((rd_T28 t460 x9_2).f3) x10_5) p481 (by first | exact q481 | exact of_decide_eq_true (by first | (with_reducible assumption) | assumption) | (have e_ := (Kd.S_reads' HO_3.out).1; omega))
                        obtain ⟨ve481_3, rfl, ge481_3⟩ := k28_openM hMe481
                        have hv481_3 := hcc481 3 _ rfl
                        rw [add_field _ _ 3 (by omega)] at hv481_3
                        replace hv481_3 := Option.some.inj (hv481_3.symm.trans hx481_3)
                        rw [hv481_3] at ge481_3
                        have HL481_3 := Aside0.mk (show Kd.R (Kd.int .i64) 3 _ _ _ _ ((rd_T28 t460 (rd ((rd_T28 t460 x9_2).f3) x10_5)).f3) from ge481_3)
                        clear hv481_3 ge481_3
                        clear hcc481 hce481
                        have HR481_3 := Aside0.mk hi481_3
                        have HC481_3 := Aside0.mk hl481_3
                        clear hi481_3 hl481_3
                        replace p481 := eq_true p481
                        replace q481 := eq_true q481
                        have p482 : 0 ≤ (x9_2 : Int) := of_decide_eq_true (by first | (with_reducible assumption) | assumption)
                        have q482 : x9_2 < (t464.length : Int) := of_decide_eq_true (by first | (with_reducible assumption) | assumption)
                        obtain ⟨ad482, e482, hx482_0⟩ := Kd.at_int (Kd.R_reads' HO_5.out).2.2 x9_2 p482 q482
                        obtain rfl : ad480 = ad482 := (by injection e482)
                        replace p482 := eq_true p482
                        replace q482 := eq_true q482
                        go_wp2
                        repeat (go_quiet (fail); try go_wp2)
                        go_roundg k5
                        case measure => have := HJ5.out; have := HK2.out; have := HJ22.out; have := HJ26.out; have := HK5.out; omega
                        case rel => exact ⟨(wrap64 (x10_5 + 1)), (by first | rfl | (simp; done) | (simp [*]; done)), H', ⟨by have := HJ5.out; have := HK2.out; have := HJ22.out; have := HJ26.out; have := HK5.out; omega⟩, ⟨by (with_reducible repeat (first | apply Kd.S_alloc | apply Kd.S_drewN | apply Kd.S_drew)); exact HO_3.out⟩, ⟨by (with_reducible repeat (first | apply Kd.R_alloc | apply Kd.R_drewN | apply Kd.R_drew)); exact HO_5.out⟩, ⟨by repeat (first | (with_reducible first | exact HB.out | apply below_alloc | apply pw_below_drewN | apply below_drew1) | exact HB.out)⟩⟩
                      ·rw [if_neg c42] at H
                       exact absurd H (by simp)
                     ·rw [if_neg c41] at H
                      exact absurd H (by simp)
                    ·rw [if_neg c40] at H
                     exact absurd H (by simp)
                   ·rw [if_neg c39] at H
                    exact absurd H (by simp)
                  ·rw [if_neg c38] at H
                   exact absurd H (by simp)
                 ·rw [if_neg c37] at H
                  have c37b0 : decide (x10_5 < (((rd_T28 t460 x9_2).f3).length : Int)) = false := decide_eq_false c37
                  clear c37
                  have H' := Aside0.mk H
                  clear H
                  have p477 : 0 ≤ (x9_2 : Int) := of_decide_eq_true (by first | (with_reducible assumption) | assumption)
                  have q477 : x9_2 < (t460.length : Int) := of_decide_eq_true (by first | (with_reducible assumption) | assumption)
                  obtain ⟨ad477, A477_3, c477_3, e477, hx477_0, hx477_1, hx477_2, hx477_3, hl477_3, hi477_3⟩ := at_T28 (Kd.S_reads' HO_3.out).2.2 x9_2 p477 q477
                  cases e477
                  obtain ⟨ce477, hce477, hMe477, hcc477⟩ := Kd.S_get HO_3.out z28 x9_2 p477 (by first | exact q477 | exact of_decide_eq_true (by first | (with_reducible assumption) | assumption) | (have e_ := (Kd.S_reads' HO_3.out).1; omega))
                  obtain ⟨ve477_3, rfl, ge477_3⟩ := k28_openM hMe477
                  have hv477_3 := hcc477 3 _ rfl
                  rw [add_field _ _ 3 (by omega)] at hv477_3
                  replace hv477_3 := Option.some.inj (hv477_3.symm.trans hx477_3)
                  rw [hv477_3] at ge477_3
                  have HL477_3 := Aside0.mk (show Kd.R (Kd.int .i64) 3 _ _ _ _ ((rd_T28 t460 x9_2).f3) from ge477_3)
                  clear hv477_3 ge477_3
                  clear hcc477 hce477
                  have HR477_3 := Aside0.mk hi477_3
                  have HC477_3 := Aside0.mk hl477_3
                  clear hi477_3 hl477_3
                  replace p477 := eq_true p477
                  replace q477 := eq_true q477
                  go_wp2
                  repeat (go_quiet (fail); try go_wp2)
                  go_roundg k5
                  case measure => have := HJ5.out; have := HK2.out; have := HJ22.out; have := HJ26.out; have := HK5.out; omega
                  case rel => exact ⟨(wrap64 (x9_2 + 1)), (by first | rfl | (simp; done) | (simp [*]; done)), H', ⟨by have := HJ5.out; have := HK2.out; have := HJ22.out; have := HJ26.out; have := HK5.out; omega⟩, ⟨by (with_reducible repeat (first | apply Kd.S_alloc | apply Kd.S_drewN | apply Kd.S_drew)); exact HO_3.out⟩, ⟨by (with_reducible repeat (first | apply Kd.R_alloc | apply Kd.R_drewN | apply Kd.R_drew)); exact HO_5.out⟩, ⟨by repeat (first | (with_reducible first | exact HB.out | apply below_alloc | apply pw_below_drewN | apply below_drew1) | exact HB.out)⟩⟩
                ·rw [if_neg c36] at H
                 exact absurd H (by simp)
               ·rw [if_neg c35] at H
                exact absurd H (by simp)
         ·replace c26 := Bool.eq_false_iff.mpr c26
          subst c26
          have H1 : (some ((t464.length : Int) == (t460.length : Int))) = some r := by rw [if_neg (show ¬ (false = true) by decide)] at H; exact H
          clear H
          have H := H1
          clear H1
          obtain rfl := Option.some.inj H
          obtain ⟨Ao46, co46, eo46⟩ := Kd.R_slice HO_5.out
          subst eo46
          go_wp2
          repeat (go_quiet (fail); try go_wp2)
          go_ret
          exact ⟨by first | rfl | (simp [errW_none, errW_some] <;> rfl) | (simp [*, errW_none, errW_some] <;> rfl), by repeat (first | (with_reducible first | exact HB.out | apply below_alloc | apply pw_below_drewN | apply below_drew1) | exact HB.out)⟩

/-- THE ONE PURE STATEMENT of laws_FnStepsLate: yours. -/
def laws_FnStepsLate.Pure : Prop := ∀ (l0 : List Int), l0.length ≤ maxLen → l0.length * 1 ≤ 140737488351232 → (∀ x ∈ l0, (Lit.int .u8 x).wf = true) → ∃ k, laws_FnStepsLate.f k l0 = some true
theorem laws_FnStepsLate.walk (P : laws_FnStepsLate.Pure) (a0 : Option Addr) (len0 cap0 : Nat) (z0 : List Int) (w : World) (w0 : (a0 = none ∧ len0 = 0 ∧ cap0 = 0 ∧ z0 = []) ∨ ∃ x, a0 = some x ∧ len0 ≤ cap0 ∧ cap0 ≤ maxLen ∧ z0.length = cap0 ∧ (∀ i, i < z0.length → w.cell? (x.add i) = some (.int .u8 (z0.getD i 0))) ∧ ∀ n ∈ z0, (Lit.int .u8 n).wf = true) (y0 : len0 * 1 ≤ 140737488351232) :
  Calls Try.prog 11 #[.slice a0 len0 cap0] w fun e w' => e = .returned (.bool true) ∧ Below w.heap.size w w' := by
 obtain ⟨l0, rfl, hr0, hm0, hw0, hc0⟩ := ReadsInt.ofRowC w0
 obtain ⟨k, h⟩ := P l0 hm0 y0 hw0
 refine (laws_FnStepsLate.calls k _ _ l0 true w (Kd.C_of_reads (d := (0 : Int)) (h1 := fun _ => rfl) hr0) hc0 h).mono ?_
 rintro e w' ⟨rfl, hd⟩
 exact ⟨rfl, hd⟩

end Go.Proofs.Ytegfpoagplpjiaa.PAll
