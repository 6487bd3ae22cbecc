/- The row of FnExactKitchenValid is proved: whatever the input, the law answers true and its arguments read as before. Conditions: none. -/
import Derived.Test.YtldenfgphnhaiaaRows
import Derived.Test.YtldenfgphnhaiaaPAllx0
import Derived.Test.YtldenfgphnhaiaaPAllx24
import Derived.Test.YtldenfgphnhaiaaPureFnExactKitchenValid
import Derived.Test.YtldenfgphnhaiaaOpen
import Derived.WalkKit
import Derived.ProofKit
import Derived.OpenShut
import Derived.ShutString
import Derived.ChangeOld
import Derived.Below
import Derived.SizedLaws
namespace Go.Proofs.Ytldenfgphnhaiaa.fnExactKitchenValid
open Go.ChangeShapes Go.WideShapes Go.ChangeAt Go.RowKit Go.Proofs.Ytldenfgphnhaiaa.PAll Go.Proofs.YtldenfgphnhaiaaW.PrintWords
set_option linter.unusedVariables false
theorem own : ownKnob Try.prog.godebug = none := by kernel_rfl
theorem laidOut : laidOutB Try.prog = true := by kernel_rfl
theorem tr29 : Open.Tr Try.prog 29 k25 (fun x => ((Lit.int .i64 x.f0).wf = true ∧ (x.f1.length ≤ maxLen ∧ ∀ y4 ∈ x.f1, (Lit.int .i64 y4).wf = true))) :=
  Open.Tr.iso (fun x : S25 => (x.f0, x.f1)) (fun p => ⟨p.1, p.2⟩) (fun _ => rfl) (Open.Tr.struct Try.underlying29 (by kernel_rfl) (Open.TrF.cons rfl (by kernel_rfl) (Open.Tr.int Try.underlying3) (Open.TrF.one rfl (by kernel_rfl) (Open.Tr.slice Try.underlying23 (by kernel_rfl) (Open.Tr.int Try.underlying3)))))
set_option maxRecDepth 100000 in
theorem lifted (os : Os) (started : os.Started) (H : Type) (enc : TypeId × Value → H) :
    ReturnsInHanded {} Try.checked os 4 .any (Rows.fnExactKitchenValidSpec.pre6 enc Try.prog Try.f4 Rows.fnExactKitchenValidRow.domain false) (Rows.fnExactKitchenValidSpec.post enc Try.prog Try.f4 false true false false) := by
  refine returnsInHanded_of_change_sized (C := Try.checked) own started (by kernel_rfl) Try.func4
    (ChangeSpec.witness6 (enc := enc) (C := Try.checked) false ⟨#[], #[.agg #[.int .i64 0, .slice none 0 0]], []⟩ 8 (by kernel_rfl) (by kernel_rfl) (by kernel_rfl) (by kernel_rfl)) ?_
  intro W base args ds gs before hval0 hW hcnd _ _
  have hval : ∀ (j : Nat) t v, Try.f4.params[j]? = some t → args[j]? = some v → Value.okWide Try.prog W .any base t v := hval0
  have hW' := hW
  obtain ⟨p, q, hA0, hV, rfl, hfz, hnd⟩ := hW
  have hA : DataW.TrodAll enc Try.prog W 0 (fun _ => true) true Try.f4.params.toList args.toList ds p := hA0
  rw [Try.params4] at hA hval
  obtain ⟨v0, vs0, d0, ds0, p0, q0, hargs, rfl, rfl, h0, r0⟩ := trodAll_cons hA
  obtain ⟨rfl, rfl, rfl⟩ := trodAll_nil r0
  obtain rfl : args = #[v0] := by cases args; simp_all
  obtain ⟨rfl, rfl⟩ := trodVars_none hV
  have k0 := h0
  have lt0 : ∀ x ∈ p0, x.block < W.heap.size := by obtain ⟨m, hm⟩ := k0; exact DataW.trod_lt m _ _ _ hm
  obtain ⟨cs0, rfl, hs0⟩ := okWide_struct Try.underlying29 (hval 0 29 v0 rfl rfl)
  obtain ⟨x0, hK0, ok0⟩ : ∃ y, k25.K W y (Value.agg cs0).cells.toList ∧ ((Lit.int .i64 y.f0).wf = true ∧ (y.f1.length ≤ maxLen ∧ ∀ y4 ∈ y.f1, (Lit.int .i64 y4).wf = true)) := by
    obtain ⟨fuel, hf⟩ := h0
    exact tr29 enc W 0 _ true fuel _ _ hf
  obtain ⟨A0, c0, e0, hc0, hr0⟩ := k25_open hK0
  obtain rfl : cs0 = #[.int .i64 x0.f0, .slice A0 x0.f1.length c0] := by apply Array.ext'; simpa [Value.cells] using e0
  clear hA0 hval0
  obtain ⟨k, hk⟩ := Pure.FnExactKitchenValid x0 ok0
  refine (laws_FnExactKitchenValid.calls k x0.f0 _ _ x0.f1 true W hr0 hc0 hk).mono fun e W' ⟨he, bel⟩ => ?_
  subst he
  exact ⟨_, rfl, _, _, _, [], _, [], hW', trodAll_mk1 (shut_bool Try.underlying4 _), (trodAll_cons_mk (Below.trod laidOut (by kernel_rfl) (of_decide_eq_true (by kernel_rfl)) k0 bel lt0) trodAll_mk0), rfl, bel.frame _, fun h => by cases h⟩
theorem over : Rows.fnExactKitchenValidRow.holds Try.pinned (OpenSpec.ofChange Rows.fnExactKitchenValidSpec) :=
  OpenClaim.holds_of_wide 4 Try.f4 rfl rfl rfl rfl rfl rfl rfl ⟨rfl, rfl, rfl, rfl, rfl⟩ rfl rfl rfl rfl rfl (by kernel_rfl) Try.func4 (by kernel_rfl)
    (of_decide_eq_true (by kernel_rfl)) (by unfold Func.isWrapper; first | (rw [if_pos (by decide +kernel)]; kernel_rfl) | (rw [if_neg (by decide +kernel)]; exact ⟨rfl, rfl⟩))
    (fun os started H enc _ => lifted os started H enc)
end Go.Proofs.Ytldenfgphnhaiaa.fnExactKitchenValid
namespace Go.Proofs.Ytldenfgphnhaiaa
/-- The row, under a short name, for the claim. -/
theorem fnExactKitchenValid_holds : Rows.FnExactKitchenValidSaid := fnExactKitchenValid.over
#print axioms fnExactKitchenValid_holds
end Go.Proofs.Ytldenfgphnhaiaa
