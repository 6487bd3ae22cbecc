/- Lemmas about the printed functions (xsteps). -/
import Derived.Test.YthmgfeokhjelmaaPAllx0
import Derived.Test.YthmgfeokhjelmaaPAllx1
import Derived.Test.YthmgfeokhjelmaaPAllx5
import Derived.Test.YthmgfeokhjelmaaPAllx9
import Derived.Test.YthmgfeokhjelmaaPAllx10
import Derived.Test.YthmgfeokhjelmaaBbase
import Derived.Test.YthmgfeokhjelmaaBints
import Derived.Test.YthmgfeokhjelmaaBtoint
import Derived.Test.YthmgfeokhjelmaaBeqint
namespace Go.Proofs.Ythmgfeokhjelmaa.B
open Go.RowKit Go.Proofs.Ythmgfeokhjelmaa.PAll Go.Proofs.YthmgfeokhjelmaaW.PrintWords Go.Proofs.YthmgfeokhjelmaaW.PrintLast
set_option linter.unusedVariables false
set_option linter.unusedSimpArgs false

/-! #### steps as the laws hand them over -/
def cvStep (x : S43) : S40 := ⟨x.f0, x.f1, x.f2, x.f3⟩
def cvSteps (l : List S43) : List S40 := l.map cvStep
theorem cvSteps_len (l : List S43) : (cvSteps l).length = l.length := by simp [cvSteps]
theorem rdL_mem {l : List S43} {i : Int} (h0 : 0 ≤ i) (h1 : i < l.length) : rd_T43 l i ∈ l := by
  unfold rd_T43
  rw [List.getD_eq_getElem?_getD, List.getElem?_eq_getElem (by omega)]
  exact List.getElem_mem _
theorem rd_cvSteps (l : List S43) (i : Int) (h0 : 0 ≤ i) (h1 : i < l.length) : rd_T40 (cvSteps l) i = cvStep (rd_T43 l i) := by
  unfold rd_T40 rd_T43 cvSteps
  rw [List.getD_eq_getElem?_getD, List.getD_eq_getElem?_getD, List.getElem?_map, List.getElem?_eq_getElem (by omega)]
  rfl
theorem szStepS_l0 (l : List S43) (hl : l.length ≤ 1048576) (hw : ∀ s ∈ l, s.f3.length ≤ maxLen) : ∀ (d : Nat) (i left : Int), 0 ≤ i → i + d = l.length → 0 ≤ left → left ≤ 1048576 →
    (∀ k, d + 1 ≤ k → laws_szStepS.l0 k l left i = some (-1)) ∨ (∃ r : Int, 0 ≤ r ∧ (∀ k, d + 1 ≤ k → laws_szStepS.l0 k l left i = some r) ∧ ∀ j : Int, i ≤ j → j < l.length → (rd_T43 l j).f3.length ≤ 1048576) := by
  intro d
  induction d with
  | zero =>
    intro i left h0 hi b0 b1
    refine .inr ⟨left, b0, fun k hk => ?_, fun j h1 h2 => by omega⟩
    obtain ⟨k, rfl, _⟩ := rounds1 (k := k) (B := 0) (by omega)
    rw [laws_szStepS.l0, if_neg (by omega)]
  | succ d ih =>
    intro i left h0 hi b0 b1
    have hm := hw _ (rdL_mem (l := l) (i := i) h0 (by omega))
    unfold maxLen at hm
    have e1 : ∀ a b c, laws_szStep.f a b c (rd_T43 l i).f3 left = if left - ((rd_T43 l i).f3.length : Int) < 0 then some (-1) else some (left - ((rd_T43 l i).f3.length : Int)) := by
      intro a b c
      unfold laws_szStep.f laws_szIntS.f
      rw [w64 _ (by omega) (by omega)]
      by_cases c : left - ((rd_T43 l i).f3.length : Int) < 0
      · rw [if_pos c]
        simp only [bsome]
        rw [if_pos (by omega)]
      · rw [if_neg c]
        simp only [bsome]
        rw [if_neg c]
    by_cases c : left - ((rd_T43 l i).f3.length : Int) < 0
    · refine .inl fun k hk => ?_
      obtain ⟨k, rfl, _⟩ := rounds1 (k := k) (B := 0) (by omega)
      rw [laws_szStepS.l0, if_pos (by omega), if_pos h0, e1, if_pos c]
      simp only [bsome]
      rw [if_pos (by omega)]
    · rcases ih (i + 1) (left - ((rd_T43 l i).f3.length : Int)) (by omega) (by omega) (by omega) (by omega) with h | ⟨r, r0, h, hj⟩
      · refine .inl fun k hk => ?_
        obtain ⟨k, rfl, hk'⟩ := rounds1 hk
        rw [laws_szStepS.l0, if_pos (by omega), if_pos h0, e1, if_neg c]
        simp only [bsome]
        rw [if_neg c, w64 (i + 1) (by omega) (by omega), h k hk']
      · refine .inr ⟨r, r0, fun k hk => ?_, fun j h1 h2 => ?_⟩
        · obtain ⟨k, rfl, hk'⟩ := rounds1 hk
          rw [laws_szStepS.l0, if_pos (by omega), if_pos h0, e1, if_neg c]
          simp only [bsome]
          rw [if_neg c, w64 (i + 1) (by omega) (by omega), h k hk']
        · by_cases e : j = i
          · subst e
            omega
          · exact hj j (by omega) h2
/-- what the row tells of steps that come in -/
def StepsOk (l : List S43) : Prop := l.length ≤ maxLen ∧ ∀ y ∈ l, (Lit.int .i64 y.f0).wf = true ∧ (Lit.int .i64 y.f1).wf = true ∧ (Lit.int .i64 y.f2).wf = true ∧ (y.f3.length ≤ maxLen ∧ ∀ z ∈ y.f3, (Lit.int .i64 z).wf = true)
theorem sz_steps (l : List S43) (ok : StepsOk l) : (∃ K, ∀ k, K ≤ k → laws_szStepS.f k l 1048576 = some (-1)) ∨ (∃ r : Int, 0 ≤ r ∧ (∀ k, l.length + 1 ≤ k → laws_szStepS.f k l 1048576 = some r) ∧ l.length ≤ 1048576 ∧ ∀ i : Int, 0 ≤ i → i < l.length → (rd_T43 l i).f3.length ≤ 1048576) := by
  have hm := ok.1
  unfold maxLen at hm
  by_cases h : 1048576 - (l.length : Int) < 0
  · exact .inl ⟨0, fun k _ => by unfold laws_szStepS.f; rw [w64 _ (by omega) (by omega), if_pos h]⟩
  · rcases szStepS_l0 l (by omega) (fun s hs => (ok.2 s hs).2.2.2.1) l.length 0 (1048576 - (l.length : Int)) (by omega) (by omega) (by omega) (by omega) with e | ⟨r, r0, e, hj⟩
    · exact .inl ⟨l.length + 1, fun k hk => by unfold laws_szStepS.f; rw [w64 _ (by omega) (by omega), if_neg h, e k hk]⟩
    · exact .inr ⟨r, r0, fun k hk => by unfold laws_szStepS.f; rw [w64 _ (by omega) (by omega), if_neg h, e k hk], by omega, hj⟩
theorem laws_toStepS_l0 (M : Nat) (hM : M ≤ 1048577) (l : List S43) (hl : l.length ≤ 1048576) (hf : ∀ i : Int, 0 ≤ i → i < l.length → (rd_T43 l i).f3.length + 1 ≤ M) : ∀ (d i : Nat), i + d = l.length → ∀ (x : List S40), x.length = l.length → ∀ k, d + M + 1 ≤ k → laws_toStepS.l0 k l x (i : Int) = some (x.take i ++ cvSteps (l.drop i)) := by
  intro d
  induction d with
  | zero =>
    intro i hi x hx k hk
    obtain ⟨k, rfl, _⟩ := rounds1 (k := k) (B := 0) (by omega)
    rw [laws_toStepS.l0, if_neg (by omega), List.take_of_length_le (by omega), List.drop_of_length_le (by omega)]
    simp [cvSteps]
  | succ d ih =>
    intro i hi x hx k hk
    obtain ⟨k, rfl, hk'⟩ := rounds1 (k := k) (B := d + M + 1) (by omega)
    have hm := hf i (by omega) (by omega)
    have hr : rd_T43 l (i : Int) = l[i] := by
      unfold rd_T43
      rw [Int.toNat_natCast, List.getD_eq_getElem?_getD, List.getElem?_eq_getElem (by omega)]
      rfl
    rw [laws_toStepS.l0, if_pos (by omega), if_pos (by omega)]
    unfold laws_toStep.f
    rw [laws_toIntS_eq _ (by omega) k (by omega)]
    simp only [bsome]
    rw [if_pos (by omega), w64 _ (by omega) (by omega), show ((i : Int) + 1) = ((i + 1 : Nat) : Int) by omega, Int.toNat_natCast,
      ih (i + 1) (by omega) _ (by rw [List.length_set]; exact hx) k hk', take_set _ _ _ (by omega), hr, List.append_assoc, List.drop_eq_getElem_cons (by omega : i < l.length)]
    rfl
theorem laws_toStepS_eq (l : List S43) (hl : l.length ≤ 1048576) (hf : ∀ i : Int, 0 ≤ i → i < l.length → (rd_T43 l i).f3.length ≤ 1048576) (k : Nat) (hk : l.length + 1048578 ≤ k) : laws_toStepS.f k l = some (cvSteps l) := by
  unfold laws_toStepS.f
  rw [if_pos (by omega), if_pos (by omega)]
  have e := laws_toStepS_l0 1048577 (by omega) l hl (fun i h0 h1 => by have := hf i h0 h1; omega) l.length 0 (by omega) (List.replicate ((l.length : Int) : Int).toNat z40) (by rw [List.length_replicate]; omega) k hk
  rw [List.take_zero, List.drop_zero, List.nil_append] at e
  exact e
theorem laws_eqStepS_l0 (M : Nat) (hM : M ≤ 1048577) (l : List S40) (hl : l.length ≤ 1048576) (hf : ∀ i : Int, 0 ≤ i → i < l.length → (rd_T40 l i).f3.length + 1 ≤ M) : ∀ (d : Nat) (i : Int), 0 ≤ i → i + d = l.length → ∀ k, d + M + 1 ≤ k → laws_eqStepS.l0 k l l i = some true := by
  intro d
  induction d with
  | zero =>
    intro i h0 hi k hk
    obtain ⟨k, rfl, _⟩ := rounds1 (k := k) (B := 0) (by omega)
    rw [laws_eqStepS.l0, if_neg (by omega)]
  | succ d ih =>
    intro i h0 hi k hk
    obtain ⟨k, rfl, hk'⟩ := rounds1 (k := k) (B := d + M + 1) (by omega)
    have hm := hf i h0 (by omega)
    rw [laws_eqStepS.l0, if_pos (by omega), if_pos h0, if_pos (by omega)]
    unfold laws_eqStep.f
    rw [if_pos rfl, if_pos rfl, if_pos rfl, laws_eqIntS_refl _ (by omega) k (by omega)]
    simp only [bsome, if_true]
    rw [w64 _ (by omega) (by omega), ih (i + 1) (by omega) (by omega) k hk']
theorem laws_eqStepS_refl (l : List S40) (hl : l.length ≤ 1048576) (hf : ∀ i : Int, 0 ≤ i → i < l.length → (rd_T40 l i).f3.length ≤ 1048576) (k : Nat) (hk : l.length + 1048578 ≤ k) : laws_eqStepS.f k l l = some true := by
  unfold laws_eqStepS.f
  rw [if_pos rfl]
  exact laws_eqStepS_l0 1048577 (by omega) l hl (fun i h0 h1 => by have := hf i h0 h1; omega) l.length 0 (by omega) (by omega) k hk
theorem cv_inner (l : List S43) (hf : ∀ i : Int, 0 ≤ i → i < l.length → (rd_T43 l i).f3.length ≤ 1048576) : ∀ i : Int, 0 ≤ i → i < (cvSteps l).length → (rd_T40 (cvSteps l) i).f3.length ≤ 1048576 := by
  intro i h0 h1
  rw [cvSteps_len] at h1
  rw [rd_cvSteps l i h0 h1]
  exact hf i h0 h1

end Go.Proofs.Ythmgfeokhjelmaa.B
