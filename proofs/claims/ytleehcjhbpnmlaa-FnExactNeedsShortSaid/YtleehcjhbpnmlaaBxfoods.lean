/- Lemmas about the printed functions (xfoods). -/
import Derived.Test.YtleehcjhbpnmlaaPAllx0
import Derived.Test.YtleehcjhbpnmlaaPAllx7
import Derived.Test.YtleehcjhbpnmlaaPAllx8
import Derived.Test.YtleehcjhbpnmlaaPAllx9
import Derived.Test.YtleehcjhbpnmlaaBbase
import Derived.Test.YtleehcjhbpnmlaaBints
namespace Go.Proofs.Ytleehcjhbpnmlaa.B
open Go.RowKit Go.Proofs.Ytleehcjhbpnmlaa.PAll Go.Proofs.YtleehcjhbpnmlaaW.PrintWords Go.Proofs.YtleehcjhbpnmlaaW.PrintLast
set_option linter.unusedVariables false
set_option linter.unusedSimpArgs false

/-! #### foods as the laws hand them over -/
def cvFood (x : S49) : S29 := ⟨x.f0, x.f1, x.f2, x.f3, x.f4, x.f5⟩
def cvFoods (l : List S49) : List S29 := l.map cvFood
theorem cvFoods_len (l : List S49) : (cvFoods l).length = l.length := by simp [cvFoods]
theorem sz_foods (l : List S49) (hl : l.length ≤ maxLen) : (laws_szFoodS.f l 1048576 = some (-1) ∧ 1048576 < l.length) ∨ (∃ r : Int, 0 ≤ r ∧ laws_szFoodS.f l 1048576 = some r ∧ l.length ≤ 1048576) := by
  unfold maxLen at hl
  unfold laws_szFoodS.f
  rw [w64 _ (by omega) (by omega)]
  by_cases h : 1048576 - (l.length : Int) < 0
  · exact .inl ⟨by rw [if_pos h], by omega⟩
  · exact .inr ⟨1048576 - (l.length : Int), by omega, by rw [if_neg h], by omega⟩
theorem laws_toFoodS_l0 (l : List S49) (hl : l.length ≤ 1000000000) : ∀ (d i : Nat), i + d = l.length → ∀ (x : List S29), x.length = l.length → ∀ k, d + 1 ≤ k → laws_toFoodS.l0 k l x (i : Int) = some (x.take i ++ cvFoods (l.drop i)) := by
  intro d
  induction d with
  | zero =>
    intro i hi x hx k hk
    obtain ⟨k, rfl, _⟩ := rounds1 hk
    rw [laws_toFoodS.l0, if_neg (by omega), List.take_of_length_le (by omega), List.drop_of_length_le (by omega)]
    simp [cvFoods]
  | succ d ih =>
    intro i hi x hx k hk
    obtain ⟨k, rfl, hk'⟩ := rounds1 hk
    have hr : rd_T49 l (i : Int) = l[i] := by
      unfold rd_T49
      rw [Int.toNat_natCast, List.getD_eq_getElem?_getD, List.getElem?_eq_getElem (by omega)]
      rfl
    rw [laws_toFoodS.l0, if_pos (by omega), if_pos (by omega)]
    unfold laws_toFood.f
    simp only [bsome]
    rw [if_pos (by omega), w64 _ (by omega) (by omega), show ((i : Int) + 1) = ((i + 1 : Nat) : Int) by omega, Int.toNat_natCast,
      ih (i + 1) (by omega) _ (by rw [List.length_set]; exact hx) k hk', take_set _ _ _ (by omega), hr, List.append_assoc, List.drop_eq_getElem_cons (by omega : i < l.length)]
    rfl
theorem laws_toFoodS_eq (l : List S49) (hl : l.length ≤ 1000000000) (k : Nat) (hk : l.length + 1 ≤ k) : laws_toFoodS.f k l = some (cvFoods l) := by
  unfold laws_toFoodS.f
  rw [if_pos (by omega), if_pos (by omega)]
  have e := laws_toFoodS_l0 l hl l.length 0 (by omega) (List.replicate ((l.length : Int) : Int).toNat z29) (by rw [List.length_replicate]; omega) k hk
  rw [List.take_zero, List.drop_zero, List.nil_append] at e
  exact e
theorem laws_eqFoodS_l0 (l : List S29) (hl : l.length ≤ 1000000000) : ∀ (d : Nat) (i : Int), 0 ≤ i → i + d = l.length → ∀ k, d + 1 ≤ k → laws_eqFoodS.l0 k l l i = some true := by
  intro d
  induction d with
  | zero =>
    intro i h0 hi k hk
    obtain ⟨k, rfl, _⟩ := rounds1 hk
    rw [laws_eqFoodS.l0, if_neg (by omega)]
  | succ d ih =>
    intro i h0 hi k hk
    obtain ⟨k, rfl, hk'⟩ := rounds1 hk
    rw [laws_eqFoodS.l0, if_pos (by omega), if_pos h0, if_pos (by omega)]
    unfold laws_eqFood.f
    rw [if_pos rfl, if_pos rfl, if_pos rfl, if_pos rfl, if_pos rfl, if_pos rfl]
    simp only [bsome, if_true]
    rw [w64 _ (by omega) (by omega), ih (i + 1) (by omega) (by omega) k hk']
theorem laws_eqFoodS_refl (l : List S29) (hl : l.length ≤ 1000000000) (k : Nat) (hk : l.length + 1 ≤ k) : laws_eqFoodS.f k l l = some true := by
  unfold laws_eqFoodS.f
  rw [if_pos rfl]
  exact laws_eqFoodS_l0 l hl l.length 0 (by omega) (by omega) k hk

end Go.Proofs.Ytleehcjhbpnmlaa.B
