/- Lemmas about the printed functions (xlots). -/
import Derived.Test.YtfnngpfkcnfhiaaPAllx0
import Derived.Test.YtfnngpfkcnfhiaaPAllx2
import Derived.Test.YtfnngpfkcnfhiaaPAllx5
import Derived.Test.YtfnngpfkcnfhiaaPAllx9
import Derived.Test.YtfnngpfkcnfhiaaBbase
import Derived.Test.YtfnngpfkcnfhiaaBints
import Derived.Test.YtfnngpfkcnfhiaaBlots
namespace Go.Proofs.Ytfnngpfkcnfhiaa.B
open Go.RowKit Go.Proofs.Ytfnngpfkcnfhiaa.PAll Go.Proofs.YtfnngpfkcnfhiaaW.PrintWords Go.Proofs.YtfnngpfkcnfhiaaW.PrintLast
set_option linter.unusedVariables false
set_option linter.unusedSimpArgs false

/-! #### lots as the laws hand them over -/
def cvLot (x : S24) : S30 := ⟨x.f0, x.f1, x.f2⟩
def cvLots (l : List S24) : List S30 := l.map cvLot
theorem cvLots_len (l : List S24) : (cvLots l).length = l.length := by simp [cvLots]
theorem sz_lots (l : List S24) (hl : l.length ≤ maxLen) : (laws_szLotS.f l 1048576 = some (-1) ∧ 1048576 < l.length) ∨ (∃ r : Int, 0 ≤ r ∧ laws_szLotS.f l 1048576 = some r ∧ l.length ≤ 1048576) := by
  unfold maxLen at hl
  unfold laws_szLotS.f
  rw [w64 _ (by omega) (by omega)]
  by_cases h : 1048576 - (l.length : Int) < 0
  · exact .inl ⟨by rw [if_pos h], by omega⟩
  · exact .inr ⟨1048576 - (l.length : Int), by omega, by rw [if_neg h], by omega⟩
theorem laws_toLotS_l0 (l : List S24) (hl : l.length ≤ 1000000000) : ∀ (d i : Nat), i + d = l.length → ∀ (x : List S30), x.length = l.length → ∀ k, d + 1 ≤ k → laws_toLotS.l0 k l x (i : Int) = some (x.take i ++ cvLots (l.drop i)) := by
  intro d
  induction d with
  | zero =>
    intro i hi x hx k hk
    obtain ⟨k, rfl, _⟩ := rounds1 hk
    rw [laws_toLotS.l0, if_neg (by omega), List.take_of_length_le (by omega), List.drop_of_length_le (by omega)]
    simp [cvLots]
  | succ d ih =>
    intro i hi x hx k hk
    obtain ⟨k, rfl, hk'⟩ := rounds1 hk
    have hr : rd_T24 l (i : Int) = l[i] := by
      unfold rd_T24
      rw [Int.toNat_natCast, List.getD_eq_getElem?_getD, List.getElem?_eq_getElem (by omega)]
      rfl
    rw [laws_toLotS.l0, if_pos (by omega), if_pos (by omega)]
    unfold laws_toLot.f
    simp only [bsome]
    rw [if_pos (by omega), w64 _ (by omega) (by omega), show ((i : Int) + 1) = ((i + 1 : Nat) : Int) by omega, Int.toNat_natCast,
      ih (i + 1) (by omega) _ (by rw [List.length_set]; exact hx) k hk', take_set _ _ _ (by omega), hr, List.append_assoc, List.drop_eq_getElem_cons (by omega : i < l.length)]
    rfl
theorem laws_toLotS_eq (l : List S24) (hl : l.length ≤ 1000000000) (k : Nat) (hk : l.length + 1 ≤ k) : laws_toLotS.f k l = some (cvLots l) := by
  unfold laws_toLotS.f
  rw [if_pos (by omega), if_pos (by omega)]
  have e := laws_toLotS_l0 l hl l.length 0 (by omega) (List.replicate ((l.length : Int) : Int).toNat z30) (by rw [List.length_replicate]; omega) k hk
  rw [List.take_zero, List.drop_zero, List.nil_append] at e
  exact e
theorem laws_eqLotS_l0 (l : List S30) (hl : l.length ≤ 1000000000) : ∀ (d : Nat) (i : Int), 0 ≤ i → i + d = l.length → ∀ k, d + 1 ≤ k → laws_eqLotS.l0 k l l i = some true := by
  intro d
  induction d with
  | zero =>
    intro i h0 hi k hk
    obtain ⟨k, rfl, _⟩ := rounds1 hk
    rw [laws_eqLotS.l0, if_neg (by omega)]
  | succ d ih =>
    intro i h0 hi k hk
    obtain ⟨k, rfl, hk'⟩ := rounds1 hk
    rw [laws_eqLotS.l0, if_pos (by omega), if_pos h0, if_pos (by omega)]
    unfold laws_eqLot.f
    rw [if_pos rfl, if_pos rfl, if_pos rfl]
    simp only [bsome, if_true]
    rw [w64 _ (by omega) (by omega), ih (i + 1) (by omega) (by omega) k hk']
theorem laws_eqLotS_refl (l : List S30) (hl : l.length ≤ 1000000000) (k : Nat) (hk : l.length + 1 ≤ k) : laws_eqLotS.f k l l = some true := by
  unfold laws_eqLotS.f
  rw [if_pos rfl]
  exact laws_eqLotS_l0 l hl l.length 0 (by omega) (by omega) k hk

end Go.Proofs.Ytfnngpfkcnfhiaa.B
