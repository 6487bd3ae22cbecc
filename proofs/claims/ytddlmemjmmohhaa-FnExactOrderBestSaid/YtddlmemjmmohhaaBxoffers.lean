/- Lemmas about the printed functions (xoffers). -/
import Derived.Test.YtddlmemjmmohhaaPAllx0
import Derived.Test.YtddlmemjmmohhaaPAllx5
import Derived.Test.YtddlmemjmmohhaaPAllx6
import Derived.Test.YtddlmemjmmohhaaBbase
import Derived.Test.YtddlmemjmmohhaaBints
namespace Go.Proofs.Ytddlmemjmmohhaa.B
open Go.RowKit Go.Proofs.Ytddlmemjmmohhaa.PAll Go.Proofs.YtddlmemjmmohhaaW.PrintWords Go.Proofs.YtddlmemjmmohhaaW.PrintLast
set_option linter.unusedVariables false
set_option linter.unusedSimpArgs false

/-! #### offers as the laws hand them over -/
def cvOffer (x : S54) : S37 := ⟨x.f0, x.f1⟩
def cvOffers (l : List S54) : List S37 := l.map cvOffer
theorem cvOffers_len (l : List S54) : (cvOffers l).length = l.length := by simp [cvOffers]
theorem sz_offers (l : List S54) (hl : l.length ≤ maxLen) : (laws_szOfferS.f l 1048576 = some (-1) ∧ 1048576 < l.length) ∨ (∃ r : Int, 0 ≤ r ∧ laws_szOfferS.f l 1048576 = some r ∧ l.length ≤ 1048576) := by
  unfold maxLen at hl
  unfold laws_szOfferS.f
  rw [w64 _ (by omega) (by omega)]
  by_cases h : 1048576 - (l.length : Int) < 0
  · exact .inl ⟨by rw [if_pos h], by omega⟩
  · exact .inr ⟨1048576 - (l.length : Int), by omega, by rw [if_neg h], by omega⟩
theorem laws_toOfferS_l0 (l : List S54) (hl : l.length ≤ 1000000000) : ∀ (d i : Nat), i + d = l.length → ∀ (x : List S37), x.length = l.length → ∀ k, d + 1 ≤ k → laws_toOfferS.l0 k l x (i : Int) = some (x.take i ++ cvOffers (l.drop i)) := by
  intro d
  induction d with
  | zero =>
    intro i hi x hx k hk
    obtain ⟨k, rfl, _⟩ := rounds1 hk
    simp only [laws_toOfferS.l0]
    rw [if_neg (by omega), List.take_of_length_le (by omega), List.drop_of_length_le (by omega)]
    simp [cvOffers]
  | succ d ih =>
    intro i hi x hx k hk
    obtain ⟨k, rfl, hk'⟩ := rounds1 hk
    have hr : rd_T54 l (i : Int) = l[i] := by
      unfold rd_T54
      rw [Int.toNat_natCast, List.getD_eq_getElem?_getD, List.getElem?_eq_getElem (by omega)]
      rfl
    simp only [laws_toOfferS.l0, laws_toOffer.f]
    rw [if_pos (by omega), if_pos (by omega)]
    simp only [bsome]
    rw [if_pos (by omega), w64 _ (by omega) (by omega), show ((i : Int) + 1) = ((i + 1 : Nat) : Int) by omega, Int.toNat_natCast,
      ih (i + 1) (by omega) _ (by rw [List.length_set]; exact hx) k hk', take_set _ _ _ (by omega), hr, List.append_assoc, List.drop_eq_getElem_cons (by omega : i < l.length)]
    rfl
theorem laws_toOfferS_eq (l : List S54) (hl : l.length ≤ 1000000000) (k : Nat) (hk : l.length + 1 ≤ k) : laws_toOfferS.f k l = some (cvOffers l) := by
  unfold laws_toOfferS.f
  rw [if_pos (by omega), if_pos (by omega)]
  have e := laws_toOfferS_l0 l hl l.length 0 (by omega) (List.replicate ((l.length : Int) : Int).toNat z37) (by rw [List.length_replicate]; omega) k hk
  rw [List.take_zero, List.drop_zero, List.nil_append] at e
  exact e
theorem laws_eqOffer_refl (a b : Int) : laws_eqOffer.f a b a b = some true := by
  unfold laws_eqOffer.f
  rw [if_pos rfl, if_pos rfl]
theorem laws_eqOfferS_l0 (l : List S37) (hl : l.length ≤ 1000000000) : ∀ (d : Nat) (i : Int), 0 ≤ i → i + d = l.length → ∀ k, d + 1 ≤ k → laws_eqOfferS.l0 k l l i = some true := by
  intro d
  induction d with
  | zero =>
    intro i h0 hi k hk
    obtain ⟨k, rfl, _⟩ := rounds1 hk
    simp only [laws_eqOfferS.l0]
    rw [if_neg (by omega)]
  | succ d ih =>
    intro i h0 hi k hk
    obtain ⟨k, rfl, hk'⟩ := rounds1 hk
    simp only [laws_eqOfferS.l0]
    rw [if_pos (by omega), if_pos h0, if_pos (by omega), laws_eqOffer_refl]
    simp only [bsome]
    rw [if_pos trivial, w64 _ (by omega) (by omega), ih (i + 1) (by omega) (by omega) k hk']
theorem laws_eqOfferS_refl (l : List S37) (hl : l.length ≤ 1000000000) (k : Nat) (hk : l.length + 1 ≤ k) : laws_eqOfferS.f k l l = some true := by
  unfold laws_eqOfferS.f
  rw [if_pos rfl]
  exact laws_eqOfferS_l0 l hl l.length 0 (by omega) (by omega) k hk

end Go.Proofs.Ytddlmemjmmohhaa.B
