/- Lemmas about the printed functions (xentries). -/
import Derived.Test.YtacjlhffmoglhaaPAllx0
import Derived.Test.YtacjlhffmoglhaaPAllx2
import Derived.Test.YtacjlhffmoglhaaPAllx3
import Derived.Test.YtacjlhffmoglhaaPAllx5
import Derived.Test.YtacjlhffmoglhaaBbase
import Derived.Test.YtacjlhffmoglhaaBints
namespace Go.Proofs.Ytacjlhffmoglhaa.B
open Go.RowKit Go.Proofs.Ytacjlhffmoglhaa.PAll Go.Proofs.YtacjlhffmoglhaaW.PrintWords Go.Proofs.YtacjlhffmoglhaaW.PrintLast
set_option linter.unusedVariables false
set_option linter.unusedSimpArgs false

/-! #### entries as the laws hand them over -/
def cvEntry (x : S37) : S40 := ⟨x.f0, x.f1, x.f2⟩
def cvEntrys (l : List S37) : List S40 := l.map cvEntry
theorem cvEntrys_len (l : List S37) : (cvEntrys l).length = l.length := by simp [cvEntrys]
theorem sz_entries (l : List S37) (hl : l.length ≤ maxLen) : (laws_szEntryS.f l 1048576 = some (-1) ∧ 1048576 < l.length) ∨ (∃ r : Int, 0 ≤ r ∧ laws_szEntryS.f l 1048576 = some r ∧ l.length ≤ 1048576) := by
  unfold maxLen at hl
  unfold laws_szEntryS.f
  rw [w64 _ (by omega) (by omega)]
  by_cases h : 1048576 - (l.length : Int) < 0
  · exact .inl ⟨by rw [if_pos h], by omega⟩
  · exact .inr ⟨1048576 - (l.length : Int), by omega, by rw [if_neg h], by omega⟩
theorem laws_toEntryS_l0 (l : List S37) (hl : l.length ≤ 1000000000) : ∀ (d i : Nat), i + d = l.length → ∀ (x : List S40), x.length = l.length → ∀ k, d + 1 ≤ k → laws_toEntryS.l0 k l x (i : Int) = some (x.take i ++ cvEntrys (l.drop i)) := by
  intro d
  induction d with
  | zero =>
    intro i hi x hx k hk
    obtain ⟨k, rfl, _⟩ := rounds1 hk
    rw [laws_toEntryS.l0, if_neg (by omega), List.take_of_length_le (by omega), List.drop_of_length_le (by omega)]
    simp [cvEntrys]
  | succ d ih =>
    intro i hi x hx k hk
    obtain ⟨k, rfl, hk'⟩ := rounds1 hk
    have hr : rd_T37 l (i : Int) = l[i] := by
      unfold rd_T37
      rw [Int.toNat_natCast, List.getD_eq_getElem?_getD, List.getElem?_eq_getElem (by omega)]
      rfl
    rw [laws_toEntryS.l0, if_pos (by omega), if_pos (by omega)]
    unfold laws_toEntry.f
    simp only [bsome]
    rw [if_pos (by omega), w64 _ (by omega) (by omega), show ((i : Int) + 1) = ((i + 1 : Nat) : Int) by omega, Int.toNat_natCast,
      ih (i + 1) (by omega) _ (by rw [List.length_set]; exact hx) k hk', take_set _ _ _ (by omega), hr, List.append_assoc, List.drop_eq_getElem_cons (by omega : i < l.length)]
    rfl
theorem laws_toEntryS_eq (l : List S37) (hl : l.length ≤ 1000000000) (k : Nat) (hk : l.length + 1 ≤ k) : laws_toEntryS.f k l = some (cvEntrys l) := by
  unfold laws_toEntryS.f
  rw [if_pos (by omega), if_pos (by omega)]
  have e := laws_toEntryS_l0 l hl l.length 0 (by omega) (List.replicate ((l.length : Int) : Int).toNat z40) (by rw [List.length_replicate]; omega) k hk
  rw [List.take_zero, List.drop_zero, List.nil_append] at e
  exact e
theorem laws_eqEntryS_l0 (l : List S40) (hl : l.length ≤ 1000000000) : ∀ (d : Nat) (i : Int), 0 ≤ i → i + d = l.length → ∀ k, d + 1 ≤ k → laws_eqEntryS.l0 k l l i = some true := by
  intro d
  induction d with
  | zero =>
    intro i h0 hi k hk
    obtain ⟨k, rfl, _⟩ := rounds1 hk
    rw [laws_eqEntryS.l0, if_neg (by omega)]
  | succ d ih =>
    intro i h0 hi k hk
    obtain ⟨k, rfl, hk'⟩ := rounds1 hk
    rw [laws_eqEntryS.l0, if_pos (by omega), if_pos h0, if_pos (by omega)]
    unfold laws_eqEntry.f
    rw [if_pos rfl, if_pos rfl, if_pos rfl]
    simp only [bsome, if_true]
    rw [w64 _ (by omega) (by omega), ih (i + 1) (by omega) (by omega) k hk']
theorem laws_eqEntryS_refl (l : List S40) (hl : l.length ≤ 1000000000) (k : Nat) (hk : l.length + 1 ≤ k) : laws_eqEntryS.f k l l = some true := by
  unfold laws_eqEntryS.f
  rw [if_pos rfl]
  exact laws_eqEntryS_l0 l hl l.length 0 (by omega) (by omega) k hk

end Go.Proofs.Ytacjlhffmoglhaa.B
