/- Lemmas about the printed functions (markint). -/
import Derived.Test.YthmgfeokhjelmaaPAllx0
import Derived.Test.YthmgfeokhjelmaaPAllx11
import Derived.Test.YthmgfeokhjelmaaBbase
import Derived.Test.YthmgfeokhjelmaaBints
namespace Go.Proofs.Ythmgfeokhjelmaa.B
open Go.RowKit Go.Proofs.Ythmgfeokhjelmaa.PAll Go.Proofs.YthmgfeokhjelmaaW.PrintWords Go.Proofs.YthmgfeokhjelmaaW.PrintLast
set_option linter.unusedVariables false
set_option linter.unusedSimpArgs false

/-! marks: numbers in a row from 1 on; what is held is what was marked -/
theorem laws_markIntS_l0 : ∀ (d i : Nat) (x : List Int), i + d = x.length → x.length ≤ 1000000000 → ∀ k, d + 1 ≤ k →
    ∃ y : List Int, laws_markIntS.l0 k x ((i : Int) + 1) (i : Int) = some ((x.length : Int) + 1, y) ∧ y.length = x.length ∧ (∀ j : Nat, j < i → y[j]? = x[j]?) ∧ ∀ j : Nat, i ≤ j → j < x.length → y[j]? = some ((j : Int) + 1) := by
  intro d
  induction d with
  | zero =>
    intro i x hi hl k hk
    obtain ⟨k, rfl, _⟩ := rounds1 hk
    refine ⟨x, ?_, rfl, fun _ _ => rfl, fun j h1 h2 => by omega⟩
    simp only [laws_markIntS.l0]
    rw [if_neg (by omega), show i = x.length by omega]
  | succ d ih =>
    intro i x hi hl k hk
    obtain ⟨k, rfl, hk'⟩ := rounds1 hk
    obtain ⟨y, e, hy, h1, h2⟩ := ih (i + 1) (x.set i ((i : Int) + 1)) (by rw [List.length_set]; omega) (by rw [List.length_set]; omega) k hk'
    rw [List.length_set] at e hy h2
    refine ⟨y, ?_, hy, fun j hj => ?_, fun j h3 h4 => ?_⟩
    · simp only [laws_markIntS.l0]
      rw [if_pos (by omega), if_pos (by omega), w64 _ (by omega) (by omega), w64 _ (by omega) (by omega), Int.toNat_natCast]
      exact e
    · rw [h1 j (by omega), List.getElem?_set_ne (by omega)]
    · by_cases e' : j = i
      · subst e'
        rw [h1 j (by omega), List.getElem?_set_self (by omega)]
      · exact h2 j (by omega) h4
theorem laws_heldIntS_l0 (y : List Int) (hl : y.length ≤ 1000000000) (hy : ∀ j : Nat, j < y.length → y[j]? = some ((j : Int) + 1)) : ∀ (d i : Nat), i + d = y.length → ∀ k, d + 1 ≤ k → laws_heldIntS.l0 k y ((i : Int) + 1) (i : Int) = some ((y.length : Int) + 1) := by
  intro d
  induction d with
  | zero =>
    intro i hi k hk
    obtain ⟨k, rfl, _⟩ := rounds1 hk
    simp only [laws_heldIntS.l0]
    rw [if_neg (by omega), show i = y.length by omega]
  | succ d ih =>
    intro i hi k hk
    obtain ⟨k, rfl, hk'⟩ := rounds1 hk
    have h := hy i (by omega)
    have hr : rd y (i : Int) = (i : Int) + 1 := by
      unfold rd
      rw [Int.toNat_natCast, List.getD_eq_getElem?_getD, h]
      rfl
    simp only [laws_heldIntS.l0]
    rw [if_pos (by omega), if_pos (by omega), if_pos hr, w64 _ (by omega) (by omega), w64 _ (by omega) (by omega)]
    exact ih (i + 1) (by omega) k hk'
/-- marked numbers are held as they were marked, however often one looks -/
theorem mark_held (x : List Int) (hl : x.length ≤ 1000000000) (k : Nat) (hk : x.length + 1 ≤ k) : ∃ y : List Int, laws_markIntS.f k x 1 = some ((x.length : Int) + 1, y) ∧ ∀ k', x.length + 1 ≤ k' → laws_heldIntS.f k' y 1 = some ((x.length : Int) + 1) := by
  obtain ⟨y, e, hy, _, h⟩ := laws_markIntS_l0 x.length 0 x (by omega) hl k hk
  refine ⟨y, e, fun k' hk' => ?_⟩
  have e2 := laws_heldIntS_l0 y (by omega) (fun j hj => h j (by omega) (by omega)) y.length 0 (by omega) k' (by omega)
  rw [hy] at e2
  exact e2

end Go.Proofs.Ythmgfeokhjelmaa.B
