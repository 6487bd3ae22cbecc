/- Lemmas about the printed functions (toint). -/
import Derived.Test.YthmgfeokhjelmaaPAllx0
import Derived.Test.YthmgfeokhjelmaaPAllx5
import Derived.Test.YthmgfeokhjelmaaBbase
import Derived.Test.YthmgfeokhjelmaaBints
namespace Go.Proofs.Ythmgfeokhjelmaa.B
open Go.RowKit Go.Proofs.Ythmgfeokhjelmaa.PAll Go.Proofs.YthmgfeokhjelmaaW.PrintWords Go.Proofs.YthmgfeokhjelmaaW.PrintLast
set_option linter.unusedVariables false
set_option linter.unusedSimpArgs false

theorem laws_toIntS_l0 (l : List Int) (hl : l.length ≤ 1000000000) : ∀ (d i : Nat), i + d = l.length → ∀ (x : List Int), x.length = l.length → ∀ k, d + 1 ≤ k → laws_toIntS.l0 k l x (i : Int) = some (x.take i ++ l.drop i) := by
  intro d
  induction d with
  | zero =>
    intro i hi x hx k hk
    obtain ⟨k, rfl, _⟩ := rounds1 hk
    simp only [laws_toIntS.l0]
    rw [if_neg (by omega), List.take_of_length_le (by omega), List.drop_of_length_le (by omega), List.append_nil]
  | succ d ih =>
    intro i hi x hx k hk
    obtain ⟨k, rfl, hk'⟩ := rounds1 hk
    simp only [laws_toIntS.l0]
    rw [if_pos (by omega), if_pos (by omega), if_pos (by omega), w64 _ (by omega) (by omega), show ((i : Int) + 1) = ((i + 1 : Nat) : Int) by omega, Int.toNat_natCast,
      ih (i + 1) (by omega) _ (by rw [List.length_set]; exact hx) k hk', take_set _ _ _ (by omega), rdi_nat l i (by omega), List.append_assoc, List.singleton_append, ← List.drop_eq_getElem_cons (by omega)]
theorem laws_toIntS_eq (l : List Int) (hl : l.length ≤ 1000000000) (k : Nat) (hk : l.length + 1 ≤ k) : laws_toIntS.f k l = some l := by
  unfold laws_toIntS.f
  rw [if_pos (by omega), if_pos (by omega)]
  have e := laws_toIntS_l0 l hl l.length 0 (by omega) (List.replicate ((l.length : Int) : Int).toNat 0) (by rw [List.length_replicate]; omega) k hk
  rw [List.take_zero, List.drop_zero, List.nil_append] at e
  exact e

end Go.Proofs.Ythmgfeokhjelmaa.B
