/- Lemmas about the printed functions (mapfrom). -/
import Derived.Test.YtleehcjhbpnmlaaPAllx0
import Derived.Test.YtleehcjhbpnmlaaBbase
namespace Go.Proofs.Ytleehcjhbpnmlaa.B
open Go.RowKit Go.Proofs.Ytleehcjhbpnmlaa.PAll Go.Proofs.YtleehcjhbpnmlaaW.PrintWords Go.Proofs.YtleehcjhbpnmlaaW.PrintLast
set_option linter.unusedVariables false
set_option linter.unusedSimpArgs false

/-! #### lists of numbers told by a function of the place -/
def mapFrom (f : Int → Int) : Nat → Int → List Int
  | 0, _ => []
  | d + 1, i => f i :: mapFrom f d (i + 1)
theorem mapFrom_len (f : Int → Int) : ∀ (d : Nat) (i : Int), (mapFrom f d i).length = d := by
  intro d
  induction d with
  | zero => exact fun _ => rfl
  | succ d ih => intro i; rw [mapFrom, List.length_cons, ih]
theorem mapFrom_at (f : Int → Int) : ∀ (d : Nat) (i : Int) (j : Nat), j < d → (mapFrom f d i)[j]? = some (f (i + j)) := by
  intro d
  induction d with
  | zero => intro _ j h; omega
  | succ d ih =>
    intro i j h
    rw [mapFrom]
    cases j with
    | zero => simp
    | succ j =>
      rw [List.getElem?_cons_succ, ih (i + 1) j (by omega)]
      rw [show i + 1 + (j : Int) = i + ((j + 1 : Nat) : Int) by omega]
theorem mapFrom_rd (f : Int → Int) (d : Nat) (j : Int) (h0 : 0 ≤ j) (h1 : j < d) : rd (mapFrom f d 0) j = f j := by
  unfold rd
  rw [List.getD_eq_getElem?_getD, mapFrom_at f d 0 j.toNat (by omega), show (0 : Int) + (j.toNat : Int) = j by omega]
  rfl
theorem mapFrom_congr (f g : Int → Int) : ∀ (d : Nat) (i : Int), (∀ j, i ≤ j → j < i + d → f j = g j) → mapFrom f d i = mapFrom g d i := by
  intro d
  induction d with
  | zero => exact fun _ _ => rfl
  | succ d ih =>
    intro i h
    rw [mapFrom, mapFrom, h i (by omega) (by omega), ih (i + 1) fun j h1 h2 => h j (by omega) (by omega)]

end Go.Proofs.Ytleehcjhbpnmlaa.B
