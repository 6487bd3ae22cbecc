/- Lemmas about the printed functions (marklots). -/
import Derived.Test.YtfnngpfkcnfhiaaPAllx0
import Derived.Test.YtfnngpfkcnfhiaaPAllx10
import Derived.Test.YtfnngpfkcnfhiaaBbase
import Derived.Test.YtfnngpfkcnfhiaaBints
import Derived.Test.YtfnngpfkcnfhiaaBlots
namespace Go.Proofs.Ytfnngpfkcnfhiaa.B
open Go.RowKit Go.Proofs.Ytfnngpfkcnfhiaa.PAll Go.Proofs.YtfnngpfkcnfhiaaW.PrintWords Go.Proofs.YtfnngpfkcnfhiaaW.PrintLast
set_option linter.unusedVariables false
set_option linter.unusedSimpArgs false

/-! #### marks in lots, and that they are held -/
def marked : Int → Nat → List S30
  | _, 0 => []
  | n, d + 1 => ⟨n, n + 1, n + 1 + 1⟩ :: marked (n + 1 + 1 + 1) d
theorem marked_len : ∀ (d : Nat) (n : Int), (marked n d).length = d := by
  intro d
  induction d with
  | zero => exact fun _ => rfl
  | succ d ih => intro n; rw [marked, List.length_cons, ih]
theorem laws_markLotS_l0 : ∀ (d : Nat) (x : List S30) (n : Int) (i : Nat), i + d = x.length → x.length ≤ 1048576 → 0 ≤ n → n ≤ 3 * i + 10000000 → ∀ k, d + 1 ≤ k →
    laws_markLotS.l0 k x n i = some (n + 3 * d, x.take i ++ marked n d) := by
  intro d
  induction d with
  | zero =>
    intro x n i hi hl n0 n1 k hk
    obtain ⟨k, rfl, _⟩ := rounds1 hk
    rw [laws_markLotS.l0, if_neg (by omega), marked, List.append_nil, List.take_of_length_le (by omega)]
    simp
  | succ d ih =>
    intro x n i hi hl n0 n1 k hk
    obtain ⟨k, rfl, hk'⟩ := rounds1 hk
    have r : ∀ v : S30, rd_T30 (x.set i v) (i : Int) = v := by
      intro v
      rw [rd_lot _ i (by rw [List.length_set]; omega), List.getElem_set_self]
    rw [laws_markLotS.l0, if_pos (by omega), if_pos (by omega), w64 (n + 1) (by omega) (by omega), w64 (n + 1 + 1) (by omega) (by omega), w64 (n + 1 + 1 + 1) (by omega) (by omega), w64 ((i : Int) + 1) (by omega) (by omega), up, Int.toNat_natCast]
    simp only [bsome, List.set_set, r]
    rw [ih _ (n + 1 + 1 + 1) (i + 1) (by rw [List.length_set]; omega) (by rw [List.length_set]; omega) (by omega) (by omega) k hk', take_set _ _ _ (by omega), List.append_assoc, marked]
    have : n + 1 + 1 + 1 + 3 * (d : Int) = n + 3 * ((d + 1 : Nat) : Int) := by omega
    rw [this]
    rfl
theorem laws_markLotS_eq (x : List S30) (hl : x.length ≤ 1048576) (n : Int) (n0 : 0 ≤ n) (n1 : n ≤ 10000000) (k : Nat) (hk : x.length + 1 ≤ k) : laws_markLotS.f k x n = some (n + 3 * x.length, marked n x.length) := by
  unfold laws_markLotS.f
  have e := laws_markLotS_l0 x.length x n 0 (by omega) hl n0 (by omega) k hk
  rw [List.take_zero, List.nil_append] at e
  exact e
theorem laws_heldLotS_l0 (x : List S30) (hl : x.length ≤ 1048576) : ∀ (d i : Nat) (n : Int), i + d = x.length → 0 ≤ n → n ≤ 3 * i + 10000000 → x.drop i = marked n d → ∀ k, d + 1 ≤ k → laws_heldLotS.l0 k x n i = some (n + 3 * d) := by
  intro d
  induction d with
  | zero =>
    intro i n hi n0 n1 hx k hk
    obtain ⟨k, rfl, _⟩ := rounds1 hk
    rw [laws_heldLotS.l0, if_neg (by omega)]
    simp
  | succ d ih =>
    intro i n hi n0 n1 hx k hk
    obtain ⟨k, rfl, hk'⟩ := rounds1 hk
    rw [drop_lot x i (by omega), marked] at hx
    obtain ⟨h1, h2⟩ := List.cons.inj hx
    rw [laws_heldLotS.l0, if_pos (by omega), if_pos (by omega), h1, w64 (n + 1) (by omega) (by omega), w64 (n + 1 + 1) (by omega) (by omega), w64 (n + 1 + 1 + 1) (by omega) (by omega), w64 ((i : Int) + 1) (by omega) (by omega), up, if_pos rfl, if_pos rfl, if_pos rfl,
      ih (i + 1) _ (by omega) (by omega) (by omega) h2 k hk']
    have : n + 1 + 1 + 1 + 3 * (d : Int) = n + 3 * ((d + 1 : Nat) : Int) := by omega
    rw [this]
theorem laws_heldLotS_eq (d : Nat) (hl : d ≤ 1048576) (n : Int) (n0 : 0 ≤ n) (n1 : n ≤ 10000000) (k : Nat) (hk : d + 1 ≤ k) : laws_heldLotS.f k (marked n d) n = some (n + 3 * d) := by
  unfold laws_heldLotS.f
  have ml := marked_len d n
  exact laws_heldLotS_l0 (marked n d) (by omega) d 0 n (by omega) n0 (by omega) rfl k hk

end Go.Proofs.Ytfnngpfkcnfhiaa.B
