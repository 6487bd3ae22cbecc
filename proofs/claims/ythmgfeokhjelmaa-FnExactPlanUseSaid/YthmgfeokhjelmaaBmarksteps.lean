/- Lemmas about the printed functions (marksteps). -/
import Derived.Test.YthmgfeokhjelmaaPAllx0
import Derived.Test.YthmgfeokhjelmaaPAllx11
import Derived.Test.YthmgfeokhjelmaaBbase
import Derived.Test.YthmgfeokhjelmaaBints
import Derived.Test.YthmgfeokhjelmaaBstepsv
namespace Go.Proofs.Ythmgfeokhjelmaa.B
open Go.RowKit Go.Proofs.Ythmgfeokhjelmaa.PAll Go.Proofs.YthmgfeokhjelmaaW.PrintWords Go.Proofs.YthmgfeokhjelmaaW.PrintLast
set_option linter.unusedVariables false
set_option linter.unusedSimpArgs false

/-! marks in steps and in their rows: only that the count stays a small number matters -/
theorem laws_markIntS_big_l0 : ∀ (d i : Nat) (x : List Int), i + d = x.length → x.length ≤ 2000000 → ∀ n : Int, 0 ≤ n → n ≤ 100000000000000 + i → ∀ k, d + 1 ≤ k →
    ∃ y : List Int, laws_markIntS.l0 k x n (i : Int) = some (n + d, y) := by
  intro d
  induction d with
  | zero =>
    intro i x hi hl n n0 n1 k hk
    obtain ⟨k, rfl, _⟩ := rounds1 hk
    refine ⟨x, ?_⟩
    rw [laws_markIntS.l0, if_neg (by omega)]
    simp
  | succ d ih =>
    intro i x hi hl n n0 n1 k hk
    obtain ⟨k, rfl, hk'⟩ := rounds1 hk
    rw [laws_markIntS.l0, if_pos (by omega), if_pos (by omega), w64 (n + 1) (by omega) (by omega), w64 ((i : Int) + 1) (by omega) (by omega), show ((i : Int) + 1) = ((i + 1 : Nat) : Int) by omega]
    obtain ⟨y, e⟩ := ih (i + 1) (x.set (i : Int).toNat n) (by rw [List.length_set]; omega) (by rw [List.length_set]; omega) (n + 1) (by omega) (by omega) k hk'
    exact ⟨y, by rw [e, show n + 1 + (d : Int) = n + ((d + 1 : Nat) : Int) by omega]⟩
theorem laws_markIntS_big (x : List Int) (hl : x.length ≤ 2000000) (n : Int) (n0 : 0 ≤ n) (n1 : n ≤ 100000000000000) (k : Nat) (hk : x.length + 1 ≤ k) : ∃ y : List Int, laws_markIntS.f k x n = some (n + x.length, y) := by
  unfold laws_markIntS.f
  exact laws_markIntS_big_l0 x.length 0 x (by omega) hl n n0 (by omega) k hk
theorem laws_markStepS_l0 (M : Nat) (hM : M ≤ 1048577) (l : List S40) (hl : l.length ≤ 1048576) (hf : ∀ i : Int, 0 ≤ i → i < l.length → (rd_T40 l i).f3.length + 1 ≤ M) : ∀ (d i : Nat), i + d = l.length → ∀ n : Int, 0 ≤ n → n ≤ 100 + 2000000 * (i : Int) → ∀ k, d + M + 1 ≤ k →
    ∃ r : Int, (0 ≤ r ∧ r ≤ 5000000000000) ∧ laws_markStepS.l0 k l n (i : Int) = some r := by
  intro d
  induction d with
  | zero =>
    intro i hi n n0 n1 k hk
    obtain ⟨k, rfl, _⟩ := rounds1 (k := k) (B := M) (by omega)
    refine ⟨n, by omega, ?_⟩
    rw [laws_markStepS.l0, if_neg (by omega)]
  | succ d ih =>
    intro i hi n n0 n1 k hk
    obtain ⟨k, rfl, hk'⟩ := rounds1 (k := k) (B := d + M + 1) (by omega)
    have h := hf i (by omega) (by omega)
    obtain ⟨y, e⟩ := laws_markIntS_big (rd_T40 l (i : Int)).f3 (by omega) (n + 1 + 1 + 1) (by omega) (by omega) k (by omega)
    rw [laws_markStepS.l0, if_pos (by omega), if_pos (by omega), w64 (n + 1) (by omega) (by omega), w64 (n + 1 + 1) (by omega) (by omega), w64 (n + 1 + 1 + 1) (by omega) (by omega), w64 ((i : Int) + 1) (by omega) (by omega), show ((i : Int) + 1) = ((i + 1 : Nat) : Int) by omega, e]
    simp only [bsome]
    exact ih (i + 1) (by omega) _ (by omega) (by omega) k hk'
theorem laws_markStepS_ok (l : List S40) (hl : l.length ≤ 1048576) (hf : ∀ i : Int, 0 ≤ i → i < l.length → (rd_T40 l i).f3.length ≤ 1048576) (k : Nat) (hk : l.length + 1048578 ≤ k) : ∃ r : Int, (0 ≤ r ∧ r ≤ 5000000000000) ∧ laws_markStepS.f k l 1 = some r := by
  obtain ⟨M, hM⟩ : ∃ M : Nat, M = 1048577 := ⟨_, rfl⟩
  unfold laws_markStepS.f
  exact laws_markStepS_l0 M (by omega) l hl (fun i h0 hi => by have := hf i h0 hi; omega) l.length 0 (by omega) 1 (by omega) (by omega) k (by omega)

end Go.Proofs.Ythmgfeokhjelmaa.B
