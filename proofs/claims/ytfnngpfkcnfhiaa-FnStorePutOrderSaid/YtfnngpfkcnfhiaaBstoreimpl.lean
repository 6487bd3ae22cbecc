/- Lemmas about the printed functions (storeimpl). -/
import Derived.Test.YtfnngpfkcnfhiaaPAllx0
import Derived.Test.YtfnngpfkcnfhiaaPAllx5
import Derived.Test.YtfnngpfkcnfhiaaPAllx6
import Derived.Test.YtfnngpfkcnfhiaaPAllx7
import Derived.Test.YtfnngpfkcnfhiaaBbase
import Derived.Test.YtfnngpfkcnfhiaaBwithin
import Derived.Test.YtfnngpfkcnfhiaaBlots
namespace Go.Proofs.Ytfnngpfkcnfhiaa.B
open Go.RowKit Go.Proofs.Ytfnngpfkcnfhiaa.PAll Go.Proofs.YtfnngpfkcnfhiaaW.PrintWords Go.Proofs.YtfnngpfkcnfhiaaW.PrintLast
set_option linter.unusedVariables false
set_option linter.unusedSimpArgs false

theorem lotValid_eq (x : S30) : impl_lotValid.f x.f0 x.f1 x.f2 = some (decide (okL x)) := by
  unfold impl_lotValid.f impl_isId.f
  rw [within_eq, within_eq, within_eq]
  simp only [bsome]
  by_cases h : okL x
  · rw [decide_eq_true h, decide_eq_true h.1, decide_eq_true h.2.1, if_pos rfl, if_pos rfl, decide_eq_true h.2.2]
  · rw [decide_eq_false h]
    by_cases h1 : 1 ≤ x.f0 ∧ x.f0 ≤ 20
    · by_cases h2 : 0 ≤ x.f1 ∧ x.f1 ≤ 99
      · rw [decide_eq_true h1, decide_eq_true h2, if_pos rfl, if_pos rfl, decide_eq_false (fun h3 => h ⟨h1, h2, h3⟩)]
      · rw [decide_eq_true h1, decide_eq_false h2, if_pos rfl, if_neg (by simp)]
    · rw [decide_eq_false h1, if_neg (by simp)]
def cmpI (a b : Int) : Int := if a < b then -1 else if a > b then 1 else 0
theorem compare_eq (a b : Int) : cmp_Compare_int.f a b = some (cmpI a b) := by
  unfold cmp_Compare_int.f cmp_isNaN_int.f cmpI
  simp only [bsome, bne_self_eq_false, Bool.false_eq_true, if_false]
  split
  · rfl
  · split <;> rfl
theorem or_eq (a b : Int) (k : Nat) (hk : 3 ≤ k) : cmp_Or_int.f k [a, b] = some (if a = 0 then b else a) := by
  obtain ⟨k, rfl⟩ : ∃ q, k = q + 1 + 1 + 1 := ⟨k - 3, by omega⟩
  unfold cmp_Or_int.f
  generalize hq : k + 1 + 1 = q
  have e2 : (([a, b] : List Int).length : Int) = 2 := rfl
  have r0 : rd [a, b] 0 = a := rfl
  have r1 : rd [a, b] 1 = b := rfl
  rw [e2, cmp_Or_int.l0, if_pos (by omega), if_pos (by omega), if_pos (by omega), r0]
  by_cases h : a = 0
  · rw [if_pos h, if_pos h, show wrap64 (0 + 1) = 1 by have := w64 (0 + 1) (by omega) (by omega); omega, ← hq]
    generalize hq' : k + 1 = q'
    rw [cmp_Or_int.l0, if_pos (by omega), if_pos (by omega), if_pos (by rw [e2]; omega), r1]
    by_cases g : b = 0
    · rw [if_pos g, show wrap64 (1 + 1) = 2 by have := w64 (1 + 1) (by omega) (by omega); omega, ← hq', cmp_Or_int.l0, if_neg (by omega), g]
    · rw [if_neg g]
  · rw [if_neg h, if_neg h]
theorem compareLots_eq (x y : S30) : ∃ v : Int, (∀ k, 3 ≤ k → impl_compareLots.f k x.f0 x.f1 x.f2 y.f0 y.f1 y.f2 = some v) ∧ (v ≥ 0 ↔ ¬ befL x y) := by
  refine ⟨if cmpI x.f0 y.f0 = 0 then cmpI x.f1 y.f1 else cmpI x.f0 y.f0, fun k hk => ?_, ?_⟩
  · unfold impl_compareLots.f
    rw [compare_eq, compare_eq]
    simp only [bsome]
    rw [or_eq _ _ k hk]
    simp only [bsome]
  · unfold cmpI befL
    by_cases a : x.f0 < y.f0
    · rw [if_pos a, if_neg (by omega)]
      omega
    · rw [if_neg a]
      by_cases b : x.f0 > y.f0
      · rw [if_pos b, if_neg (by omega)]
        omega
      · rw [if_neg b, if_pos rfl]
        by_cases c : x.f1 < y.f1
        · rw [if_pos c]
          omega
        · rw [if_neg c]
          by_cases d : x.f1 > y.f1
          · rw [if_pos d]
            omega
          · rw [if_neg d]
            omega
theorem impl_StoreValid_l0 (l : List S30) (hl : l.length ≤ 1000000000) : ∀ (d : Nat) (i : Int), 0 ≤ i → i + d = l.length → ∀ k, d + 4 ≤ k → impl_StoreValid.l0 k l l (l.length : Int) i = some (allFrom (okLotAt l) d i && decide ((l.length : Int) ≤ 12)) := by
  intro d
  induction d with
  | zero =>
    intro i h0 hi k hk
    obtain ⟨k, rfl, _⟩ := rounds1 (k := k) (B := 3) (by omega)
    rw [impl_StoreValid.l0, if_neg (by omega), allFrom, Bool.true_and]
  | succ d ih =>
    intro i h0 hi k hk
    obtain ⟨k, rfl, hk'⟩ := rounds1 (k := k) (B := d + 4) (by omega)
    have e := ih (i + 1) (by omega) (by omega) k hk'
    rw [impl_StoreValid.l0, if_pos (by omega), if_pos h0, if_pos (by omega), lotValid_eq]
    simp only [bsome]
    rw [allFrom, okLotAt]
    by_cases c : okL (rd_T30 l i)
    · rw [decide_eq_true c, if_pos rfl, Bool.true_and, w64 (i + 1) (by omega) (by omega)]
      by_cases c0 : i > 0
      · obtain ⟨v, ev, hv⟩ := compareLots_eq (rd_T30 l (i - 1)) (rd_T30 l i)
        rw [if_pos c0, w64 (i - 1) (by omega) (by omega), if_pos (by omega), if_pos (by omega), ev k (by omega), decide_eq_false (show ¬ (i ≤ 0) by omega), Bool.false_or]
        simp only [bsome]
        by_cases c1 : befL (rd_T30 l (i - 1)) (rd_T30 l i)
        · rw [decide_eq_true c1, if_neg (fun h => hv.1 h c1), e, Bool.true_and]
        · rw [decide_eq_false c1, if_pos (hv.2 c1), Bool.false_and, Bool.false_and]
      · rw [if_neg c0, e, decide_eq_true (show i ≤ 0 by omega), Bool.true_or, Bool.true_and]
    · rw [decide_eq_false c, if_neg (by simp), Bool.false_and, Bool.false_and, Bool.false_and]
theorem impl_StoreValid_eq (l : List S30) (hl : l.length ≤ 1000000000) (k : Nat) (hk : l.length + 4 ≤ k) : impl_StoreValid.f k l = some (storeV l) := by
  unfold impl_StoreValid.f storeV
  exact impl_StoreValid_l0 l hl l.length 0 (by omega) (by omega) k hk

end Go.Proofs.Ytfnngpfkcnfhiaa.B
