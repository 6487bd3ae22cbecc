/- Lemmas about the printed functions (storehas). -/
import Derived.Test.YtfnngpfkcnfhiaaPAllx0
import Derived.Test.YtfnngpfkcnfhiaaPAllx13
import Derived.Test.YtfnngpfkcnfhiaaBbase
import Derived.Test.YtfnngpfkcnfhiaaBwithin
import Derived.Test.YtfnngpfkcnfhiaaBlots
import Derived.Test.YtfnngpfkcnfhiaaBstorespec
import Derived.Test.YtfnngpfkcnfhiaaBstoreimpl
namespace Go.Proofs.Ytfnngpfkcnfhiaa.B
open Go.RowKit Go.Proofs.Ytfnngpfkcnfhiaa.PAll Go.Proofs.YtfnngpfkcnfhiaaW.PrintWords Go.Proofs.YtfnngpfkcnfhiaaW.PrintLast
set_option linter.unusedVariables false
set_option linter.unusedSimpArgs false

/-! #### how much of a food is there -/
def hasL (id day : Int) : List S30 → Int
  | [] => 0
  | x :: xs => (if x.f0 = id ∧ x.f1 ≥ day then x.f2 else 0) + hasL id day xs
theorem hasL_range (id day : Int) : ∀ l : List S30, (∀ x ∈ l, okL x) → 0 ≤ hasL id day l ∧ hasL id day l ≤ 9999 * l.length := by
  intro l
  induction l with
  | nil => intro _; simp [hasL]
  | cons x xs ih =>
    intro h
    have a := ih fun y hy => h y (List.mem_cons_of_mem _ hy)
    have b := h x (List.mem_cons_self ..)
    unfold okL at b
    rw [hasL, List.length_cons]
    split <;> omega
def hasV (l : List S30) (id day : Int) : Int := if storeV l = true then hasL id day l else -1
theorem impl_StoreHas_l0 (l : List S30) (hv : storeV l = true) (id day : Int) : ∀ (d i : Nat), i + d = l.length → ∀ (acc : Int), 0 ≤ acc → acc ≤ 9999 * i → ∀ k, d + 1 ≤ k → impl_StoreHas.l0 k id day acc l (l.length : Int) i = some (acc + hasL id day (l.drop i)) := by
  obtain ⟨h1, h2, h3⟩ := (storeV_iff l).1 hv
  intro d
  induction d with
  | zero =>
    intro i hi acc b0 b1 k hk
    obtain ⟨k, rfl, _⟩ := rounds1 hk
    rw [impl_StoreHas.l0, if_neg (by omega), List.drop_of_length_le (by omega), hasL, Int.add_zero]
  | succ d ih =>
    intro i hi acc b0 b1 k hk
    obtain ⟨k, rfl, hk'⟩ := rounds1 hk
    have ok := h2 _ (List.getElem_mem (by omega : i < l.length))
    rw [← rd_lot l i (by omega)] at ok
    unfold okL at ok
    rw [impl_StoreHas.l0, if_pos (by omega), if_pos (by omega), if_pos (by omega), w64 ((i : Int) + 1) (by omega) (by omega), up, drop_lot l i (by omega), hasL, w64 (acc + _) (by omega) (by omega)]
    by_cases c1 : (rd_T30 l (i : Int)).f0 = id
    · by_cases c2 : (rd_T30 l (i : Int)).f1 ≥ day
      · rw [if_pos c1, if_pos c2, if_pos ⟨c1, c2⟩, ih (i + 1) (by omega) _ (by omega) (by omega) k hk', Int.add_assoc]
      · rw [if_pos c1, if_neg c2, if_neg (fun h => c2 h.2), Int.zero_add]
        exact ih (i + 1) (by omega) _ (by omega) (by omega) k hk'
    · rw [if_neg c1, if_neg (fun h => c1 h.1), Int.zero_add]
      exact ih (i + 1) (by omega) _ (by omega) (by omega) k hk'
theorem impl_StoreHas_eq (l : List S30) (hl : l.length ≤ 1000000000) (id day : Int) (k : Nat) (hk : l.length + 4 ≤ k) : impl_StoreHas.f k l id day = some (hasV l id day) := by
  unfold impl_StoreHas.f hasV
  rw [impl_StoreValid_eq l hl k hk]
  simp only [bsome]
  by_cases hv : storeV l = true
  · have e := impl_StoreHas_l0 l hv id day l.length 0 (by omega) 0 (by omega) (by omega) k (by omega)
    rw [List.drop_zero, Int.zero_add] at e
    rw [if_pos hv, if_pos hv]
    exact e
  · rw [if_neg hv, if_neg hv]
theorem spec_StoreHas_l0 (l : List S30) (hv : storeV l = true) (id day : Int) : ∀ (d i : Nat), i + d = l.length → ∀ (acc : Int), 0 ≤ acc → acc ≤ 9999 * i → ∀ k, d + 1 ≤ k → spec_StoreHas.l0 k l id day acc i = some (acc + hasL id day (l.drop i)) := by
  obtain ⟨h1, h2, h3⟩ := (storeV_iff l).1 hv
  intro d
  induction d with
  | zero =>
    intro i hi acc b0 b1 k hk
    obtain ⟨k, rfl, _⟩ := rounds1 hk
    rw [spec_StoreHas.l0, if_neg (by omega), List.drop_of_length_le (by omega), hasL, Int.add_zero]
  | succ d ih =>
    intro i hi acc b0 b1 k hk
    obtain ⟨k, rfl, hk'⟩ := rounds1 hk
    have ok := h2 _ (List.getElem_mem (by omega : i < l.length))
    rw [← rd_lot l i (by omega)] at ok
    unfold okL at ok
    rw [spec_StoreHas.l0, if_pos (by omega), if_pos (by omega), w64 ((i : Int) + 1) (by omega) (by omega), up, drop_lot l i (by omega), hasL, w64 (acc + _) (by omega) (by omega)]
    by_cases c1 : (rd_T30 l (i : Int)).f0 = id
    · by_cases c2 : (rd_T30 l (i : Int)).f1 ≥ day
      · rw [if_pos c1, if_pos c2, if_pos ⟨c1, c2⟩, ih (i + 1) (by omega) _ (by omega) (by omega) k hk', Int.add_assoc]
      · rw [if_pos c1, if_neg c2, if_neg (fun h => c2 h.2), Int.zero_add]
        exact ih (i + 1) (by omega) _ (by omega) (by omega) k hk'
    · rw [if_neg c1, if_neg (fun h => c1 h.1), Int.zero_add]
      exact ih (i + 1) (by omega) _ (by omega) (by omega) k hk'
theorem spec_StoreHas_eq (l : List S30) (hl : l.length ≤ 1000000000) (id day : Int) (k : Nat) (hk : l.length + 1 ≤ k) : spec_StoreHas.f k l id day = some (hasV l id day) := by
  unfold spec_StoreHas.f hasV
  rw [spec_StoreValid_eq l hl k hk]
  simp only [bsome]
  by_cases hv : storeV l = true
  · have e := spec_StoreHas_l0 l hv id day l.length 0 (by omega) 0 (by omega) (by omega) k (by omega)
    rw [List.drop_zero, Int.zero_add] at e
    rw [if_pos hv, if_pos hv]
    exact e
  · rw [if_neg hv, if_neg hv]

end Go.Proofs.Ytfnngpfkcnfhiaa.B
