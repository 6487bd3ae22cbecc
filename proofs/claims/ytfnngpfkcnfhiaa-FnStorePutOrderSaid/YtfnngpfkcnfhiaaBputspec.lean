/- Lemmas about the printed functions (putspec). -/
import Derived.Test.YtfnngpfkcnfhiaaPAllx0
import Derived.Test.YtfnngpfkcnfhiaaPAllx4
import Derived.Test.YtfnngpfkcnfhiaaPAllx5
import Derived.Test.YtfnngpfkcnfhiaaBbase
import Derived.Test.YtfnngpfkcnfhiaaBwithin
import Derived.Test.YtfnngpfkcnfhiaaBlots
import Derived.Test.YtfnngpfkcnfhiaaBstorespec
import Derived.Test.YtfnngpfkcnfhiaaBputdef
namespace Go.Proofs.Ytfnngpfkcnfhiaa.B
open Go.RowKit Go.Proofs.Ytfnngpfkcnfhiaa.PAll Go.Proofs.YtfnngpfkcnfhiaaW.PrintWords Go.Proofs.YtfnngpfkcnfhiaaW.PrintLast
set_option linter.unusedVariables false
set_option linter.unusedSimpArgs false

theorem spec_l21Put_l0 (l : List S30) (hl : l.length ≤ 1048576) (x : S30) : ∀ (d i : Nat), i + d = l.length → ∀ (acc : List S30) (f : Bool), acc.length ≤ 2 * i → ∀ k, 2 * d + 1 ≤ k →
    spec_l21Put.l0 k l acc f i x.f0 x.f1 x.f2 = some (acc ++ (if f = true then l.drop i else putL x (l.drop i))) := by
  intro d
  induction d with
  | zero =>
    intro i hi acc f hx k hk
    obtain ⟨k, rfl, _⟩ := rounds1 (k := k) (B := 0) (by omega)
    rw [List.drop_eq_nil_of_le (by omega), spec_l21Put.l0, if_neg (by omega)]
    cases f with
    | true => rw [if_pos rfl, if_pos rfl, List.append_nil]
    | false =>
      rw [if_neg (by simp), if_pos (by omega), if_neg (by simp)]
      rfl
  | succ d ih =>
    intro i hi acc f hx k hk
    obtain ⟨k, rfl⟩ : ∃ q, k = q + 1 + 1 := ⟨k - 2, by omega⟩
    have di := drop_lot l i (by omega)
    generalize hy : rd_T30 l (i : Int) = y at di
    have one : ∀ (z : S30) (f' : Bool), spec_l21Put.l0 k l (acc ++ [z]) f' (wrap64 ((i : Int) + 1)) x.f0 x.f1 x.f2 = some (acc ++ [z] ++ (if f' = true then l.drop (i + 1) else putL x (l.drop (i + 1)))) := by
      intro z f'
      rw [w64 _ (by omega) (by omega), up]
      exact ih (i + 1) (by omega) _ f' (by rw [List.length_append, List.length_singleton]; omega) k (by omega)
    have two : ∀ (z z' : S30) (f' : Bool), spec_l21Put.l0 k l (acc ++ [z] ++ [z']) f' (wrap64 ((i : Int) + 1)) x.f0 x.f1 x.f2 = some (acc ++ [z] ++ [z'] ++ (if f' = true then l.drop (i + 1) else putL x (l.drop (i + 1)))) := by
      intro z z' f'
      rw [w64 _ (by omega) (by omega), up]
      exact ih (i + 1) (by omega) _ f' (by rw [List.length_append, List.length_append, List.length_singleton, List.length_singleton]; omega) k (by omega)
    have be := l21Before_eq x y
    have j1 : ∀ g : Bool, (f = true → g = false) → (f = false → (g = true ↔ sameDay y x)) → spec_l21Put.j1 (k + 1) l acc f i g x.f0 x.f1 x.f2 y.f0 y.f1 y.f2 = some (acc ++ (if f = true then l.drop i else putL x (l.drop i))) := by
      intro g hf hg
      rw [spec_l21Put.j1, di, putL]
      cases f with
      | true =>
        rw [hf rfl, if_neg (by simp), if_pos rfl, if_pos (by omega), one, if_pos rfl, if_pos rfl, List.append_assoc]
        rfl
      | false =>
        have hg' := hg rfl
        by_cases c : sameDay y x
        · rw [hg'.2 c, if_pos rfl, if_pos (by omega), one, if_pos rfl, if_neg (by simp), if_pos c, List.append_assoc]
          rfl
        · have g0 : g = false := Bool.eq_false_iff.2 fun h => c (hg'.1 h)
          rw [g0, if_neg (by simp), if_neg (by simp), be]
          simp only [bsome]
          by_cases b : befL x y
          · rw [decide_eq_true b, if_pos rfl, if_pos (by omega), if_pos (by rw [List.length_append, List.length_singleton]; omega), two, if_pos rfl, if_neg (by simp), if_neg c, if_pos b, List.append_assoc, List.append_assoc]
            rfl
          · rw [decide_eq_false b, if_neg (by simp), if_pos (by omega), one, if_neg (by simp), if_neg (by simp), if_neg c, if_neg b, List.append_assoc]
            rfl
    rw [spec_l21Put.l0, if_pos (by omega), if_pos (by omega), hy]
    cases f with
    | true => rw [if_pos rfl]; exact j1 false (fun _ => rfl) (fun h => by cases h)
    | false =>
      rw [if_neg (by simp)]
      by_cases c : y.f0 = x.f0
      · rw [if_pos c]
        refine j1 _ (fun h => by cases h) (fun _ => ?_)
        rw [beq_iff_eq]
        exact ⟨fun h => ⟨c, h⟩, fun h => h.2⟩
      · rw [if_neg c]
        exact j1 false (fun _ => rfl) (fun _ => ⟨fun h => (by cases h), fun h => absurd h.1 c⟩)
theorem spec_l21Put_eq (l : List S30) (hl : l.length ≤ 1048576) (x : S30) (k : Nat) (hk : 2 * l.length + 1 ≤ k) : spec_l21Put.f k l x.f0 x.f1 x.f2 = some (putL x l) := by
  unfold spec_l21Put.f
  exact spec_l21Put_l0 l hl x l.length 0 (by omega) [] false (by simp) k hk
theorem spec_StorePut_eq (l : List S30) (hl : l.length ≤ 1048576) (x : S30) (k : Nat) (hk : 2 * l.length + 4 ≤ k) : spec_StorePut.f k l x.f0 x.f1 x.f2 = some (putV l x) := by
  obtain ⟨k, rfl, hk'⟩ := rounds1 (k := k) (B := 2 * l.length + 3) (by omega)
  have lot := l21Lot_eq x
  have pl := putL_len x l
  unfold spec_StorePut.f putV
  rw [spec_StoreValid_eq l (by omega) _ (by omega)]
  simp only [bsome]
  by_cases hv : storeV l = true
  · rw [if_pos hv, lot]
    simp only [bsome]
    by_cases ok : okL x
    · rw [decide_eq_true ok, Bool.not_true, spec_StorePut.j0, if_neg (by simp), spec_l21Put_eq l hl x k (by omega)]
      simp only [bsome]
      rw [spec_StoreValid_eq _ (by omega) k (by omega)]
      simp only [bsome]
      by_cases h : storeV (putL x l) = true
      · rw [if_pos h, if_pos ⟨hv, ok, h⟩]
      · rw [if_neg h, if_neg (fun z => h z.2.2)]
    · rw [decide_eq_false ok, Bool.not_false, spec_StorePut.j0, if_pos rfl, if_neg (fun z => ok z.2.1)]
  · rw [if_neg hv, spec_StorePut.j0, if_pos rfl, if_neg (fun z => hv z.1)]

end Go.Proofs.Ytfnngpfkcnfhiaa.B
