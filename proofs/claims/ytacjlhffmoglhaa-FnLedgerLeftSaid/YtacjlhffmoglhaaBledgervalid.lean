/- Lemmas about the printed functions (ledgervalid). -/
import Derived.Test.YtacjlhffmoglhaaPAllx0
import Derived.Test.YtacjlhffmoglhaaPAllx2
import Derived.Test.YtacjlhffmoglhaaPAllx3
import Derived.Test.YtacjlhffmoglhaaPAllx4
import Derived.Test.YtacjlhffmoglhaaBbase
import Derived.Test.YtacjlhffmoglhaaBwithin
import Derived.Test.YtacjlhffmoglhaaBentrydef
import Derived.Test.YtacjlhffmoglhaaBrdset
namespace Go.Proofs.Ytacjlhffmoglhaa.B
open Go.RowKit Go.Proofs.Ytacjlhffmoglhaa.PAll Go.Proofs.YtacjlhffmoglhaaW.PrintWords Go.Proofs.YtacjlhffmoglhaaW.PrintLast
set_option linter.unusedVariables false
set_option linter.unusedSimpArgs false

/-! #### a ledger is valid, both ways -/
theorem l23Entry_eq (x : S40) : spec_l23Entry.f x.f0 x.f1 x.f2 = some (decide (okE x)) := by
  unfold spec_l23Entry.f
  rw [l6In_eq, l6In_eq, l6In_eq]
  simp only [bsome, decide_eq_true_eq]
  by_cases h1 : 1 ≤ x.f0 ∧ x.f0 ≤ 3
  · rw [if_pos h1]
    by_cases h2 : 1 ≤ x.f1 ∧ x.f1 ≤ 20
    · rw [if_pos h2]
      by_cases h3 : 1 ≤ x.f2 ∧ x.f2 ≤ 9999
      · rw [decide_eq_true h3, decide_eq_true (show okE x from ⟨h1, h2, h3⟩)]
      · rw [decide_eq_false h3, decide_eq_false (show ¬ okE x from fun q => h3 q.2.2)]
    · rw [if_neg h2, decide_eq_false (show ¬ okE x from fun q => h2 q.2.1)]
  · rw [if_neg h1, decide_eq_false (show ¬ okE x from fun q => h1 q.1)]
theorem take_range (l : List S40) (i : Nat) (hi : i ≤ l.length) (h : ∀ j : Nat, j < i → okE (rd_T40 l (j : Int))) (f : Int) : -(9999 * (i : Int)) ≤ bal (l.take i) f ∧ bal (l.take i) f ≤ 9999 * (i : Int) := by
  have e : (l.take i).length = i := by rw [List.length_take]; omega
  have q := bal_range f (l.take i) (fun x hx => by
    obtain ⟨j, hj, rfl⟩ := List.getElem_of_mem hx
    rw [List.getElem_take, ← rd_entry l j (by omega)]
    exact h j (by omega))
  rw [e] at q
  exact q
theorem l23Left_l0 (l : List S40) (hl : l.length ≤ 2000000) (f : Int) (m : Nat) (hm : m ≤ l.length) (h : ∀ j : Nat, j < m → okE (rd_T40 l (j : Int))) : ∀ (d i : Nat), i + d = m → ∀ k, d + 1 ≤ k →
    spec_l23Left.l0 k l (m : Int) f (bal (l.take i) f) (i : Int) = some (bal (l.take m) f) := by
  intro d
  induction d with
  | zero =>
    intro i hi k hk
    obtain ⟨k, rfl, _⟩ := rounds1 hk
    rw [spec_l23Left.l0, if_neg (by omega), show i = m by omega]
  | succ d ih =>
    intro i hi k hk
    obtain ⟨k, rfl, hk'⟩ := rounds1 hk
    have e := ih (i + 1) (by omega) k hk'
    have r := take_range l i (by omega) (fun j hj => h j (by omega)) f
    have o := h i (by omega)
    rw [take_entry l i (by omega), bal_snoc] at e
    rw [spec_l23Left.l0, if_pos (by omega), if_pos (by omega), if_pos (by omega), w64 ((i : Int) + 1) (by omega) (by omega), up]
    obtain ⟨o1, o2, o3⟩ := o
    unfold sg at e
    by_cases c : (rd_T40 l (i : Int)).f1 = f
    · rw [if_pos c] at e ⊢
      by_cases c2 : (rd_T40 l (i : Int)).f0 = 1
      · rw [if_pos c2] at e ⊢
        rw [w64 _ (by omega) (by omega)]
        exact e
      · rw [if_neg c2] at e ⊢
        rw [w64 _ (by omega) (by omega)]
        exact e
    · rw [if_neg c, Int.add_zero] at e
      rw [if_neg c]
      exact e
theorem l23Left_eq (l : List S40) (hl : l.length ≤ 2000000) (f : Int) (m : Nat) (hm : m ≤ l.length) (h : ∀ j : Nat, j < m → okE (rd_T40 l (j : Int))) (k : Nat) (hk : m + 1 ≤ k) : spec_l23Left.f k l (m : Int) f = some (bal (l.take m) f) := by
  unfold spec_l23Left.f
  exact l23Left_l0 l hl f m hm h m 0 (by omega) k hk
theorem spec_LedgerValid_l0 (l : List S40) (hl : l.length ≤ 2000000) : ∀ (d i : Nat), i + d = l.length → (∀ j : Nat, j < i → okE (rd_T40 l (j : Int))) → ∀ k, d + l.length + 2 ≤ k →
    spec_LedgerValid.l0 k l (i : Int) = some (allN (okAt l) d i && decide ((l.length : Int) ≤ 20)) := by
  intro d
  induction d with
  | zero =>
    intro i hi h k hk
    obtain ⟨k, rfl, _⟩ := rounds1 (k := k) (B := l.length + 1) (by omega)
    rw [spec_LedgerValid.l0, if_neg (by omega), allN, Bool.true_and]
  | succ d ih =>
    intro i hi h k hk
    obtain ⟨k, rfl, hk'⟩ := rounds1 (k := k) (B := d + l.length + 2) (by omega)
    rw [spec_LedgerValid.l0, if_pos (by omega), if_pos (by omega), l23Entry_eq, allN, okAt]
    simp only [bsome, decide_eq_true_eq]
    by_cases o : okE (rd_T40 l (i : Int))
    · have h' : ∀ j : Nat, j < i + 1 → okE (rd_T40 l (j : Int)) := fun j hj => by
        by_cases e : j = i
        · rw [e]; exact o
        · exact h j (by omega)
      rw [if_pos o, w64 ((i : Int) + 1) (by omega) (by omega), up, l23Left_eq l hl _ (i + 1) (by omega) h' k (by omega), ih (i + 1) (by omega) h' k hk', decide_eq_true o, Bool.true_and]
      simp only [bsome]
      by_cases c : bal (l.take (i + 1)) (rd_T40 l (i : Int)).f1 < 0
      · rw [if_pos c, decide_eq_false (show ¬ 0 ≤ bal (l.take (i + 1)) (rd_T40 l (i : Int)).f1 by omega), Bool.false_and, Bool.false_and]
      · rw [if_neg c, decide_eq_true (show 0 ≤ bal (l.take (i + 1)) (rd_T40 l (i : Int)).f1 by omega), Bool.true_and]
    · rw [if_neg o, decide_eq_false o, Bool.false_and, Bool.false_and, Bool.false_and]
theorem spec_LedgerValid_eq (l : List S40) (hl : l.length ≤ 2000000) (k : Nat) (hk : 2 * l.length + 2 ≤ k) : spec_LedgerValid.f k l = some (ledgerV l) := by
  unfold spec_LedgerValid.f ledgerV
  exact spec_LedgerValid_l0 l hl l.length 0 (by omega) (fun j hj => by omega) k (by omega)
theorem isId_eq (a : Int) : impl_isId.f a = some (decide (1 ≤ a ∧ a ≤ 20)) := by
  unfold impl_isId.f
  rw [within_eq]
  rfl
theorem impl_LedgerValid_l0 (l : List S40) (hl : l.length ≤ 2000000) : ∀ (d i : Nat), i + d = l.length → (∀ j : Nat, j < i → okE (rd_T40 l (j : Int))) → ∀ y : List Int, y.length = 21 → (∀ f : Int, 0 ≤ f → f < 21 → rd y f = bal (l.take i) f) → ∀ k, d + 1 ≤ k →
    impl_LedgerValid.l0 k l y (i : Int) = some (allN (okAt l) d i && decide ((l.length : Int) ≤ 20)) := by
  intro d
  induction d with
  | zero =>
    intro i hi h y hy hf k hk
    obtain ⟨k, rfl, _⟩ := rounds1 hk
    rw [impl_LedgerValid.l0, if_neg (by omega), allN, Bool.true_and]
  | succ d ih =>
    intro i hi h y hy hf k hk
    obtain ⟨k, rfl, hk'⟩ := rounds1 hk
    rw [impl_LedgerValid.l0, if_pos (by omega), if_pos (by omega), within_eq, isId_eq, within_eq, allN, okAt]
    simp only [bsome, decide_eq_true_eq]
    by_cases h1 : 1 ≤ (rd_T40 l (i : Int)).f0 ∧ (rd_T40 l (i : Int)).f0 ≤ 3
    · rw [if_pos h1]
      by_cases h2 : 1 ≤ (rd_T40 l (i : Int)).f1 ∧ (rd_T40 l (i : Int)).f1 ≤ 20
      · rw [if_pos h2]
        by_cases h3 : 1 ≤ (rd_T40 l (i : Int)).f2 ∧ (rd_T40 l (i : Int)).f2 ≤ 9999
        · have o : okE (rd_T40 l (i : Int)) := ⟨h1, h2, h3⟩
          have h' : ∀ j : Nat, j < i + 1 → okE (rd_T40 l (j : Int)) := fun j hj => by
            by_cases e : j = i
            · rw [e]; exact o
            · exact h j (by omega)
          have r := take_range l i (by omega) h (rd_T40 l (i : Int)).f1
          have q := hf (rd_T40 l (i : Int)).f1 (by omega) (by omega)
          have e := bal_snoc (l.take i) (rd_T40 l (i : Int)) (rd_T40 l (i : Int)).f1
          rw [← take_entry l i (by omega)] at e
          have go : ∀ v : Int, v = bal (l.take (i + 1)) (rd_T40 l (i : Int)).f1 → impl_LedgerValid.l0 k l (y.set (rd_T40 l (i : Int)).f1.toNat v) (((i + 1 : Nat) : Int)) = some (allN (okAt l) d (i + 1) && decide ((l.length : Int) ≤ 20)) := by
            intro v hv
            refine ih (i + 1) (by omega) h' _ (by rw [List.length_set]; exact hy) (fun f f0 f1 => ?_) k hk'
            rw [rd_set_at y _ v (by omega) (by omega) f f0]
            by_cases c : f = (rd_T40 l (i : Int)).f1
            · rw [if_pos c, hv, c]
            · rw [if_neg c, hf f f0 f1, take_entry l i (by omega), bal_snoc, sg, if_neg (fun z => c z.symm), Int.add_zero]
          have s : sg (rd_T40 l (i : Int)) (rd_T40 l (i : Int)).f1 = if (rd_T40 l (i : Int)).f0 = 1 then (rd_T40 l (i : Int)).f2 else -(rd_T40 l (i : Int)).f2 := by rw [sg, if_pos rfl]
          rw [decide_eq_true h3, if_neg (by simp), if_pos (by omega), if_pos (by omega), decide_eq_true o, Bool.true_and, w64 ((i : Int) + 1) (by omega) (by omega), up, q]
          by_cases c : (rd_T40 l (i : Int)).f0 = 1
          · rw [if_pos c] at s ⊢
            rw [w64 _ (by omega) (by omega)]
            have ev : bal (l.take i) (rd_T40 l (i : Int)).f1 + (rd_T40 l (i : Int)).f2 = bal (l.take (i + 1)) (rd_T40 l (i : Int)).f1 := by omega
            by_cases n : bal (l.take i) (rd_T40 l (i : Int)).f1 + (rd_T40 l (i : Int)).f2 < 0
            · rw [if_pos n, decide_eq_false (show ¬ 0 ≤ bal (l.take (i + 1)) (rd_T40 l (i : Int)).f1 by omega), Bool.false_and, Bool.false_and]
            · rw [if_neg n, decide_eq_true (show 0 ≤ bal (l.take (i + 1)) (rd_T40 l (i : Int)).f1 by omega), Bool.true_and]
              exact go _ ev
          · rw [if_neg c] at s ⊢
            rw [w64 _ (by omega) (by omega)]
            have ev : bal (l.take i) (rd_T40 l (i : Int)).f1 - (rd_T40 l (i : Int)).f2 = bal (l.take (i + 1)) (rd_T40 l (i : Int)).f1 := by omega
            by_cases n : bal (l.take i) (rd_T40 l (i : Int)).f1 - (rd_T40 l (i : Int)).f2 < 0
            · rw [if_pos n, decide_eq_false (show ¬ 0 ≤ bal (l.take (i + 1)) (rd_T40 l (i : Int)).f1 by omega), Bool.false_and, Bool.false_and]
            · rw [if_neg n, decide_eq_true (show 0 ≤ bal (l.take (i + 1)) (rd_T40 l (i : Int)).f1 by omega), Bool.true_and]
              exact go _ ev
        · rw [decide_eq_false h3, if_pos (by rfl), decide_eq_false (fun q => h3 q.2.2), Bool.false_and, Bool.false_and, Bool.false_and]
      · rw [if_neg h2, decide_eq_false (fun q => h2 q.2.1), Bool.false_and, Bool.false_and, Bool.false_and]
    · rw [if_neg h1, decide_eq_false (fun q => h1 q.1), Bool.false_and, Bool.false_and, Bool.false_and]
theorem impl_LedgerValid_eq (l : List S40) (hl : l.length ≤ 2000000) (k : Nat) (hk : l.length + 1 ≤ k) : impl_LedgerValid.f k l = some (ledgerV l) := by
  unfold impl_LedgerValid.f ledgerV
  refine impl_LedgerValid_l0 l hl l.length 0 (by omega) (fun j hj => by omega) _ (by rw [List.length_replicate]) (fun f f0 f1 => ?_) k hk
  rw [List.take_zero, bal]
  unfold rd
  rw [List.getD_eq_getElem?_getD]
  cases h : (List.replicate 21 (0 : Int))[f.toNat]? with
  | none => rfl
  | some x => exact (List.mem_replicate.1 (List.mem_of_getElem? h)).2

end Go.Proofs.Ytacjlhffmoglhaa.B
