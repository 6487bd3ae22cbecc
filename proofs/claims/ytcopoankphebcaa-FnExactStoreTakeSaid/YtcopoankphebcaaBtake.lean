/- Lemmas about the printed functions (take). -/
import Derived.Test.YtcopoankphebcaaPAllx0
import Derived.Test.YtcopoankphebcaaPAllx14
import Derived.Test.YtcopoankphebcaaPAllx15
import Derived.Test.YtcopoankphebcaaBbase
import Derived.Test.YtcopoankphebcaaBwithin
import Derived.Test.YtcopoankphebcaaBlots
import Derived.Test.YtcopoankphebcaaBstorespec
import Derived.Test.YtcopoankphebcaaBstoreimpl
import Derived.Test.YtcopoankphebcaaBstorehas
namespace Go.Proofs.Ytcopoankphebcaa.B
open Go.RowKit Go.Proofs.Ytcopoankphebcaa.PAll Go.Proofs.YtcopoankphebcaaW.PrintWords Go.Proofs.YtcopoankphebcaaW.PrintLast
set_option linter.unusedVariables false
set_option linter.unusedSimpArgs false

/-! #### taking from a store -/
theorem mn_cases (a b : Int) : (mn a b = a ∧ a ≤ b) ∨ (mn a b = b ∧ b ≤ a) := by
  unfold mn
  split <;> omega
def qOf (id day n : Int) (x : S30) : Int := if x.f0 = id ∧ x.f1 ≥ day then mn x.f2 n else 0
def restOf (x : S30) (q : Int) : List S30 := if x.f2 - q > 0 then [⟨x.f0, x.f1, x.f2 - q⟩] else []
def partOf (x : S30) (q : Int) : List S30 := if q > 0 then [⟨x.f0, x.f1, q⟩] else []
def takeL (id day : Int) : Int → List S30 → List S30 × List S30
  | _, [] => ([], [])
  | n, x :: xs => (restOf x (qOf id day n x) ++ (takeL id day (n - qOf id day n x) xs).1, partOf x (qOf id day n x) ++ (takeL id day (n - qOf id day n x) xs).2)
def takeV (l : List S30) (id n day : Int) : List S30 × List S30 × Bool :=
  if storeV l = true ∧ (0 ≤ n ∧ n ≤ 999999) ∧ n ≤ hasL id day l then ((takeL id day n l).1, (takeL id day n l).2, true) else ([], [], false)
theorem qOf_range (id day n : Int) (x : S30) (hx : okL x) (hn : 0 ≤ n) : 0 ≤ qOf id day n x ∧ qOf id day n x ≤ x.f2 ∧ qOf id day n x ≤ n := by
  have h := hx.2.2
  unfold qOf
  split
  · rcases mn_cases x.f2 n with m | m <;> omega
  · omega
theorem restOf_len (x : S30) (q : Int) : (restOf x q).length ≤ 1 := by
  unfold restOf
  split
  · exact Nat.le_refl _
  · exact Nat.zero_le _
theorem partOf_len (x : S30) (q : Int) : (partOf x q).length ≤ 1 := by
  unfold partOf
  split
  · exact Nat.le_refl _
  · exact Nat.zero_le _
theorem takeL_len (id day : Int) : ∀ (xs : List S30) (n : Int), (takeL id day n xs).1.length ≤ xs.length ∧ (takeL id day n xs).2.length ≤ xs.length := by
  intro xs
  induction xs with
  | nil => intro n; exact ⟨Nat.zero_le _, Nat.zero_le _⟩
  | cons x xs ih =>
    intro n
    have a := ih (n - qOf id day n x)
    have b := restOf_len x (qOf id day n x)
    have c := partOf_len x (qOf id day n x)
    rw [takeL, List.length_cons, List.length_append, List.length_append]
    omega
theorem takeV_len (l : List S30) (id n day : Int) : (takeV l id n day).1.length ≤ l.length ∧ (takeV l id n day).2.1.length ≤ l.length := by
  unfold takeV
  split
  · exact takeL_len id day l n
  · exact ⟨Nat.zero_le _, Nat.zero_le _⟩
theorem spec_take_step (l : List S30) (id day n : Int) (n0 : 0 ≤ n) (n1 : n ≤ 999999) (i : Nat) (hi : i < l.length) (hl : l.length ≤ 12) (hx : okL (rd_T30 l (i : Int))) (a b : List S30) (ha : a.length ≤ i) (hb : b.length ≤ i) (k : Nat) :
    spec_StoreTake.l0 (k + 1 + 1) l id n day a b i = spec_StoreTake.l0 k l id (n - qOf id day n (rd_T30 l (i : Int))) day (a ++ restOf (rd_T30 l (i : Int)) (qOf id day n (rd_T30 l (i : Int)))) (b ++ partOf (rd_T30 l (i : Int)) (qOf id day n (rd_T30 l (i : Int)))) ((i + 1 : Nat) : Int) := by
  generalize hk : k + 1 = k1
  rw [spec_StoreTake.l0, if_pos (by omega), if_pos (by omega), ← hk]
  generalize hxx : rd_T30 l (i : Int) = x at hx
  have h2 := hx.2.2
  have q := qOf_range id day n x hx n0
  have off : qOf id day n x = 0 → spec_StoreTake.j2 (k + 1) l id n day a b i false x.f0 x.f1 x.f2 = spec_StoreTake.l0 k l id (n - qOf id day n x) day (a ++ restOf x (qOf id day n x)) (b ++ partOf x (qOf id day n x)) ((i + 1 : Nat) : Int) := by
    intro z
    rw [spec_StoreTake.j2, if_neg (by simp), if_pos (by omega), if_pos (by omega), w64 ((i : Int) + 1) (by omega) (by omega), up, z, restOf, if_pos (by omega), partOf, if_neg (by omega), Int.sub_zero, Int.sub_zero, List.append_nil]
  by_cases c1 : x.f0 = id
  · by_cases c2 : x.f1 ≥ day
    · have qe : qOf id day n x = mn x.f2 n := by rw [qOf, if_pos ⟨c1, c2⟩]
      rw [if_pos c1, if_pos c2]
      by_cases c3 : n > 0
      · have me : mn n x.f2 = qOf id day n x := by
          rw [qe]
          rcases mn_cases x.f2 n with m | m <;> rcases mn_cases n x.f2 with m' | m' <;> omega
        have qp : qOf id day n x > 0 := by
          rw [qe]
          rcases mn_cases x.f2 n with m | m <;> omega
        rw [decide_eq_true c3, spec_StoreTake.j2, if_pos rfl, me, if_pos (by omega), w64 (x.f2 - qOf id day n x) (by omega) (by omega), w64 (n - qOf id day n x) (by omega) (by omega), w64 ((i : Int) + 1) (by omega) (by omega), up, partOf, if_pos qp, restOf]
        simp only [bsome]
        by_cases c4 : x.f2 - qOf id day n x > 0
        · rw [if_pos c4, if_pos c4, if_pos (by omega)]
        · rw [if_neg c4, if_neg c4, List.append_nil]
      · rw [decide_eq_false c3]
        exact off (by rw [qe]; rcases mn_cases x.f2 n with m | m <;> omega)
    · rw [if_pos c1, if_neg c2]
      exact off (by rw [qOf, if_neg (fun h => c2 h.2)])
  · rw [if_neg c1]
    exact off (by rw [qOf, if_neg (fun h => c1 h.1)])
theorem spec_StoreTake_l0 (l : List S30) (hv : storeV l = true) (id day : Int) : ∀ (d i : Nat), i + d = l.length → ∀ (n : Int) (a b : List S30), 0 ≤ n → n ≤ 999999 → a.length ≤ i → b.length ≤ i → ∀ k, 2 * d + 1 ≤ k →
    spec_StoreTake.l0 k l id n day a b i = some (a ++ (takeL id day n (l.drop i)).1, b ++ (takeL id day n (l.drop i)).2, true) := by
  obtain ⟨h1, h2, h3⟩ := (storeV_iff l).1 hv
  intro d
  induction d with
  | zero =>
    intro i hi n a b n0 n1 ha hb k hk
    obtain ⟨k, rfl, _⟩ := rounds1 (k := k) (B := 0) (by omega)
    rw [spec_StoreTake.l0, if_neg (by omega), List.drop_of_length_le (by omega), takeL, List.append_nil, List.append_nil]
  | succ d ih =>
    intro i hi n a b n0 n1 ha hb k hk
    obtain ⟨k, rfl⟩ : ∃ q, k = q + 1 + 1 := ⟨k - 2, by omega⟩
    have ok := h2 _ (List.getElem_mem (by omega : i < l.length))
    rw [← rd_lot l i (by omega)] at ok
    have q := qOf_range id day n _ ok n0
    have r := restOf_len (rd_T30 l (i : Int)) (qOf id day n (rd_T30 l (i : Int)))
    have p := partOf_len (rd_T30 l (i : Int)) (qOf id day n (rd_T30 l (i : Int)))
    rw [spec_take_step l id day n n0 n1 i (by omega) h1 ok a b ha hb k, ih (i + 1) (by omega) _ _ _ (by omega) (by omega) (by rw [List.length_append]; omega) (by rw [List.length_append]; omega) k (by omega), drop_lot l i (by omega), takeL, List.append_assoc, List.append_assoc]
theorem impl_take_step (l : List S30) (id day n : Int) (n0 : 0 ≤ n) (n1 : n ≤ 999999) (i : Nat) (hi : i < l.length) (hl : l.length ≤ 12) (hx : okL (rd_T30 l (i : Int))) (a b : List S30) (ha : a.length ≤ i) (hb : b.length ≤ i) (k : Nat) :
    impl_StoreTake.l0 (k + 1 + 1 + 1) id n day a b l (l.length : Int) i = impl_StoreTake.l0 k id (n - qOf id day n (rd_T30 l (i : Int))) day (a ++ restOf (rd_T30 l (i : Int)) (qOf id day n (rd_T30 l (i : Int)))) (b ++ partOf (rd_T30 l (i : Int)) (qOf id day n (rd_T30 l (i : Int)))) l (l.length : Int) ((i + 1 : Nat) : Int) := by
  generalize hk2 : k + 1 + 1 = k2
  rw [impl_StoreTake.l0, if_pos (by omega), if_pos (by omega), if_pos (by omega), ← hk2]
  generalize hxx : rd_T30 l (i : Int) = x at hx
  have h2 := hx.2.2
  have q := qOf_range id day n x hx n0
  have j3 : impl_StoreTake.j3 (k + 1) id n day a b (qOf id day n x) l (l.length : Int) i x.f0 x.f1 x.f2 = impl_StoreTake.l0 k id (n - qOf id day n x) day (a ++ restOf x (qOf id day n x)) (b ++ partOf x (qOf id day n x)) l (l.length : Int) ((i + 1 : Nat) : Int) := by
    generalize qOf id day n x = z at q ⊢
    rw [impl_StoreTake.j3, w64 (n - z) (by omega) (by omega), w64 (x.f2 - z) (by omega) (by omega), w64 ((i : Int) + 1) (by omega) (by omega), up, restOf, partOf]
    by_cases c : z > 0
    · rw [if_pos c, if_pos c, if_pos (by omega)]
      simp only [bsome]
      by_cases c4 : x.f2 > z
      · rw [if_pos c4, if_pos (by omega), if_pos (by omega)]
      · rw [if_neg c4, if_neg (by omega), List.append_nil]
    · rw [if_neg c, if_neg c, List.append_nil]
      by_cases c4 : x.f2 > z
      · rw [if_pos c4, if_pos (by omega), if_pos (by omega)]
      · rw [if_neg c4, if_neg (by omega), List.append_nil]
  by_cases c1 : x.f0 = id
  · rw [if_pos c1]
    generalize hk1 : k + 1 = k1 at j3 ⊢
    by_cases c2 : x.f1 ≥ day
    · rw [decide_eq_true c2, impl_StoreTake.j2, if_pos rfl, ← j3, qOf, if_pos ⟨c1, c2⟩]
    · rw [decide_eq_false c2, impl_StoreTake.j2, if_neg (by simp), ← j3, qOf, if_neg (fun h => c2 h.2)]
  · rw [if_neg c1]
    generalize hk1 : k + 1 = k1 at j3 ⊢
    rw [impl_StoreTake.j2, if_neg (by simp), ← j3, qOf, if_neg (fun h => c1 h.1)]
theorem impl_StoreTake_l0 (l : List S30) (hv : storeV l = true) (id day : Int) : ∀ (d i : Nat), i + d = l.length → ∀ (n : Int) (a b : List S30), 0 ≤ n → n ≤ 999999 → a.length ≤ i → b.length ≤ i → ∀ k, 3 * d + 1 ≤ k →
    impl_StoreTake.l0 k id n day a b l (l.length : Int) i = some (a ++ (takeL id day n (l.drop i)).1, b ++ (takeL id day n (l.drop i)).2, true) := by
  obtain ⟨h1, h2, h3⟩ := (storeV_iff l).1 hv
  intro d
  induction d with
  | zero =>
    intro i hi n a b n0 n1 ha hb k hk
    obtain ⟨k, rfl, _⟩ := rounds1 (k := k) (B := 0) (by omega)
    rw [impl_StoreTake.l0, if_neg (by omega), List.drop_of_length_le (by omega), takeL, List.append_nil, List.append_nil]
  | succ d ih =>
    intro i hi n a b n0 n1 ha hb k hk
    obtain ⟨k, rfl⟩ : ∃ q, k = q + 1 + 1 + 1 := ⟨k - 3, by omega⟩
    have ok := h2 _ (List.getElem_mem (by omega : i < l.length))
    rw [← rd_lot l i (by omega)] at ok
    have q := qOf_range id day n _ ok n0
    have r := restOf_len (rd_T30 l (i : Int)) (qOf id day n (rd_T30 l (i : Int)))
    have p := partOf_len (rd_T30 l (i : Int)) (qOf id day n (rd_T30 l (i : Int)))
    rw [impl_take_step l id day n n0 n1 i (by omega) h1 ok a b ha hb k, ih (i + 1) (by omega) _ _ _ (by omega) (by omega) (by rw [List.length_append]; omega) (by rw [List.length_append]; omega) k (by omega), drop_lot l i (by omega), takeL, List.append_assoc, List.append_assoc]
theorem spec_StoreTake_eq (l : List S30) (hl : l.length ≤ 1000000000) (id n day : Int) (k : Nat) (hk : 2 * l.length + 2 ≤ k) : spec_StoreTake.f k l id n day = some (takeV l id n day) := by
  unfold spec_StoreTake.f takeV
  rw [spec_StoreValid_eq l hl k (by omega)]
  simp only [bsome]
  obtain ⟨k, rfl, _⟩ := rounds1 (k := k) (B := 2 * l.length + 1) (by omega)
  by_cases hv : storeV l = true
  · rw [if_pos hv, l6In_eq]
    simp only [bsome]
    by_cases c : 0 ≤ n ∧ n ≤ 999999
    · rw [decide_eq_true c, if_pos rfl, spec_StoreHas_eq l hl id day _ (by omega)]
      simp only [bsome]
      rw [hasV, if_pos hv]
      by_cases g : n ≤ hasL id day l
      · have e := spec_StoreTake_l0 l hv id day l.length 0 (by omega) n [] [] c.1 c.2 (Nat.le_refl _) (Nat.le_refl _) k (by omega)
        rw [List.drop_zero, List.nil_append, List.nil_append] at e
        rw [decide_eq_false (by omega), spec_StoreTake.j0, if_neg (by simp), if_pos ⟨hv, c, g⟩]
        exact e
      · rw [decide_eq_true (by omega), spec_StoreTake.j0, if_pos rfl, if_neg (fun h => g h.2.2)]
    · rw [decide_eq_false c, if_neg (by simp), spec_StoreTake.j0, if_pos rfl, if_neg (fun h => c h.2.1)]
  · rw [if_neg hv, spec_StoreTake.j0, if_pos rfl, if_neg (fun h => hv h.1)]
theorem impl_StoreTake_eq (l : List S30) (hl : l.length ≤ 1000000000) (id n day : Int) (k : Nat) (hk : 3 * l.length + 5 ≤ k) : impl_StoreTake.f k l id n day = some (takeV l id n day) := by
  unfold impl_StoreTake.f takeV
  rw [within_eq]
  simp only [bsome]
  obtain ⟨k, rfl, _⟩ := rounds1 (k := k) (B := 3 * l.length + 4) (by omega)
  by_cases c : 0 ≤ n ∧ n ≤ 999999
  · rw [decide_eq_true c, if_pos rfl, impl_StoreHas_eq l hl id day _ (by omega)]
    simp only [bsome]
    by_cases hv : storeV l = true
    · rw [hasV, if_pos hv]
      by_cases g : n ≤ hasL id day l
      · have e := impl_StoreTake_l0 l hv id day l.length 0 (by omega) n [] [] c.1 c.2 (Nat.le_refl _) (Nat.le_refl _) k (by omega)
        rw [List.drop_zero, List.nil_append, List.nil_append] at e
        rw [decide_eq_false (by omega), impl_StoreTake.j0, if_neg (by simp), if_pos ⟨hv, c, g⟩]
        exact e
      · rw [decide_eq_true (by omega), impl_StoreTake.j0, if_pos rfl, if_neg (fun h => g h.2.2)]
    · rw [hasV, if_neg hv, decide_eq_true (by omega), impl_StoreTake.j0, if_pos rfl, if_neg (fun h => hv h.1)]
  · rw [decide_eq_false c, if_neg (by simp), impl_StoreTake.j0, if_pos rfl, if_neg (fun h => c h.2.1)]

end Go.Proofs.Ytcopoankphebcaa.B
