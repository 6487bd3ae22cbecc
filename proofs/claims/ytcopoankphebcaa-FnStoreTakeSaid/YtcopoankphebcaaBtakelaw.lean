/- Lemmas about the printed functions (takelaw). -/
import Derived.Test.YtcopoankphebcaaPAllx0
import Derived.Test.YtcopoankphebcaaBbase
import Derived.Test.YtcopoankphebcaaBwithin
import Derived.Test.YtcopoankphebcaaBlots
import Derived.Test.YtcopoankphebcaaBstorespec
import Derived.Test.YtcopoankphebcaaBstoreimpl
import Derived.Test.YtcopoankphebcaaBstorehas
import Derived.Test.YtcopoankphebcaaBtake
import Derived.Test.YtcopoankphebcaaBsumlots
namespace Go.Proofs.Ytcopoankphebcaa.B
open Go.RowKit Go.Proofs.Ytcopoankphebcaa.PAll Go.Proofs.YtcopoankphebcaaW.PrintWords Go.Proofs.YtcopoankphebcaaW.PrintLast
set_option linter.unusedVariables false
set_option linter.unusedSimpArgs false

/-! #### what is left, and what is taken -/
theorem restOf_mem {x : S30} {q : Int} (hx : okL x) (h0 : 0 ≤ q) (h1 : q ≤ x.f2) {y : S30} (hy : y ∈ restOf x q) : y.f0 = x.f0 ∧ y.f1 = x.f1 ∧ y.f2 = x.f2 - q ∧ q < x.f2 := by
  unfold restOf at hy
  split at hy
  · rw [List.mem_singleton.1 hy]
    exact ⟨rfl, rfl, rfl, by omega⟩
  · exact absurd hy (List.not_mem_nil)
theorem partOf_mem {x : S30} {q : Int} {y : S30} (hy : y ∈ partOf x q) : y.f0 = x.f0 ∧ y.f1 = x.f1 ∧ y.f2 = q ∧ 0 < q := by
  unfold partOf at hy
  split at hy
  · rw [List.mem_singleton.1 hy]
    exact ⟨rfl, rfl, rfl, by assumption⟩
  · exact absurd hy (List.not_mem_nil)
theorem takeL_rest (id day : Int) : ∀ (xs : List S30) (n : Int), 0 ≤ n → (∀ x ∈ xs, okL x) → ∀ y ∈ (takeL id day n xs).1, ∃ x ∈ xs, y.f0 = x.f0 ∧ y.f1 = x.f1 ∧ 1 ≤ y.f2 ∧ y.f2 ≤ x.f2 := by
  intro xs
  induction xs with
  | nil => intro n _ _ y hy; exact absurd hy (List.not_mem_nil)
  | cons x xs ih =>
    intro n n0 h y hy
    have hx := h x (List.mem_cons_self ..)
    have q := qOf_range id day n x hx n0
    rw [takeL] at hy
    rcases List.mem_append.1 hy with hy | hy
    · have a := restOf_mem hx q.1 q.2.1 hy
      exact ⟨x, List.mem_cons_self .., a.1, a.2.1, by omega, by omega⟩
    · obtain ⟨z, hz, r⟩ := ih _ (by omega) (fun z hz => h z (List.mem_cons_of_mem _ hz)) y hy
      exact ⟨z, List.mem_cons_of_mem _ hz, r⟩
theorem takeL_rest_ok (id day : Int) (xs : List S30) (n : Int) (n0 : 0 ≤ n) (h : ∀ x ∈ xs, okL x) : ∀ y ∈ (takeL id day n xs).1, okL y := by
  intro y hy
  obtain ⟨x, hx, a, b, c, d⟩ := takeL_rest id day xs n n0 h y hy
  have := h x hx
  unfold okL at *
  omega
theorem takeL_pair (id day : Int) : ∀ (xs : List S30) (n : Int), 0 ≤ n → (∀ x ∈ xs, okL x) → xs.Pairwise befL → (takeL id day n xs).1.Pairwise befL := by
  intro xs
  induction xs with
  | nil => intro n _ _ _; exact List.Pairwise.nil
  | cons x xs ih =>
    intro n n0 h hp
    have hx := h x (List.mem_cons_self ..)
    have q := qOf_range id day n x hx n0
    have ht : ∀ z ∈ xs, okL z := fun z hz => h z (List.mem_cons_of_mem _ hz)
    obtain ⟨p1, p2⟩ := List.pairwise_cons.1 hp
    rw [takeL]
    refine List.pairwise_append.2 ⟨?_, ih _ (by omega) ht p2, fun y hy z hz => ?_⟩
    · unfold restOf
      split
      · exact List.pairwise_singleton _ _
      · exact List.Pairwise.nil
    · have a := restOf_mem hx q.1 q.2.1 hy
      obtain ⟨w, hw, b1, b2, _⟩ := takeL_rest id day xs _ (by omega) ht z hz
      have b := p1 w hw
      unfold befL at *
      omega
theorem takeL_valid (l : List S30) (hv : storeV l = true) (id day n : Int) (n0 : 0 ≤ n) : storeV (takeL id day n l).1 = true := by
  obtain ⟨h1, h2, h3⟩ := (storeV_iff l).1 hv
  have a := (takeL_len id day l n).1
  exact (storeV_iff _).2 ⟨by omega, takeL_rest_ok id day l n n0 h2, takeL_pair id day l n n0 h2 h3⟩
theorem hasL_append (id day : Int) (a b : List S30) : hasL id day (a ++ b) = hasL id day a + hasL id day b := by
  induction a with
  | nil => rw [List.nil_append, hasL, Int.zero_add]
  | cons x xs ih => rw [List.cons_append, hasL, hasL, ih, Int.add_assoc]
theorem hasL_rest (id day : Int) (x : S30) (q : Int) (h0 : 0 ≤ q) (h1 : q ≤ x.f2) : hasL id day (restOf x q) = if x.f0 = id ∧ x.f1 ≥ day then x.f2 - q else 0 := by
  unfold restOf
  by_cases c : x.f2 - q > 0
  · rw [if_pos c, hasL, hasL, Int.add_zero]
  · rw [if_neg c, hasL]
    split <;> omega
theorem sumL_rest (x : S30) (q : Int) (h0 : 0 ≤ q) (h1 : q ≤ x.f2) : sumL (restOf x q) = x.f2 - q := by
  unfold restOf
  by_cases c : x.f2 - q > 0
  · rw [if_pos c, sumL, sumL, Int.add_zero]
  · rw [if_neg c, sumL]
    omega
theorem sumL_part (x : S30) (q : Int) (h0 : 0 ≤ q) : sumL (partOf x q) = q := by
  unfold partOf
  by_cases c : q > 0
  · rw [if_pos c, sumL, sumL, Int.add_zero]
  · rw [if_neg c, sumL]
    omega
theorem takeL_sums (id day : Int) : ∀ (xs : List S30) (n : Int), 0 ≤ n → (∀ x ∈ xs, okL x) → n ≤ hasL id day xs → hasL id day (takeL id day n xs).1 = hasL id day xs - n ∧ sumL (takeL id day n xs).2 = n ∧ sumL (takeL id day n xs).1 + n = sumL xs := by
  intro xs
  induction xs with
  | nil =>
    intro n n0 _ h
    rw [hasL] at h
    rw [takeL, hasL, sumL]
    omega
  | cons x xs ih =>
    intro n n0 h hn
    have hx := h x (List.mem_cons_self ..)
    have ht : ∀ z ∈ xs, okL z := fun z hz => h z (List.mem_cons_of_mem _ hz)
    have q := qOf_range id day n x hx n0
    have g := (hasL_range id day xs ht).1
    have hle : n - qOf id day n x ≤ hasL id day xs := by
      rw [hasL] at hn
      unfold qOf at *
      split at hn
      · rename_i c
        rw [if_pos c] at *
        rcases mn_cases x.f2 n with m | m <;> omega
      · rename_i c
        rw [if_neg c] at *
        omega
    have i := ih _ (by omega) ht hle
    rw [takeL, hasL_append, sumL_append, sumL_append, hasL_rest id day x _ q.1 q.2.1, sumL_rest x _ q.1 q.2.1, sumL_part x _ q.1, i.1, i.2.1, hasL, sumL]
    have i3 := i.2.2
    have zero : ¬ (x.f0 = id ∧ x.f1 ≥ day) → qOf id day n x = 0 := fun c => by rw [qOf, if_neg c]
    refine ⟨?_, by omega, by omega⟩
    by_cases c : x.f0 = id ∧ x.f1 ≥ day
    · rw [if_pos c, if_pos c]
      omega
    · rw [if_neg c, if_neg c, zero c]
      omega
theorem takeL_none (id day : Int) : ∀ xs : List S30, (∀ x ∈ xs, okL x) → (takeL id day 0 xs).2 = [] := by
  intro xs
  induction xs with
  | nil => intro _; rfl
  | cons x xs ih =>
    intro h
    have hx := h x (List.mem_cons_self ..)
    have q := qOf_range id day 0 x hx (by omega)
    have z : qOf id day 0 x = 0 := by omega
    rw [takeL, z, Int.sub_zero, ih fun z hz => h z (List.mem_cons_of_mem _ hz), partOf, if_neg (by omega)]
    rfl
theorem takeL_part (id day : Int) : ∀ (xs : List S30) (n : Int), 0 ≤ n → (∀ x ∈ xs, okL x) → ∀ y ∈ (takeL id day n xs).2, y.f0 = id ∧ y.f1 ≥ day ∧ (1 ≤ y.f2 ∧ y.f2 ≤ 9999) ∧ ∃ x ∈ xs, y.f0 = x.f0 ∧ y.f1 = x.f1 := by
  intro xs
  induction xs with
  | nil => intro n _ _ y hy; exact absurd hy (List.not_mem_nil)
  | cons x xs ih =>
    intro n n0 h y hy
    have hx := h x (List.mem_cons_self ..)
    have q := qOf_range id day n x hx n0
    rw [takeL] at hy
    rcases List.mem_append.1 hy with hy | hy
    · have a := partOf_mem hy
      have c : x.f0 = id ∧ x.f1 ≥ day := by
        by_cases c : x.f0 = id ∧ x.f1 ≥ day
        · exact c
        · have : qOf id day n x = 0 := by rw [qOf, if_neg c]
          omega
      have := hx.2.2
      exact ⟨by omega, by omega, by omega, x, List.mem_cons_self .., a.1, a.2.1⟩
    · obtain ⟨b1, b2, b3, z, hz, r⟩ := ih _ (by omega) (fun z hz => h z (List.mem_cons_of_mem _ hz)) y hy
      exact ⟨b1, b2, b3, z, List.mem_cons_of_mem _ hz, r⟩
/-- what is taken is no later than what is left of the food -/
theorem takeL_first (id day : Int) : ∀ (xs : List S30) (n : Int), 0 ≤ n → (∀ x ∈ xs, okL x) → xs.Pairwise befL → ∀ y ∈ (takeL id day n xs).1, y.f0 = id → y.f1 ≥ day → ∀ z ∈ (takeL id day n xs).2, z.f1 ≤ y.f1 := by
  intro xs
  induction xs with
  | nil => intro n _ _ _ y hy; exact absurd hy (List.not_mem_nil)
  | cons x xs ih =>
    intro n n0 h hp y hy y0 y1 z hz
    have hx := h x (List.mem_cons_self ..)
    have ht : ∀ z ∈ xs, okL z := fun z hz => h z (List.mem_cons_of_mem _ hz)
    obtain ⟨p1, p2⟩ := List.pairwise_cons.1 hp
    have q := qOf_range id day n x hx n0
    rw [takeL] at hy hz
    rcases List.mem_append.1 hy with hy | hy
    · have a := restOf_mem hx q.1 q.2.1 hy
      have qn : n - qOf id day n x = 0 := by
        have : qOf id day n x = mn x.f2 n := by rw [qOf, if_pos ⟨by omega, by omega⟩]
        rcases mn_cases x.f2 n with m | m <;> omega
      rcases List.mem_append.1 hz with hz | hz
      · have b := partOf_mem hz
        omega
      · rw [qn, takeL_none id day xs ht] at hz
        exact absurd hz (List.not_mem_nil)
    · rcases List.mem_append.1 hz with hz | hz
      · have b := partOf_mem hz
        obtain ⟨w, hw, c1, c2, _⟩ := takeL_rest id day xs _ (by omega) ht y hy
        have p := p1 w hw
        have xid : x.f0 = id := by
          by_cases c : x.f0 = id ∧ x.f1 ≥ day
          · exact c.1
          · have : qOf id day n x = 0 := by rw [qOf, if_neg c]
            omega
        unfold befL at p
        omega
      · exact ih _ (by omega) ht p2 y hy y0 y1 z hz

end Go.Proofs.Ytcopoankphebcaa.B
