/- The pure statement of FnStoreTakeParts is proved: to take in two parts leaves what to take at once leaves. Conditions: none. -/
import Derived.Test.YtcopoankphebcaaPAllx0
import Derived.Test.YtcopoankphebcaaPAllx25
import Derived.Test.YtcopoankphebcaaBbase
import Derived.Test.YtcopoankphebcaaBwithin
import Derived.Test.YtcopoankphebcaaBpick
import Derived.Test.YtcopoankphebcaaBlots
import Derived.Test.YtcopoankphebcaaBstorespec
import Derived.Test.YtcopoankphebcaaBstoreimpl
import Derived.Test.YtcopoankphebcaaBstorehas
import Derived.Test.YtcopoankphebcaaBtake
import Derived.Test.YtcopoankphebcaaBsumlots
import Derived.Test.YtcopoankphebcaaBtakelaw
import Derived.Test.YtcopoankphebcaaBdrawlot
import Derived.Test.YtcopoankphebcaaBdrawstake
import Derived.Test.YtcopoankphebcaaBsamelots
namespace Go.Proofs.Ytcopoankphebcaa.Pure
open Go.RowKit Go.Proofs.Ytcopoankphebcaa.PAll Go.Proofs.Ytcopoankphebcaa.B Go.Proofs.YtcopoankphebcaaW.PrintWords Go.Proofs.YtcopoankphebcaaW.PrintLast
set_option linter.unusedVariables false
set_option linter.unusedSimpArgs false

theorem takeL_two (id day : Int) : ∀ (xs : List S30) (m n : Int), 0 ≤ m → m ≤ n → (∀ x ∈ xs, okL x) → (takeL id day (n - m) (takeL id day m xs).1).1 = (takeL id day n xs).1 := by
  intro xs
  induction xs with
  | nil => intro m n _ _ _; rfl
  | cons x xs ih =>
    intro m n m0 mn' h
    have hx := h x (List.mem_cons_self ..)
    have ht : ∀ z ∈ xs, okL z := fun z hz => h z (List.mem_cons_of_mem _ hz)
    have qm := qOf_range id day m x hx m0
    have qn := qOf_range id day n x hx (by omega)
    have i := ih (m - qOf id day m x) (n - qOf id day n x) (by omega) (by
      unfold qOf
      split
      · rcases mn_cases x.f2 m with a | a <;> rcases mn_cases x.f2 n with b | b <;> omega
      · omega) ht
    rw [takeL, takeL]
    by_cases c : x.f2 - qOf id day m x > 0
    · have r : restOf x (qOf id day m x) = [⟨x.f0, x.f1, x.f2 - qOf id day m x⟩] := by rw [restOf, if_pos c]
      have q2 : qOf id day (n - m) (⟨x.f0, x.f1, x.f2 - qOf id day m x⟩ : S30) = qOf id day n x - qOf id day m x := by
        unfold qOf at *
        dsimp only
        by_cases c2 : x.f0 = id ∧ x.f1 ≥ day
        · rw [if_pos c2] at c ⊢
          rw [if_pos c2, if_pos c2]
          rcases mn_cases x.f2 m with a | a
          · omega
          · rw [a.1]
            rcases mn_cases (x.f2 - m) (n - m) with b | b <;> rcases mn_cases x.f2 n with b' | b' <;> omega
        · rw [if_neg c2, if_neg c2, if_neg c2]
          omega
      rw [r, List.cons_append, List.nil_append, takeL, q2]
      dsimp only
      have e1 : n - m - (qOf id day n x - qOf id day m x) = (n - qOf id day n x) - (m - qOf id day m x) := by omega
      rw [e1, i]
      congr 1
      unfold restOf
      dsimp only
      have e2 : x.f2 - qOf id day m x - (qOf id day n x - qOf id day m x) = x.f2 - qOf id day n x := by omega
      rw [e2]
    · have r : restOf x (qOf id day m x) = [] := by rw [restOf, if_neg c]
      have q3 : qOf id day n x = qOf id day m x := by
        unfold qOf at *
        by_cases c2 : x.f0 = id ∧ x.f1 ≥ day
        · rw [if_pos c2] at c ⊢
          rcases mn_cases x.f2 m with a | a <;> rcases mn_cases x.f2 n with b | b <;> omega
        · rw [if_neg c2] at c
          have := hx.2.2
          omega
      rw [q3] at i
      rw [r, List.nil_append, q3, r, List.nil_append, ← i]
      congr 2
      omega
theorem FnStoreTakeParts (l0 : List Int) (ok0 : CodeOk l0) (l1 : List Int) (ok1 : CodeOk l1) : ∃ k, laws_FnStoreTakeParts.f k l0 l1 = some true := by
  obtain ⟨l, id, n, day, hl, hd, e⟩ := drawStoreTake_ok l0 ok0
  obtain ⟨k, hk⟩ : ∃ k : Nat, 1000 ≤ k := ⟨1000, Nat.le_refl _⟩
  have tl := takeV_len l id n day
  refine ⟨k + 1 + 1, ?_⟩
  unfold laws_FnStoreTakeParts.f
  by_cases h1 : (l0.length : Int) > 1048576
  · rw [if_pos h1, laws_FnStoreTakeParts.j0, if_pos rfl]
  rw [if_neg h1]
  by_cases h2 : (l1.length : Int) > 1048576
  · rw [decide_eq_true h2, laws_FnStoreTakeParts.j0, if_pos rfl]
  rw [decide_eq_false h2, laws_FnStoreTakeParts.j0, if_neg (by simp), e _ (by omega)]
  simp only [bsome]
  rw [impl_StoreTake_eq l (by omega) id n day _ (by omega), spec_StoreTake_eq l (by omega) id n day _ (by omega)]
  simp only [bsome, bne_self_eq_false, Bool.false_eq_true, if_false]
  rw [laws_sameLots_refl _ (by omega) _ (by omega)]
  simp only [bsome, if_true]
  rw [laws_sameLots_refl _ (by omega) _ (by omega)]
  simp only [bsome, if_true]
  rw [laws_FnStoreTakeParts.j1]
  by_cases c : storeV l = true ∧ (0 ≤ n ∧ n ≤ 999999) ∧ n ≤ hasL id day l
  · obtain ⟨h12, hok, h3⟩ := (storeV_iff l).1 c.1
    have tV : takeV l id n day = ((takeL id day n l).1, (takeL id day n l).2, true) := by rw [takeV, if_pos c]
    have m0 := Int.emod_nonneg (l1.length : Int) (show (n + 1) ≠ 0 by omega)
    have m1 := Int.emod_lt_of_pos (l1.length : Int) (show 0 < n + 1 by omega)
    rw [tV, if_neg (by simp), w64 (n + 1) (by omega) (by omega), if_neg (by omega)]
    generalize (l1.length : Int) % (n + 1) = m at m0 m1 ⊢
    have tll := (takeL_len id day l m).1
    have tln := (takeL_len id day l n).1
    have s := takeL_sums id day l m m0 hok (by omega)
    have tv := takeL_valid l c.1 id day m m0
    have tM : takeV l id m day = ((takeL id day m l).1, (takeL id day m l).2, true) := by rw [takeV, if_pos ⟨c.1, ⟨m0, by omega⟩, by omega⟩]
    have tN : takeV (takeL id day m l).1 id (n - m) day = ((takeL id day (n - m) (takeL id day m l).1).1, (takeL id day (n - m) (takeL id day m l).1).2, true) := by rw [takeV, if_pos ⟨tv, ⟨by omega, by omega⟩, by omega⟩]
    rw [impl_StoreTake_eq l (by omega) id m day _ (by omega), tM, w64 (n - m) (by omega) (by omega)]
    simp only [bsome]
    rw [impl_StoreTake_eq _ (by omega) id (n - m) day _ (by omega), tN]
    simp only [bsome, if_true]
    rw [takeL_two id day l m n m0 (by omega) hok, laws_sameLots_refl _ (by omega) _ (by omega)]
    simp only [bsome]
  · have tV : takeV l id n day = ([], [], false) := by rw [takeV, if_neg c]
    rw [tV, if_pos (by simp), if_pos (by simp), laws_sameLots_refl _ (Nat.zero_le _) _ (by simp; omega)]
    simp only [bsome, if_true]

end Go.Proofs.Ytcopoankphebcaa.Pure
