/- The pure statement of FnNeedsTogether is proved: together is not dearer, and by one at most cheaper; for energy the other way. Conditions: none. -/
import Derived.Test.YtleehcjhbpnmlaaPAllx0
import Derived.Test.YtleehcjhbpnmlaaPAllx22
import Derived.Test.YtleehcjhbpnmlaaBbase
import Derived.Test.YtleehcjhbpnmlaaBpick
import Derived.Test.YtleehcjhbpnmlaaBfoods
import Derived.Test.YtleehcjhbpnmlaaBneedsval
import Derived.Test.YtleehcjhbpnmlaaBmapfrom
import Derived.Test.YtleehcjhbpnmlaaBneedsadd
import Derived.Test.YtleehcjhbpnmlaaBneedsenergy
import Derived.Test.YtleehcjhbpnmlaaBneedsprice
import Derived.Test.YtleehcjhbpnmlaaBsums
import Derived.Test.YtleehcjhbpnmlaaBdrawneeds
import Derived.Test.YtleehcjhbpnmlaaBdrawneeds2
import Derived.Test.YtleehcjhbpnmlaaBints
import Derived.Test.YtleehcjhbpnmlaaBsameints
namespace Go.Proofs.Ytleehcjhbpnmlaa.Pure
open Go.RowKit Go.Proofs.Ytleehcjhbpnmlaa.PAll Go.Proofs.Ytleehcjhbpnmlaa.B Go.Proofs.YtleehcjhbpnmlaaW.PrintWords Go.Proofs.YtleehcjhbpnmlaaW.PrintLast
set_option linter.unusedVariables false
set_option linter.unusedSimpArgs false

theorem sumFrom_two (f g h : Int → Int) : ∀ (d : Nat) (i : Int), (∀ j, i ≤ j → j < i + d → h j = f j + g j) → sumFrom h d i = sumFrom f d i + sumFrom g d i := by
  intro d
  induction d with
  | zero => exact fun _ _ => rfl
  | succ d ih =>
    intro i q
    simp only [sumFrom]
    rw [q i (by omega) (by omega), ih (i + 1) fun j h1 h2 => q j (by omega) (by omega)]
    omega
theorem together_price (l : List S29) (a b : List Int) (ha : needsV l a = true) (hb : needsV l b = true) : sumFrom (pcOf l (addL a b)) l.length 0 = sumFrom (pcOf l a) l.length 0 + sumFrom (pcOf l b) l.length 0 := by
  have la := needs_len l a ha
  refine sumFrom_two _ _ _ _ _ fun j h0 h1 => ?_
  have r : rd (addL a b) j = sumAt a b j := mapFrom_rd _ _ j h0 (by omega)
  unfold pcOf
  rw [r, sumAt, Int.mul_add]
theorem together_energy (l : List S29) (a b : List Int) (ha : needsV l a = true) (hb : needsV l b = true) : sumFrom (enOf l (addL a b)) l.length 0 = sumFrom (enOf l a) l.length 0 + sumFrom (enOf l b) l.length 0 := by
  have la := needs_len l a ha
  refine sumFrom_two _ _ _ _ _ fun j h0 h1 => ?_
  have r : rd (addL a b) j = sumAt a b j := mapFrom_rd _ _ j h0 (by omega)
  unfold enOf
  rw [r, sumAt, Int.mul_add]
theorem up_eq (n : Int) (h : 0 ≤ n) : upH n = (n + 100 - 1) / 100 := Int.tdiv_eq_ediv_of_nonneg (by omega)
theorem hund_eq (n : Int) (h : 0 ≤ n) : hund n = n / 100 := Int.tdiv_eq_ediv_of_nonneg h
theorem FnNeedsTogether (l0 : List Int) (ok0 : CodeOk l0) : ∃ k, laws_FnNeedsTogether.f k l0 = some true := by
  by_cases h1 : (l0.length : Int) > 1048576
  · exact ⟨0, by unfold laws_FnNeedsTogether.f; rw [if_pos h1]⟩
  obtain ⟨l, a, b, hl, hla, hlb, e⟩ := drawNeedsAdd_ok l0 ok0
  obtain ⟨k, hk⟩ : ∃ k : Nat, 300 ≤ k := ⟨300, Nat.le_refl _⟩
  refine ⟨k + 1, ?_⟩
  unfold laws_FnNeedsTogether.f
  rw [if_neg h1, e _ (by omega)]
  simp only [bsome]
  rw [impl_NeedsAdd_eq l (by omega) a (by omega) b (by omega) _ (by omega), spec_NeedsAdd_eq l (by omega) a (by omega) b (by omega) _ (by omega)]
  have gl := addV_len l a b
  simp only [bsome, bne_self_eq_false]
  rw [if_neg (by simp), laws_sameInts_refl _ (by omega) _ (by omega)]
  simp only [bsome, if_true]
  by_cases g : (addV l a b).2 = true
  · obtain ⟨ha, hb, hs, q⟩ := addV_true l a b g
    have la := needs_len l a ha
    have lb := needs_len l b hb
    have lo : (addL a b).length = l.length := by rw [addL, mapFrom_len]; exact la.2
    have p1 := sumFrom_range (pcOf l a) 998999001 l.length 0 (fun j h0 h1 => pcOf_range l a ha j h0 (by omega))
    have p2 := sumFrom_range (pcOf l b) 998999001 l.length 0 (fun j h0 h1 => pcOf_range l b hb j h0 (by omega))
    have n1 := sumFrom_range (enOf l a) 998999001 l.length 0 (fun j h0 h1 => enOf_range l a ha j h0 (by omega))
    have n2 := sumFrom_range (enOf l b) 998999001 l.length 0 (fun j h0 h1 => enOf_range l b hb j h0 (by omega))
    have p3 := together_price l a b ha hb
    have n3 := together_energy l a b ha hb
    have P : ∀ c, needsV l c = true → needsPriceV l c = upH (sumFrom (pcOf l c) l.length 0) := fun c hc => by rw [needsPriceV, if_pos hc]
    have E : ∀ c, needsV l c = true → needsEnergyV l c = hund (sumFrom (enOf l c) l.length 0) := fun c hc => by rw [needsEnergyV, if_pos hc]
    rw [q, laws_FnNeedsTogether.j0, if_neg (by simp)]
    rw [impl_NeedsPrice_eq l (by omega) a (by omega) _ (by omega), impl_NeedsPrice_eq l (by omega) b (by omega) _ (by omega), impl_NeedsPrice_eq l (by omega) (addL a b) (by omega) _ (by omega), impl_NeedsEnergy_eq l (by omega) (addL a b) (by omega) _ (by omega), impl_NeedsEnergy_eq l (by omega) a (by omega) _ (by omega), impl_NeedsEnergy_eq l (by omega) b (by omega) _ (by omega)]
    simp only [bsome]
    rw [P a ha, P b hb, P _ hs, E a ha, E b hb, E _ hs, p3, n3]
    generalize sumFrom (pcOf l a) l.length 0 = x at p1
    generalize sumFrom (pcOf l b) l.length 0 = y at p2
    generalize sumFrom (enOf l a) l.length 0 = u at n1
    generalize sumFrom (enOf l b) l.length 0 = v at n2
    rw [up_eq x (by omega), up_eq y (by omega), up_eq (x + y) (by omega), hund_eq u (by omega), hund_eq v (by omega), hund_eq (u + v) (by omega)]
    have hx : x ≤ 100000000000 := by omega
    have hy : y ≤ 100000000000 := by omega
    have hu : u ≤ 100000000000 := by omega
    have hv : v ≤ 100000000000 := by omega
    rw [w64 ((x + 100 - 1) / 100 + (y + 100 - 1) / 100) (by omega) (by omega), w64 ((x + 100 - 1) / 100 + (y + 100 - 1) / 100 - (x + y + 100 - 1) / 100) (by omega) (by omega), w64 ((u + v) / 100 - u / 100) (by omega) (by omega), w64 ((u + v) / 100 - u / 100 - v / 100) (by omega) (by omega)]
    rw [if_pos (by omega), if_pos (by omega), if_pos (by omega), decide_eq_true (by omega)]
  · have g' : (addV l a b).2 = false := by simpa using g
    rw [g', laws_FnNeedsTogether.j0, if_pos (by rfl), if_pos (by rfl), laws_sameInts_refl _ (by omega) _ (by omega)]
    simp only [bsome]

end Go.Proofs.Ytleehcjhbpnmlaa.Pure
