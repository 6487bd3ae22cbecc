/- Lemmas about the printed functions (needsadd). -/
import Derived.Test.YtleehcjhbpnmlaaPAllx0
import Derived.Test.YtleehcjhbpnmlaaPAllx10
import Derived.Test.YtleehcjhbpnmlaaPAllx11
import Derived.Test.YtleehcjhbpnmlaaBbase
import Derived.Test.YtleehcjhbpnmlaaBwithin
import Derived.Test.YtleehcjhbpnmlaaBfoods
import Derived.Test.YtleehcjhbpnmlaaBneedsval
import Derived.Test.YtleehcjhbpnmlaaBmapfrom
namespace Go.Proofs.Ytleehcjhbpnmlaa.B
open Go.RowKit Go.Proofs.Ytleehcjhbpnmlaa.PAll Go.Proofs.YtleehcjhbpnmlaaW.PrintWords Go.Proofs.YtleehcjhbpnmlaaW.PrintLast
set_option linter.unusedVariables false
set_option linter.unusedSimpArgs false

/-! #### needs of two dishes together -/
def sumAt (a b : List Int) (i : Int) : Int := rd a i + rd b i
def addL (a b : List Int) : List Int := mapFrom (sumAt a b) a.length 0
def finV (l : List S29) (x : List Int) : List Int × Bool := if needsV l x = true then (x, true) else ([], false)
def addV (l : List S29) (a b : List Int) : List Int × Bool := if needsV l a = true ∧ needsV l b = true then finV l (addL a b) else ([], false)
theorem sumAt_range (l : List S29) (a b : List Int) (ha : needsV l a = true) (hb : needsV l b = true) (i : Int) (h0 : 0 ≤ i) (h1 : i < l.length) : 0 ≤ sumAt a b i ∧ sumAt a b i ≤ 1999998 := by
  have p := (needsV_iff l a).1 ha
  have q := (needsV_iff l b).1 hb
  have p1 := p.2.2 i h0 (by omega)
  have q1 := q.2.2 i h0 (by omega)
  unfold sumAt
  omega
theorem spec_NeedsAdd_l0 (l : List S29) (a b : List Int) (ha : needsV l a = true) (hb : needsV l b = true) : ∀ (d : Nat) (i : Int) (acc : List Int), 0 ≤ i → i + d = l.length → (acc.length : Int) = i → ∀ k, d + 3 * l.length + 3 ≤ k →
    spec_NeedsAdd.l0 k l a b acc i = some (finV l (acc ++ mapFrom (sumAt a b) d i)) := by
  have la := needs_len l a ha
  have lb := needs_len l b hb
  intro d
  induction d with
  | zero =>
    intro i acc h0 hi hc k hk
    obtain ⟨k, rfl, _⟩ := rounds1 (k := k) (B := 3 * l.length + 2) (by omega)
    rw [spec_NeedsAdd.l0, if_neg (by omega), mapFrom, List.append_nil, spec_l15Needs_eq l (by omega) acc (by omega) k (by omega)]
    simp only [bsome]
    unfold finV
    by_cases h : needsV l acc = true
    · rw [if_pos h, if_pos h]
    · rw [if_neg h, if_neg h]
  | succ d ih =>
    intro i acc h0 hi hc k hk
    obtain ⟨k, rfl, hk'⟩ := rounds1 (k := k) (B := d + 3 * l.length + 3) (by omega)
    have t := sumAt_range l a b ha hb i h0 (by omega)
    rw [spec_NeedsAdd.l0, if_pos (by omega), if_pos h0, if_pos (by omega), if_pos (by omega), show rd a i + rd b i = sumAt a b i from rfl, w64 (sumAt a b i) (by omega) (by omega), w64 (i + 1) (by omega) (by omega),
      ih (i + 1) _ (by omega) (by omega) (by rw [List.length_append, List.length_singleton]; omega) k hk', List.append_assoc, mapFrom]
    rfl
theorem spec_NeedsAdd_eq (l : List S29) (hl : l.length ≤ 1000000000) (a : List Int) (hla : a.length ≤ 1000000000) (b : List Int) (hlb : b.length ≤ 1000000000) (k : Nat) (hk : a.length + b.length + 4 * l.length + 4 ≤ k) : spec_NeedsAdd.f k l a b = some (addV l a b) := by
  obtain ⟨k, rfl, hk'⟩ := rounds1 (k := k) (B := a.length + b.length + 4 * l.length + 3) (by omega)
  unfold spec_NeedsAdd.f addV
  rw [spec_l15Needs_eq l hl a hla _ (by omega)]
  simp only [bsome]
  by_cases h : needsV l a = true
  · rw [if_pos h, spec_l15Needs_eq l hl b hlb _ (by omega)]
    simp only [bsome]
    by_cases g : needsV l b = true
    · rw [if_pos ⟨h, g⟩, spec_NeedsAdd.j0, g, if_neg (by simp), spec_NeedsAdd_l0 l a b h g l.length 0 [] (by omega) (by omega) rfl k (by omega), List.nil_append, addL, (needs_len l a h).2]
    · rw [if_neg (fun q => g q.2), spec_NeedsAdd.j0, if_pos (by simpa using g)]
  · rw [if_neg h, if_neg (fun q => h q.1), spec_NeedsAdd.j0, if_pos rfl]
theorem impl_NeedsAdd_l0 (l : List S29) (a b : List Int) (ha : needsV l a = true) (hb : needsV l b = true) : ∀ (d : Nat) (i : Int) (acc : List Int), 0 ≤ i → i + d = l.length → (acc.length : Int) = i → ∀ k, d + 3 * l.length + 3 ≤ k →
    impl_NeedsAdd.l0 k l b acc a (a.length : Int) i = some (finV l (acc ++ mapFrom (sumAt a b) d i)) := by
  have la := needs_len l a ha
  have lb := needs_len l b hb
  intro d
  induction d with
  | zero =>
    intro i acc h0 hi hc k hk
    obtain ⟨k, rfl, _⟩ := rounds1 (k := k) (B := 3 * l.length + 2) (by omega)
    rw [impl_NeedsAdd.l0, if_neg (by omega), mapFrom, List.append_nil, impl_needsValid_eq l (by omega) acc (by omega) k (by omega)]
    simp only [bsome]
    unfold finV
    by_cases h : needsV l acc = true
    · rw [if_pos h, if_pos h]
    · rw [if_neg h, if_neg h]
  | succ d ih =>
    intro i acc h0 hi hc k hk
    obtain ⟨k, rfl, hk'⟩ := rounds1 (k := k) (B := d + 3 * l.length + 3) (by omega)
    have t := sumAt_range l a b ha hb i h0 (by omega)
    rw [impl_NeedsAdd.l0, if_pos (by omega), if_pos h0, if_pos (by omega), if_pos (by omega), if_pos (by omega), show rd a i + rd b i = sumAt a b i from rfl, w64 (sumAt a b i) (by omega) (by omega), w64 (i + 1) (by omega) (by omega),
      ih (i + 1) _ (by omega) (by omega) (by rw [List.length_append, List.length_singleton]; omega) k hk', List.append_assoc, mapFrom]
    rfl
theorem impl_NeedsAdd_eq (l : List S29) (hl : l.length ≤ 1000000000) (a : List Int) (hla : a.length ≤ 1000000000) (b : List Int) (hlb : b.length ≤ 1000000000) (k : Nat) (hk : a.length + b.length + 4 * l.length + 4 ≤ k) : impl_NeedsAdd.f k l a b = some (addV l a b) := by
  obtain ⟨k, rfl, hk'⟩ := rounds1 (k := k) (B := a.length + b.length + 4 * l.length + 3) (by omega)
  unfold impl_NeedsAdd.f addV
  rw [impl_needsValid_eq l hl a hla _ (by omega)]
  simp only [bsome]
  by_cases h : needsV l a = true
  · rw [if_pos h, impl_needsValid_eq l hl b hlb _ (by omega)]
    simp only [bsome]
    by_cases g : needsV l b = true
    · rw [if_pos ⟨h, g⟩, impl_NeedsAdd.j0, g, if_neg (by simp), impl_NeedsAdd_l0 l a b h g l.length 0 [] (by omega) (by omega) rfl k (by omega), List.nil_append, addL, (needs_len l a h).2]
    · rw [if_neg (fun q => g q.2), impl_NeedsAdd.j0, if_pos (by simpa using g)]
  · rw [if_neg h, if_neg (fun q => h q.1), impl_NeedsAdd.j0, if_pos rfl]
theorem addV_len (l : List S29) (a b : List Int) : (addV l a b).1.length ≤ a.length := by
  unfold addV finV
  split
  · split
    · show (addL a b).length ≤ a.length
      rw [addL, mapFrom_len]
      exact Nat.le_refl _
    · exact Nat.zero_le _
  · exact Nat.zero_le _
theorem addV_true (l : List S29) (a b : List Int) (h : (addV l a b).2 = true) : needsV l a = true ∧ needsV l b = true ∧ needsV l (addL a b) = true ∧ (addV l a b) = (addL a b, true) := by
  unfold addV finV at h ⊢
  split at h
  · rename_i hab
    split at h
    · rename_i hs
      rw [if_pos hab, if_pos hs]
      exact ⟨hab.1, hab.2, hs, rfl⟩
    · cases h
  · cases h

end Go.Proofs.Ytleehcjhbpnmlaa.B
