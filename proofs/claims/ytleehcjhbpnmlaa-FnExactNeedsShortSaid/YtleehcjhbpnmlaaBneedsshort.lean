/- Lemmas about the printed functions (needsshort). -/
import Derived.Test.YtleehcjhbpnmlaaPAllx0
import Derived.Test.YtleehcjhbpnmlaaPAllx12
import Derived.Test.YtleehcjhbpnmlaaPAllx13
import Derived.Test.YtleehcjhbpnmlaaBbase
import Derived.Test.YtleehcjhbpnmlaaBwithin
import Derived.Test.YtleehcjhbpnmlaaBfoods
import Derived.Test.YtleehcjhbpnmlaaBneedsval
import Derived.Test.YtleehcjhbpnmlaaBmapfrom
namespace Go.Proofs.Ytleehcjhbpnmlaa.B
open Go.RowKit Go.Proofs.Ytleehcjhbpnmlaa.PAll Go.Proofs.YtleehcjhbpnmlaaW.PrintWords Go.Proofs.YtleehcjhbpnmlaaW.PrintLast
set_option linter.unusedVariables false
set_option linter.unusedSimpArgs false

/-! #### what is short -/
def lackAt (a b : List Int) (i : Int) : Int := mx (rd a i - rd b i) 0
def lackL (a b : List Int) : List Int := mapFrom (lackAt a b) a.length 0
def shortV (l : List S29) (a b : List Int) : List Int × Bool := if needsV l a = true ∧ needsV l b = true then (lackL a b, true) else ([], false)
theorem needs_pair (l : List S29) (a b : List Int) (ha : needsV l a = true) (hb : needsV l b = true) (i : Int) (h0 : 0 ≤ i) (h1 : i < l.length) : (0 ≤ rd a i ∧ rd a i ≤ 999999) ∧ (0 ≤ rd b i ∧ rd b i ≤ 999999) := by
  have p := (needsV_iff l a).1 ha
  have q := (needsV_iff l b).1 hb
  exact ⟨p.2.2 i h0 (by omega), q.2.2 i h0 (by omega)⟩
theorem spec_NeedsShort_l0 (l : List S29) (a b : List Int) (ha : needsV l a = true) (hb : needsV l b = true) : ∀ (d : Nat) (i : Int) (acc : List Int), 0 ≤ i → i + d = l.length → (acc.length : Int) = i → ∀ k, d + 1 ≤ k →
    spec_NeedsShort.l0 k a b acc i = some (acc ++ mapFrom (lackAt a b) d i, true) := by
  have la := needs_len l a ha
  have lb := needs_len l b hb
  intro d
  induction d with
  | zero =>
    intro i acc h0 hi hc k hk
    obtain ⟨k, rfl, _⟩ := rounds1 hk
    rw [spec_NeedsShort.l0, if_neg (by omega), mapFrom, List.append_nil]
  | succ d ih =>
    intro i acc h0 hi hc k hk
    obtain ⟨k, rfl, hk'⟩ := rounds1 hk
    have t := needs_pair l a b ha hb i h0 (by omega)
    rw [spec_NeedsShort.l0, if_pos (by omega), if_pos h0, if_pos (by omega), if_pos (by omega), w64 (rd a i - rd b i) (by omega) (by omega), w64 (i + 1) (by omega) (by omega),
      ih (i + 1) _ (by omega) (by omega) (by rw [List.length_append, List.length_singleton]; omega) k hk', List.append_assoc, mapFrom]
    rfl
theorem spec_NeedsShort_eq (l : List S29) (hl : l.length ≤ 1000000000) (a : List Int) (hla : a.length ≤ 1000000000) (b : List Int) (hlb : b.length ≤ 1000000000) (k : Nat) (hk : a.length + b.length + 4 * l.length + 4 ≤ k) : spec_NeedsShort.f k l a b = some (shortV l a b) := by
  obtain ⟨k, rfl, hk'⟩ := rounds1 (k := k) (B := a.length + b.length + 4 * l.length + 3) (by omega)
  unfold spec_NeedsShort.f shortV
  rw [spec_l15Needs_eq l hl a hla _ (by omega)]
  simp only [bsome]
  by_cases h : needsV l a = true
  · rw [if_pos h, spec_l15Needs_eq l hl b hlb _ (by omega)]
    simp only [bsome]
    by_cases g : needsV l b = true
    · rw [if_pos ⟨h, g⟩, spec_NeedsShort.j0, g, if_neg (by simp), spec_NeedsShort_l0 l a b h g l.length 0 [] (by omega) (by omega) rfl k (by omega), List.nil_append, lackL, (needs_len l a h).2]
    · rw [if_neg (fun q => g q.2), spec_NeedsShort.j0, if_pos (by simpa using g)]
  · rw [if_neg h, if_neg (fun q => h q.1), spec_NeedsShort.j0, if_pos rfl]
theorem impl_NeedsShort_l0 (l : List S29) (a b : List Int) (ha : needsV l a = true) (hb : needsV l b = true) : ∀ (d : Nat) (i : Int) (acc : List Int), 0 ≤ i → i + d = l.length → (acc.length : Int) = i → ∀ k, d + 1 ≤ k →
    impl_NeedsShort.l0 k b acc a (a.length : Int) i = some (acc ++ mapFrom (lackAt a b) d i, true) := by
  have la := needs_len l a ha
  have lb := needs_len l b hb
  intro d
  induction d with
  | zero =>
    intro i acc h0 hi hc k hk
    obtain ⟨k, rfl, _⟩ := rounds1 hk
    rw [impl_NeedsShort.l0, if_neg (by omega), mapFrom, List.append_nil]
  | succ d ih =>
    intro i acc h0 hi hc k hk
    obtain ⟨k, rfl, hk'⟩ := rounds1 hk
    have t := needs_pair l a b ha hb i h0 (by omega)
    rw [impl_NeedsShort.l0, if_pos (by omega), if_pos h0, if_pos (by omega), if_pos (by omega), if_pos (by omega), w64 (rd a i - rd b i) (by omega) (by omega), w64 (i + 1) (by omega) (by omega),
      ih (i + 1) _ (by omega) (by omega) (by rw [List.length_append, List.length_singleton]; omega) k hk', List.append_assoc, mapFrom]
    rfl
theorem impl_NeedsShort_eq (l : List S29) (hl : l.length ≤ 1000000000) (a : List Int) (hla : a.length ≤ 1000000000) (b : List Int) (hlb : b.length ≤ 1000000000) (k : Nat) (hk : a.length + b.length + 4 * l.length + 4 ≤ k) : impl_NeedsShort.f k l a b = some (shortV l a b) := by
  obtain ⟨k, rfl, hk'⟩ := rounds1 (k := k) (B := a.length + b.length + 4 * l.length + 3) (by omega)
  unfold impl_NeedsShort.f shortV
  rw [impl_needsValid_eq l hl a hla _ (by omega)]
  simp only [bsome]
  by_cases h : needsV l a = true
  · rw [if_pos h, impl_needsValid_eq l hl b hlb _ (by omega)]
    simp only [bsome]
    by_cases g : needsV l b = true
    · rw [if_pos ⟨h, g⟩, impl_NeedsShort.j0, g, if_neg (by simp), impl_NeedsShort_l0 l a b h g l.length 0 [] (by omega) (by omega) rfl k (by omega), List.nil_append, lackL, (needs_len l a h).2]
    · rw [if_neg (fun q => g q.2), impl_NeedsShort.j0, if_pos (by simpa using g)]
  · rw [if_neg h, if_neg (fun q => h q.1), impl_NeedsShort.j0, if_pos rfl]
theorem shortV_len (l : List S29) (a b : List Int) : (shortV l a b).1.length ≤ a.length := by
  unfold shortV
  split
  · show (lackL a b).length ≤ a.length
    rw [lackL, mapFrom_len]
    exact Nat.le_refl _
  · exact Nat.zero_le _

end Go.Proofs.Ytleehcjhbpnmlaa.B
