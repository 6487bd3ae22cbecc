/- Lemmas about the printed functions (pick). -/
import Derived.Test.YtfnngpfkcnfhiaaPAllx0
import Derived.Test.YtfnngpfkcnfhiaaPAllx10
import Derived.Test.YtfnngpfkcnfhiaaPAllx11
import Derived.Test.YtfnngpfkcnfhiaaBbase
namespace Go.Proofs.Ytfnngpfkcnfhiaa.B
open Go.RowKit Go.Proofs.Ytfnngpfkcnfhiaa.PAll Go.Proofs.YtfnngpfkcnfhiaaW.PrintWords Go.Proofs.YtfnngpfkcnfhiaaW.PrintLast
set_option linter.unusedVariables false
set_option linter.unusedSimpArgs false

/-! #### a draw's reader -/
def Bytes (b : List Int) : Prop := b.length ≤ 2000 ∧ ∀ x ∈ b, 0 ≤ x ∧ x ≤ 255
theorem rd_byte {b : List Int} (hb : Bytes b) (i : Int) : 0 ≤ rd b i ∧ rd b i ≤ 255 := by
  unfold rd
  rw [List.getD_eq_getElem?_getD]
  cases h : b[i.toNat]? with
  | none => simp
  | some x => exact hb.2 x (List.mem_of_getElem? h)
theorem xor_nonneg (a b : Int) (ha : 0 ≤ a) (hb : 0 ≤ b) (ha2 : a ≤ 4611686018427387903) (hb2 : b ≤ 4611686018427387903) : 0 ≤ Go.bits .xor .i64 a b := by
  obtain ⟨m, rfl⟩ := Int.eq_ofNat_of_zero_le ha
  obtain ⟨n, rfl⟩ := Int.eq_ofNat_of_zero_le hb
  have hm : m < 2 ^ 62 := by omega
  have hn : n < 2 ^ 62 := by omega
  have hx : m ^^^ n < 2 ^ 62 := Nat.xor_lt_two_pow hm hn
  have h1 : (BitVec.ofInt 64 (m : Int)).toNat = m := by
    rw [BitVec.ofInt_natCast, BitVec.toNat_ofNat]
    exact Nat.mod_eq_of_lt (by omega)
  have h2 : (BitVec.ofInt 64 (n : Int)).toNat = n := by
    rw [BitVec.ofInt_natCast, BitVec.toNat_ofNat]
    exact Nat.mod_eq_of_lt (by omega)
  show 0 ≤ IntKind.i64.wrap ((BitVec.ofInt 64 (m : Int) ^^^ BitVec.ofInt 64 (n : Int)).toNat : Int)
  rw [BitVec.toNat_xor, h1, h2]
  simp [IntKind.wrap, IntKind.bits, IntKind.signed]
  omega
theorem pick_ok {b : List Int} (hb : Bytes b) (p n : Int) (h0 : 0 ≤ p) (h1 : p ≤ 1000000) :
    ∃ v, 0 ≤ v ∧ (1 ≤ n → v < n) ∧ (n < 1 → v = 0) ∧ ∀ k, 1 ≤ k → spec_l6Rd_pick.f k b p n = some (v, p + 1) := by
  by_cases hn : n < 1
  · refine ⟨0, by omega, by omega, fun _ => rfl, fun k hk => ?_⟩
    obtain ⟨k, rfl, _⟩ := rounds1 (B := 0) hk
    unfold spec_l6Rd_pick.f
    rw [if_pos hn, w64 _ (by omega) (by omega)]
    simp only [spec_l6Rd_pick.j0, if_true]
  have hl := hb.1
  by_cases hz : (b.length : Int) = 0
  · refine ⟨0, by omega, by omega, by omega, fun k hk => ?_⟩
    obtain ⟨k, rfl, _⟩ := rounds1 (B := 0) hk
    unfold spec_l6Rd_pick.f
    rw [if_neg hn, w64 _ (by omega) (by omega)]
    simp [spec_l6Rd_pick.j0, hz]
  have e0 : wrap64 (p + 1) = p + 1 := w64 _ (by omega) (by omega)
  have e1 : wrap64 (p + 1 - 1) = p := by rw [show p + 1 - 1 = p by omega]; exact w64 _ (by omega) (by omega)
  have ez : ((b.length : Int) == 0) = false := by simpa using hz
  by_cases hlt : p < (b.length : Int)
  · have r := rd_byte hb p
    have e2 : wrap64 (rd b p) = rd b p := w64 _ (by omega) (by omega)
    refine ⟨Int.tmod (rd b p) n, Int.tmod_nonneg _ r.1, fun h => Int.tmod_lt_of_pos _ (by omega), by omega, fun k hk => ?_⟩
    obtain ⟨k, rfl, _⟩ := rounds1 (B := 0) hk
    unfold spec_l6Rd_pick.f
    rw [if_neg hn, e0, ez]
    simp only [spec_l6Rd_pick.j0, e1, e2]
    rw [if_neg (by simp), if_pos hlt, if_pos h0, if_neg (by omega)]
  · have L0 : 0 < (b.length : Int) := by omega
    have e3 : wrap64 (p * 7) = p * 7 := w64 _ (by omega) (by omega)
    have e4 : wrap64 (p * 7 + 3) = p * 7 + 3 := w64 _ (by omega) (by omega)
    have i1 : 0 ≤ Int.tmod p (b.length : Int) := Int.tmod_nonneg _ h0
    have i2 : Int.tmod p (b.length : Int) < (b.length : Int) := Int.tmod_lt_of_pos _ L0
    have i3 : 0 ≤ Int.tmod (p * 7 + 3) (b.length : Int) := Int.tmod_nonneg _ (by omega)
    have i4 : Int.tmod (p * 7 + 3) (b.length : Int) < (b.length : Int) := Int.tmod_lt_of_pos _ L0
    have r1 := rd_byte hb (Int.tmod p (b.length : Int))
    have r2 := rd_byte hb (Int.tmod (p * 7 + 3) (b.length : Int))
    have d1 : 0 ≤ Int.tdiv p (b.length : Int) := Int.tdiv_nonneg h0 (by omega)
    have d2 : Int.tdiv p (b.length : Int) ≤ p := Int.tdiv_le_self _ h0
    generalize hD : Int.tdiv p (b.length : Int) = D at d1 d2
    generalize hR1 : rd b (Int.tmod p (b.length : Int)) = R1 at r1
    generalize hR2 : rd b (Int.tmod (p * 7 + 3) (b.length : Int)) = R2 at r2
    have hX : wrap64 ((wrap64 ((wrap64 ((wrap64 ((wrap64 R1) * 131)) + (wrap64 ((wrap64 R2) * 1117)))) + (wrap64 (p * 29)))) + (wrap64 ((wrap64 D) * 53))) = R1 * 131 + R2 * 1117 + p * 29 + D * 53 := by
      rw [w64 R1 (by omega) (by omega), w64 R2 (by omega) (by omega), w64 D (by omega) (by omega), w64 (R1 * 131) (by omega) (by omega), w64 (R2 * 1117) (by omega) (by omega), w64 (p * 29) (by omega) (by omega), w64 (D * 53) (by omega) (by omega),
        w64 (R1 * 131 + R2 * 1117) (by omega) (by omega), w64 (R1 * 131 + R2 * 1117 + p * 29) (by omega) (by omega), w64 _ (by omega) (by omega)]
    have x0 : 0 ≤ R1 * 131 + R2 * 1117 + p * 29 + D * 53 := by omega
    have x1 : R1 * 131 + R2 * 1117 + p * 29 + D * 53 ≤ 1000000000 := by omega
    generalize R1 * 131 + R2 * 1117 + p * 29 + D * 53 = X at hX x0 x1
    have t0 : 0 ≤ Int.tdiv X 64 := Int.tdiv_nonneg x0 (by omega)
    have t1 : Int.tdiv X 64 ≤ X := Int.tdiv_le_self _ x0
    have e5 : wrap64 (Int.tdiv X 64) = Int.tdiv X 64 := w64 _ (by omega) (by omega)
    have hc := xor_nonneg X (Int.tdiv X 64) x0 t0 (by omega) (by omega)
    refine ⟨Int.tmod (Go.bits .xor .i64 X (Int.tdiv X 64)) n, Int.tmod_nonneg _ hc, fun h => Int.tmod_lt_of_pos _ (by omega), by omega, fun k hk => ?_⟩
    obtain ⟨k, rfl, _⟩ := rounds1 (B := 0) hk
    unfold spec_l6Rd_pick.f
    rw [if_neg hn, e0, ez]
    simp only [spec_l6Rd_pick.j0, e1, e3, e4, hD, hR1, hR2, hX, e5]
    rw [if_neg (by simp), if_neg hlt, if_neg hz, if_pos i1, if_pos i2, if_pos i3, if_pos i4, if_neg (by omega)]
/-- what the row tells of a slice of bytes that comes in -/
def CodeOk (l : List Int) : Prop := l.length ≤ maxLen ∧ ∀ y ∈ l, (Lit.int .u8 y).wf = true
theorem open_ok (l : List Int) (ok : CodeOk l) : ∃ b, Bytes b ∧ spec_l6Open.f l = some (b, 0) := by
  have hb : ∀ x ∈ l, 0 ≤ x ∧ x ≤ 255 := by
    intro x hx
    have h := ok.2 x hx
    simp [Lit.wf, IntKind.min, IntKind.max, IntKind.signed, IntKind.bits] at h
    omega
  unfold spec_l6Open.f
  by_cases h : (l.length : Int) > 2000
  · exact ⟨l.take 2000, ⟨by simp; omega, fun x hx => hb x (List.mem_of_mem_take hx)⟩, by rw [if_pos h, if_pos (by omega)]⟩
  · exact ⟨l, ⟨by omega, hb⟩, by rw [if_neg h]⟩

end Go.Proofs.Ytfnngpfkcnfhiaa.B
