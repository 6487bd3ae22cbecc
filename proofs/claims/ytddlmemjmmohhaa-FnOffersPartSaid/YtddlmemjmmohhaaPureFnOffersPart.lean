/- The pure statement of FnOffersPart is proved: of valid offers without any one of several they stay valid, and with one twice they are not. Conditions: none. -/
import Derived.Test.YtddlmemjmmohhaaPFnOffersPartx0
import Derived.Test.YtddlmemjmmohhaaPFnOffersPartx1
import Derived.Test.YtddlmemjmmohhaaPFnOffersPartx2
import Derived.Test.YtddlmemjmmohhaaPFnOffersPartx3
namespace Go.Proofs.Ytddlmemjmmohhaa.Pure
open Go.RowKit Go.Proofs.Ytddlmemjmmohhaa.PFnOffersPart Go.Proofs.YtddlmemjmmohhaaW.PrintWords Go.Proofs.YtddlmemjmmohhaaW.PrintLast
set_option linter.unusedVariables false
set_option linter.unusedSimpArgs false

/-! #### plain numbers, rounds, what holds from a place on -/
theorem w64 (n : Int) (h1 : -9223372036854775808 ≤ n) (h2 : n ≤ 9223372036854775807) : wrap64 n = n := by
  unfold wrap64
  omega
/-- as a rule that is no mere unfolding: so the kernel need not unfold -/
theorem bsome {α β : Type} (a : α) (f : α → Option β) : (some a).bind f = f a := (Option.bind_some a f).trans (Eq.refl _)
theorem rounds1 {k B : Nat} (h : B + 1 ≤ k) : ∃ m, k = m + 1 ∧ B ≤ m := ⟨k - 1, by omega, by omega⟩
/-- f holds at i, i + 1, .. : d of them -/
def allFrom (f : Int → Bool) : Nat → Int → Bool
  | 0, _ => true
  | d + 1, i => f i && allFrom f d (i + 1)
theorem allFrom_iff (f : Int → Bool) : ∀ (d : Nat) (i : Int), allFrom f d i = true ↔ ∀ j, i ≤ j → j < i + d → f j = true := by
  intro d
  induction d with
  | zero => exact fun i => ⟨fun _ j h1 h2 => by omega, fun _ => rfl⟩
  | succ d ih =>
    intro i
    simp only [allFrom, Bool.and_eq_true, ih]
    constructor
    · rintro ⟨h1, h2⟩ j h3 h4
      by_cases e : j = i
      · rw [e]; exact h1
      · exact h2 j (by omega) (by omega)
    · exact fun h => ⟨h i (by omega) (by omega), fun j h1 h2 => h j (by omega) (by omega)⟩
theorem allFrom_congr (f g : Int → Bool) : ∀ (d : Nat) (i : Int), (∀ j, i ≤ j → j < i + d → f j = g j) → allFrom f d i = allFrom g d i := by
  intro d
  induction d with
  | zero => exact fun _ _ => rfl
  | succ d ih =>
    intro i h
    simp only [allFrom]
    rw [h i (by omega) (by omega), ih (i + 1) fun j h1 h2 => h j (by omega) (by omega)]

/-! #### a draw's reader -/
def Bytes (b : List Int) : Prop := b.length ≤ 2000 ∧ ∀ x ∈ b, 0 ≤ x ∧ x ≤ 255
theorem rd_byte {b : List Int} (hb : Bytes b) (i : Int) : 0 ≤ rd b i ∧ rd b i ≤ 255 := by
  unfold rd
  rw [List.getD_eq_getElem?_getD]
  cases h : b[i.toNat]? with
  | none => simp
  | some x => exact hb.2 x (List.mem_of_getElem? h)
theorem xor_nonneg (a b : Int) (ha : 0 ≤ a) (hb : 0 ≤ b) (ha2 : a ≤ 4611686018427387903) (hb2 : b ≤ 4611686018427387903) : 0 ≤ Go.bits .xor .i64 a b := by
  obtain ⟨m, rfl⟩ := Int.eq_ofNat_of_zero_le ha
  obtain ⟨n, rfl⟩ := Int.eq_ofNat_of_zero_le hb
  have hm : m < 2 ^ 62 := by omega
  have hn : n < 2 ^ 62 := by omega
  have hx : m ^^^ n < 2 ^ 62 := Nat.xor_lt_two_pow hm hn
  have h1 : (BitVec.ofInt 64 (m : Int)).toNat = m := by
    rw [BitVec.ofInt_natCast, BitVec.toNat_ofNat]
    exact Nat.mod_eq_of_lt (by omega)
  have h2 : (BitVec.ofInt 64 (n : Int)).toNat = n := by
    rw [BitVec.ofInt_natCast, BitVec.toNat_ofNat]
    exact Nat.mod_eq_of_lt (by omega)
  show 0 ≤ IntKind.i64.wrap ((BitVec.ofInt 64 (m : Int) ^^^ BitVec.ofInt 64 (n : Int)).toNat : Int)
  rw [BitVec.toNat_xor, h1, h2]
  simp [IntKind.wrap, IntKind.bits, IntKind.signed]
  omega
theorem pick_ok {b : List Int} (hb : Bytes b) (p n : Int) (h0 : 0 ≤ p) (h1 : p ≤ 1000000) :
    ∃ v, 0 ≤ v ∧ (1 ≤ n → v < n) ∧ (n < 1 → v = 0) ∧ ∀ k, 1 ≤ k → spec_l6Rd_pick.f k b p n = some (v, p + 1) := by
  by_cases hn : n < 1
  · refine ⟨0, by omega, by omega, fun _ => rfl, fun k hk => ?_⟩
    obtain ⟨k, rfl, _⟩ := rounds1 (B := 0) hk
    unfold spec_l6Rd_pick.f
    rw [if_pos hn, w64 _ (by omega) (by omega)]
    simp only [spec_l6Rd_pick.j0, if_true]
  have hl := hb.1
  by_cases hz : (b.length : Int) = 0
  · refine ⟨0, by omega, by omega, by omega, fun k hk => ?_⟩
    obtain ⟨k, rfl, _⟩ := rounds1 (B := 0) hk
    unfold spec_l6Rd_pick.f
    rw [if_neg hn, w64 _ (by omega) (by omega)]
    simp [spec_l6Rd_pick.j0, hz]
  have e0 : wrap64 (p + 1) = p + 1 := w64 _ (by omega) (by omega)
  have e1 : wrap64 (p + 1 - 1) = p := by rw [show p + 1 - 1 = p by omega]; exact w64 _ (by omega) (by omega)
  have ez : ((b.length : Int) == 0) = false := by simpa using hz
  by_cases hlt : p < (b.length : Int)
  · have r := rd_byte hb p
    have e2 : wrap64 (rd b p) = rd b p := w64 _ (by omega) (by omega)
    refine ⟨Int.tmod (rd b p) n, Int.tmod_nonneg _ r.1, fun h => Int.tmod_lt_of_pos _ (by omega), by omega, fun k hk => ?_⟩
    obtain ⟨k, rfl, _⟩ := rounds1 (B := 0) hk
    unfold spec_l6Rd_pick.f
    rw [if_neg hn, e0, ez]
    simp only [spec_l6Rd_pick.j0, e1, e2]
    rw [if_neg (by simp), if_pos hlt, if_pos h0, if_neg (by omega)]
  · have L0 : 0 < (b.length : Int) := by omega
    have e3 : wrap64 (p * 7) = p * 7 := w64 _ (by omega) (by omega)
    have e4 : wrap64 (p * 7 + 3) = p * 7 + 3 := w64 _ (by omega) (by omega)
    have i1 : 0 ≤ Int.tmod p (b.length : Int) := Int.tmod_nonneg _ h0
    have i2 : Int.tmod p (b.length : Int) < (b.length : Int) := Int.tmod_lt_of_pos _ L0
    have i3 : 0 ≤ Int.tmod (p * 7 + 3) (b.length : Int) := Int.tmod_nonneg _ (by omega)
    have i4 : Int.tmod (p * 7 + 3) (b.length : Int) < (b.length : Int) := Int.tmod_lt_of_pos _ L0
    have r1 := rd_byte hb (Int.tmod p (b.length : Int))
    have r2 := rd_byte hb (Int.tmod (p * 7 + 3) (b.length : Int))
    have d1 : 0 ≤ Int.tdiv p (b.length : Int) := Int.tdiv_nonneg h0 (by omega)
    have d2 : Int.tdiv p (b.length : Int) ≤ p := Int.tdiv_le_self _ h0
    generalize hD : Int.tdiv p (b.length : Int) = D at d1 d2
    generalize hR1 : rd b (Int.tmod p (b.length : Int)) = R1 at r1
    generalize hR2 : rd b (Int.tmod (p * 7 + 3) (b.length : Int)) = R2 at r2
    have hX : wrap64 ((wrap64 ((wrap64 ((wrap64 ((wrap64 R1) * 131)) + (wrap64 ((wrap64 R2) * 1117)))) + (wrap64 (p * 29)))) + (wrap64 ((wrap64 D) * 53))) = R1 * 131 + R2 * 1117 + p * 29 + D * 53 := by
      rw [w64 R1 (by omega) (by omega), w64 R2 (by omega) (by omega), w64 D (by omega) (by omega), w64 (R1 * 131) (by omega) (by omega), w64 (R2 * 1117) (by omega) (by omega), w64 (p * 29) (by omega) (by omega), w64 (D * 53) (by omega) (by omega),
        w64 (R1 * 131 + R2 * 1117) (by omega) (by omega), w64 (R1 * 131 + R2 * 1117 + p * 29) (by omega) (by omega), w64 _ (by omega) (by omega)]
    have x0 : 0 ≤ R1 * 131 + R2 * 1117 + p * 29 + D * 53 := by omega
    have x1 : R1 * 131 + R2 * 1117 + p * 29 + D * 53 ≤ 1000000000 := by omega
    generalize R1 * 131 + R2 * 1117 + p * 29 + D * 53 = X at hX x0 x1
    have t0 : 0 ≤ Int.tdiv X 64 := Int.tdiv_nonneg x0 (by omega)
    have t1 : Int.tdiv X 64 ≤ X := Int.tdiv_le_self _ x0
    have e5 : wrap64 (Int.tdiv X 64) = Int.tdiv X 64 := w64 _ (by omega) (by omega)
    have hc := xor_nonneg X (Int.tdiv X 64) x0 t0 (by omega) (by omega)
    refine ⟨Int.tmod (Go.bits .xor .i64 X (Int.tdiv X 64)) n, Int.tmod_nonneg _ hc, fun h => Int.tmod_lt_of_pos _ (by omega), by omega, fun k hk => ?_⟩
    obtain ⟨k, rfl, _⟩ := rounds1 (B := 0) hk
    unfold spec_l6Rd_pick.f
    rw [if_neg hn, e0, ez]
    simp only [spec_l6Rd_pick.j0, e1, e3, e4, hD, hR1, hR2, hX, e5]
    rw [if_neg (by simp), if_neg hlt, if_neg hz, if_pos i1, if_pos i2, if_pos i3, if_pos i4, if_neg (by omega)]
/-- what the row tells of a slice of bytes that comes in -/
def CodeOk (l : List Int) : Prop := l.length ≤ maxLen ∧ ∀ y ∈ l, (Lit.int .u8 y).wf = true
theorem open_ok (l : List Int) (ok : CodeOk l) : ∃ b, Bytes b ∧ spec_l6Open.f l = some (b, 0) := by
  have hb : ∀ x ∈ l, 0 ≤ x ∧ x ≤ 255 := by
    intro x hx
    have h := ok.2 x hx
    simp [Lit.wf, IntKind.min, IntKind.max, IntKind.signed, IntKind.bits] at h
    omega
  unfold spec_l6Open.f
  by_cases h : (l.length : Int) > 2000
  · exact ⟨l.take 2000, ⟨by simp; omega, fun x hx => hb x (List.mem_of_mem_take hx)⟩, by rw [if_pos h, if_pos (by omega)]⟩
  · exact ⟨l, ⟨by omega, hb⟩, by rw [if_neg h]⟩

/-! #### offers: what is valid, both ways -/
theorem within_eq (a b c : Int) : impl_within.f a b c = some (decide (b ≤ a ∧ a ≤ c)) := by
  unfold impl_within.f
  by_cases h : b ≤ a <;> simp [h]
theorem l6In_eq (a b c : Int) : spec_l6In.f a b c = some (decide (b ≤ a ∧ a ≤ c)) := by
  unfold spec_l6In.f
  by_cases h : b ≤ a <;> simp [h]
def okOffer (l : List S37) (i : Int) : Bool :=
  decide (1 ≤ (rd_T37 l i).f0 ∧ (rd_T37 l i).f0 ≤ 50) && (decide (1 ≤ (rd_T37 l i).f1 ∧ (rd_T37 l i).f1 ≤ 999) && (decide (i ≤ 0) || decide ((rd_T37 l (i - 1)).f0 < (rd_T37 l i).f0)))
def offersV (l : List S37) : Bool := allFrom (okOffer l) l.length 0 && decide (1 ≤ (l.length : Int) ∧ (l.length : Int) ≤ 3)
theorem impl_OffersValid_l0 (l : List S37) (hl : l.length ≤ 1000000000) : ∀ (d : Nat) (i : Int), 0 ≤ i → i + d = l.length → ∀ k, d + 1 ≤ k →
    impl_OffersValid.l0 k l l (l.length : Int) i = some (allFrom (okOffer l) d i && decide (1 ≤ (l.length : Int) ∧ (l.length : Int) ≤ 3)) := by
  intro d
  induction d with
  | zero =>
    intro i h0 hi k hk
    obtain ⟨k, rfl, hk'⟩ := rounds1 hk
    simp only [impl_OffersValid.l0]
    rw [if_neg (by omega), within_eq]
    simp only [bsome, allFrom, Bool.true_and]
  | succ d ih =>
    intro i h0 hi k hk
    obtain ⟨k, rfl, hk'⟩ := rounds1 hk
    have e := ih (i + 1) (by omega) (by omega) k hk'
    simp only [impl_OffersValid.l0, allFrom]
    rw [if_pos (by omega), if_pos (by omega), if_pos (by omega), within_eq, within_eq, w64 (i + 1) (by omega) (by omega), e]
    simp only [bsome, decide_eq_true_eq]
    by_cases h1 : 1 ≤ (rd_T37 l i).f0 ∧ (rd_T37 l i).f0 ≤ 50
    · by_cases h2 : 1 ≤ (rd_T37 l i).f1 ∧ (rd_T37 l i).f1 ≤ 999
      · rw [if_pos h1, if_pos h2]
        by_cases h3 : i ≤ 0
        · have ho : okOffer l i = true := by simp only [okOffer, h1, h2, h3, decide_true, Bool.true_or, Bool.and_true, and_self]
          rw [if_neg (by omega), ho, Bool.true_and]
        · rw [if_pos (by omega), w64 _ (by omega) (by omega), if_pos (by omega), if_pos (by omega)]
          by_cases h4 : (rd_T37 l (i - 1)).f0 ≥ (rd_T37 l i).f0
          · have ho : okOffer l i = false := by
              simp only [okOffer, h3, decide_false, Bool.false_or]
              rw [decide_eq_false (by omega : ¬ (rd_T37 l (i - 1)).f0 < (rd_T37 l i).f0), Bool.and_false, Bool.and_false]
            rw [if_pos h4, ho, Bool.false_and, Bool.false_and]
          · have h5 : (rd_T37 l (i - 1)).f0 < (rd_T37 l i).f0 := by omega
            have ho : okOffer l i = true := by simp only [okOffer, h1, h2, h5, decide_true, Bool.or_true, Bool.and_true, and_self]
            rw [if_neg h4, ho, Bool.true_and]
      · rw [if_pos h1, if_neg h2]
        simp only [okOffer, h2, decide_false, Bool.false_and, Bool.and_false]
    · rw [if_neg h1]
      simp only [okOffer, h1, decide_false, Bool.false_and]
theorem spec_OffersValid_l0 (l : List S37) (hl : l.length ≤ 1000000000) : ∀ (d : Nat) (i : Int), 0 ≤ i → i + d = l.length → ∀ k, d + 1 ≤ k →
    spec_OffersValid.l0 k l i = some (allFrom (okOffer l) d i && decide (1 ≤ (l.length : Int) ∧ (l.length : Int) ≤ 3)) := by
  intro d
  induction d with
  | zero =>
    intro i h0 hi k hk
    obtain ⟨k, rfl, hk'⟩ := rounds1 hk
    simp only [spec_OffersValid.l0]
    rw [if_neg (by omega), l6In_eq]
    simp only [bsome, allFrom, Bool.true_and]
  | succ d ih =>
    intro i h0 hi k hk
    obtain ⟨k, rfl, hk'⟩ := rounds1 hk
    have e := ih (i + 1) (by omega) (by omega) k hk'
    simp only [spec_OffersValid.l0, allFrom]
    rw [if_pos (by omega), if_pos (by omega), l6In_eq, l6In_eq, w64 (i + 1) (by omega) (by omega), e]
    simp only [bsome, decide_eq_true_eq]
    by_cases h1 : 1 ≤ (rd_T37 l i).f0 ∧ (rd_T37 l i).f0 ≤ 50
    · by_cases h2 : 1 ≤ (rd_T37 l i).f1 ∧ (rd_T37 l i).f1 ≤ 999
      · rw [if_pos h1, if_pos h2]
        by_cases h3 : i ≤ 0
        · have ho : okOffer l i = true := by simp only [okOffer, h1, h2, h3, decide_true, Bool.true_or, Bool.and_true, and_self]
          rw [if_neg (by omega), ho, Bool.true_and]
        · rw [if_pos (by omega), w64 _ (by omega) (by omega), if_pos (by omega), if_pos (by omega)]
          by_cases h4 : (rd_T37 l (i - 1)).f0 ≥ (rd_T37 l i).f0
          · have ho : okOffer l i = false := by
              simp only [okOffer, h3, decide_false, Bool.false_or]
              rw [decide_eq_false (by omega : ¬ (rd_T37 l (i - 1)).f0 < (rd_T37 l i).f0), Bool.and_false, Bool.and_false]
            rw [if_pos h4, ho, Bool.false_and, Bool.false_and]
          · have h5 : (rd_T37 l (i - 1)).f0 < (rd_T37 l i).f0 := by omega
            have ho : okOffer l i = true := by simp only [okOffer, h1, h2, h5, decide_true, Bool.or_true, Bool.and_true, and_self]
            rw [if_neg h4, ho, Bool.true_and]
      · rw [if_pos h1, if_neg h2]
        simp only [okOffer, h2, decide_false, Bool.false_and, Bool.and_false]
    · rw [if_neg h1]
      simp only [okOffer, h1, decide_false, Bool.false_and]
theorem impl_OffersValid_eq (l : List S37) (hl : l.length ≤ 1000000000) (k : Nat) (hk : l.length + 1 ≤ k) : impl_OffersValid.f k l = some (offersV l) := by
  unfold impl_OffersValid.f offersV
  exact impl_OffersValid_l0 l hl l.length 0 (by omega) (by omega) k hk
theorem spec_OffersValid_eq (l : List S37) (hl : l.length ≤ 1000000000) (k : Nat) (hk : l.length + 1 ≤ k) : spec_OffersValid.f k l = some (offersV l) := by
  unfold spec_OffersValid.f offersV
  exact spec_OffersValid_l0 l hl l.length 0 (by omega) (by omega) k hk
theorem offersV_iff (l : List S37) : offersV l = true ↔ (1 ≤ l.length ∧ l.length ≤ 3) ∧ ∀ i : Int, 0 ≤ i → i < l.length → okOffer l i = true := by
  unfold offersV
  rw [Bool.and_eq_true, allFrom_iff, decide_eq_true_eq]
  constructor
  · rintro ⟨h1, h2⟩
    exact ⟨by omega, fun i h0 hi => h1 i h0 (by omega)⟩
  · rintro ⟨h1, h2⟩
    exact ⟨fun i h0 hi => h2 i h0 (by omega), by omega⟩

/-! #### offers that are drawn -/
def OfferB (o : S37) : Prop := -1000000 ≤ o.f0 ∧ o.f0 ≤ 1000000 ∧ -1000000 ≤ o.f1 ∧ o.f1 ≤ 1000000
def OffersB (l : List S37) : Prop := l.length ≤ 4 ∧ ∀ o ∈ l, OfferB o
theorem rdOffer_mem {l : List S37} {i : Int} (h0 : 0 ≤ i) (h1 : i < l.length) : rd_T37 l i ∈ l := by
  unfold rd_T37
  rw [List.getD_eq_getElem?_getD, List.getElem?_eq_getElem (by omega)]
  exact List.getElem_mem _
theorem offersB_snoc {l : List S37} {x : S37} (h : ∀ o ∈ l, OfferB o) (hx : OfferB x) : ∀ o ∈ l ++ [x], OfferB o := by
  intro o ho
  rcases List.mem_append.1 ho with ho | ho
  · exact h o ho
  · rw [List.mem_singleton.1 ho]
    exact hx
theorem len_snoc {α : Type} (l : List α) (x : α) : (l ++ [x]).length = l.length + 1 := by simp
theorem l92Offers_end {b : List Int} (hb : Bytes b) (n : Int) (hn : 1 ≤ n ∧ n ≤ 3) (i : Int) (hi : i = n) (l : List S37) (size p : Int) (hl : (l.length : Int) = i) (hv : ∀ o ∈ l, OfferB o) (hp0 : 0 ≤ p) (hp1 : p ≤ 1010) :
    ∃ l' p', OffersB l' ∧ 0 ≤ p' ∧ p' ≤ 1020 ∧ ∀ k, 2 ≤ k → spec_l92Offers.l0 k l n size i b p = some (l', p') := by
  obtain ⟨v1, a1, a2, _, e1⟩ := pick_ok hb p 24 hp0 (by omega)
  have hin : ¬ (i < n) := by omega
  by_cases c0 : v1 = 0
  · obtain ⟨v2, b1, b2, _, e2⟩ := pick_ok hb (p + 1) n (by omega) (by omega)
    obtain ⟨v3, g1, g2, _, e3⟩ := pick_ok hb (p + 1 + 1) 3 (by omega) (by omega)
    have hg : v3 < (([0, 999, 1000] : List Int).length : Int) := g2 (by omega)
    have hr : 0 ≤ rd [0, 999, 1000] v3 ∧ rd [0, 999, 1000] v3 ≤ 1000 := by
      rcases (by omega : v3 = 0 ∨ v3 = 1 ∨ v3 = 2) with rfl | rfl | rfl <;> simp [rd]
    have hm := hv _ (rdOffer_mem (l := l) (i := v2) b1 (by omega))
    refine ⟨l.set v2.toNat ⟨(rd_T37 l v2).f0, rd [0, 999, 1000] v3⟩, p + 1 + 1 + 1, ⟨by rw [List.length_set]; omega, ?_⟩, by omega, by omega, fun k hk => ?_⟩
    · intro o ho
      rcases List.mem_or_eq_of_mem_set ho with ho | rfl
      · exact hv o ho
      · exact ⟨hm.1, hm.2.1, Int.le_trans (by decide) hr.1, Int.le_trans hr.2 (by decide)⟩
    · obtain ⟨k, rfl, hk'⟩ := rounds1 hk
      simp only [spec_l92Offers.l0]
      rw [if_neg hin, e1 k (by omega)]
      simp only [bsome]
      rw [if_pos c0, e2 k (by omega)]
      simp only [bsome]
      rw [e3 k (by omega)]
      simp only [bsome]
      rw [if_pos g1, if_pos hg, if_pos b1, if_pos (by omega)]
  · by_cases c1 : v1 = 1
    · refine ⟨l ++ [⟨(rd_T37 l 0).f0, (rd_T37 l 0).f1⟩], p + 1, ⟨by rw [len_snoc]; omega, offersB_snoc hv (hv _ (rdOffer_mem (l := l) (i := 0) (by omega) (by omega)))⟩, by omega, by omega, fun k hk => ?_⟩
      obtain ⟨k, rfl, hk'⟩ := rounds1 hk
      simp only [spec_l92Offers.l0]
      rw [if_neg hin, e1 k (by omega)]
      simp only [bsome]
      rw [if_neg c0, if_pos c1, if_pos (by omega), if_pos (by omega)]
    · by_cases c2 : v1 = 2
      · refine ⟨[], p + 1, ⟨Nat.zero_le _, fun o ho => nomatch ho⟩, by omega, by omega, fun k hk => ?_⟩
        obtain ⟨k, rfl, hk'⟩ := rounds1 hk
        simp only [spec_l92Offers.l0]
        rw [if_neg hin, e1 k (by omega)]
        simp only [bsome]
        rw [if_neg c0, if_neg c1, if_pos c2]
      · refine ⟨l, p + 1, ⟨by omega, hv⟩, by omega, by omega, fun k hk => ?_⟩
        obtain ⟨k, rfl, hk'⟩ := rounds1 hk
        simp only [spec_l92Offers.l0]
        rw [if_neg hin, e1 k (by omega)]
        simp only [bsome]
        rw [if_neg c0, if_neg c1, if_neg c2]
theorem l92Offers_l0 {b : List Int} (hb : Bytes b) (n : Int) (hn : 1 ≤ n ∧ n ≤ 3) : ∀ (d : Nat) (i : Int), 0 ≤ i → i + d = n → ∀ (l : List S37) (size p : Int), (l.length : Int) = i → (∀ o ∈ l, OfferB o) →
    0 ≤ size → size ≤ 10 * i → 0 ≤ p → p ≤ 1000 + 2 * i → ∃ l' p', OffersB l' ∧ 0 ≤ p' ∧ p' ≤ 1020 ∧ ∀ k, d + 2 ≤ k → spec_l92Offers.l0 k l n size i b p = some (l', p') := by
  intro d
  induction d with
  | zero =>
    intro i h0 hi l size p hl hv hs0 hs1 hp0 hp1
    exact l92Offers_end hb n hn i (by omega) l size p hl hv hp0 (by omega)
  | succ d ih =>
    intro i h0 hi l size p hl hv hs0 hs1 hp0 hp1
    obtain ⟨v1, a1, a2, _, e1⟩ := pick_ok hb p 9 hp0 (by omega)
    obtain ⟨v2, b1, b2, _, e2⟩ := pick_ok hb (p + 1) 40 (by omega) (by omega)
    have w1 : wrap64 (wrap64 (size + 1) + v1) = size + 1 + v1 := by rw [w64 (size + 1) (by omega) (by omega), w64 _ (by omega) (by omega)]
    have w2 : wrap64 (1 + v2) = 1 + v2 := w64 _ (by omega) (by omega)
    have w3 : wrap64 (i + 1) = i + 1 := w64 _ (by omega) (by omega)
    obtain ⟨l', p', hB, hp1', hp2', e⟩ := ih (i + 1) (by omega) (by omega) (l ++ [⟨size + 1 + v1, 1 + v2⟩]) (size + 1 + v1) (p + 1 + 1) (by rw [len_snoc]; omega)
      (offersB_snoc hv ⟨(by omega : -1000000 ≤ size + 1 + v1), (by omega : size + 1 + v1 ≤ 1000000), (by omega : -1000000 ≤ 1 + v2), (by omega : 1 + v2 ≤ 1000000)⟩)
      (by omega) (by omega) (by omega) (by omega)
    refine ⟨l', p', hB, hp1', hp2', fun k hk => ?_⟩
    obtain ⟨k, rfl, hk'⟩ := rounds1 hk
    simp only [spec_l92Offers.l0]
    rw [if_pos (by omega), e1 k (by omega)]
    simp only [bsome]
    rw [e2 k (by omega)]
    simp only [bsome]
    rw [if_pos (by omega), w1, w2, w3]
    exact e k (by omega)
theorem l92Offers_ok {b : List Int} (hb : Bytes b) (p : Int) (h0 : 0 ≤ p) (h1 : p ≤ 999) : ∃ l' p', OffersB l' ∧ 0 ≤ p' ∧ p' ≤ 1020 ∧ ∀ k, 5 ≤ k → spec_l92Offers.f k b p = some (l', p') := by
  obtain ⟨v, a1, a2, _, e⟩ := pick_ok hb p 3 h0 (by omega)
  have w1 : wrap64 (1 + v) = 1 + v := w64 _ (by omega) (by omega)
  obtain ⟨l', p', hB, q0, q1, e2⟩ := l92Offers_l0 hb (1 + v) (by omega) (1 + v).toNat 0 (by omega) (by omega) [] 0 (p + 1) rfl (fun o ho => nomatch ho) (by omega) (by omega) (by omega) (by omega)
  refine ⟨l', p', hB, q0, q1, fun k hk => ?_⟩
  unfold spec_l92Offers.f
  rw [e k (by omega)]
  simp only [bsome]
  rw [w1]
  exact e2 k (by omega)

theorem drawOffersValid_ok (l : List Int) (ok : CodeOk l) : ∃ l', OffersB l' ∧ ∀ k, 5 ≤ k → spec_DrawOffersValid.f k l = some l' := by
  obtain ⟨b, hb, e⟩ := open_ok l ok
  obtain ⟨l', p', hB, _, _, e2⟩ := l92Offers_ok hb 0 (by omega) (by omega)
  refine ⟨l', hB, fun k hk => ?_⟩
  unfold spec_DrawOffersValid.f
  rw [e]
  simp only [bsome]
  rw [e2 k hk]
  rfl

theorem part_law (l : List S37) (hv : offersV l = true) (m : Nat) (hm : m < l.length) :
    offersV (l.take m ++ l.drop (m + 1)) = decide ((l.length : Int) > 1) ∧ offersV (l.take (m + 1) ++ l.drop m) = false := by
  have hlen := ((offersV_iff l).1 hv).1
  match l, hlen, hm, hv with
  | [a], _, hm, hv =>
    obtain rfl : m = 0 := by simp at hm; omega
    simp [offersV, okOffer, rd_T37, allFrom] at hv ⊢
  | [a, b], _, hm, hv =>
    rcases (by simp at hm; omega : m = 0 ∨ m = 1) with rfl | rfl <;> simp [offersV, okOffer, rd_T37, allFrom] at hv ⊢ <;> omega
  | [a, b, c], _, hm, hv =>
    rcases (by simp at hm; omega : m = 0 ∨ m = 1 ∨ m = 2) with rfl | rfl | rfl <;> simp [offersV, okOffer, rd_T37, allFrom] at hv ⊢ <;> omega
theorem FnOffersPart (l0 : List Int) (ok0 : CodeOk l0) (l1 : List Int) (ok1 : CodeOk l1) : ∃ k, laws_FnOffersPart.f k l0 l1 = some true := by
  by_cases h1 : (l0.length : Int) > 1048576
  · exact ⟨0 + 1, by unfold laws_FnOffersPart.f; rw [if_pos h1]; simp only [laws_FnOffersPart.j0, if_true]⟩
  by_cases h2 : (l1.length : Int) > 1048576
  · exact ⟨0 + 1, by unfold laws_FnOffersPart.f; rw [if_neg h1, decide_eq_true h2]; simp only [laws_FnOffersPart.j0, if_true]⟩
  obtain ⟨l, hB, e⟩ := drawOffersValid_ok l0 ok0
  have hl := hB.1
  obtain ⟨k, hk⟩ : ∃ k : Nat, 20 ≤ k := ⟨20, Nat.le_refl _⟩
  refine ⟨k + 1 + 1, ?_⟩
  unfold laws_FnOffersPart.f
  rw [if_neg h1, decide_eq_false h2]
  simp only [laws_FnOffersPart.j0]
  rw [if_neg (by simp), e _ (by omega)]
  simp only [bsome]
  rw [impl_OffersValid_eq l (by omega) _ (by omega), spec_OffersValid_eq l (by omega) _ (by omega)]
  simp only [bsome, bne_self_eq_false, Bool.false_eq_true, if_false, laws_FnOffersPart.j1]
  cases hv : offersV l with
  | false => simp
  | true =>
    have hlen := ((offersV_iff l).1 hv).1
    obtain ⟨m, hm⟩ : ∃ m : Nat, (l1.length : Int) % (l.length : Int) = (m : Int) := ⟨l1.length % l.length, by omega⟩
    have hml : m < l.length := by
      have := Int.emod_lt_of_pos (l1.length : Int) (b := (l.length : Int)) (by omega)
      omega
    have w1 : wrap64 ((m : Int) + 1) = ((m + 1 : Nat) : Int) := by rw [w64 _ (by omega) (by omega)]; omega
    obtain ⟨p1, p2⟩ := part_law l hv m hml
    have n0 : ([] : List S37).length = 0 := rfl
    rw [if_neg (by simp), if_neg (by omega)]
    simp only [hm, w1, bsome, Int.toNat_natCast, List.nil_append]
    rw [if_pos (by omega), if_pos (by omega), if_pos (by rw [n0, List.length_take]; omega), if_pos (by omega), if_pos (by omega), if_pos (by rw [List.length_take, List.length_drop]; omega), if_pos (by rw [n0, List.length_take]; omega), if_pos (by rw [List.length_take, List.length_drop]; omega)]
    rw [impl_OffersValid_eq _ (by rw [List.length_append, List.length_take, List.length_drop]; omega) _ (by rw [List.length_append, List.length_take, List.length_drop]; omega), impl_OffersValid_eq _ (by rw [List.length_append, List.length_take, List.length_drop]; omega) _ (by rw [List.length_append, List.length_take, List.length_drop]; omega)]
    simp only [bsome, p1, p2]
    simp

end Go.Proofs.Ytddlmemjmmohhaa.Pure
