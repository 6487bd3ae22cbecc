/- Lemmas about the printed functions (drawneeds). -/
import Derived.Test.YtleehcjhbpnmlaaPAllx0
import Derived.Test.YtleehcjhbpnmlaaPAllx1
import Derived.Test.YtleehcjhbpnmlaaPAllx2
import Derived.Test.YtleehcjhbpnmlaaPAllx3
import Derived.Test.YtleehcjhbpnmlaaBbase
import Derived.Test.YtleehcjhbpnmlaaBpick
namespace Go.Proofs.Ytleehcjhbpnmlaa.B
open Go.RowKit Go.Proofs.Ytleehcjhbpnmlaa.PAll Go.Proofs.YtleehcjhbpnmlaaW.PrintWords Go.Proofs.YtleehcjhbpnmlaaW.PrintLast
set_option linter.unusedVariables false
set_option linter.unusedSimpArgs false

/-! #### foods and needs that are drawn -/
theorem snoc_len {α : Type} (l : List α) (x : α) : (l ++ [x]).length = l.length + 1 := by simp
theorem l3Weight_l0 (x : Int) (hx : x ≤ 100) : ∀ (d : Nat) (i acc : Int), 0 ≤ i → i + d = x → ∃ v, ∀ k, d + 1 ≤ k → spec_l3Weight.l0 k x acc i = some v := by
  intro d
  induction d with
  | zero =>
    intro i acc h0 hi
    refine ⟨acc, fun k hk => ?_⟩
    obtain ⟨k, rfl, _⟩ := rounds1 hk
    rw [spec_l3Weight.l0, if_neg (by omega)]
  | succ d ih =>
    intro i acc h0 hi
    obtain ⟨v, e⟩ := ih (i + 1) (wrap64 (2 * acc)) (by omega) (by omega)
    refine ⟨v, fun k hk => ?_⟩
    obtain ⟨k, rfl, hk'⟩ := rounds1 hk
    rw [spec_l3Weight.l0, if_pos (by omega), w64 (i + 1) (by omega) (by omega), e k hk']
theorem l3Weight_ok (x : Int) (h0 : 0 ≤ x) (hx : x ≤ 100) : ∃ v, ∀ k, 102 ≤ k → spec_l3Weight.f k x = some v := by
  obtain ⟨v, e⟩ := l3Weight_l0 x hx x.toNat 0 1 (by omega) (by omega)
  exact ⟨v, fun k hk => e k (by omega)⟩
theorem l91Food_end {b : List Int} (hb : Bytes b) (i : Int) (hi : i = 8) (p x0 x1 x2 x3 x4 x5 : Int) (hp0 : 0 ≤ p) (hp1 : p ≤ 10000) :
    ∃ y : S29, ∃ q, p ≤ q ∧ q ≤ p + 2 ∧ ∀ k, 2 ≤ k → spec_l91Food.l0 k i b p x0 x1 x2 x3 x4 x5 = some (y.f0, y.f1, y.f2, y.f3, y.f4, y.f5, q) := by
  obtain ⟨v1, a1, a2, _, e1⟩ := pick_ok hb p 60 hp0 (by omega)
  obtain ⟨v2, b1, b2, _, e2⟩ := pick_ok hb (p + 1) 2 (by omega) (by omega)
  obtain ⟨v3, c1, c2, _, e3⟩ := pick_ok hb (p + 1) 3 (by omega) (by omega)
  have hi' : ¬ i < 8 := by omega
  by_cases d0 : v1 = 0
  · refine ⟨⟨x0, wrap64 (v2 * 4), x2, x3, x4, x5⟩, p + 1 + 1, by omega, by omega, fun k hk => ?_⟩
    obtain ⟨k, rfl, hk'⟩ := rounds1 hk
    rw [spec_l91Food.l0, if_neg hi', e1 k (by omega)]
    simp only [bsome]
    rw [if_pos d0, e2 k (by omega)]
    rfl
  · by_cases d1 : v1 = 1
    · refine ⟨⟨x0, x1, x2, wrap64 (v2 * 6), x4, x5⟩, p + 1 + 1, by omega, by omega, fun k hk => ?_⟩
      obtain ⟨k, rfl, hk'⟩ := rounds1 hk
      rw [spec_l91Food.l0, if_neg hi', e1 k (by omega)]
      simp only [bsome]
      rw [if_neg d0, if_pos d1, e2 k (by omega)]
      rfl
    · by_cases d2 : v1 = 2
      · have hg : v3 < (([(-1), 999, 1000] : List Int).length : Int) := c2 (by omega)
        refine ⟨⟨x0, x1, x2, x3, x4, rd [(-1), 999, 1000] v3⟩, p + 1 + 1, by omega, by omega, fun k hk => ?_⟩
        obtain ⟨k, rfl, hk'⟩ := rounds1 hk
        rw [spec_l91Food.l0, if_neg hi', e1 k (by omega)]
        simp only [bsome]
        rw [if_neg d0, if_neg d1, if_pos d2, e3 k (by omega)]
        simp only [bsome]
        rw [if_pos c1, if_pos hg]
      · refine ⟨⟨x0, x1, x2, x3, x4, x5⟩, p + 1, by omega, by omega, fun k hk => ?_⟩
        obtain ⟨k, rfl, hk'⟩ := rounds1 hk
        rw [spec_l91Food.l0, if_neg hi', e1 k (by omega)]
        simp only [bsome]
        rw [if_neg d0, if_neg d1, if_neg d2]
theorem l91Food_l0 {b : List Int} (hb : Bytes b) : ∀ (d : Nat) (i : Int), 0 ≤ i → i + d = 8 → ∀ (p x0 x1 x2 x3 x4 x5 : Int), 0 ≤ p → p ≤ 9000 + i →
    ∃ y : S29, ∃ q, p ≤ q ∧ q ≤ p + d + 2 ∧ ∀ k, d + 103 ≤ k → spec_l91Food.l0 k i b p x0 x1 x2 x3 x4 x5 = some (y.f0, y.f1, y.f2, y.f3, y.f4, y.f5, q) := by
  intro d
  induction d with
  | zero =>
    intro i h0 hi p x0 x1 x2 x3 x4 x5 hp0 hp1
    obtain ⟨y, q, q0, q1, e⟩ := l91Food_end hb i (by omega) p x0 x1 x2 x3 x4 x5 hp0 (by omega)
    exact ⟨y, q, q0, by omega, fun k hk => e k (by omega)⟩
  | succ d ih =>
    intro i h0 hi p x0 x1 x2 x3 x4 x5 hp0 hp1
    obtain ⟨v1, a1, a2, _, e1⟩ := pick_ok hb p 6 hp0 (by omega)
    have hi' : i < 8 := by omega
    by_cases d0 : v1 = 0
    · obtain ⟨t, et⟩ := l3Weight_ok i h0 (by omega)
      obtain ⟨y, q, q0, q1, e⟩ := ih (i + 1) (by omega) (by omega) (p + 1) x0 x1 (wrap64 (x2 + t)) x3 x4 x5 (by omega) (by omega)
      refine ⟨y, q, by omega, by omega, fun k hk => ?_⟩
      obtain ⟨k, rfl, hk'⟩ := rounds1 (k := k) (B := d + 103) (by omega)
      rw [spec_l91Food.l0, if_pos hi', e1 k (by omega)]
      simp only [bsome]
      rw [if_pos d0, et k (by omega)]
      simp only [bsome]
      rw [w64 (i + 1) (by omega) (by omega)]
      exact e k hk'
    · obtain ⟨y, q, q0, q1, e⟩ := ih (i + 1) (by omega) (by omega) (p + 1) x0 x1 x2 x3 x4 x5 (by omega) (by omega)
      refine ⟨y, q, by omega, by omega, fun k hk => ?_⟩
      obtain ⟨k, rfl, hk'⟩ := rounds1 (k := k) (B := d + 103) (by omega)
      rw [spec_l91Food.l0, if_pos hi', e1 k (by omega)]
      simp only [bsome]
      rw [if_neg d0, w64 (i + 1) (by omega) (by omega)]
      exact e k hk'
theorem l91Food_ok {b : List Int} (hb : Bytes b) (p id : Int) (hp0 : 0 ≤ p) (hp1 : p ≤ 8000) :
    ∃ y : S29, ∃ q, p ≤ q ∧ q ≤ p + 14 ∧ ∀ k, 111 ≤ k → spec_l91Food.f k b p id = some (y.f0, y.f1, y.f2, y.f3, y.f4, y.f5, q) := by
  obtain ⟨v1, _, _, _, e1⟩ := pick_ok hb p 3 hp0 (by omega)
  obtain ⟨v2, _, _, _, e2⟩ := pick_ok hb (p + 1) 5 (by omega) (by omega)
  obtain ⟨v3, _, _, _, e3⟩ := pick_ok hb (p + 1 + 1) 200 (by omega) (by omega)
  obtain ⟨v4, _, _, _, e4⟩ := pick_ok hb (p + 1 + 1 + 1) 250 (by omega) (by omega)
  obtain ⟨y, q, q0, q1, e⟩ := l91Food_l0 hb 8 0 (by omega) (by omega) (p + 1 + 1 + 1 + 1) id (wrap64 (1 + v1)) 0 (wrap64 (1 + v2)) (wrap64 (v3 * 4)) v4 (by omega) (by omega)
  refine ⟨y, q, by omega, by omega, fun k hk => ?_⟩
  unfold spec_l91Food.f
  rw [e1 k (by omega)]
  simp only [bsome]
  rw [e2 k (by omega)]
  simp only [bsome]
  rw [e3 k (by omega)]
  simp only [bsome]
  rw [e4 k (by omega)]
  simp only [bsome]
  exact e k (by omega)
theorem l91Foods_l0 {b : List Int} (hb : Bytes b) : ∀ (d : Nat) (i : Int), 1 ≤ i → i + d = 9 → ∀ (l : List S29) (p : Int), l.length ≤ 6 → 0 ≤ p → p ≤ 20 * i →
    ∃ l' : List S29, ∃ q, l'.length ≤ 7 ∧ 0 ≤ q ∧ q ≤ 200 ∧ ∀ k, d + 112 ≤ k → spec_l91Foods.l0 k l i b p = some (l', q) := by
  intro d
  induction d with
  | zero =>
    intro i h0 hi l p hl hp0 hp1
    have hi' : ¬ i ≤ 8 := by omega
    by_cases c : (l.length : Int) > 0
    · obtain ⟨v1, a1, a2, _, e1⟩ := pick_ok hb p 30 hp0 (by omega)
      by_cases d0 : v1 = 0
      · refine ⟨l ++ [rd_T29 l 0], p + 1, by rw [snoc_len]; omega, by omega, by omega, fun k hk => ?_⟩
        obtain ⟨k, rfl, hk'⟩ := rounds1 (k := k) (B := 111) (by omega)
        rw [spec_l91Foods.l0, if_neg hi', if_pos c, e1 k (by omega)]
        simp only [bsome]
        rw [if_pos d0, if_pos (by omega), if_pos (by omega)]
      · refine ⟨l, p + 1, by omega, by omega, by omega, fun k hk => ?_⟩
        obtain ⟨k, rfl, hk'⟩ := rounds1 (k := k) (B := 111) (by omega)
        rw [spec_l91Foods.l0, if_neg hi', if_pos c, e1 k (by omega)]
        simp only [bsome]
        rw [if_neg d0]
    · refine ⟨l, p, by omega, by omega, by omega, fun k hk => ?_⟩
      obtain ⟨k, rfl, hk'⟩ := rounds1 (k := k) (B := 111) (by omega)
      rw [spec_l91Foods.l0, if_neg hi', if_neg c]
  | succ d ih =>
    intro i h0 hi l p hl hp0 hp1
    have hi' : i ≤ 8 := by omega
    obtain ⟨v1, a1, a2, _, e1⟩ := pick_ok hb p 3 hp0 (by omega)
    have skip : (¬ (v1 > 0 ∧ (l.length : Int) < 6)) → ∃ l' : List S29, ∃ q, l'.length ≤ 7 ∧ 0 ≤ q ∧ q ≤ 200 ∧ ∀ k, d + 1 + 112 ≤ k → spec_l91Foods.l0 k l i b p = some (l', q) := by
      intro c
      obtain ⟨l', q, r1, r2, r3, e⟩ := ih (i + 1) (by omega) (by omega) l (p + 1) hl (by omega) (by omega)
      refine ⟨l', q, r1, r2, r3, fun k hk => ?_⟩
      obtain ⟨k, rfl, hk'⟩ := rounds1 (k := k) (B := d + 112) (by omega)
      rw [spec_l91Foods.l0, if_pos hi', e1 k (by omega)]
      simp only [bsome]
      rw [w64 (i + 1) (by omega) (by omega)]
      by_cases c1 : v1 > 0
      · rw [if_pos c1, if_neg (fun h => c ⟨c1, h⟩)]
        exact e k hk'
      · rw [if_neg c1]
        exact e k hk'
    by_cases c : v1 > 0 ∧ (l.length : Int) < 6
    · obtain ⟨y, q, q0, q1, ey⟩ := l91Food_ok hb (p + 1) i (by omega) (by omega)
      obtain ⟨l', q', r1, r2, r3, e⟩ := ih (i + 1) (by omega) (by omega) (l ++ [y]) q (by rw [snoc_len]; omega) (by omega) (by omega)
      refine ⟨l', q', r1, r2, r3, fun k hk => ?_⟩
      obtain ⟨k, rfl, hk'⟩ := rounds1 (k := k) (B := d + 112) (by omega)
      rw [spec_l91Foods.l0, if_pos hi', e1 k (by omega)]
      simp only [bsome]
      rw [if_pos c.1, if_pos c.2, ey k (by omega)]
      simp only [bsome]
      rw [if_pos (by omega), w64 (i + 1) (by omega) (by omega)]
      exact e k hk'
    · exact skip c
theorem l91Foods_ok {b : List Int} (hb : Bytes b) : ∃ l' : List S29, ∃ q, l'.length ≤ 7 ∧ 0 ≤ q ∧ q ≤ 200 ∧ ∀ k, 120 ≤ k → spec_l91Foods.f k b 0 = some (l', q) := by
  obtain ⟨l', q, r1, r2, r3, e⟩ := l91Foods_l0 hb 8 1 (by omega) (by omega) [] 0 (Nat.zero_le _) (by omega) (by omega)
  exact ⟨l', q, r1, r2, r3, fun k hk => e k (by omega)⟩
theorem l91Needs_l0 {b : List Int} (hb : Bytes b) (l : List S29) (hl : l.length ≤ 7) : ∀ (d : Nat) (i : Int), 0 ≤ i → i + d = l.length → ∀ (c : List Int) (p : Int), (c.length : Int) = i → 0 ≤ p → p ≤ 500 + 2 * i →
    ∃ c' : List Int, ∃ q, c'.length ≤ 8 ∧ 0 ≤ q ∧ q ≤ p + 2 * d + 3 ∧ ∀ k, d + 2 ≤ k → spec_l91Needs.l0 k l c i b p = some (c', q) := by
  intro d
  induction d with
  | zero =>
    intro i h0 hi c p hc hp0 hp1
    have hi' : ¬ i < (l.length : Int) := by omega
    obtain ⟨v1, a1, a2, _, e1⟩ := pick_ok hb p 30 hp0 (by omega)
    by_cases d0 : v1 = 0
    · refine ⟨c ++ [1], p + 1, by rw [snoc_len]; omega, by omega, by omega, fun k hk => ?_⟩
      obtain ⟨k, rfl, hk'⟩ := rounds1 (k := k) (B := 1) (by omega)
      rw [spec_l91Needs.l0, if_neg hi', e1 k (by omega)]
      simp only [bsome]
      rw [if_pos d0, if_pos (by omega)]
    · by_cases d1 : v1 = 1
      · by_cases c2 : (c.length : Int) > 0
        · obtain ⟨v2, b1, b2, _, e2⟩ := pick_ok hb (p + 1) (c.length : Int) (by omega) (by omega)
          obtain ⟨v3, g1, g2, _, e3⟩ := pick_ok hb (p + 1 + 1) 3 (by omega) (by omega)
          have hg : v3 < (([(-1), 999999, 1000000] : List Int).length : Int) := g2 (by omega)
          refine ⟨c.set v2.toNat (rd [(-1), 999999, 1000000] v3), p + 1 + 1 + 1, by rw [List.length_set]; omega, by omega, by omega, fun k hk => ?_⟩
          obtain ⟨k, rfl, hk'⟩ := rounds1 (k := k) (B := 1) (by omega)
          rw [spec_l91Needs.l0, if_neg hi', e1 k (by omega)]
          simp only [bsome]
          rw [if_neg d0, if_pos d1, if_pos c2, e2 k (by omega)]
          simp only [bsome]
          rw [e3 k (by omega)]
          simp only [bsome]
          rw [if_pos g1, if_pos hg, if_pos b1, if_pos (b2 (by omega))]
        · refine ⟨c, p + 1, by omega, by omega, by omega, fun k hk => ?_⟩
          obtain ⟨k, rfl, hk'⟩ := rounds1 (k := k) (B := 1) (by omega)
          rw [spec_l91Needs.l0, if_neg hi', e1 k (by omega)]
          simp only [bsome]
          rw [if_neg d0, if_pos d1, if_neg c2]
      · refine ⟨c, p + 1, by omega, by omega, by omega, fun k hk => ?_⟩
        obtain ⟨k, rfl, hk'⟩ := rounds1 (k := k) (B := 1) (by omega)
        rw [spec_l91Needs.l0, if_neg hi', e1 k (by omega)]
        simp only [bsome]
        rw [if_neg d0, if_neg d1]
  | succ d ih =>
    intro i h0 hi c p hc hp0 hp1
    have hi' : i < (l.length : Int) := by omega
    obtain ⟨v1, a1, a2, _, e1⟩ := pick_ok hb p 3 hp0 (by omega)
    obtain ⟨v2, b1, b2, _, e2⟩ := pick_ok hb (p + 1) 250 (by omega) (by omega)
    obtain ⟨c', q, r1, r2, r3, e⟩ := ih (i + 1) (by omega) (by omega) (c ++ [wrap64 (v1 * v2)]) (p + 1 + 1) (by rw [snoc_len]; omega) (by omega) (by omega)
    refine ⟨c', q, r1, r2, by omega, fun k hk => ?_⟩
    obtain ⟨k, rfl, hk'⟩ := rounds1 (k := k) (B := d + 2) (by omega)
    rw [spec_l91Needs.l0, if_pos hi', e1 k (by omega)]
    simp only [bsome]
    rw [e2 k (by omega)]
    simp only [bsome]
    rw [if_pos (by omega), w64 (i + 1) (by omega) (by omega)]
    exact e k (by omega)
theorem l91Needs_ok {b : List Int} (hb : Bytes b) (l : List S29) (hl : l.length ≤ 7) (p : Int) (hp0 : 0 ≤ p) (hp1 : p ≤ 400) :
    ∃ c' : List Int, ∃ q, c'.length ≤ 8 ∧ 0 ≤ q ∧ q ≤ p + 20 ∧ ∀ k, 10 ≤ k → spec_l91Needs.f k b p l = some (c', q) := by
  obtain ⟨c', q, r1, r2, r3, e⟩ := l91Needs_l0 hb l hl l.length 0 (by omega) (by omega) [] p rfl hp0 (by omega)
  exact ⟨c', q, r1, r2, by omega, fun k hk => e k (by omega)⟩

end Go.Proofs.Ytleehcjhbpnmlaa.B
