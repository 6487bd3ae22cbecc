/- Lemmas about the printed functions (drawledger). -/
import Derived.Test.YtacjlhffmoglhaaPAllx0
import Derived.Test.YtacjlhffmoglhaaPAllx8
import Derived.Test.YtacjlhffmoglhaaPAllx9
import Derived.Test.YtacjlhffmoglhaaBbase
import Derived.Test.YtacjlhffmoglhaaBwithin
import Derived.Test.YtacjlhffmoglhaaBpick
import Derived.Test.YtacjlhffmoglhaaBentrydef
import Derived.Test.YtacjlhffmoglhaaBrdset
import Derived.Test.YtacjlhffmoglhaaBledgervalid
import Derived.Test.YtacjlhffmoglhaaBspecledgeradd
namespace Go.Proofs.Ytacjlhffmoglhaa.B
open Go.RowKit Go.Proofs.Ytacjlhffmoglhaa.PAll Go.Proofs.YtacjlhffmoglhaaW.PrintWords Go.Proofs.YtacjlhffmoglhaaW.PrintLast
set_option linter.unusedVariables false
set_option linter.unusedSimpArgs false

/-! #### ledgers that are drawn -/
theorem l92Entry_j0 {b : List Int} (hb : Bytes b) (p x0 x1 x2 : Int) (hp0 : 0 ≤ p) (hp1 : p ≤ 10000) :
    ∃ y : S40, ∃ q, p ≤ q ∧ q ≤ p + 2 ∧ ∀ k, 2 ≤ k → spec_l92Entry.j0 k b p x0 x1 x2 = some (y.f0, y.f1, y.f2, q) := by
  obtain ⟨v1, a1, a2, _, e1⟩ := pick_ok hb p 30 hp0 (by omega)
  obtain ⟨v2, b1, b2, _, e2⟩ := pick_ok hb (p + 1) 2 (by omega) (by omega)
  obtain ⟨v3, c1, c2, _, e3⟩ := pick_ok hb (p + 1) 3 (by omega) (by omega)
  by_cases d0 : v1 = 0
  · refine ⟨⟨wrap64 (v2 * 4), x1, x2⟩, p + 1 + 1, by omega, by omega, fun k hk => ?_⟩
    obtain ⟨k, rfl, hk'⟩ := rounds1 hk
    rw [spec_l92Entry.j0, e1 k (by omega)]
    simp only [bsome]
    rw [if_pos d0, e2 k (by omega)]
    rfl
  · by_cases d1 : v1 = 1
    · have hg : v3 < (([0, 9999, 10000] : List Int).length : Int) := c2 (by omega)
      refine ⟨⟨x0, x1, rd [0, 9999, 10000] v3⟩, p + 1 + 1, by omega, by omega, fun k hk => ?_⟩
      obtain ⟨k, rfl, hk'⟩ := rounds1 hk
      rw [spec_l92Entry.j0, e1 k (by omega)]
      simp only [bsome]
      rw [if_neg d0, if_pos d1, e3 k (by omega)]
      simp only [bsome]
      rw [if_pos c1, if_pos hg]
    · refine ⟨⟨x0, x1, x2⟩, p + 1, by omega, by omega, fun k hk => ?_⟩
      obtain ⟨k, rfl, hk'⟩ := rounds1 hk
      rw [spec_l92Entry.j0, e1 k (by omega)]
      simp only [bsome]
      rw [if_neg d0, if_neg d1]
theorem l92Entry_ok {b : List Int} (hb : Bytes b) (p : Int) (hp0 : 0 ≤ p) (hp1 : p ≤ 9000) :
    ∃ y : S40, ∃ q, p ≤ q ∧ q ≤ p + 6 ∧ ∀ k, 2 ≤ k → spec_l92Entry.f k b p = some (y.f0, y.f1, y.f2, q) := by
  obtain ⟨v1, _, _, _, e1⟩ := pick_ok hb p 4 hp0 (by omega)
  obtain ⟨v2, _, _, _, e2⟩ := pick_ok hb (p + 1) 2 (by omega) (by omega)
  obtain ⟨v3, _, _, _, e3⟩ := pick_ok hb (p + 1 + 1) 20 (by omega) (by omega)
  by_cases c : wrap64 (1 + Int.tmod v1 3) = 1
  · obtain ⟨v4, _, _, _, e4⟩ := pick_ok hb (p + 1 + 1 + 1) 60 (by omega) (by omega)
    obtain ⟨y, q, q0, q1, e⟩ := l92Entry_j0 hb (p + 1 + 1 + 1 + 1) (wrap64 (1 + (Int.tmod v1 3))) (wrap64 (1 + v2)) (wrap64 (20 + v4)) (by omega) (by omega)
    refine ⟨y, q, by omega, by omega, fun k hk => ?_⟩
    unfold spec_l92Entry.f
    rw [e1 k (by omega)]
    simp only [bsome]
    rw [e2 k (by omega)]
    simp only [bsome]
    rw [e3 k (by omega)]
    simp only [bsome]
    rw [if_pos c, e4 k (by omega)]
    simp only [bsome]
    exact e k hk
  · obtain ⟨y, q, q0, q1, e⟩ := l92Entry_j0 hb (p + 1 + 1 + 1) (wrap64 (1 + (Int.tmod v1 3))) (wrap64 (1 + v2)) (wrap64 (1 + v3)) (by omega) (by omega)
    refine ⟨y, q, by omega, by omega, fun k hk => ?_⟩
    unfold spec_l92Entry.f
    rw [e1 k (by omega)]
    simp only [bsome]
    rw [e2 k (by omega)]
    simp only [bsome]
    rw [e3 k (by omega)]
    simp only [bsome]
    rw [if_neg c]
    exact e k hk
theorem l92Ledger_j2 {b : List Int} (hb : Bytes b) (l : List S40) (hl : l.length ≤ 60) (g : Bool) (hg : g = true → 0 < l.length) (p : Int) (hp0 : 0 ≤ p) (hp1 : p ≤ 9000) :
    ∃ l' : List S40, ∃ q, l'.length ≤ 60 ∧ p ≤ q ∧ q ≤ p + 2 ∧ ∀ k, 2 ≤ k → spec_l92Ledger.j2 k l g b p = some (l', q) := by
  by_cases c : g = true
  · have h0 := hg c
    obtain ⟨v1, a1, a2, _, e1⟩ := pick_ok hb p (l.length : Int) hp0 (by omega)
    obtain ⟨v2, _, _, _, e2⟩ := pick_ok hb (p + 1) 3 (by omega) (by omega)
    refine ⟨l.set v1.toNat ⟨wrap64 (1 + v2), (rd_T40 l v1).f1, (rd_T40 l v1).f2⟩, p + 1 + 1, by rw [List.length_set]; exact hl, by omega, by omega, fun k hk => ?_⟩
    obtain ⟨k, rfl, hk'⟩ := rounds1 hk
    rw [spec_l92Ledger.j2, if_pos c, e1 k (by omega)]
    simp only [bsome]
    rw [e2 k (by omega)]
    simp only [bsome]
    rw [if_pos a1, if_pos (a2 (by omega))]
  · refine ⟨l, p, hl, by omega, by omega, fun k hk => ?_⟩
    obtain ⟨k, rfl, hk'⟩ := rounds1 hk
    rw [spec_l92Ledger.j2, if_neg c]
theorem l92Ledger_l0 {b : List Int} (hb : Bytes b) (n : Int) (hn : n ≤ 60) : ∀ (d : Nat) (i : Int), 0 ≤ i → i + d = mx n 0 → ∀ (l : List S40) (p : Int), (l.length : Int) ≤ i → 0 ≤ p → p ≤ 1000 + 6 * i →
    ∃ l' : List S40, ∃ q, l'.length ≤ 60 ∧ 0 ≤ q ∧ q ≤ 2000 ∧ ∀ k, d + 200 ≤ k → spec_l92Ledger.l0 k l n i b p = some (l', q) := by
  have hm : (n ≤ mx n 0 ∧ 0 ≤ mx n 0) ∧ (mx n 0 = n ∨ mx n 0 = 0) := by
    unfold mx
    split <;> omega
  intro d
  induction d with
  | zero =>
    intro i h0 hi l p hl hp0 hp1
    have hi' : ¬ i < n := by omega
    by_cases c : (l.length : Int) > 0
    · obtain ⟨v1, a1, a2, _, e1⟩ := pick_ok hb p 16 hp0 (by omega)
      obtain ⟨l', q, r1, r2, r3, e⟩ := l92Ledger_j2 hb l (by omega) (v1 == 0) (fun _ => by omega) (p + 1) (by omega) (by omega)
      refine ⟨l', q, r1, by omega, by omega, fun k hk => ?_⟩
      obtain ⟨k, rfl, hk'⟩ := rounds1 (k := k) (B := 199) (by omega)
      rw [spec_l92Ledger.l0, if_neg hi', if_pos c, e1 k (by omega)]
      simp only [bsome]
      exact e k (by omega)
    · obtain ⟨l', q, r1, r2, r3, e⟩ := l92Ledger_j2 hb l (by omega) false (fun h => by cases h) p (by omega) (by omega)
      refine ⟨l', q, r1, by omega, by omega, fun k hk => ?_⟩
      obtain ⟨k, rfl, hk'⟩ := rounds1 (k := k) (B := 199) (by omega)
      rw [spec_l92Ledger.l0, if_neg hi', if_neg c]
      exact e k (by omega)
  | succ d ih =>
    intro i h0 hi l p hl hp0 hp1
    have hi' : i < n := by omega
    obtain ⟨y, q, q0, q1, ey⟩ := l92Entry_ok hb p hp0 (by omega)
    have ll := ladd_len l y
    obtain ⟨l1, p1, r1, r2, r3, e1⟩ := ih (i + 1) (by omega) (by omega) (ladd l y).1 q (by omega) (by omega) (by omega)
    obtain ⟨l2, p2, s1, s2, s3, e2⟩ := ih (i + 1) (by omega) (by omega) l q (by omega) (by omega) (by omega)
    by_cases c : (ladd l y).2 = true
    · refine ⟨l1, p1, r1, r2, r3, fun k hk => ?_⟩
      obtain ⟨k, rfl, hk'⟩ := rounds1 (k := k) (B := d + 200) (by omega)
      rw [spec_l92Ledger.l0, if_pos hi', ey k (by omega)]
      simp only [bsome]
      rw [spec_LedgerAdd_eq l (by omega) _ _ _ k (by omega)]
      simp only [bsome]
      rw [if_pos c, w64 (i + 1) (by omega) (by omega)]
      exact e1 k hk'
    · refine ⟨l2, p2, s1, s2, s3, fun k hk => ?_⟩
      obtain ⟨k, rfl, hk'⟩ := rounds1 (k := k) (B := d + 200) (by omega)
      rw [spec_l92Ledger.l0, if_pos hi', ey k (by omega)]
      simp only [bsome]
      rw [spec_LedgerAdd_eq l (by omega) _ _ _ k (by omega)]
      simp only [bsome]
      rw [if_neg c, w64 (i + 1) (by omega) (by omega)]
      exact e2 k hk'
theorem l92Ledger_ok {b : List Int} (hb : Bytes b) : ∃ l' : List S40, ∃ q, l'.length ≤ 60 ∧ 0 ≤ q ∧ q ≤ 2000 ∧ ∀ k, 262 ≤ k → spec_l92Ledger.f k b 0 = some (l', q) := by
  obtain ⟨v1, a1, a2, _, e1⟩ := pick_ok hb 0 14 (by omega) (by omega)
  obtain ⟨v2, _, _, _, e2⟩ := pick_ok hb (0 + 1) 16 (by omega) (by omega)
  have a3 := a2 (by omega)
  have m1 : mx 60 0 = 60 := rfl
  have m2 : mx v1 0 = v1 := by
    unfold mx
    split <;> omega
  by_cases c : v2 = 0
  · obtain ⟨l', q, r1, r2, r3, e⟩ := l92Ledger_l0 hb 60 (by omega) 60 0 (by omega) (by rw [m1]; rfl) [] (0 + 1 + 1) (Int.le_refl _) (by omega) (by omega)
    refine ⟨l', q, r1, r2, r3, fun k hk => ?_⟩
    obtain ⟨k, rfl, hk'⟩ := rounds1 (k := k) (B := 261) (by omega)
    unfold spec_l92Ledger.f
    simp only [bsome]
    rw [e1 _ (by omega)]
    simp only [bsome]
    rw [e2 _ (by omega)]
    simp only [bsome]
    rw [if_pos c, spec_l92Ledger.j0]
    exact e k (by omega)
  · obtain ⟨l', q, r1, r2, r3, e⟩ := l92Ledger_l0 hb v1 (by omega) v1.toNat 0 (by omega) (by rw [m2]; omega) [] (0 + 1 + 1) (Int.le_refl _) (by omega) (by omega)
    refine ⟨l', q, r1, r2, r3, fun k hk => ?_⟩
    obtain ⟨k, rfl, hk'⟩ := rounds1 (k := k) (B := 261) (by omega)
    unfold spec_l92Ledger.f
    simp only [bsome]
    rw [e1 _ (by omega)]
    simp only [bsome]
    rw [e2 _ (by omega)]
    simp only [bsome]
    rw [if_neg c, spec_l92Ledger.j0]
    exact e k (by omega)

end Go.Proofs.Ytacjlhffmoglhaa.B
