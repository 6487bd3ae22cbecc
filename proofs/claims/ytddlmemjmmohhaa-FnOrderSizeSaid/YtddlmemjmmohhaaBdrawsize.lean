/- Lemmas about the printed functions (drawsize). -/
import Derived.Test.YtddlmemjmmohhaaPAllx0
import Derived.Test.YtddlmemjmmohhaaPAllx12
import Derived.Test.YtddlmemjmmohhaaBbase
import Derived.Test.YtddlmemjmmohhaaBpick
import Derived.Test.YtddlmemjmmohhaaBoffers
import Derived.Test.YtddlmemjmmohhaaBdrawoffers
namespace Go.Proofs.Ytddlmemjmmohhaa.B
open Go.RowKit Go.Proofs.Ytddlmemjmmohhaa.PAll Go.Proofs.YtddlmemjmmohhaaW.PrintWords Go.Proofs.YtddlmemjmmohhaaW.PrintLast
set_option linter.unusedVariables false
set_option linter.unusedSimpArgs false

theorem l92Counts_l0 {b : List Int} (hb : Bytes b) (l : List S37) (hl : l.length ≤ 4) : ∀ (d : Nat) (i : Int), 0 ≤ i → i + d = l.length → ∀ (c : List Int) (p : Int), (c.length : Int) = i → 0 ≤ p → p ≤ 1100 + i → ∃ c' p', c'.length ≤ 5 ∧ 0 ≤ p' ∧ p' ≤ 1200 ∧ ∀ k, d + 2 ≤ k → spec_l92Counts.l0 k l c i b p = some (c', p') := by
  intro d
  induction d with
  | zero =>
    intro i h0 hi c p hc hp0 hp1
    obtain ⟨v1, a1, a2, _, e1⟩ := pick_ok hb p 24 hp0 (by omega)
    have hin : ¬ (i < (l.length : Int)) := by omega
    by_cases c0 : v1 = 0
    · refine ⟨c ++ [1], p + 1, by rw [len_snoc]; omega, by omega, by omega, fun k hk => ?_⟩
      obtain ⟨k, rfl, hk'⟩ := rounds1 hk
      simp only [spec_l92Counts.l0]
      rw [if_neg hin, e1 k (by omega)]
      simp only [bsome]
      rw [if_pos c0, if_pos (by omega)]
    · by_cases c1 : v1 = 1
      · by_cases c2 : (c.length : Int) > 0
        · obtain ⟨v2, b1, b2, _, e2⟩ := pick_ok hb (p + 1) 3 (by omega) (by omega)
          refine ⟨c.set (0 : Int).toNat (rd [(-1), 99, 100] v2), p + 1 + 1, by rw [List.length_set]; omega, by omega, by omega, fun k hk => ?_⟩
          obtain ⟨k, rfl, hk'⟩ := rounds1 hk
          simp only [spec_l92Counts.l0]
          rw [if_neg hin, e1 k (by omega)]
          simp only [bsome]
          rw [if_neg c0, if_pos c1, if_pos c2]
          rw [e2 k (by omega)]
          simp only [bsome]
          rw [if_pos b1, if_pos (show v2 < (([(-1), 99, 100] : List Int).length : Int) from b2 (by omega)), if_pos (by omega)]
        · refine ⟨c, p + 1, by omega, by omega, by omega, fun k hk => ?_⟩
          obtain ⟨k, rfl, hk'⟩ := rounds1 hk
          simp only [spec_l92Counts.l0]
          rw [if_neg hin, e1 k (by omega)]
          simp only [bsome]
          rw [if_neg c0, if_pos c1, if_neg c2]
      · refine ⟨c, p + 1, by omega, by omega, by omega, fun k hk => ?_⟩
        obtain ⟨k, rfl, hk'⟩ := rounds1 hk
        simp only [spec_l92Counts.l0]
        rw [if_neg hin, e1 k (by omega)]
        simp only [bsome]
        rw [if_neg c0, if_neg c1]
  | succ d ih =>
    intro i h0 hi c p hc hp0 hp1
    obtain ⟨v1, a1, a2, _, e1⟩ := pick_ok hb p 6 hp0 (by omega)
    obtain ⟨c', p', h1, h2, h3, e⟩ := ih (i + 1) (by omega) (by omega) (c ++ [v1]) (p + 1) (by rw [len_snoc]; omega) (by omega) (by omega)
    refine ⟨c', p', h1, h2, h3, fun k hk => ?_⟩
    obtain ⟨k, rfl, hk'⟩ := rounds1 hk
    simp only [spec_l92Counts.l0]
    rw [if_pos (by omega), e1 k (by omega)]
    simp only [bsome]
    rw [if_pos (by omega), w64 (i + 1) (by omega) (by omega)]
    exact e k (by omega)
theorem drawOrderSize_ok (l : List Int) (ok : CodeOk l) : ∃ l' c, OffersB l' ∧ c.length ≤ 5 ∧ ∀ k, 8 ≤ k → spec_DrawOrderSize.f k l = some (l', c) := by
  obtain ⟨b, hb, e⟩ := open_ok l ok
  obtain ⟨l', p', hB, q0, q1, e2⟩ := l92Offers_ok hb 0 (by omega) (by omega)
  obtain ⟨c, p2, h1, _, _, e3⟩ := l92Counts_l0 hb l' hB.1 l'.length 0 (by omega) (by omega) [] p' rfl q0 (by omega)
  have hl := hB.1
  refine ⟨l', c, hB, h1, fun k hk => ?_⟩
  unfold spec_DrawOrderSize.f
  rw [e]
  simp only [bsome]
  rw [e2 k (by omega)]
  simp only [bsome, spec_l92Counts.f]
  rw [e3 k (by omega)]
  simp only [bsome]

end Go.Proofs.Ytddlmemjmmohhaa.B
