/- Lemmas about the printed functions (drawoffers). -/
import Derived.Test.YtddlmemjmmohhaaPAllx0
import Derived.Test.YtddlmemjmmohhaaPAllx2
import Derived.Test.YtddlmemjmmohhaaBbase
import Derived.Test.YtddlmemjmmohhaaBpick
import Derived.Test.YtddlmemjmmohhaaBoffers
namespace Go.Proofs.Ytddlmemjmmohhaa.B
open Go.RowKit Go.Proofs.Ytddlmemjmmohhaa.PAll Go.Proofs.YtddlmemjmmohhaaW.PrintWords Go.Proofs.YtddlmemjmmohhaaW.PrintLast
set_option linter.unusedVariables false
set_option linter.unusedSimpArgs false

/-! #### offers that are drawn -/
def OfferB (o : S37) : Prop := -1000000 ≤ o.f0 ∧ o.f0 ≤ 1000000 ∧ -1000000 ≤ o.f1 ∧ o.f1 ≤ 1000000
def OffersB (l : List S37) : Prop := l.length ≤ 4 ∧ ∀ o ∈ l, OfferB o
theorem rdOffer_mem {l : List S37} {i : Int} (h0 : 0 ≤ i) (h1 : i < l.length) : rd_T37 l i ∈ l := by
  unfold rd_T37
  rw [List.getD_eq_getElem?_getD, List.getElem?_eq_getElem (by omega)]
  exact List.getElem_mem _
theorem offersB_snoc {l : List S37} {x : S37} (h : ∀ o ∈ l, OfferB o) (hx : OfferB x) : ∀ o ∈ l ++ [x], OfferB o := by
  intro o ho
  rcases List.mem_append.1 ho with ho | ho
  · exact h o ho
  · rw [List.mem_singleton.1 ho]
    exact hx
theorem len_snoc {α : Type} (l : List α) (x : α) : (l ++ [x]).length = l.length + 1 := by simp
theorem l92Offers_end {b : List Int} (hb : Bytes b) (n : Int) (hn : 1 ≤ n ∧ n ≤ 3) (i : Int) (hi : i = n) (l : List S37) (size p : Int) (hl : (l.length : Int) = i) (hv : ∀ o ∈ l, OfferB o) (hp0 : 0 ≤ p) (hp1 : p ≤ 1010) :
    ∃ l' p', OffersB l' ∧ 0 ≤ p' ∧ p' ≤ 1020 ∧ ∀ k, 2 ≤ k → spec_l92Offers.l0 k l n size i b p = some (l', p') := by
  obtain ⟨v1, a1, a2, _, e1⟩ := pick_ok hb p 24 hp0 (by omega)
  have hin : ¬ (i < n) := by omega
  by_cases c0 : v1 = 0
  · obtain ⟨v2, b1, b2, _, e2⟩ := pick_ok hb (p + 1) n (by omega) (by omega)
    obtain ⟨v3, g1, g2, _, e3⟩ := pick_ok hb (p + 1 + 1) 3 (by omega) (by omega)
    have hg : v3 < (([0, 999, 1000] : List Int).length : Int) := g2 (by omega)
    have hr : 0 ≤ rd [0, 999, 1000] v3 ∧ rd [0, 999, 1000] v3 ≤ 1000 := by
      rcases (by omega : v3 = 0 ∨ v3 = 1 ∨ v3 = 2) with rfl | rfl | rfl <;> simp [rd]
    have hm := hv _ (rdOffer_mem (l := l) (i := v2) b1 (by omega))
    refine ⟨l.set v2.toNat ⟨(rd_T37 l v2).f0, rd [0, 999, 1000] v3⟩, p + 1 + 1 + 1, ⟨by rw [List.length_set]; omega, ?_⟩, by omega, by omega, fun k hk => ?_⟩
    · intro o ho
      rcases List.mem_or_eq_of_mem_set ho with ho | rfl
      · exact hv o ho
      · exact ⟨hm.1, hm.2.1, Int.le_trans (by decide) hr.1, Int.le_trans hr.2 (by decide)⟩
    · obtain ⟨k, rfl, hk'⟩ := rounds1 hk
      simp only [spec_l92Offers.l0]
      rw [if_neg hin, e1 k (by omega)]
      simp only [bsome]
      rw [if_pos c0, e2 k (by omega)]
      simp only [bsome]
      rw [e3 k (by omega)]
      simp only [bsome]
      rw [if_pos g1, if_pos hg, if_pos b1, if_pos (by omega)]
  · by_cases c1 : v1 = 1
    · refine ⟨l ++ [⟨(rd_T37 l 0).f0, (rd_T37 l 0).f1⟩], p + 1, ⟨by rw [len_snoc]; omega, offersB_snoc hv (hv _ (rdOffer_mem (l := l) (i := 0) (by omega) (by omega)))⟩, by omega, by omega, fun k hk => ?_⟩
      obtain ⟨k, rfl, hk'⟩ := rounds1 hk
      simp only [spec_l92Offers.l0]
      rw [if_neg hin, e1 k (by omega)]
      simp only [bsome]
      rw [if_neg c0, if_pos c1, if_pos (by omega), if_pos (by omega)]
    · by_cases c2 : v1 = 2
      · refine ⟨[], p + 1, ⟨Nat.zero_le _, fun o ho => nomatch ho⟩, by omega, by omega, fun k hk => ?_⟩
        obtain ⟨k, rfl, hk'⟩ := rounds1 hk
        simp only [spec_l92Offers.l0]
        rw [if_neg hin, e1 k (by omega)]
        simp only [bsome]
        rw [if_neg c0, if_neg c1, if_pos c2]
      · refine ⟨l, p + 1, ⟨by omega, hv⟩, by omega, by omega, fun k hk => ?_⟩
        obtain ⟨k, rfl, hk'⟩ := rounds1 hk
        simp only [spec_l92Offers.l0]
        rw [if_neg hin, e1 k (by omega)]
        simp only [bsome]
        rw [if_neg c0, if_neg c1, if_neg c2]
theorem l92Offers_l0 {b : List Int} (hb : Bytes b) (n : Int) (hn : 1 ≤ n ∧ n ≤ 3) : ∀ (d : Nat) (i : Int), 0 ≤ i → i + d = n → ∀ (l : List S37) (size p : Int), (l.length : Int) = i → (∀ o ∈ l, OfferB o) →
    0 ≤ size → size ≤ 10 * i → 0 ≤ p → p ≤ 1000 + 2 * i → ∃ l' p', OffersB l' ∧ 0 ≤ p' ∧ p' ≤ 1020 ∧ ∀ k, d + 2 ≤ k → spec_l92Offers.l0 k l n size i b p = some (l', p') := by
  intro d
  induction d with
  | zero =>
    intro i h0 hi l size p hl hv hs0 hs1 hp0 hp1
    exact l92Offers_end hb n hn i (by omega) l size p hl hv hp0 (by omega)
  | succ d ih =>
    intro i h0 hi l size p hl hv hs0 hs1 hp0 hp1
    obtain ⟨v1, a1, a2, _, e1⟩ := pick_ok hb p 9 hp0 (by omega)
    obtain ⟨v2, b1, b2, _, e2⟩ := pick_ok hb (p + 1) 40 (by omega) (by omega)
    have w1 : wrap64 (wrap64 (size + 1) + v1) = size + 1 + v1 := by rw [w64 (size + 1) (by omega) (by omega), w64 _ (by omega) (by omega)]
    have w2 : wrap64 (1 + v2) = 1 + v2 := w64 _ (by omega) (by omega)
    have w3 : wrap64 (i + 1) = i + 1 := w64 _ (by omega) (by omega)
    obtain ⟨l', p', hB, hp1', hp2', e⟩ := ih (i + 1) (by omega) (by omega) (l ++ [⟨size + 1 + v1, 1 + v2⟩]) (size + 1 + v1) (p + 1 + 1) (by rw [len_snoc]; omega)
      (offersB_snoc hv ⟨(by omega : -1000000 ≤ size + 1 + v1), (by omega : size + 1 + v1 ≤ 1000000), (by omega : -1000000 ≤ 1 + v2), (by omega : 1 + v2 ≤ 1000000)⟩)
      (by omega) (by omega) (by omega) (by omega)
    refine ⟨l', p', hB, hp1', hp2', fun k hk => ?_⟩
    obtain ⟨k, rfl, hk'⟩ := rounds1 hk
    simp only [spec_l92Offers.l0]
    rw [if_pos (by omega), e1 k (by omega)]
    simp only [bsome]
    rw [e2 k (by omega)]
    simp only [bsome]
    rw [if_pos (by omega), w1, w2, w3]
    exact e k (by omega)
theorem l92Offers_ok {b : List Int} (hb : Bytes b) (p : Int) (h0 : 0 ≤ p) (h1 : p ≤ 999) : ∃ l' p', OffersB l' ∧ 0 ≤ p' ∧ p' ≤ 1020 ∧ ∀ k, 5 ≤ k → spec_l92Offers.f k b p = some (l', p') := by
  obtain ⟨v, a1, a2, _, e⟩ := pick_ok hb p 3 h0 (by omega)
  have w1 : wrap64 (1 + v) = 1 + v := w64 _ (by omega) (by omega)
  obtain ⟨l', p', hB, q0, q1, e2⟩ := l92Offers_l0 hb (1 + v) (by omega) (1 + v).toNat 0 (by omega) (by omega) [] 0 (p + 1) rfl (fun o ho => nomatch ho) (by omega) (by omega) (by omega) (by omega)
  refine ⟨l', p', hB, q0, q1, fun k hk => ?_⟩
  unfold spec_l92Offers.f
  rw [e k (by omega)]
  simp only [bsome]
  rw [w1]
  exact e2 k (by omega)

end Go.Proofs.Ytddlmemjmmohhaa.B
