/- Lemmas about the printed functions (drawsteps). -/
import Derived.Test.YtgdndnaonmcdkaaPAllx0
import Derived.Test.YtgdndnaonmcdkaaPAllx2
import Derived.Test.YtgdndnaonmcdkaaBbase
import Derived.Test.YtgdndnaonmcdkaaBpick
namespace Go.Proofs.Ytgdndnaonmcdkaa.B
open Go.RowKit Go.Proofs.Ytgdndnaonmcdkaa.PAll Go.Proofs.YtgdndnaonmcdkaaW.PrintWords Go.Proofs.YtgdndnaonmcdkaaW.PrintLast
set_option linter.unusedVariables false
set_option linter.unusedSimpArgs false

/-! #### steps that are drawn -/
theorem rdStep_mem {l : List S29} {i : Int} (h0 : 0 ≤ i) (h1 : i < l.length) : rd_T29 l i ∈ l := by
  unfold rd_T29
  rw [List.getD_eq_getElem?_getD, List.getElem?_eq_getElem (by omega)]
  exact List.getElem_mem _
def StepsB (l : List S29) : Prop := l.length ≤ 9 ∧ ∀ s ∈ l, s.f3.length ≤ 10
theorem steps_snoc {l : List S29} {x : S29} {M : Nat} (h : ∀ s ∈ l, s.f3.length ≤ M) (hx : x.f3.length ≤ M) : ∀ s ∈ l ++ [x], s.f3.length ≤ M := by
  intro o ho
  rcases List.mem_append.1 ho with ho | ho
  · exact h o ho
  · rw [List.mem_singleton.1 ho]
    exact hx
theorem steps_set {l : List S29} {x : S29} {M : Nat} (n : Nat) (h : ∀ s ∈ l, s.f3.length ≤ M) (hx : x.f3.length ≤ M) : ∀ s ∈ l.set n x, s.f3.length ≤ M := by
  intro o ho
  rcases List.mem_or_eq_of_mem_set ho with ho | rfl
  · exact h o ho
  · exact hx
theorem len_snoc {α : Type} (l : List α) (x : α) : (l ++ [x]).length = l.length + 1 := by simp
theorem l92Steps_l1 {b : List Int} (hb : Bytes b) (l : List S29) (n i : Int) (hi : i ≤ 100) (t0 t1 t2 : Int) (hl : l.length ≤ 100) : ∀ (d : Nat) (j : Int), 0 ≤ j → j + d = i → ∀ (a : List Int) (p : Int), (a.length : Int) ≤ j → 0 ≤ p → p + d ≤ 2000 →
    ∃ (a' : List Int) (p' : Int), (a'.length : Int) ≤ i ∧ 0 ≤ p' ∧ p' ≤ p + d ∧ ∀ k, 1 ≤ k → spec_l92Steps.l1 (k + d + 1) l n i j b p t0 t1 t2 a = spec_l92Steps.l0 k (l ++ [⟨t0, t1, t2, a'⟩]) n (i + 1) b p' := by
  intro d
  induction d with
  | zero =>
    intro j j0 hj a p ha hp0 hp1
    refine ⟨a, p, by omega, hp0, by omega, fun k hk => ?_⟩
    rw [Nat.add_zero, spec_l92Steps.l1, if_neg (by omega), if_pos (by omega), w64 (i + 1) (by omega) (by omega)]
  | succ d ih =>
    intro j j0 hj a p ha hp0 hp1
    obtain ⟨v, a1, a2, _, e1⟩ := pick_ok hb p 4 hp0 (by omega)
    by_cases c : v = 0
    · obtain ⟨a', p', g1, g2, g3, e⟩ := ih (j + 1) (by omega) (by omega) (a ++ [j]) (p + 1) (by rw [len_snoc]; omega) (by omega) (by omega)
      refine ⟨a', p', g1, g2, by omega, fun k hk => ?_⟩
      have e' := e k hk
      rw [show k + (d + 1) + 1 = (k + d + 1) + 1 by omega]
      have e1' := e1 (k + d + 1) (by omega)
      generalize k + d + 1 = q at e' e1' ⊢
      rw [spec_l92Steps.l1, if_pos (by omega), e1']
      simp only [bsome]
      rw [if_pos c, if_pos (by omega), w64 (j + 1) (by omega) (by omega)]
      exact e'
    · obtain ⟨a', p', g1, g2, g3, e⟩ := ih (j + 1) (by omega) (by omega) a (p + 1) (by omega) (by omega) (by omega)
      refine ⟨a', p', g1, g2, by omega, fun k hk => ?_⟩
      have e' := e k hk
      rw [show k + (d + 1) + 1 = (k + d + 1) + 1 by omega]
      have e1' := e1 (k + d + 1) (by omega)
      generalize k + d + 1 = q at e' e1' ⊢
      rw [spec_l92Steps.l1, if_pos (by omega), e1']
      simp only [bsome]
      rw [if_neg c, w64 (j + 1) (by omega) (by omega)]
      exact e'
theorem l92Steps_end {b : List Int} (hb : Bytes b) (n : Int) (hn : 0 ≤ n ∧ n ≤ 9) (i : Int) (hi : i = n) (l : List S29) (p : Int) (hl : (l.length : Int) = i) (hv : ∀ s ∈ l, s.f3.length ≤ 9) (hp0 : 0 ≤ p) (hp1 : p ≤ 1000) :
    ∃ l' p', StepsB l' ∧ 0 ≤ p' ∧ p' ≤ 1010 ∧ ∀ k, 2 ≤ k → spec_l92Steps.l0 k l n i b p = some (l', p') := by
  have hv10 : ∀ s ∈ l, s.f3.length ≤ 10 := fun s hs => Nat.le_succ_of_le (hv s hs)
  have hin : ¬ (i < n) := by omega
  by_cases c : n > 0
  · obtain ⟨v1, a1, a2, _, e1⟩ := pick_ok hb p 30 hp0 (by omega)
    by_cases c0 : v1 = 0
    · obtain ⟨v2, b1, b2, _, e2⟩ := pick_ok hb (p + 1) n (by omega) (by omega)
      obtain ⟨v3, g1, g2, _, e3⟩ := pick_ok hb (p + 1 + 1) 3 (by omega) (by omega)
      have hm := hv10 _ (rdStep_mem (l := l) (i := v2) b1 (by omega))
      refine ⟨l.set v2.toNat ⟨rd [0, 99, 100] v3, (rd_T29 l v2).f1, (rd_T29 l v2).f2, (rd_T29 l v2).f3⟩, p + 1 + 1 + 1, ⟨by rw [List.length_set]; omega, steps_set _ hv10 hm⟩, by omega, by omega, fun k hk => ?_⟩
      obtain ⟨k, rfl, _⟩ := rounds1 (k := k) (B := 1) (by omega)
      rw [spec_l92Steps.l0, if_neg hin, if_pos c, e1 k (by omega)]
      simp only [bsome]
      rw [if_pos c0, e2 k (by omega)]
      simp only [bsome]
      rw [e3 k (by omega)]
      simp only [bsome]
      rw [if_pos g1, if_pos (show v3 < (([0, 99, 100] : List Int).length : Int) from g2 (by omega)), if_pos b1, if_pos (by omega)]
    · by_cases c1 : v1 = 1
      · have hm := hv _ (rdStep_mem (l := l) (i := 0) (by omega) (by omega))
        refine ⟨l.set (0 : Int).toNat ⟨(rd_T29 l 0).f0, (rd_T29 l 0).f1, (rd_T29 l 0).f2, (rd_T29 l 0).f3 ++ [0]⟩, p + 1, ⟨by rw [List.length_set]; omega, steps_set _ hv10 (by rw [len_snoc]; omega)⟩, by omega, by omega, fun k hk => ?_⟩
        obtain ⟨k, rfl, _⟩ := rounds1 (k := k) (B := 1) (by omega)
        rw [spec_l92Steps.l0, if_neg hin, if_pos c, e1 k (by omega)]
        simp only [bsome]
        rw [if_neg c0, if_pos c1, if_pos (by omega), if_pos (by omega)]
      · by_cases c2 : v1 = 2
        · obtain ⟨v2, b1, b2, _, e2⟩ := pick_ok hb (p + 1) n (by omega) (by omega)
          obtain ⟨v3, g1, g2, _, e3⟩ := pick_ok hb (p + 1 + 1) 3 (by omega) (by omega)
          have hm := hv10 _ (rdStep_mem (l := l) (i := v2) b1 (by omega))
          refine ⟨l.set v2.toNat ⟨(rd_T29 l v2).f0, (rd_T29 l v2).f1, rd [(-1), 4, 5] v3, (rd_T29 l v2).f3⟩, p + 1 + 1 + 1, ⟨by rw [List.length_set]; omega, steps_set _ hv10 hm⟩, by omega, by omega, fun k hk => ?_⟩
          obtain ⟨k, rfl, _⟩ := rounds1 (k := k) (B := 1) (by omega)
          rw [spec_l92Steps.l0, if_neg hin, if_pos c, e1 k (by omega)]
          simp only [bsome]
          rw [if_neg c0, if_neg c1, if_pos c2, e2 k (by omega)]
          simp only [bsome]
          rw [e3 k (by omega)]
          simp only [bsome]
          rw [if_pos g1, if_pos (show v3 < (([(-1), 4, 5] : List Int).length : Int) from g2 (by omega)), if_pos b1, if_pos (by omega)]
        · refine ⟨l, p + 1, ⟨by omega, hv10⟩, by omega, by omega, fun k hk => ?_⟩
          obtain ⟨k, rfl, _⟩ := rounds1 (k := k) (B := 1) (by omega)
          rw [spec_l92Steps.l0, if_neg hin, if_pos c, e1 k (by omega)]
          simp only [bsome]
          rw [if_neg c0, if_neg c1, if_neg c2]
  · refine ⟨l, p, ⟨by omega, hv10⟩, by omega, by omega, fun k hk => ?_⟩
    obtain ⟨k, rfl, _⟩ := rounds1 (k := k) (B := 1) (by omega)
    rw [spec_l92Steps.l0, if_neg hin, if_neg c]
theorem l92Steps_l0 {b : List Int} (hb : Bytes b) (n : Int) (hn : 0 ≤ n ∧ n ≤ 9) : ∀ (d : Nat) (i : Int), 0 ≤ i → i + d = n → ∀ (l : List S29) (p : Int), (l.length : Int) = i → (∀ s ∈ l, s.f3.length ≤ 9) → 0 ≤ p → p ≤ 500 + 20 * i →
    ∃ l' p', StepsB l' ∧ 0 ≤ p' ∧ p' ≤ 1010 ∧ ∀ k, 12 * d + 2 ≤ k → spec_l92Steps.l0 k l n i b p = some (l', p') := by
  intro d
  induction d with
  | zero =>
    intro i h0 hi l p hl hv hp0 hp1
    exact l92Steps_end hb n hn i (by omega) l p hl hv hp0 (by omega)
  | succ d ih =>
    intro i h0 hi l p hl hv hp0 hp1
    obtain ⟨v1, a1, a2, _, e1⟩ := pick_ok hb p 12 hp0 (by omega)
    obtain ⟨v2, b1, b2, _, e2⟩ := pick_ok hb (p + 1) 4 (by omega) (by omega)
    obtain ⟨v3, g1, g2, _, e3⟩ := pick_ok hb (p + 1 + 1) 4 (by omega) (by omega)
    obtain ⟨a', p1, q1, q2, q3, e4⟩ := l92Steps_l1 hb l n i (by omega) (1 + v1) v2 v3 (by omega) i.toNat 0 (by omega) (by omega) [] (p + 1 + 1 + 1) (by simp) (by omega) (by omega)
    obtain ⟨l', p', hB, h1, h2, e⟩ := ih (i + 1) (by omega) (by omega) (l ++ [⟨1 + v1, v2, v3, a'⟩]) p1 (by rw [len_snoc]; omega) (steps_snoc hv (by show a'.length ≤ 9; omega)) q2 (by omega)
    refine ⟨l', p', hB, h1, h2, fun k hk => ?_⟩
    obtain ⟨k, rfl⟩ : ∃ q, k = (q + i.toNat + 1) + 1 := ⟨k - i.toNat - 2, by omega⟩
    rw [spec_l92Steps.l0, if_pos (by omega), e1 _ (by omega)]
    simp only [bsome]
    rw [e2 _ (by omega)]
    simp only [bsome]
    rw [e3 _ (by omega)]
    simp only [bsome]
    rw [w64 (1 + v1) (by omega) (by omega), e4 k (by omega)]
    exact e k (by omega)
theorem l92Steps_ok {b : List Int} (hb : Bytes b) (p : Int) (h0 : 0 ≤ p) (h1 : p ≤ 400) : ∃ l' p', StepsB l' ∧ 0 ≤ p' ∧ p' ≤ 1010 ∧ ∀ k, 120 ≤ k → spec_l92Steps.f k b p = some (l', p') := by
  obtain ⟨v1, a1, a2, _, e1⟩ := pick_ok hb p 8 h0 (by omega)
  obtain ⟨v2, b1, b2, _, e2⟩ := pick_ok hb (p + 1) 20 (by omega) (by omega)
  by_cases c : v2 = 0
  · obtain ⟨v3, g1, g2, _, e3⟩ := pick_ok hb (p + 1 + 1) 2 (by omega) (by omega)
    obtain ⟨l', p', hB, q1, q2, e⟩ := l92Steps_l0 hb (8 + v3) (by omega) (8 + v3).toNat 0 (by omega) (by omega) [] (p + 1 + 1 + 1) rfl (fun s hs => nomatch hs) (by omega) (by omega)
    refine ⟨l', p', hB, q1, q2, fun k hk => ?_⟩
    obtain ⟨k, rfl, _⟩ := rounds1 (k := k) (B := 119) (by omega)
    unfold spec_l92Steps.f
    rw [bsome, e1 _ (by omega)]
    simp only [bsome]
    rw [e2 _ (by omega)]
    simp only [bsome]
    rw [if_pos c, e3 _ (by omega)]
    simp only [bsome]
    rw [spec_l92Steps.j0, w64 (8 + v3) (by omega) (by omega)]
    exact e k (by omega)
  · obtain ⟨l', p', hB, q1, q2, e⟩ := l92Steps_l0 hb v1 (by omega) v1.toNat 0 (by omega) (by omega) [] (p + 1 + 1) rfl (fun s hs => nomatch hs) (by omega) (by omega)
    refine ⟨l', p', hB, q1, q2, fun k hk => ?_⟩
    obtain ⟨k, rfl, _⟩ := rounds1 (k := k) (B := 119) (by omega)
    unfold spec_l92Steps.f
    rw [bsome, e1 _ (by omega)]
    simp only [bsome]
    rw [e2 _ (by omega)]
    simp only [bsome]
    rw [if_neg c, spec_l92Steps.j0]
    exact e k (by omega)

end Go.Proofs.Ytgdndnaonmcdkaa.B
