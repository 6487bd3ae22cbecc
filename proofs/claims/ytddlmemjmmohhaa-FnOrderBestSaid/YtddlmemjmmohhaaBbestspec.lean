/- Lemmas about the printed functions (bestspec). -/
import Derived.Test.YtddlmemjmmohhaaPAllx0
import Derived.Test.YtddlmemjmmohhaaPAllx13
import Derived.Test.YtddlmemjmmohhaaBbase
import Derived.Test.YtddlmemjmmohhaaBoffers
import Derived.Test.YtddlmemjmmohhaaBleast
import Derived.Test.YtddlmemjmmohhaaBsums
import Derived.Test.YtddlmemjmmohhaaBcounts
import Derived.Test.YtddlmemjmmohhaaBleastof
import Derived.Test.YtddlmemjmmohhaaBbest
namespace Go.Proofs.Ytddlmemjmmohhaa.B
open Go.RowKit Go.Proofs.Ytddlmemjmmohhaa.PAll Go.Proofs.YtddlmemjmmohhaaW.PrintWords Go.Proofs.YtddlmemjmmohhaaW.PrintLast
set_option linter.unusedVariables false
set_option linter.unusedSimpArgs false

theorem fe_iff (l : List S37) (hs : Sound l) (a : Nat) (ha : a < l.length) (n : Int) (hn : 1 ≤ n) (h : Inv l a n) : own (lv l) l n a = lv l n ↔ own (lv (l.drop a)) (l.drop a) n 0 = lv (l.drop a) n := by
  have hne : 0 < l.length := by omega
  have e := drop_eq' l hs hne a (by omega) n (by omega) h
  have b := own_at l hs n a hn (by omega) (by omega)
  have lo := lv_le l hs n a hn (by omega) (by omega)
  have up := lv_drop_ge' l hs a ha _ b.1
  have er : rd_T37 (l.drop a) 0 = rd_T37 l a := by rw [rd_drop l a 0 (by omega), Int.add_zero]
  constructor
  · intro f
    have e2 := drop_eq' l hs hne a (by omega) _ b.1 (inv_next l hs n hn a (by omega) (by omega) a (by omega) f h)
    unfold own at f ⊢
    rw [er, ← e, ← e2]
    exact f
  · intro f
    unfold own at f lo ⊢
    rw [er, ← e] at f
    omega
theorem spec_OrderBest_l1 (l : List S37) (hs : Sound l) (N : Nat) (hN : N ≤ 200) (n : Int) (hn : 1 ≤ n) (hnN : n ≤ N) (a : Nat) (ha : a < l.length) (h : Inv l a n) (f : own (lv l) l n a = lv l n) (out : List Int) (ho : out.length = l.length) (hr : 0 ≤ rd out a ∧ rd out a ≤ 1000) :
    ∀ (d : Nat) (i : Int), 0 ≤ i → i + d = a → ∀ k, spec_OrderBest.l1 (k + d + 1) l n (tab l N) out i = spec_OrderBest.l0 k l (mx (n - (rd_T37 l a).f0) 0) (tab l N) (out.set a (rd out a + 1)) := by
  have hl := hs.1
  have hne : 0 < l.length := by omega
  have guards : ∀ i : Int, 0 ≤ i → i < l.length → 0 ≤ mx (n - (rd_T37 l i).f0) 0 ∧ mx (n - (rd_T37 l i).f0) 0 < ((tab l N).length : Int) ∧ wrap64 (n - (rd_T37 l i).f0) = n - (rd_T37 l i).f0 ∧
      wrap64 ((rd_T37 l i).f1 + rd (tab l N) (mx (n - (rd_T37 l i).f0) 0)) = own (lv l) l n i := by
    intro i h0 h1
    have b := own_at l hs n i hn h0 h1
    have hi := hs.2 i h0 h1
    have r := tab_rd_range l hs N (by omega) _ b.1 (by omega)
    have e := rd_tab l N _ b.1 (by omega)
    rw [tab_len]
    refine ⟨b.1, by omega, w64 _ (by omega) (by omega), ?_⟩
    rw [w64 _ (by omega) (by omega), e]
    rfl
  have en := rd_tab l N n (by omega) hnN
  intro d
  induction d with
  | zero =>
    intro i h0 hi k
    obtain rfl : i = (a : Int) := by omega
    obtain ⟨g1, g2, g3, g4⟩ := guards a h0 (by omega)
    simp only [Nat.add_zero]
    rw [spec_OrderBest.l1, g3, g4, if_pos h0, if_pos (by omega), if_pos g1, if_pos g2, if_pos (by omega), if_pos (by rw [tab_len]; omega), en, if_pos f, if_pos (by omega), w64 _ (by omega) (by omega), Int.toNat_natCast]
  | succ d ih =>
    intro i h0 hi k
    obtain ⟨g1, g2, g3, g4⟩ := guards i h0 (by omega)
    have nf : ¬ own (lv l) l n i = lv l n := by
      rcases h i h0 (by omega) with c | c
      · omega
      · exact c
    have e := ih (i + 1) (by omega) (by omega) k
    rw [show k + (d + 1) + 1 = (k + d + 1) + 1 by omega]
    generalize k + d + 1 = q at e ⊢
    rw [spec_OrderBest.l1, g3, g4, if_pos h0, if_pos (by omega), if_pos g1, if_pos g2, if_pos (by omega), if_pos (by rw [tab_len]; omega), en, if_neg nf, w64 _ (by omega) (by omega)]
    exact e
def merged (l : List S37) (a : Nat) (n : Int) (out : List Int) : List Int := out.take a ++ List.zipWith (fun x y => x + y) (out.drop a) (G (l.drop a) n)
theorem spec_OrderBest_l0 (l : List S37) (hs : Sound l) (hne : 0 < l.length) (N : Nat) (hN : N ≤ 200) : ∀ (M : Nat) (n : Int) (a : Nat) (out : List Int), a ≤ l.length → 0 ≤ n → n ≤ N → 4 * n.toNat + (l.length - a) ≤ M → Inv l a n → out.length = l.length → (∀ j : Int, 0 ≤ j → j < l.length → 0 ≤ rd out j ∧ rd out j ≤ N - n) → ∀ k : Nat, 6 * n.toNat + 1 ≤ k →
    spec_OrderBest.l0 k l n (tab l N) out = some (merged l a n out, true) := by
  have hl := hs.1
  intro M
  induction M with
  | zero =>
    intro n a out ha hn hnN hM hI ho hb k hk
    obtain ⟨k, rfl, _⟩ := rounds1 (k := k) (B := 0) (by omega)
    obtain rfl : n = 0 := by omega
    rw [spec_OrderBest.l0, if_neg (by omega), merged, zip_G_zero _ _ (by rw [List.length_drop, List.length_drop, ho]), List.take_append_drop]
  | succ M ih =>
    intro n a out ha hn hnN hM hI ho hb k hk
    by_cases hz : n = 0
    · subst hz
      obtain ⟨k, rfl, _⟩ := rounds1 (k := k) (B := 0) (by omega)
      rw [spec_OrderBest.l0, if_neg (by omega), merged, zip_G_zero _ _ (by rw [List.length_drop, List.length_drop, ho]), List.take_append_drop]
    · obtain ⟨i, i0, i1, fi⟩ := lv_ex l hs hne n (by omega)
      have hia : (a : Int) ≤ i := by
        rcases (by omega : i < a ∨ (a : Int) ≤ i) with c | c
        · rcases hI i i0 c with d | d
          · omega
          · exact absurd fi.symm d
        · exact c
      have hal : a < l.length := by omega
      have er : rd_T37 (l.drop a) 0 = rd_T37 l a := by rw [rd_drop l a 0 (by omega), Int.add_zero]
      have hne' : 0 < (l.drop a).length := by rw [List.length_drop]; omega
      by_cases f : own (lv l) l n a = lv l n
      · have b := own_at l hs n a (by omega) (by omega) (by omega)
        have ho0 := hb a (by omega) (by omega)
        obtain ⟨k, rfl⟩ : ∃ q, k = (q + a + 1) + 1 := ⟨k - a - 2, by omega⟩
        rw [spec_OrderBest.l0, if_pos (by omega), spec_OrderBest_l1 l hs N hN n (by omega) hnN a hal hI f out ho ⟨ho0.1, by omega⟩ a 0 (by omega) (by omega) k]
        have hI' := inv_next l hs n (by omega) a (by omega) (by omega) a ha f hI
        rw [ih (mx (n - (rd_T37 l a).f0) 0) a _ ha b.1 (by omega) (by omega) hI' (by rw [List.length_set]; exact ho) (fun j j0 j1 => by
          have := hb j j0 j1
          unfold rd at this ⊢
          rw [List.getD_eq_getElem?_getD] at this ⊢
          by_cases e : j = a
          · subst e
            rw [Int.toNat_natCast] at this ⊢
            rw [List.getElem?_set_self (by omega)]
            show 0 ≤ out.getD a 0 + 1 ∧ out.getD a 0 + 1 ≤ _
            rw [List.getD_eq_getElem?_getD]
            omega
          · rw [List.getElem?_set_ne (by omega)]
            omega) k (by omega)]
        have fd := (fe_iff l hs a hal n (by omega) hI).1 f
        have cy := cnt_yes (l.drop a) (sound_drop l hs a) hne' n (by omega) fd
        rw [er] at cy
        have e2 : mx (mx (n - (rd_T37 l a).f0) 0 - (cnt (l.drop a) (mx (n - (rd_T37 l a).f0) 0) : Int) * (rd_T37 l a).f0) 0 = mx (n - (cnt (l.drop a) n : Int) * (rd_T37 l a).f0) 0 := by
          have hi := hs.2 a (by omega) (by omega)
          rw [mx_mx n _ _ (by omega) (Int.mul_nonneg (by omega) (by omega)), cy, Int.natCast_succ]
        have hoa : a < out.length := by omega
        have ev : rd out a = out[a] := by
          unfold rd
          rw [Int.toNat_natCast, List.getD_eq_getElem?_getD, List.getElem?_eq_getElem hoa]
          rfl
        unfold merged
        rw [List.take_set_of_le (Nat.le_refl a), List.drop_eq_getElem_cons (by rw [List.length_set]; exact hoa), List.getElem_set_self, List.drop_set_of_lt (by omega), List.drop_eq_getElem_cons hoa, G_drop l a hal, G_drop l a hal, e2, List.zipWith_cons_cons, List.zipWith_cons_cons, ev, cy, Int.natCast_succ,
          show out[a] + 1 + (cnt (l.drop a) (mx (n - (rd_T37 l a).f0) 0) : Int) = out[a] + ((cnt (l.drop a) (mx (n - (rd_T37 l a).f0) 0) : Int) + 1) by omega]
      · have hI' : Inv l (a + 1) n := by
          intro q q0 q1
          by_cases e : q = a
          · subst e
            exact .inr f
          · exact hI q q0 (by omega)
        rw [ih n (a + 1) out (by omega) hn hnN (by omega) hI' ho hb k hk]
        have c0 : cnt (l.drop a) n = 0 := cnt_no _ _ fun h => f ((fe_iff l hs a hal n (by omega) hI).2 h.2)
        have hoa : a < out.length := by omega
        have e2 : mx (n - ((0 : Nat) : Int) * (rd_T37 l a).f0) 0 = n := by
          rw [show ((0 : Nat) : Int) * (rd_T37 l a).f0 = 0 from Int.zero_mul _]
          have := mx0 (n - 0)
          omega
        unfold merged
        rw [List.drop_eq_getElem_cons hoa, G_drop l a hal, c0, e2, List.zipWith_cons_cons, show out[a] + ((0 : Nat) : Int) = out[a] by omega, List.take_succ_eq_append_getElem hoa, List.append_assoc, List.singleton_append]
theorem zip_zero_G : ∀ (xs : List Int), List.zipWith (fun x y => x + y) (List.replicate xs.length 0) xs = xs := by
  intro xs
  induction xs with
  | nil => rfl
  | cons x xs ih => rw [List.length_cons, List.replicate_succ, List.zipWith_cons_cons, ih, Int.zero_add]
def bestV (l : List S37) (n : Int) : List Int × Bool := if offersV l = true then (if 0 ≤ n ∧ n ≤ 99 then (G l n, true) else ([], false)) else ([], false)
theorem spec_OrderBest_eq (l : List S37) (hl : l.length ≤ 1000000000) (n : Int) (k : Nat) (hk : l.length + 1010 ≤ k) : spec_OrderBest.f k l n = some (bestV l n) := by
  unfold spec_OrderBest.f bestV
  obtain ⟨k, rfl, _⟩ := rounds1 (k := k) (B := 0) (by omega)
  rw [spec_OffersValid_eq l hl _ (by omega)]
  simp only [bsome]
  cases hv : offersV l with
  | false =>
    rw [spec_OrderBest.j0]
    simp
  | true =>
    rw [l6In_eq]
    simp only [bsome, if_true]
    rw [spec_OrderBest.j0]
    by_cases hn : 0 ≤ n ∧ n ≤ 99
    · obtain ⟨hs, hne⟩ := sound_of l hv
      rw [decide_eq_true hn, if_neg (by simp), if_pos hn, spec_l22Least_eq l hs n hn.1 (by omega) k (by omega)]
      simp only [bsome]
      have hs3 := hs.1
      rw [if_pos (by omega), if_pos (by omega)]
      have e := spec_OrderBest_l0 l hs hne n.toNat (by omega) (4 * n.toNat + l.length) n 0 (List.replicate ((l.length : Int) : Int).toNat 0) (by omega) hn.1 (by omega) (by omega) (fun q q0 q1 => by omega) (by rw [List.length_replicate]; omega) (fun j j0 j1 => by
        have : rd (List.replicate ((l.length : Int) : Int).toNat 0) j = 0 := by
          unfold rd
          rw [List.getD_eq_getElem?_getD]
          cases h : (List.replicate ((l.length : Int) : Int).toNat (0 : Int))[j.toNat]? with
          | none => rfl
          | some x => exact (List.mem_replicate.1 (List.mem_of_getElem? h)).2
        omega) k (by omega)
      rw [e, merged, List.take_zero, List.nil_append, List.drop_zero, List.drop_zero, Int.toNat_natCast]
      have z := zip_zero_G (G l n)
      rw [G_len] at z
      rw [z]
    · rw [decide_eq_false hn, if_neg hn]
      simp

end Go.Proofs.Ytddlmemjmmohhaa.B
