/- Lemmas about the printed functions (drawlot). -/
import Derived.Test.YtfnngpfkcnfhiaaPAllx0
import Derived.Test.YtfnngpfkcnfhiaaPAllx4
import Derived.Test.YtfnngpfkcnfhiaaPAllx5
import Derived.Test.YtfnngpfkcnfhiaaPAllx11
import Derived.Test.YtfnngpfkcnfhiaaPAllx12
import Derived.Test.YtfnngpfkcnfhiaaBbase
import Derived.Test.YtfnngpfkcnfhiaaBpick
import Derived.Test.YtfnngpfkcnfhiaaBlots
import Derived.Test.YtfnngpfkcnfhiaaBstorespec
namespace Go.Proofs.Ytfnngpfkcnfhiaa.B
open Go.RowKit Go.Proofs.Ytfnngpfkcnfhiaa.PAll Go.Proofs.YtfnngpfkcnfhiaaW.PrintWords Go.Proofs.YtfnngpfkcnfhiaaW.PrintLast
set_option linter.unusedVariables false
set_option linter.unusedSimpArgs false

/-! #### stores that are drawn -/
theorem l21Put_l0 (l : List S30) (hl : l.length ≤ 1000) (a b c : Int) : ∀ (d i : Nat), i + d = l.length → ∀ (x : List S30) (f : Bool), x.length ≤ 2 * i → ∃ r : List S30, r.length ≤ 2 * l.length + 1 ∧ ∀ k, 2 * d + 1 ≤ k → spec_l21Put.l0 k l x f i a b c = some r := by
  intro d
  induction d with
  | zero =>
    intro i hi x f hx
    cases f with
    | true =>
      refine ⟨x, by omega, fun k hk => ?_⟩
      obtain ⟨k, rfl, _⟩ := rounds1 (k := k) (B := 0) (by omega)
      rw [spec_l21Put.l0, if_neg (by omega), if_pos rfl]
    | false =>
      refine ⟨x ++ [⟨a, b, c⟩], by rw [List.length_append, List.length_singleton]; omega, fun k hk => ?_⟩
      obtain ⟨k, rfl, _⟩ := rounds1 (k := k) (B := 0) (by omega)
      rw [spec_l21Put.l0, if_neg (by omega), if_neg (by simp), if_pos (by omega)]
  | succ d ih =>
    intro i hi x f hx
    have j1 : ∀ (g : Bool) (p q s : Int), ∃ r : List S30, r.length ≤ 2 * l.length + 1 ∧ ∀ k, 2 * d + 2 ≤ k → spec_l21Put.j1 k l x f i g a b c p q s = some r := by
      intro g p q s
      have one : ∀ (y : S30) (f' : Bool), ∃ r : List S30, r.length ≤ 2 * l.length + 1 ∧ ∀ k, 2 * d + 1 ≤ k → spec_l21Put.l0 k l (x ++ [y]) f' (wrap64 ((i : Int) + 1)) a b c = some r := by
        intro y f'
        rw [w64 _ (by omega) (by omega), show ((i : Int) + 1) = ((i + 1 : Nat) : Int) by omega]
        exact ih (i + 1) (by omega) _ f' (by rw [List.length_append, List.length_singleton]; omega)
      have two : ∀ (y z : S30) (f' : Bool), ∃ r : List S30, r.length ≤ 2 * l.length + 1 ∧ ∀ k, 2 * d + 1 ≤ k → spec_l21Put.l0 k l (x ++ [y] ++ [z]) f' (wrap64 ((i : Int) + 1)) a b c = some r := by
        intro y z f'
        rw [w64 _ (by omega) (by omega), show ((i : Int) + 1) = ((i + 1 : Nat) : Int) by omega]
        exact ih (i + 1) (by omega) _ f' (by rw [List.length_append, List.length_append, List.length_singleton, List.length_singleton]; omega)
      by_cases hg : g = true
      · obtain ⟨r, hr, e⟩ := one ⟨p, q, wrap64 (s + c)⟩ true
        refine ⟨r, hr, fun k hk => ?_⟩
        obtain ⟨k, rfl, hk'⟩ := rounds1 (k := k) (B := 2 * d + 1) (by omega)
        rw [spec_l21Put.j1, if_pos hg, if_pos (by omega), e k hk']
      · by_cases hf : f = true
        · obtain ⟨r, hr, e⟩ := one ⟨p, q, s⟩ f
          refine ⟨r, hr, fun k hk => ?_⟩
          obtain ⟨k, rfl, hk'⟩ := rounds1 (k := k) (B := 2 * d + 1) (by omega)
          rw [spec_l21Put.j1, if_neg hg, if_pos hf, if_pos (by omega), e k hk']
        · have be := l21Before_eq (⟨a, b, c⟩ : S30) ⟨p, q, s⟩
          dsimp only at be
          by_cases hb : befL (⟨a, b, c⟩ : S30) ⟨p, q, s⟩
          · obtain ⟨r, hr, e⟩ := two ⟨a, b, c⟩ ⟨p, q, s⟩ true
            refine ⟨r, hr, fun k hk => ?_⟩
            obtain ⟨k, rfl, hk'⟩ := rounds1 (k := k) (B := 2 * d + 1) (by omega)
            rw [spec_l21Put.j1, if_neg hg, if_neg hf, be, decide_eq_true hb]
            simp only [bsome, if_true]
            rw [if_pos (by omega), if_pos (by rw [List.length_append, List.length_singleton]; omega), e k hk']
          · obtain ⟨r, hr, e⟩ := one ⟨p, q, s⟩ f
            refine ⟨r, hr, fun k hk => ?_⟩
            obtain ⟨k, rfl, hk'⟩ := rounds1 (k := k) (B := 2 * d + 1) (by omega)
            rw [spec_l21Put.j1, if_neg hg, if_neg hf, be, decide_eq_false hb]
            simp only [bsome, Bool.false_eq_true, if_false]
            rw [if_pos (by omega), e k hk']
    by_cases hf : f = true
    · obtain ⟨r, hr, e⟩ := j1 false (rd_T30 l (i : Int)).f0 (rd_T30 l (i : Int)).f1 (rd_T30 l (i : Int)).f2
      refine ⟨r, hr, fun k hk => ?_⟩
      obtain ⟨k, rfl, hk'⟩ := rounds1 (k := k) (B := 2 * d + 2) (by omega)
      rw [spec_l21Put.l0, if_pos (by omega), if_pos (by omega), if_pos hf, e k hk']
    · by_cases h0 : (rd_T30 l (i : Int)).f0 = a
      · obtain ⟨r, hr, e⟩ := j1 ((rd_T30 l (i : Int)).f1 == b) (rd_T30 l (i : Int)).f0 (rd_T30 l (i : Int)).f1 (rd_T30 l (i : Int)).f2
        refine ⟨r, hr, fun k hk => ?_⟩
        obtain ⟨k, rfl, hk'⟩ := rounds1 (k := k) (B := 2 * d + 2) (by omega)
        rw [spec_l21Put.l0, if_pos (by omega), if_pos (by omega), if_neg hf, if_pos h0, e k hk']
      · obtain ⟨r, hr, e⟩ := j1 false (rd_T30 l (i : Int)).f0 (rd_T30 l (i : Int)).f1 (rd_T30 l (i : Int)).f2
        refine ⟨r, hr, fun k hk => ?_⟩
        obtain ⟨k, rfl, hk'⟩ := rounds1 (k := k) (B := 2 * d + 2) (by omega)
        rw [spec_l21Put.l0, if_pos (by omega), if_pos (by omega), if_neg hf, if_neg h0, e k hk']
theorem l21Put_ok (l : List S30) (hl : l.length ≤ 1000) (a b c : Int) : ∃ r : List S30, r.length ≤ 2 * l.length + 1 ∧ ∀ k, 2 * l.length + 1 ≤ k → spec_l21Put.f k l a b c = some r := by
  obtain ⟨r, hr, e⟩ := l21Put_l0 l hl a b c l.length 0 (by omega) [] false (by simp)
  exact ⟨r, hr, fun k hk => by unfold spec_l21Put.f; exact e k hk⟩
theorem spec_StorePut_ok (l : List S30) (hl : l.length ≤ 12) (a b c : Int) : ∃ (r : List S30) (g : Bool), r.length ≤ 12 ∧ ∀ k, 60 ≤ k → spec_StorePut.f k l a b c = some (r, g) := by
  obtain ⟨r, hr, e⟩ := l21Put_ok l (by omega) a b c
  have ee : ∀ k, 59 ≤ k → spec_StorePut.j0 (k + 1) l false a b c = some (if storeV r = true then (r, true) else ([], false)) := by
    intro k hk
    rw [spec_StorePut.j0, if_neg (by simp), e k (by omega)]
    simp only [bsome]
    rw [spec_StoreValid_eq r (by omega) k (by omega)]
    simp only [bsome]
    split <;> rfl
  have en : ∀ k, spec_StorePut.j0 (k + 1) l true a b c = some ([], false) := fun k => by rw [spec_StorePut.j0, if_pos rfl]
  have lot := l21Lot_eq (⟨a, b, c⟩ : S30)
  dsimp only at lot
  by_cases hv : storeV l = true
  · by_cases ok : okL (⟨a, b, c⟩ : S30)
    · refine ⟨if storeV r = true then r else [], storeV r, ?_, fun k hk => ?_⟩
      · split
        · rename_i h
          exact ((storeV_iff r).1 h).1
        · exact Nat.zero_le _
      · obtain ⟨k, rfl, hk'⟩ := rounds1 (k := k) (B := 59) (by omega)
        unfold spec_StorePut.f
        rw [spec_StoreValid_eq l (by omega) _ (by omega)]
        simp only [bsome]
        rw [if_pos hv, lot, decide_eq_true ok]
        simp only [bsome]
        rw [Bool.not_true, ee k hk']
        by_cases h : storeV r = true
        · rw [if_pos h, if_pos h, h]
        · rw [if_neg h, if_neg h, Bool.eq_false_iff.2 h]
    · refine ⟨[], false, Nat.zero_le _, fun k hk => ?_⟩
      obtain ⟨k, rfl, hk'⟩ := rounds1 (k := k) (B := 59) (by omega)
      unfold spec_StorePut.f
      rw [spec_StoreValid_eq l (by omega) _ (by omega)]
      simp only [bsome]
      rw [if_pos hv, lot, decide_eq_false ok]
      simp only [bsome]
      rw [Bool.not_false, en k]
  · refine ⟨[], false, Nat.zero_le _, fun k hk => ?_⟩
    obtain ⟨k, rfl, hk'⟩ := rounds1 (k := k) (B := 59) (by omega)
    unfold spec_StorePut.f
    rw [spec_StoreValid_eq l (by omega) _ (by omega)]
    simp only [bsome]
    rw [if_neg hv, en k]
theorem l92Lot_ok {b : List Int} (hb : Bytes b) (p : Int) (h0 : 0 ≤ p) (h1 : p ≤ 900000) : ∃ (x y z p' : Int), 0 ≤ p' ∧ p' ≤ p + 5 ∧ ∀ k, 1 ≤ k → spec_l92Lot.f k b p = some (x, y, z, p') := by
  obtain ⟨v1, a1, _, _, e1⟩ := pick_ok hb p 3 h0 (by omega)
  obtain ⟨v2, a2, _, _, e2⟩ := pick_ok hb (p + 1) 6 (by omega) (by omega)
  obtain ⟨v3, a3, _, _, e3⟩ := pick_ok hb (p + 1 + 1) 40 (by omega) (by omega)
  obtain ⟨v4, a4, _, _, e4⟩ := pick_ok hb (p + 1 + 1 + 1) 30 (by omega) (by omega)
  obtain ⟨v5, a5, _, _, e5⟩ := pick_ok hb (p + 1 + 1 + 1 + 1) 2 (by omega) (by omega)
  obtain ⟨v6, a6, b6, _, e6⟩ := pick_ok hb (p + 1 + 1 + 1 + 1) 3 (by omega) (by omega)
  have st : ∀ k, 1 ≤ k → spec_l92Lot.f k b p = (if v4 = 0 then some (wrap64 (v5 * 21), v2, wrap64 (1 + v3), p + 1 + 1 + 1 + 1 + 1) else if v4 = 1 then some (wrap64 (1 + v1), rd [(-1), 99, 100] v6, wrap64 (1 + v3), p + 1 + 1 + 1 + 1 + 1) else if v4 = 2 then some (wrap64 (1 + v1), v2, rd [0, 9999, 10000] v6, p + 1 + 1 + 1 + 1 + 1) else some (wrap64 (1 + v1), v2, wrap64 (1 + v3), p + 1 + 1 + 1 + 1)) := by
    intro k hk
    unfold spec_l92Lot.f
    rw [e1 k hk]
    simp only [bsome]
    rw [e2 k hk]
    simp only [bsome]
    rw [e3 k hk]
    simp only [bsome]
    rw [e4 k hk]
    simp only [bsome]
    rw [e5 k hk, e6 k hk]
    simp only [bsome]
    have l1 : v6 < (([(-1), 99, 100] : List Int).length : Int) := b6 (by omega)
    have l2 : v6 < (([0, 9999, 10000] : List Int).length : Int) := b6 (by omega)
    rw [if_pos a6, if_pos l1, if_pos a6, if_pos l2]
  by_cases c0 : v4 = 0
  · exact ⟨_, _, _, p + 1 + 1 + 1 + 1 + 1, by omega, by omega, fun k hk => by rw [st k hk, if_pos c0]⟩
  · by_cases c1 : v4 = 1
    · exact ⟨_, _, _, p + 1 + 1 + 1 + 1 + 1, by omega, by omega, fun k hk => by rw [st k hk, if_neg c0, if_pos c1]⟩
    · by_cases c2 : v4 = 2
      · exact ⟨_, _, _, p + 1 + 1 + 1 + 1 + 1, by omega, by omega, fun k hk => by rw [st k hk, if_neg c0, if_neg c1, if_pos c2]⟩
      · exact ⟨_, _, _, p + 1 + 1 + 1 + 1, by omega, by omega, fun k hk => by rw [st k hk, if_neg c0, if_neg c1, if_neg c2]⟩
theorem l92Store_l0 {b : List Int} (hb : Bytes b) (n : Int) (hn : 0 ≤ n ∧ n ≤ 60) : ∀ (d : Nat) (i : Int), 0 ≤ i → i + d = n → ∀ (l : List S30) (p : Int), l.length ≤ 12 → 0 ≤ p → p ≤ 100 + 5 * i →
    ∃ (l' : List S30) (p' : Int), l'.length ≤ 12 ∧ 0 ≤ p' ∧ p' ≤ 500 ∧ ∀ k, d + 61 ≤ k → spec_l92Store.l0 k l n i b p = some (l', p') := by
  intro d
  induction d with
  | zero =>
    intro i h0 hi l p hl p0 p1
    by_cases c : (l.length : Int) > 0
    · obtain ⟨v1, a1, _, _, e1⟩ := pick_ok hb p 30 p0 (by omega)
      by_cases c1 : v1 = 0
      · obtain ⟨v2, a2, b2, _, e2⟩ := pick_ok hb (p + 1) (l.length : Int) (by omega) (by omega)
        refine ⟨l.set (v2 : Int).toNat ⟨(rd_T30 l v2).f0, (rd_T30 l v2).f1, 0⟩, p + 1 + 1, by rw [List.length_set]; exact hl, by omega, by omega, fun k hk => ?_⟩
        obtain ⟨k, rfl, _⟩ := rounds1 (k := k) (B := 60) (by omega)
        rw [spec_l92Store.l0, if_neg (by omega), if_pos c, e1 k (by omega)]
        simp only [bsome]
        rw [if_pos c1, e2 k (by omega)]
        simp only [bsome]
        rw [if_pos a2, if_pos (b2 (by omega))]
      · refine ⟨l, p + 1, hl, by omega, by omega, fun k hk => ?_⟩
        obtain ⟨k, rfl, _⟩ := rounds1 (k := k) (B := 60) (by omega)
        rw [spec_l92Store.l0, if_neg (by omega), if_pos c, e1 k (by omega)]
        simp only [bsome]
        rw [if_neg c1]
    · refine ⟨l, p, hl, by omega, by omega, fun k hk => ?_⟩
      obtain ⟨k, rfl, _⟩ := rounds1 (k := k) (B := 60) (by omega)
      rw [spec_l92Store.l0, if_neg (by omega), if_neg c]
  | succ d ih =>
    intro i h0 hi l p hl p0 p1
    obtain ⟨x, y, z, p', q0, q1, e1⟩ := l92Lot_ok hb p p0 (by omega)
    obtain ⟨r, g, hr, e2⟩ := spec_StorePut_ok l hl x y z
    by_cases hg : g = true
    · obtain ⟨l', p2, u1, u2, u3, e3⟩ := ih (i + 1) (by omega) (by omega) r p' hr q0 (by omega)
      refine ⟨l', p2, u1, u2, u3, fun k hk => ?_⟩
      obtain ⟨k, rfl, hk'⟩ := rounds1 (k := k) (B := d + 61) (by omega)
      rw [spec_l92Store.l0, if_pos (by omega), e1 k (by omega)]
      simp only [bsome]
      rw [e2 k (by omega)]
      simp only [bsome]
      rw [if_pos hg, w64 (i + 1) (by omega) (by omega), e3 k hk']
    · obtain ⟨l', p2, u1, u2, u3, e3⟩ := ih (i + 1) (by omega) (by omega) l p' hl q0 (by omega)
      refine ⟨l', p2, u1, u2, u3, fun k hk => ?_⟩
      obtain ⟨k, rfl, hk'⟩ := rounds1 (k := k) (B := d + 61) (by omega)
      rw [spec_l92Store.l0, if_pos (by omega), e1 k (by omega)]
      simp only [bsome]
      rw [e2 k (by omega)]
      simp only [bsome]
      rw [if_neg hg, w64 (i + 1) (by omega) (by omega), e3 k hk']
theorem l92Store_ok {b : List Int} (hb : Bytes b) (p : Int) (h0 : 0 ≤ p) (h1 : p ≤ 50) : ∃ (l' : List S30) (p' : Int), l'.length ≤ 12 ∧ 0 ≤ p' ∧ p' ≤ 500 ∧ ∀ k, 130 ≤ k → spec_l92Store.f k b p = some (l', p') := by
  obtain ⟨v1, a1, b1, _, e1⟩ := pick_ok hb p 14 h0 (by omega)
  obtain ⟨v2, a2, _, _, e2⟩ := pick_ok hb (p + 1) 8 (by omega) (by omega)
  have m1 := b1 (by omega)
  by_cases c : v2 = 0
  · obtain ⟨l', p2, u1, u2, u3, e3⟩ := l92Store_l0 hb 60 (by omega) 60 0 (by omega) (by omega) [] (p + 1 + 1) (Nat.zero_le _) (by omega) (by omega)
    refine ⟨l', p2, u1, u2, u3, fun k hk => ?_⟩
    obtain ⟨k, rfl, hk'⟩ := rounds1 (k := k) (B := 129) (by omega)
    unfold spec_l92Store.f
    rw [bsome, e1 _ (by omega)]
    simp only [bsome]
    rw [e2 _ (by omega)]
    simp only [bsome]
    rw [if_pos c, spec_l92Store.j0]
    exact e3 k (by omega)
  · obtain ⟨l', p2, u1, u2, u3, e3⟩ := l92Store_l0 hb v1 (by omega) v1.toNat 0 (by omega) (by omega) [] (p + 1 + 1) (Nat.zero_le _) (by omega) (by omega)
    refine ⟨l', p2, u1, u2, u3, fun k hk => ?_⟩
    obtain ⟨k, rfl, hk'⟩ := rounds1 (k := k) (B := 129) (by omega)
    unfold spec_l92Store.f
    rw [bsome, e1 _ (by omega)]
    simp only [bsome]
    rw [e2 _ (by omega)]
    simp only [bsome]
    rw [if_neg c, spec_l92Store.j0]
    exact e3 k (by omega)

end Go.Proofs.Ytfnngpfkcnfhiaa.B
