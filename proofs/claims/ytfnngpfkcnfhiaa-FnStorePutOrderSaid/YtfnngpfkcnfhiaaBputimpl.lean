/- Lemmas about the printed functions (putimpl). -/
import Derived.Test.YtfnngpfkcnfhiaaPAllx0
import Derived.Test.YtfnngpfkcnfhiaaPAllx6
import Derived.Test.YtfnngpfkcnfhiaaPAllx8
import Derived.Test.YtfnngpfkcnfhiaaBbase
import Derived.Test.YtfnngpfkcnfhiaaBwithin
import Derived.Test.YtfnngpfkcnfhiaaBlots
import Derived.Test.YtfnngpfkcnfhiaaBstorespec
import Derived.Test.YtfnngpfkcnfhiaaBstoreimpl
import Derived.Test.YtfnngpfkcnfhiaaBputdef
namespace Go.Proofs.Ytfnngpfkcnfhiaa.B
open Go.RowKit Go.Proofs.Ytfnngpfkcnfhiaa.PAll Go.Proofs.YtfnngpfkcnfhiaaW.PrintWords Go.Proofs.YtfnngpfkcnfhiaaW.PrintLast
set_option linter.unusedVariables false
set_option linter.unusedSimpArgs false

theorem compareLots_val (x y : S30) : ∃ v : Int, (∀ k, 3 ≤ k → impl_compareLots.f k x.f0 x.f1 x.f2 y.f0 y.f1 y.f2 = some v) ∧ (v < 0 ↔ befL x y) ∧ (v = 0 ↔ sameDay x y) := by
  refine ⟨if cmpI x.f0 y.f0 = 0 then cmpI x.f1 y.f1 else cmpI x.f0 y.f0, fun k hk => ?_, ?_⟩
  · unfold impl_compareLots.f
    rw [compare_eq, compare_eq]
    simp only [bsome]
    rw [or_eq _ _ k hk]
    simp only [bsome]
  · unfold cmpI befL sameDay
    by_cases a : x.f0 < y.f0
    · rw [if_pos a, if_neg (by omega)]
      omega
    · rw [if_neg a]
      by_cases b : x.f0 > y.f0
      · rw [if_pos b, if_neg (by omega)]
        omega
      · rw [if_neg b, if_pos rfl]
        by_cases c : x.f1 < y.f1
        · rw [if_pos c]
          omega
        · rw [if_neg c]
          by_cases d : x.f1 > y.f1
          · rw [if_pos d]
            omega
          · rw [if_neg d]
            omega
/-- what comes before x stands before i, all else behind -/
def Bound (l : List S30) (x : S30) (lo hi : Nat) : Prop := (∀ j, j < lo → befL (rd_T30 l (j : Int)) x) ∧ (∀ j, hi ≤ j → j < l.length → ¬ befL (rd_T30 l (j : Int)) x)
theorem search_l0 (l : List S30) (hp : l.Pairwise befL) (x : S30) : ∀ (d lo hi : Nat), hi ≤ lo + d → lo ≤ hi → hi ≤ l.length → Bound l x lo hi → ∀ k, d + 4 ≤ k → ∃ i, searchLots.l0 k l x.f0 x.f1 x.f2 lo hi = some i ∧ i ≤ l.length ∧ Bound l x i i := by
  have mono : ∀ a b : Nat, a ≤ b → b < l.length → befL (rd_T30 l (b : Int)) x → befL (rd_T30 l (a : Int)) x := by
    intro a b h1 h2 h3
    by_cases e : a = b
    · rw [e]; exact h3
    · refine befL_trans ?_ h3
      rw [rd_lot l a (by omega), rd_lot l b h2]
      exact List.pairwise_iff_getElem.1 hp a b (by omega) h2 (by omega)
  intro d
  induction d with
  | zero =>
    intro lo hi h1 h2 h3 hb k hk
    obtain ⟨k, rfl, _⟩ := rounds1 (k := k) (B := 3) (by omega)
    obtain rfl : lo = hi := by omega
    exact ⟨lo, by rw [searchLots.l0, if_neg (by omega)], h3, hb⟩
  | succ d ih =>
    intro lo hi h1 h2 h3 hb k hk
    obtain ⟨k, rfl, hk'⟩ := rounds1 (k := k) (B := d + 4) (by omega)
    by_cases c : lo < hi
    · obtain ⟨v, ev, v0, _⟩ := compareLots_val (rd_T30 l (((lo + hi) / 2 : Nat) : Int)) x
      rw [searchLots.l0, if_pos c, ev k (by omega)]
      simp only [bsome]
      have hm : lo ≤ (lo + hi) / 2 ∧ (lo + hi) / 2 < hi := by omega
      by_cases c2 : v < 0
      · rw [if_pos c2]
        refine ih _ _ (by omega) (by omega) h3 ⟨fun j hj => ?_, hb.2⟩ k hk'
        exact mono j _ (by omega) (by omega) (v0.1 c2)
      · rw [if_neg c2]
        refine ih _ _ (by omega) (by omega) (by omega) ⟨hb.1, fun j hj hjl hbj => ?_⟩ k hk'
        exact c2 (v0.2 (mono _ j hj hjl hbj))
    · obtain rfl : lo = hi := by omega
      exact ⟨lo, by rw [searchLots.l0, if_neg c], h3, hb⟩
theorem befL_irr {x y : S30} (h : befL x y) (g : befL y x) : False := by
  unfold befL at *
  omega
theorem befL_same {x y : S30} (h : befL x y) (g : sameDay x y) : False := by
  unfold befL sameDay at *
  omega
theorem befL_else {x y : S30} (h : ¬ befL x y) (g : ¬ sameDay x y) : befL y x := by
  unfold befL sameDay at *
  omega
theorem put_at (x : S30) : ∀ (l : List S30) (i : Nat) (q : Bool), i ≤ l.length → Bound l x i i → (q = true ↔ i < l.length ∧ sameDay (rd_T30 l (i : Int)) x) → impl_StorePut.put l (i, q) x = putL x l
  | [], i, q, hi, hb, hq => by
    have h0 : i = 0 := by simpa using hi
    subst h0
    have q0 : q = false := Bool.eq_false_iff.2 fun h => by have := (hq.1 h).1; simp at this
    subst q0
    rfl
  | y :: r, 0, q, hi, hb, hq => by
    have nb : ¬ befL y x := hb.2 0 (Nat.le_refl _) (by simp)
    have hq' : q = true ↔ sameDay y x := ⟨fun h => (hq.1 h).2, fun h => hq.2 ⟨by simp, h⟩⟩
    rw [putL]
    by_cases c : sameDay y x
    · rw [hq'.2 c, if_pos c]
      rfl
    · have q0 : q = false := Bool.eq_false_iff.2 fun h => c (hq'.1 h)
      rw [q0, if_neg c, if_pos (befL_else nb c)]
      rfl
  | y :: r, i + 1, q, hi, hb, hq => by
    have e : ∀ j : Nat, rd_T30 (y :: r) ((j + 1 : Nat) : Int) = rd_T30 r (j : Int) := fun j => rfl
    have by_ : befL y x := hb.1 0 (by omega)
    have ih := put_at x r i q (by simpa using hi) ⟨fun j hj => by have := hb.1 (j + 1) (by omega); rwa [e] at this, fun j hj hjl => by have := hb.2 (j + 1) (by omega) (by simpa using hjl); rwa [e] at this⟩ (by rw [hq, e]; simp)
    rw [putL, if_neg (fun z => befL_same by_ z), if_neg (fun z => befL_irr by_ z), ← ih]
    unfold impl_StorePut.put
    dsimp only
    rw [e]
    cases q with
    | true => rfl
    | false => rfl
theorem impl_StorePut_eq (l : List S30) (hl : l.length ≤ 1048576) (x : S30) (k : Nat) (hk : 2 * l.length + 8 ≤ k) : impl_StorePut.f k l x.f0 x.f1 x.f2 = some (putV l x) := by
  have lot := lotValid_eq x
  have pl := putL_len x l
  unfold impl_StorePut.f putV
  rw [impl_StoreValid_eq l (by omega) _ (by omega)]
  simp only [bsome]
  by_cases hv : storeV l = true
  · obtain ⟨_, _, hp⟩ := (storeV_iff l).1 hv
    rw [if_pos hv, lot]
    simp only [bsome]
    by_cases ok : okL x
    · rw [decide_eq_true ok, if_pos rfl, if_pos (by omega)]
      obtain ⟨i, e, hi, hb⟩ := search_l0 l hp x l.length 0 l.length (by omega) (by omega) (Nat.le_refl _) ⟨fun j hj => by omega, fun j h1 h2 => by omega⟩ k (by omega)
      have es : ∃ q : Bool, searchLots.f k l x.f0 x.f1 x.f2 = some (i, q) ∧ (q = true ↔ i < l.length ∧ sameDay (rd_T30 l (i : Int)) x) := by
        unfold searchLots.f
        rw [e]
        simp only [bsome]
        by_cases c : i < l.length
        · obtain ⟨v, ev, _, v1⟩ := compareLots_val (rd_T30 l (i : Int)) x
          rw [if_pos c, ev k (by omega)]
          simp only [bsome]
          refine ⟨_, rfl, ?_⟩
          rw [beq_iff_eq, v1]
          exact ⟨fun h => ⟨c, h⟩, fun h => h.2⟩
        · rw [if_neg c]
          exact ⟨false, rfl, fun h => (by cases h), fun h => absurd h.1 c⟩
      obtain ⟨q, es, hq⟩ := es
      rw [es]
      simp only [bsome]
      rw [put_at x l i q hi hb hq, impl_StoreValid_eq _ (by omega) k (by omega)]
      simp only [bsome]
      by_cases h : storeV (putL x l) = true
      · rw [if_pos h, if_pos ⟨hv, ok, h⟩]
      · rw [if_neg h, if_neg (fun z => h z.2.2)]
    · rw [decide_eq_false ok, if_neg (by simp), if_neg (fun z => ok z.2.1)]
  · rw [if_neg hv, if_neg (fun z => hv z.1)]

end Go.Proofs.Ytfnngpfkcnfhiaa.B
