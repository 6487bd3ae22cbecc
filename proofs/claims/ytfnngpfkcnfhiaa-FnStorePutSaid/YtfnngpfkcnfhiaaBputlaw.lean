/- Lemmas about the printed functions (putlaw). -/
import Derived.Test.YtfnngpfkcnfhiaaPAllx0
import Derived.Test.YtfnngpfkcnfhiaaBbase
import Derived.Test.YtfnngpfkcnfhiaaBlots
import Derived.Test.YtfnngpfkcnfhiaaBstorespec
import Derived.Test.YtfnngpfkcnfhiaaBputdef
import Derived.Test.YtfnngpfkcnfhiaaBstorehas
import Derived.Test.YtfnngpfkcnfhiaaBsumlots
import Derived.Test.YtfnngpfkcnfhiaaBstoreimpl
import Derived.Test.YtfnngpfkcnfhiaaBwithin
namespace Go.Proofs.Ytfnngpfkcnfhiaa.B
open Go.RowKit Go.Proofs.Ytfnngpfkcnfhiaa.PAll Go.Proofs.YtfnngpfkcnfhiaaW.PrintWords Go.Proofs.YtfnngpfkcnfhiaaW.PrintLast
set_option linter.unusedVariables false
set_option linter.unusedSimpArgs false

/-! #### amounts of a food and day; two stores of the same amounts are one -/
def amt (a b : Int) : List S30 → Int
  | [] => 0
  | x :: r => (if x.f0 = a ∧ x.f1 = b then x.f2 else 0) + amt a b r
def Pos (l : List S30) : Prop := ∀ x ∈ l, 1 ≤ x.f2
theorem amt_nonneg (a b : Int) : ∀ l : List S30, Pos l → 0 ≤ amt a b l
  | [], _ => Int.le_refl _
  | x :: r, h => by
    have i := amt_nonneg a b r (fun z hz => h z (List.mem_cons_of_mem _ hz))
    have := h x (List.mem_cons_self ..)
    rw [amt]
    split <;> omega
theorem amt_app (a b : Int) : ∀ l m : List S30, amt a b (l ++ m) = amt a b l + amt a b m
  | [], m => (Int.zero_add _).symm
  | x :: r, m => by
    rw [List.cons_append, amt, amt, amt_app a b r m]
    omega
/-- all else comes behind: nothing of this food and day -/
theorem amt_none (x : S30) : ∀ r : List S30, (∀ z ∈ r, befL x z) → amt x.f0 x.f1 r = 0
  | [], _ => rfl
  | y :: r, h => by
    have hy := h y (List.mem_cons_self ..)
    rw [amt, amt_none x r (fun z hz => h z (List.mem_cons_of_mem _ hz)), if_neg (by unfold befL at hy; omega)]
    rfl
theorem amt_head {x : S30} {r : List S30} (hp : (x :: r).Pairwise befL) : amt x.f0 x.f1 (x :: r) = x.f2 := by
  rw [amt, amt_none x r (List.pairwise_cons.1 hp).1, if_pos ⟨rfl, rfl⟩]
  omega
theorem amt_mem {l : List S30} (hp : l.Pairwise befL) {y : S30} (hy : y ∈ l) : amt y.f0 y.f1 l = y.f2 := by
  induction l with
  | nil => cases hy
  | cons x r ih =>
    rcases List.mem_cons.1 hy with rfl | hy
    · exact amt_head hp
    · have := (List.pairwise_cons.1 hp).1 y hy
      rw [amt, ih (List.pairwise_cons.1 hp).2 hy, if_neg (by unfold befL at this; omega)]
      omega
theorem amt_some (a b : Int) : ∀ l : List S30, 0 < amt a b l → ∃ x ∈ l, x.f0 = a ∧ x.f1 = b
  | [], h => by cases h
  | x :: r, h => by
    by_cases c : x.f0 = a ∧ x.f1 = b
    · exact ⟨x, List.mem_cons_self .., c⟩
    · rw [amt, if_neg c, Int.zero_add] at h
      obtain ⟨z, hz, e⟩ := amt_some a b r h
      exact ⟨z, List.mem_cons_of_mem _ hz, e⟩
theorem befL_tri (x y : S30) : befL x y ∨ befL y x ∨ (x.f0 = y.f0 ∧ x.f1 = y.f1) := by
  unfold befL
  omega
theorem below_all {x y : S30} {r : List S30} (hp : (y :: r).Pairwise befL) (h : befL x y) : ∀ z ∈ y :: r, befL x z := by
  intro z hz
  rcases List.mem_cons.1 hz with rfl | hz
  · exact h
  · exact befL_trans h ((List.pairwise_cons.1 hp).1 z hz)
/-- a store of no more than another's amounts -/
theorem amt_dom : ∀ (l m : List S30), l.Pairwise befL → m.Pairwise befL → Pos l → Pos m → (∀ a b, amt a b l ≤ amt a b m) → l.length ≤ m.length
  | [], m, _, _, _, _, _ => Nat.zero_le _
  | x :: r, [], hl, hm, pl, _, h => by
    have := h x.f0 x.f1
    rw [amt_head hl] at this
    have := pl x (List.mem_cons_self ..)
    simp only [amt] at *
    omega
  | x :: r, y :: s, hl, hm, pl, pm, h => by
    have prl : Pos r := fun z hz => pl z (List.mem_cons_of_mem _ hz)
    have prm : Pos s := fun z hz => pm z (List.mem_cons_of_mem _ hz)
    have hlr := List.pairwise_cons.1 hl
    have hmr := List.pairwise_cons.1 hm
    rcases befL_tri x y with c | c | c
    · exfalso
      have := h x.f0 x.f1
      rw [amt_head hl, amt_none x (y :: s) (below_all hm c)] at this
      have := pl x (List.mem_cons_self ..)
      omega
    · have : (x :: r).length ≤ s.length := amt_dom (x :: r) s hl hmr.2 pl prm (fun a b => by
        have q := h a b
        by_cases e : y.f0 = a ∧ y.f1 = b
        · obtain ⟨rfl, rfl⟩ := e
          rw [amt_none y (x :: r) (below_all hl c)]
          exact amt_nonneg _ _ s prm
        · rw [show amt a b (y :: s) = (if y.f0 = a ∧ y.f1 = b then y.f2 else 0) + amt a b s from rfl, if_neg e, Int.zero_add] at q
          exact q)
      simp only [List.length_cons] at *
      omega
    · have : r.length ≤ s.length := amt_dom r s hlr.2 hmr.2 prl prm (fun a b => by
        have q := h a b
        by_cases e : x.f0 = a ∧ x.f1 = b
        · obtain ⟨rfl, rfl⟩ := e
          rw [amt_none x r hlr.1]
          exact amt_nonneg _ _ s prm
        · rw [amt, amt, if_neg e, if_neg (by rw [← c.1, ← c.2]; exact e), Int.zero_add, Int.zero_add] at q
          exact q)
      simp only [List.length_cons]
      omega
theorem amt_one : ∀ (l m : List S30), l.Pairwise befL → m.Pairwise befL → Pos l → Pos m → (∀ a b, amt a b l = amt a b m) → l = m
  | [], [], _, _, _, _, _ => rfl
  | x :: r, [], hl, hm, pl, _, h => by
    have := h x.f0 x.f1
    rw [amt_head hl] at this
    have := pl x (List.mem_cons_self ..)
    simp only [amt] at *
    omega
  | [], y :: s, hl, hm, pl, pm, h => by
    have := h y.f0 y.f1
    rw [amt_head hm] at this
    have := pm y (List.mem_cons_self ..)
    simp only [amt] at *
    omega
  | x :: r, y :: s, hl, hm, pl, pm, h => by
    have prl : Pos r := fun z hz => pl z (List.mem_cons_of_mem _ hz)
    have prm : Pos s := fun z hz => pm z (List.mem_cons_of_mem _ hz)
    have hlr := List.pairwise_cons.1 hl
    have hmr := List.pairwise_cons.1 hm
    rcases befL_tri x y with c | c | c
    · exfalso
      have := h x.f0 x.f1
      rw [amt_head hl, amt_none x (y :: s) (below_all hm c)] at this
      have := pl x (List.mem_cons_self ..)
      omega
    · exfalso
      have := h y.f0 y.f1
      rw [amt_head hm, amt_none y (x :: r) (below_all hl c)] at this
      have := pm y (List.mem_cons_self ..)
      omega
    · have q := h x.f0 x.f1
      rw [amt_head hl, c.1, c.2, amt_head hm] at q
      have exy : x = y := by
        obtain ⟨x0, x1, x2⟩ := x
        obtain ⟨y0, y1, y2⟩ := y
        simp only at c q
        rw [c.1, c.2, q]
      subst exy
      congr 1
      refine amt_one r s hlr.2 hmr.2 prl prm (fun a b => ?_)
      have q := h a b
      rw [amt, amt] at q
      omega
/-- lots that are put: small numbers -/
def Mild (l : List S30) : Prop := ∀ x ∈ l, 1 ≤ x.f2 ∧ x.f2 ≤ 100000
theorem ok_mild {l : List S30} (h : ∀ x ∈ l, okL x) : Mild l := fun x hx => by
  have := (h x hx).2.2
  omega
theorem put_mem (x : S30) (hx : 1 ≤ x.f2 ∧ x.f2 ≤ 9999) : ∀ l : List S30, Mild l → ∀ z ∈ putL x l, (z.f0 = x.f0 ∧ z.f1 = x.f1 ∨ ∃ y ∈ l, z.f0 = y.f0 ∧ z.f1 = y.f1) ∧ 1 ≤ z.f2 ∧ z.f2 ≤ 109999
  | [], _, z, hz => by
    have : z = x := by simpa [putL] using hz
    subst this
    exact ⟨.inl ⟨rfl, rfl⟩, by omega⟩
  | y :: r, hl, z, hz => by
    have hy := hl y (List.mem_cons_self ..)
    have hr : Mild r := fun q hq => hl q (List.mem_cons_of_mem _ hq)
    rw [putL] at hz
    split at hz
    · rw [w64 (y.f2 + x.f2) (by omega) (by omega)] at hz
      rcases List.mem_cons.1 hz with rfl | hz
      · exact ⟨.inr ⟨y, List.mem_cons_self .., rfl, rfl⟩, by dsimp only; omega⟩
      · exact ⟨.inr ⟨z, List.mem_cons_of_mem _ hz, rfl, rfl⟩, by have := hr z hz; omega⟩
    · split at hz
      · rcases List.mem_cons.1 hz with rfl | hz
        · exact ⟨.inl ⟨rfl, rfl⟩, by omega⟩
        · exact ⟨.inr ⟨z, hz, rfl, rfl⟩, by have := hl z hz; omega⟩
      · rcases List.mem_cons.1 hz with rfl | hz
        · exact ⟨.inr ⟨z, List.mem_cons_self .., rfl, rfl⟩, by omega⟩
        · obtain ⟨h, h2⟩ := put_mem x hx r hr z hz
          refine ⟨?_, h2⟩
          rcases h with h | ⟨q, hq, e⟩
          · exact .inl h
          · exact .inr ⟨q, List.mem_cons_of_mem _ hq, e⟩
theorem befL_key {x y z : S30} (h : befL x y) (e : z.f0 = y.f0 ∧ z.f1 = y.f1) : befL x z := by
  unfold befL at *
  omega
theorem key_befL {x y z : S30} (h : befL x y) (e : z.f0 = x.f0 ∧ z.f1 = x.f1) : befL z y := by
  unfold befL at *
  omega
theorem befL_rest {x y : S30} (h : ¬ befL x y) (g : ¬ sameDay y x) : befL y x := by
  unfold befL sameDay at *
  omega
theorem put_pair (x : S30) (hx : 1 ≤ x.f2 ∧ x.f2 ≤ 9999) : ∀ l : List S30, Mild l → l.Pairwise befL → (putL x l).Pairwise befL
  | [], _, _ => by simp [putL]
  | y :: r, hl, hp => by
    have hr : Mild r := fun q hq => hl q (List.mem_cons_of_mem _ hq)
    have hpr := List.pairwise_cons.1 hp
    rw [putL]
    split
    · exact List.pairwise_cons.2 ⟨fun z hz => key_befL (hpr.1 z hz) ⟨rfl, rfl⟩, hpr.2⟩
    · rename_i c
      split
      · rename_i b
        exact List.pairwise_cons.2 ⟨below_all hp b, hp⟩
      · rename_i b
        refine List.pairwise_cons.2 ⟨fun z hz => ?_, put_pair x hx r hr hpr.2⟩
        rcases (put_mem x hx r hr z hz).1 with h | ⟨q, hq, h⟩
        · exact befL_key (befL_rest b c) h
        · exact befL_key (hpr.1 q hq) h
theorem put_amt (x : S30) (hx : 1 ≤ x.f2 ∧ x.f2 ≤ 9999) (a b : Int) : ∀ l : List S30, Mild l → amt a b (putL x l) = amt a b l + (if x.f0 = a ∧ x.f1 = b then x.f2 else 0)
  | [], _ => by
    simp only [putL, amt]
    omega
  | y :: r, hl => by
    have hy := hl y (List.mem_cons_self ..)
    have hr : Mild r := fun q hq => hl q (List.mem_cons_of_mem _ hq)
    rw [putL]
    by_cases c : sameDay y x
    · rw [if_pos c, amt, amt, w64 (y.f2 + x.f2) (by omega) (by omega)]
      dsimp only
      have c' := c
      unfold sameDay at c'
      rw [c'.1, c'.2]
      split <;> omega
    · rw [if_neg c]
      by_cases d : befL x y
      · rw [if_pos d, amt]
        omega
      · rw [if_neg d, amt, amt, put_amt x hx a b r hr]
        omega
theorem put_sum (x : S30) (hx : 1 ≤ x.f2 ∧ x.f2 ≤ 9999) : ∀ l : List S30, Mild l → sumL (putL x l) = sumL l + x.f2
  | [], _ => by
    simp only [putL, sumL]
    omega
  | y :: r, hl => by
    have hy := hl y (List.mem_cons_self ..)
    have hr : Mild r := fun q hq => hl q (List.mem_cons_of_mem _ hq)
    rw [putL]
    by_cases c : sameDay y x
    · rw [if_pos c, sumL, sumL, w64 (y.f2 + x.f2) (by omega) (by omega)]
      dsimp only
      omega
    · rw [if_neg c]
      by_cases d : befL x y
      · rw [if_pos d, sumL]
        omega
      · rw [if_neg d, sumL, sumL, put_sum x hx r hr]
        omega
theorem put_has (x : S30) (hx : 1 ≤ x.f2 ∧ x.f2 ≤ 9999) (id day : Int) : ∀ l : List S30, Mild l → hasL id day (putL x l) = hasL id day l + (if x.f0 = id ∧ x.f1 ≥ day then x.f2 else 0)
  | [], _ => by
    simp only [putL, hasL]
    omega
  | y :: r, hl => by
    have hy := hl y (List.mem_cons_self ..)
    have hr : Mild r := fun q hq => hl q (List.mem_cons_of_mem _ hq)
    rw [putL]
    by_cases c : sameDay y x
    · rw [if_pos c, hasL, hasL, w64 (y.f2 + x.f2) (by omega) (by omega)]
      dsimp only
      have c' := c
      unfold sameDay at c'
      rw [c'.1, c'.2]
      split <;> omega
    · rw [if_neg c]
      by_cases d : befL x y
      · rw [if_pos d, hasL]
        omega
      · rw [if_neg d, hasL, hasL, put_has x hx id day r hr]
        omega
/-- a store of no more than a valid store's amounts is valid -/
theorem dom_valid {l m : List S30} (hl : l.Pairwise befL) (pl : Pos l) (hm : storeV m = true) (h : ∀ a b, amt a b l ≤ amt a b m) : storeV l = true := by
  obtain ⟨h12, hok, hp⟩ := (storeV_iff m).1 hm
  have pm : Pos m := fun x hx => (hok x hx).2.2.1
  have hlen := amt_dom l m hl hp pl pm h
  refine (storeV_iff l).2 ⟨by omega, fun x hx => ?_, hl⟩
  have q := h x.f0 x.f1
  rw [amt_mem hl hx] at q
  have px := pl x hx
  obtain ⟨y, hy, e0, e1⟩ := amt_some x.f0 x.f1 m (by omega)
  have oy := hok y hy
  rw [← e0, ← e1, amt_mem hp hy] at q
  unfold okL at *
  omega
theorem put_pos (x : S30) (hx : 1 ≤ x.f2 ∧ x.f2 ≤ 9999) (l : List S30) (hl : Mild l) : Pos (putL x l) := fun z hz => (put_mem x hx l hl z hz).2.1

end Go.Proofs.Ytfnngpfkcnfhiaa.B
