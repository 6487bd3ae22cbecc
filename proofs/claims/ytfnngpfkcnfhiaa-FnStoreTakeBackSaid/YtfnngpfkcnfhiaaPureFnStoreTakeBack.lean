/- The pure statement of FnStoreTakeBack is proved: what was taken and is put back leaves the store as it was. Conditions: none. -/
import Derived.Test.YtfnngpfkcnfhiaaPAllx0
import Derived.Test.YtfnngpfkcnfhiaaPAllx19
import Derived.Test.YtfnngpfkcnfhiaaBbase
import Derived.Test.YtfnngpfkcnfhiaaBwithin
import Derived.Test.YtfnngpfkcnfhiaaBpick
import Derived.Test.YtfnngpfkcnfhiaaBputall
namespace Go.Proofs.Ytfnngpfkcnfhiaa.Pure
open Go.RowKit Go.Proofs.Ytfnngpfkcnfhiaa.PAll Go.Proofs.Ytfnngpfkcnfhiaa.B Go.Proofs.YtfnngpfkcnfhiaaW.PrintWords Go.Proofs.YtfnngpfkcnfhiaaW.PrintLast
set_option linter.unusedVariables false
set_option linter.unusedSimpArgs false

theorem law_back_l0 (l : List S30) (hl : storeV l = true) (tk : List S30) (ht : ∀ y ∈ tk, okL y) (h12 : tk.length ≤ 12) : ∀ (d i : Nat), i + d = tk.length → ∀ (cur : List S30), storeV cur = true → (∀ a b, amt a b cur + amt a b (tk.drop i) = amt a b l) → ∀ k, d + 60 ≤ k → laws_FnStoreTakeBack.l0 k l tk cur i = some true := by
  obtain ⟨l12, hok, hs⟩ := (storeV_iff l).1 hl
  intro d
  induction d with
  | zero =>
    intro i hi cur hc ha k hk
    obtain ⟨k, rfl, hk'⟩ := rounds1 (k := k) (B := 59) (by omega)
    obtain ⟨_, cok, cs⟩ := (storeV_iff cur).1 hc
    have e : cur = l := amt_one cur l cs hs (fun z hz => (cok z hz).2.2.1) (fun z hz => (hok z hz).2.2.1) (fun a b => by
      have := ha a b
      rw [List.drop_eq_nil_of_le (by omega), show amt a b [] = 0 from rfl] at this
      omega)
    rw [laws_FnStoreTakeBack.l0, if_neg (by omega), e, laws_sameLots_refl _ (by omega) _ (by omega)]
    simp only [bsome]
  | succ d ih =>
    intro i hi cur hc ha k hk
    obtain ⟨k, rfl, hk'⟩ := rounds1 (k := k) (B := d + 60) (by omega)
    obtain ⟨c12, cok, cs⟩ := (storeV_iff cur).1 hc
    have di := drop_lot tk i (by omega)
    have hm := List.getElem_mem (l := tk) (n := i) (by omega)
    rw [← rd_lot tk i (by omega)] at hm
    obtain ⟨x, hx⟩ : ∃ x, rd_T30 tk (i : Int) = x := ⟨_, rfl⟩
    rw [hx] at di hm
    have ox := ht x hm
    have x2 : 1 ≤ x.f2 ∧ x.f2 ≤ 9999 := ox.2.2
    have cm := ok_mild cok
    have ap := fun a b => put_amt x x2 a b cur cm
    have pt : Pos (tk.drop (i + 1)) := fun z hz => (ht z (List.mem_of_mem_drop hz)).2.2.1
    have aa : ∀ a b, amt a b (putL x cur) + amt a b (tk.drop (i + 1)) = amt a b l := fun a b => by
      have := ha a b
      rw [di, amt] at this
      rw [ap]
      omega
    have vp : storeV (putL x cur) = true := dom_valid (put_pair x x2 cur cm cs) (put_pos x x2 cur cm) hl (fun a b => by
      have := aa a b
      have := amt_nonneg a b _ pt
      omega)
    have pv : putV cur x = (putL x cur, true) := by rw [putV, if_pos ⟨hc, ox, vp⟩]
    have ei := impl_StorePut_eq cur (by omega) x k (by omega)
    rw [pv] at ei
    rw [laws_FnStoreTakeBack.l0, if_pos (by omega), if_pos (by omega), hx, ei]
    simp only [bsome]
    rw [if_pos trivial, w64 ((i : Int) + 1) (by omega) (by omega), B.up]
    exact ih (i + 1) (by omega) _ vp aa k hk'
theorem FnStoreTakeBack (l0 : List Int) (ok0 : CodeOk l0) : ∃ k, laws_FnStoreTakeBack.f k l0 = some true := by
  by_cases h1 : (l0.length : Int) > 1048576
  · exact ⟨0, by unfold laws_FnStoreTakeBack.f; rw [if_pos h1]⟩
  obtain ⟨l, id, n, day, hl, hd, e⟩ := drawStoreTake_ok l0 ok0
  obtain ⟨k, hk⟩ : ∃ k : Nat, 1000 ≤ k := ⟨1000, Nat.le_refl _⟩
  have tl := takeV_len l id n day
  refine ⟨k + 1, ?_⟩
  unfold laws_FnStoreTakeBack.f
  rw [if_neg h1, e _ (by omega)]
  simp only [bsome]
  rw [impl_StoreTake_eq l (by omega) id n day _ (by omega), spec_StoreTake_eq l (by omega) id n day _ (by omega)]
  simp only [bsome, bne_self_eq_false, Bool.false_eq_true, if_false]
  rw [laws_sameLots_refl _ (by omega) _ (by omega)]
  simp only [bsome, if_true]
  rw [laws_sameLots_refl _ (by omega) _ (by omega)]
  simp only [bsome, if_true]
  rw [laws_FnStoreTakeBack.j0]
  by_cases c : storeV l = true ∧ (0 ≤ n ∧ n ≤ 999999) ∧ n ≤ hasL id day l
  · obtain ⟨h12, hok, h3⟩ := (storeV_iff l).1 c.1
    have tV : takeV l id n day = ((takeL id day n l).1, (takeL id day n l).2, true) := by rw [takeV, if_pos c]
    have tv := takeL_valid l c.1 id day n c.2.1.1
    have tlen := (takeL_len id day l n).2
    rw [tV, if_neg (by simp)]
    exact law_back_l0 l c.1 (takeL id day n l).2 (fun y hy => by
      obtain ⟨_, _, f2, x, hx, e0, e1⟩ := takeL_part id day l n c.2.1.1 hok y hy
      have := hok x hx
      unfold okL at *
      omega) (by omega) (takeL id day n l).2.length 0 (by omega) _ tv (fun a b => by rw [List.drop_zero]; exact takeL_amt id day a b l n c.2.1.1 hok) k (by omega)
  · have tV : takeV l id n day = ([], [], false) := by rw [takeV, if_neg c]
    rw [tV, if_pos (by simp), if_pos (by simp), laws_sameLots_refl _ (Nat.zero_le _) _ (by simp; omega)]
    simp only [bsome, if_true]

end Go.Proofs.Ytfnngpfkcnfhiaa.Pure
