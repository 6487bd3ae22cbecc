/- Lemmas about the printed functions (drawkitchen). -/
import Derived.Test.YtldenfgphnhaiaaPAllx0
import Derived.Test.YtldenfgphnhaiaaPAllx2
import Derived.Test.YtldenfgphnhaiaaBbase
import Derived.Test.YtldenfgphnhaiaaBpick
namespace Go.Proofs.Ytldenfgphnhaiaa.B
open Go.RowKit Go.Proofs.Ytldenfgphnhaiaa.PAll Go.Proofs.YtldenfgphnhaiaaW.PrintWords Go.Proofs.YtldenfgphnhaiaaW.PrintLast
set_option linter.unusedVariables false
set_option linter.unusedSimpArgs false

theorem l92Kitchen_ok {b : List Int} (hb : Bytes b) (p : Int) (h0 : 0 ≤ p) (h1 : p ≤ 900000) : ∃ (h : Int) (t : List Int) (p' : Int), t.length ≤ 4 ∧ 0 ≤ p' ∧ p' ≤ p + 8 ∧ ∀ k, 1 ≤ k → spec_l92Kitchen.f k b p = some (h, t, p') := by
  obtain ⟨v1, a1, _, _, e1⟩ := pick_ok hb p 4 h0 (by omega)
  obtain ⟨v2, a2, _, _, e2⟩ := pick_ok hb (p + 1) 3 (by omega) (by omega)
  obtain ⟨v3, a3, _, _, e3⟩ := pick_ok hb (p + 1 + 1) 2 (by omega) (by omega)
  obtain ⟨v4, a4, _, _, e4⟩ := pick_ok hb (p + 1 + 1 + 1) 2 (by omega) (by omega)
  obtain ⟨v5, a5, _, _, e5⟩ := pick_ok hb (p + 1 + 1 + 1 + 1) 3 (by omega) (by omega)
  obtain ⟨v6, a6, _, _, e6⟩ := pick_ok hb (p + 1 + 1 + 1 + 1 + 1) 30 (by omega) (by omega)
  obtain ⟨v7, a7, b7, _, e7⟩ := pick_ok hb (p + 1 + 1 + 1 + 1 + 1 + 1) 3 (by omega) (by omega)
  obtain ⟨v8, a8, b8, _, e8⟩ := pick_ok hb (p + 1 + 1 + 1 + 1 + 1 + 1) 4 (by omega) (by omega)
  obtain ⟨v9, a9, b9, _, e9⟩ := pick_ok hb (p + 1 + 1 + 1 + 1 + 1 + 1 + 1) 3 (by omega) (by omega)
  have n7 := b7 (by omega)
  have n8 := b8 (by omega)
  have n9 := b9 (by omega)
  obtain ⟨y, hy⟩ : ∃ y : List Int, y = [wrap64 (1 + v2), wrap64 (1 + v3), wrap64 (1 + v4), v5] := ⟨_, rfl⟩
  have yl : (y.length : Int) = 4 := by rw [hy]; rfl
  have st : ∀ k, 1 ≤ k → spec_l92Kitchen.f k b p = (if v6 = 0 then some (rd [(-1), 0, 10] v7, y, p + 1 + 1 + 1 + 1 + 1 + 1 + 1) else if v6 = 1 then some (wrap64 (3 + v1), y.set v8.toNat (rd [(-1), 0, 4] v9), p + 1 + 1 + 1 + 1 + 1 + 1 + 1 + 1) else if v6 = 2 then some (wrap64 (3 + v1), y.take v8.toNat, p + 1 + 1 + 1 + 1 + 1 + 1 + 1) else some (wrap64 (3 + v1), y, p + 1 + 1 + 1 + 1 + 1 + 1)) := by
    intro k hk
    unfold spec_l92Kitchen.f
    rw [e1 k hk]
    simp only [bsome]
    rw [e2 k hk]
    simp only [bsome]
    rw [e3 k hk]
    simp only [bsome]
    rw [e4 k hk]
    simp only [bsome]
    rw [e5 k hk]
    simp only [bsome]
    rw [e6 k hk, ← hy]
    simp only [bsome]
    rw [e7 k hk, e8 k hk]
    simp only [bsome]
    rw [e9 k hk]
    simp only [bsome]
    have l1 : v7 < (([(-1), 0, 10] : List Int).length : Int) := n7
    have l2 : v9 < (([(-1), 0, 4] : List Int).length : Int) := n9
    rw [if_pos a7, if_pos l1, if_pos a9, if_pos l2, if_pos a8, if_pos (show v8 < (y.length : Int) by omega), if_pos (show v8 ≤ (y.length : Int) by omega)]
    simp only [a8, if_true]
  by_cases c0 : v6 = 0
  · exact ⟨_, y, p + 1 + 1 + 1 + 1 + 1 + 1 + 1, by omega, by omega, by omega, fun k hk => by rw [st k hk, if_pos c0]⟩
  · by_cases c1 : v6 = 1
    · exact ⟨_, y.set v8.toNat (rd [(-1), 0, 4] v9), p + 1 + 1 + 1 + 1 + 1 + 1 + 1 + 1, by rw [List.length_set]; omega, by omega, by omega, fun k hk => by rw [st k hk, if_neg c0, if_pos c1]⟩
    · by_cases c2 : v6 = 2
      · exact ⟨_, y.take v8.toNat, p + 1 + 1 + 1 + 1 + 1 + 1 + 1, by rw [List.length_take]; omega, by omega, by omega, fun k hk => by rw [st k hk, if_neg c0, if_neg c1, if_pos c2]⟩
      · exact ⟨_, y, p + 1 + 1 + 1 + 1 + 1 + 1, by omega, by omega, by omega, fun k hk => by rw [st k hk, if_neg c0, if_neg c1, if_neg c2]⟩

end Go.Proofs.Ytldenfgphnhaiaa.B
