/- Lemmas about the printed functions (drawledgersum). -/
import Derived.Test.YtacjlhffmoglhaaPAllx0
import Derived.Test.YtacjlhffmoglhaaPAllx11
import Derived.Test.YtacjlhffmoglhaaBbase
import Derived.Test.YtacjlhffmoglhaaBpick
import Derived.Test.YtacjlhffmoglhaaBdrawledger
namespace Go.Proofs.Ytacjlhffmoglhaa.B
open Go.RowKit Go.Proofs.Ytacjlhffmoglhaa.PAll Go.Proofs.YtacjlhffmoglhaaW.PrintWords Go.Proofs.YtacjlhffmoglhaaW.PrintLast
set_option linter.unusedVariables false
set_option linter.unusedSimpArgs false

theorem drawLedgerSum_j0 {b : List Int} (hb : Bytes b) (l : List S40) (hl : l.length ≤ 60) (g : Bool) (hg : g = true → 0 < l.length) (p : Int) (hp0 : 0 ≤ p) (hp1 : p ≤ 9000) :
    ∃ f q : Int, ∀ k, 2 ≤ k → spec_DrawLedgerSum.j0 k l g b p = some (l, f, q) := by
  by_cases c : g = true
  · have h0 := hg c
    obtain ⟨v1, a1, a2, _, e1⟩ := pick_ok hb p (l.length : Int) hp0 (by omega)
    refine ⟨(rd_T40 l v1).f1, (rd_T40 l v1).f0, fun k hk => ?_⟩
    obtain ⟨k, rfl, hk'⟩ := rounds1 hk
    rw [spec_DrawLedgerSum.j0, if_pos c, e1 k (by omega)]
    simp only [bsome]
    rw [if_pos a1, if_pos (a2 (by omega))]
  · obtain ⟨v1, _, _, _, e1⟩ := pick_ok hb p 3 hp0 (by omega)
    obtain ⟨v2, _, _, _, e2⟩ := pick_ok hb (p + 1) 5 (by omega) (by omega)
    refine ⟨wrap64 (1 + v1), v2, fun k hk => ?_⟩
    obtain ⟨k, rfl, hk'⟩ := rounds1 hk
    rw [spec_DrawLedgerSum.j0, if_neg c, e1 k (by omega)]
    simp only [bsome]
    rw [e2 k (by omega)]
    simp only [bsome]
theorem drawLedgerSum_ok (l : List Int) (ok : CodeOk l) : ∃ l' : List S40, ∃ f q : Int, l'.length ≤ 60 ∧ ∀ k, 262 ≤ k → spec_DrawLedgerSum.f k l = some (l', f, q) := by
  obtain ⟨b, hb, e⟩ := open_ok l ok
  obtain ⟨l', p, h1, p0, p1, e1⟩ := l92Ledger_ok hb
  by_cases c : (l'.length : Int) > 0
  · obtain ⟨v, _, _, _, e2⟩ := pick_ok hb p 5 p0 (by omega)
    obtain ⟨f, q, e3⟩ := drawLedgerSum_j0 hb l' h1 (decide (v > 0)) (fun _ => by omega) (p + 1) (by omega) (by omega)
    refine ⟨l', f, q, h1, fun k hk => ?_⟩
    unfold spec_DrawLedgerSum.f
    rw [e]
    simp only [bsome]
    rw [e1 k hk]
    simp only [bsome]
    rw [if_pos c, e2 k (by omega)]
    simp only [bsome]
    exact e3 k (by omega)
  · obtain ⟨f, q, e3⟩ := drawLedgerSum_j0 hb l' h1 false (fun h => by cases h) p (by omega) (by omega)
    refine ⟨l', f, q, h1, fun k hk => ?_⟩
    unfold spec_DrawLedgerSum.f
    rw [e]
    simp only [bsome]
    rw [e1 k hk]
    simp only [bsome]
    rw [if_neg c]
    exact e3 k (by omega)

end Go.Proofs.Ytacjlhffmoglhaa.B
