/- Lemmas about the printed functions (drawslate). -/
import Derived.Test.YtegfpoagplpjiaaPAllx0
import Derived.Test.YtegfpoagplpjiaaPAllx13
import Derived.Test.YtegfpoagplpjiaaBbase
import Derived.Test.YtegfpoagplpjiaaBpick
import Derived.Test.YtegfpoagplpjiaaBwithin
import Derived.Test.YtegfpoagplpjiaaBstepsv
import Derived.Test.YtegfpoagplpjiaaBdrawsteps
import Derived.Test.YtegfpoagplpjiaaBstepsb
import Derived.Test.YtegfpoagplpjiaaBmaxfrom
import Derived.Test.YtegfpoagplpjiaaBearly
import Derived.Test.YtegfpoagplpjiaaBearlyspec
import Derived.Test.YtegfpoagplpjiaaBendof
import Derived.Test.YtegfpoagplpjiaaBlength
namespace Go.Proofs.Ytegfpoagplpjiaa.B
open Go.RowKit Go.Proofs.Ytegfpoagplpjiaa.PAll Go.Proofs.YtegfpoagplpjiaaW.PrintWords Go.Proofs.YtegfpoagplpjiaaW.PrintLast
set_option linter.unusedVariables false
set_option linter.unusedSimpArgs false

theorem drawStepsLate_ok (l0 : List Int) (ok : CodeOk l0) : ∃ (l : List S28) (e : Int), StepsB l ∧ ∀ k, 1000 ≤ k → spec_DrawStepsLate.f k l0 = some (l, e) := by
  obtain ⟨b, hb, e⟩ := open_ok l0 ok
  obtain ⟨l, p, hB, h0, h1, e1⟩ := l92Steps_ok hb 0 (by omega) (by omega)
  have hM := inner_of hB
  have hl := hB.1
  obtain ⟨v2, b1, b2, _, e2⟩ := pick_ok hb p 12 (by omega) (by omega)
  by_cases c : v2 = 0
  · obtain ⟨v3, g1, g2, _, e3⟩ := pick_ok hb (p + 1) 3 (by omega) (by omega)
    refine ⟨l, rd [(-1), 999, 1000] v3, hB, fun k hk => ?_⟩
    unfold spec_DrawStepsLate.f
    rw [e]
    simp only [bsome]
    rw [e1 k (by omega)]
    simp only [bsome]
    rw [e2 k (by omega)]
    simp only [bsome]
    rw [if_pos c, e3 k (by omega)]
    simp only [bsome]
    rw [if_pos g1, if_pos (show v3 < (([(-1), 999, 1000] : List Int).length : Int) from g2 (by omega))]
  · obtain ⟨v3, g1, g2, _, e3⟩ := pick_ok hb (p + 1) 12 (by omega) (by omega)
    refine ⟨l, wrap64 ((wrap64 (lengthV l + v3)) - 1), hB, fun k hk => ?_⟩
    unfold spec_DrawStepsLate.f
    rw [e]
    simp only [bsome]
    rw [e1 k (by omega)]
    simp only [bsome]
    rw [e2 k (by omega)]
    simp only [bsome]
    rw [if_neg c, spec_StepsLength_eq l 10 hM k (by omega)]
    simp only [bsome]
    rw [e3 k (by omega)]
    simp only [bsome]

end Go.Proofs.Ytegfpoagplpjiaa.B
