/- Lemmas about the printed functions (earlyspec). -/
import Derived.Test.YthkmimiijemniaaPAllx0
import Derived.Test.YthkmimiijemniaaPAllx3
import Derived.Test.YthkmimiijemniaaBbase
import Derived.Test.YthkmimiijemniaaBwithin
import Derived.Test.YthkmimiijemniaaBstepsv
import Derived.Test.YthkmimiijemniaaBmaxfrom
import Derived.Test.YthkmimiijemniaaBearly
namespace Go.Proofs.Ythkmimiijemniaa.B
open Go.RowKit Go.Proofs.Ythkmimiijemniaa.PAll Go.Proofs.YthkmimiijemniaaW.PrintWords Go.Proofs.YthkmimiijemniaaW.PrintLast
set_option linter.unusedVariables false
set_option linter.unusedSimpArgs false

theorem spec_StepsEarly_l1 (l : List S40) (hv : stepsV l = true) (n : Nat) (hn : n < l.length) : ∀ (d : Nat) (j acc : Int), 0 ≤ j → j + d = (rd_T40 l n).f3.length → ∀ k,
    spec_StepsEarly.l1 (k + d + 1) l (early l n) n acc j = spec_StepsEarly.l0 k l (early l n ++ [maxFrom (endIn l (rd (early l n)) n) d j acc]) ((n : Int) + 1) := by
  obtain ⟨h8, h⟩ := (stepsV_iff l).1 hv
  have hs := h n (by omega) (by omega)
  intro d
  induction d with
  | zero =>
    intro j acc j0 hj k
    rw [Nat.add_zero, spec_StepsEarly.l1, if_pos (by omega), if_pos (by omega), if_neg (by omega), if_pos (by rw [early_len]; omega), w64 _ (by omega) (by omega)]
    rfl
  | succ d ih =>
    intro j acc j0 hj k
    have e := fun acc => ih (j + 1) acc (by omega) (by omega) k
    have a := (hs.2.2.2 j j0 (by omega)).1
    have r := rd_early l n _ a.1 a.2
    have rr := ev_range' l hv _ a.1 (by omega)
    have c := (h (rd (rd_T40 l n).f3 j) a.1 (by omega)).1
    rw [show k + (d + 1) + 1 = (k + d + 1) + 1 by omega]
    have jb := after_len l hv n (by omega) (by omega)
    generalize k + d + 1 = q at e ⊢
    rw [spec_StepsEarly.l1, if_pos (by omega), if_pos (by omega), if_pos (by omega), if_pos j0, if_pos a.1, if_pos (by rw [early_len]; exact a.2), if_pos (by omega), w64 (rd (early l n) (rd (rd_T40 l n).f3 j) + _) (by omega) (by omega), w64 (j + 1) (by omega) (by omega), e]
    rfl
theorem spec_StepsEarly_l0 (l : List S40) (hv : stepsV l = true) (M : Nat) (hM : Inner l M) : ∀ (d n : Nat), n + d = l.length → ∀ k, (M + 4) * d + (M + 4) * l.length + 3 ≤ k → spec_StepsEarly.l0 k l (early l n) n = some (early l l.length) := by
  intro d
  induction d with
  | zero =>
    intro n hn k hk
    obtain ⟨k, rfl⟩ : ∃ q, k = q + 1 + 1 := ⟨k - 2, by omega⟩
    rw [spec_StepsEarly.l0, if_neg (by omega), spec_StepsEarly.j1, if_neg (by simp), show n = l.length by omega]
  | succ d ih =>
    intro n hn k hk
    rw [mul_step] at hk
    have hm := hM.2.2 n (by omega) (by omega)
    obtain ⟨k, rfl⟩ : ∃ q, k = (q + (rd_T40 l n).f3.length + 1) + 1 + 1 := ⟨k - (rd_T40 l n).f3.length - 3, by omega⟩
    have e := ih (n + 1) (by omega) k (by omega)
    rw [spec_StepsEarly.l0, if_pos (by omega), spec_StepsValid_eq l M hM _ (by omega)]
    simp only [bsome]
    rw [spec_StepsEarly.j1, if_pos hv, spec_StepsEarly_l1 l hv n (by omega) _ 0 0 (by omega) (by omega) k]
    rw [early, Int.natCast_succ] at e
    exact e
theorem spec_StepsEarly_eq (l : List S40) (M : Nat) (hM : Inner l M) (k : Nat) (hk : (M + 4) * l.length + (M + 4) * l.length + 3 ≤ k) : spec_StepsEarly.f k l = some (earlyV l) := by
  unfold spec_StepsEarly.f earlyV
  by_cases hv : stepsV l = true
  · rw [if_pos hv]
    exact spec_StepsEarly_l0 l hv M hM l.length 0 (by omega) k hk
  · rw [if_neg hv]
    obtain ⟨k, rfl⟩ : ∃ q, k = q + 1 + 1 := ⟨k - 2, by omega⟩
    rw [spec_StepsEarly.l0]
    by_cases h : (0 : Int) < (l.length : Int)
    · rw [if_pos h, spec_StepsValid_eq l M hM _ (by omega)]
      simp only [bsome]
      rw [spec_StepsEarly.j1, if_neg hv]
    · rw [if_neg h, spec_StepsEarly.j1, if_neg (by simp)]

end Go.Proofs.Ythkmimiijemniaa.B
