/- The pure statement of FnStepsEarly is proved: each step starts when the last one that it waits for ends. Conditions: none. -/
import Derived.Test.YtegfpoagplpjiaaPAllx0
import Derived.Test.YtegfpoagplpjiaaPAllx20
import Derived.Test.YtegfpoagplpjiaaBbase
import Derived.Test.YtegfpoagplpjiaaBpick
import Derived.Test.YtegfpoagplpjiaaBwithin
import Derived.Test.YtegfpoagplpjiaaBstepsv
import Derived.Test.YtegfpoagplpjiaaBdrawsteps
import Derived.Test.YtegfpoagplpjiaaBstepsb
import Derived.Test.YtegfpoagplpjiaaBdrawsearly
import Derived.Test.YtegfpoagplpjiaaBmaxfrom
import Derived.Test.YtegfpoagplpjiaaBearly
import Derived.Test.YtegfpoagplpjiaaBearlyspec
import Derived.Test.YtegfpoagplpjiaaBsameints
namespace Go.Proofs.Ytegfpoagplpjiaa.Pure
open Go.RowKit Go.Proofs.Ytegfpoagplpjiaa.PAll Go.Proofs.Ytegfpoagplpjiaa.B Go.Proofs.YtegfpoagplpjiaaW.PrintWords Go.Proofs.YtegfpoagplpjiaaW.PrintLast
set_option linter.unusedVariables false
set_option linter.unusedSimpArgs false

theorem law_early_l1 (l : List S28) (hv : stepsV l = true) (n : Nat) (hn : n < l.length) : ∀ (d : Nat) (j acc : Int), 0 ≤ j → j + d = (rd_T28 l n).f3.length → ∀ k,
    laws_FnStepsEarly.l1 (k + d + 1) l (B.early l l.length) n acc j = if rd (B.early l l.length) n = maxFrom (endIn l (ev l) n) d j acc then laws_FnStepsEarly.l0 k l (B.early l l.length) ((n : Int) + 1) else some false := by
  obtain ⟨h8, h⟩ := (stepsV_iff l).1 hv
  have hs := h n (by omega) (by omega)
  intro d
  induction d with
  | zero =>
    intro j acc j0 hj k
    rw [Nat.add_zero, laws_FnStepsEarly.l1, if_pos (by omega), if_pos (by omega), if_neg (by omega), if_pos (by rw [early_len]; omega), w64 _ (by omega) (by omega), maxFrom]
  | succ d ih =>
    intro j acc j0 hj k
    have e := fun acc => ih (j + 1) acc (by omega) (by omega) k
    have a := (hs.2.2.2 j j0 (by omega)).1
    have r := rd_early l l.length _ a.1 (show rd (rd_T28 l n).f3 j < l.length by omega)
    have rr := ev_range' l hv _ a.1 (by omega)
    have c := (h (rd (rd_T28 l n).f3 j) a.1 (by omega)).1
    rw [show k + (d + 1) + 1 = (k + d + 1) + 1 by omega]
    have jb := after_len l hv n (by omega) (by omega)
    generalize k + d + 1 = q at e ⊢
    rw [laws_FnStepsEarly.l1, if_pos (by omega), if_pos (by omega), if_pos (by omega), if_pos j0, if_pos a.1, if_pos (by rw [early_len]; omega), if_pos (by omega), r, w64 (ev l (rd (rd_T28 l n).f3 j) + _) (by omega) (by omega), w64 (j + 1) (by omega) (by omega), e]
    rfl
theorem law_early_l0 (l : List S28) (hv : stepsV l = true) (M : Nat) (hM : Inner l M) : ∀ (d n : Nat), n + d = l.length → ∀ k, (M + 4) * d + 3 ≤ k → laws_FnStepsEarly.l0 k l (B.early l l.length) n = some true := by
  intro d
  induction d with
  | zero =>
    intro n hn k hk
    obtain ⟨k, rfl⟩ : ∃ q, k = q + 1 + 1 := ⟨k - 2, by omega⟩
    rw [laws_FnStepsEarly.l0, if_neg (by omega), laws_FnStepsEarly.j2, if_neg (by simp), early_len]
    simp
  | succ d ih =>
    intro n hn k hk
    rw [mul_step] at hk
    have hm := hM.2.2 n (by omega) (by omega)
    obtain ⟨k, rfl⟩ : ∃ q, k = (q + (rd_T28 l n).f3.length + 1) + 1 + 1 := ⟨k - (rd_T28 l n).f3.length - 3, by omega⟩
    have e := ih (n + 1) (by omega) k (by omega)
    rw [laws_FnStepsEarly.l0, if_pos (by omega), decide_eq_true (by rw [early_len]; omega), laws_FnStepsEarly.j2, if_pos rfl, law_early_l1 l hv n (by omega) _ 0 0 (by omega) (by omega) k,
      if_pos (by rw [rd_early l l.length n (by omega) (by omega)]; exact ev_eq l hv n (by omega) (by omega))]
    rw [Int.natCast_succ] at e
    exact e
theorem FnStepsEarly (l0 : List Int) (ok0 : CodeOk l0) : ∃ k, laws_FnStepsEarly.f k l0 = some true := by
  by_cases h1 : (l0.length : Int) > 1048576
  · exact ⟨0, by unfold laws_FnStepsEarly.f; rw [if_pos h1]⟩
  obtain ⟨l, hB, e⟩ := drawStepsEarly_ok l0 ok0
  have hM := inner_of hB
  have hl := hB.1
  have hlen : (earlyV l).length ≤ 9 := by
    unfold earlyV
    split
    · rw [early_len]; exact hl
    · exact Nat.zero_le _
  obtain ⟨k, hk⟩ : ∃ k : Nat, 2000 ≤ k := ⟨2000, Nat.le_refl _⟩
  refine ⟨k + 1, ?_⟩
  unfold laws_FnStepsEarly.f
  rw [if_neg h1, e _ (by omega)]
  simp only [bsome]
  rw [impl_StepsEarly_eq l 10 hM _ (by omega), spec_StepsEarly_eq l 10 hM _ (by omega)]
  simp only [bsome]
  rw [laws_sameInts_refl _ (by omega) _ (by omega)]
  simp only [bsome, if_true]
  rw [spec_StepsValid_eq l 10 hM _ (by omega)]
  simp only [bsome]
  rw [laws_FnStepsEarly.j0]
  by_cases hv : stepsV l = true
  · rw [hv, if_neg (by simp), earlyV, if_pos hv]
    exact law_early_l0 l hv 10 hM l.length 0 (by omega) k (by omega)
  · rw [Bool.eq_false_iff.2 hv, if_pos (by simp), laws_sameInts_refl _ (by omega) _ (by omega)]
    simp only [bsome]

end Go.Proofs.Ytegfpoagplpjiaa.Pure
