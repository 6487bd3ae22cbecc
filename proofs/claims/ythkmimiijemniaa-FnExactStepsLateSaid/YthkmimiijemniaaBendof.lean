/- Lemmas about the printed functions (endof). -/
import Derived.Test.YthkmimiijemniaaPAllx0
import Derived.Test.YthkmimiijemniaaPAllx11
import Derived.Test.YthkmimiijemniaaBbase
import Derived.Test.YthkmimiijemniaaBwithin
import Derived.Test.YthkmimiijemniaaBstepsv
import Derived.Test.YthkmimiijemniaaBmaxfrom
namespace Go.Proofs.Ythkmimiijemniaa.B
open Go.RowKit Go.Proofs.Ythkmimiijemniaa.PAll Go.Proofs.YthkmimiijemniaaW.PrintWords Go.Proofs.YthkmimiijemniaaW.PrintLast
set_option linter.unusedVariables false
set_option linter.unusedSimpArgs false

theorem impl_endOf_l0 (l : List S40) (hl : l.length ≤ 1000000) (s : List Int) (hs : s.length ≤ l.length) (hr : ∀ i : Int, 0 ≤ i → i < s.length → (0 ≤ rd s i ∧ rd s i ≤ 100000) ∧ (0 ≤ (rd_T40 l i).f0 ∧ (rd_T40 l i).f0 ≤ 100000)) : ∀ (d : Nat) (i acc : Int), 0 ≤ i → i + d = s.length → ∀ k, d + 1 ≤ k →
    impl_endOf.l0 k l acc s (s.length : Int) i = some (maxFrom (fun i => rd s i + (rd_T40 l i).f0) d i acc) := by
  intro d
  induction d with
  | zero =>
    intro i acc h0 hi k hk
    obtain ⟨k, rfl, _⟩ := rounds1 (k := k) (B := 0) (by omega)
    rw [impl_endOf.l0, if_neg (by omega), maxFrom]
  | succ d ih =>
    intro i acc h0 hi k hk
    obtain ⟨k, rfl, hk'⟩ := rounds1 hk
    have h := hr i h0 (by omega)
    rw [impl_endOf.l0, if_pos (by omega), if_pos h0, if_pos (by omega), if_pos (by omega), w64 (rd s i + _) (by omega) (by omega), w64 (i + 1) (by omega) (by omega), ih (i + 1) _ (by omega) (by omega) k hk', maxFrom]
theorem impl_endOf_eq (l : List S40) (hl : l.length ≤ 1000000) (s : List Int) (hs : s.length ≤ l.length) (hr : ∀ i : Int, 0 ≤ i → i < s.length → (0 ≤ rd s i ∧ rd s i ≤ 100000) ∧ (0 ≤ (rd_T40 l i).f0 ∧ (rd_T40 l i).f0 ≤ 100000)) (k : Nat) (hk : s.length + 1 ≤ k) :
    impl_endOf.f k l s = some (maxFrom (fun i => rd s i + (rd_T40 l i).f0) s.length 0 0) := by
  unfold impl_endOf.f
  exact impl_endOf_l0 l hl s hs hr s.length 0 0 (by omega) (by omega) k hk

end Go.Proofs.Ythkmimiijemniaa.B
