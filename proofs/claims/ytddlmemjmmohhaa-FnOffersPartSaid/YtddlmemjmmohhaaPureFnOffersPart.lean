/- The pure statement of FnOffersPart is proved: valid offers stay valid without any one of several, and are not valid with one twice. Conditions: none. -/
import Derived.Test.YtddlmemjmmohhaaPAllx0
import Derived.Test.YtddlmemjmmohhaaPAllx5
import Derived.Test.YtddlmemjmmohhaaBbase
import Derived.Test.YtddlmemjmmohhaaBpick
import Derived.Test.YtddlmemjmmohhaaBoffers
import Derived.Test.YtddlmemjmmohhaaBdrawoffers
import Derived.Test.YtddlmemjmmohhaaBdrawoffersvalid
namespace Go.Proofs.Ytddlmemjmmohhaa.Pure
open Go.RowKit Go.Proofs.Ytddlmemjmmohhaa.PAll Go.Proofs.Ytddlmemjmmohhaa.B Go.Proofs.YtddlmemjmmohhaaW.PrintWords Go.Proofs.YtddlmemjmmohhaaW.PrintLast
set_option linter.unusedVariables false
set_option linter.unusedSimpArgs false

theorem part_law (l : List S37) (hv : offersV l = true) (m : Nat) (hm : m < l.length) :
    offersV (l.take m ++ l.drop (m + 1)) = decide ((l.length : Int) > 1) ∧ offersV (l.take (m + 1) ++ l.drop m) = false := by
  have hlen := ((offersV_iff l).1 hv).1
  match l, hlen, hm, hv with
  | [a], _, hm, hv =>
    obtain rfl : m = 0 := by simp at hm; omega
    simp [offersV, okOffer, rd_T37, allFrom] at hv ⊢
  | [a, b], _, hm, hv =>
    rcases (by simp at hm; omega : m = 0 ∨ m = 1) with rfl | rfl <;> simp [offersV, okOffer, rd_T37, allFrom] at hv ⊢ <;> omega
  | [a, b, c], _, hm, hv =>
    rcases (by simp at hm; omega : m = 0 ∨ m = 1 ∨ m = 2) with rfl | rfl | rfl <;> simp [offersV, okOffer, rd_T37, allFrom] at hv ⊢ <;> omega
theorem FnOffersPart (l0 : List Int) (ok0 : CodeOk l0) (l1 : List Int) (ok1 : CodeOk l1) : ∃ k, laws_FnOffersPart.f k l0 l1 = some true := by
  by_cases h1 : (l0.length : Int) > 1048576
  · exact ⟨0 + 1, by unfold laws_FnOffersPart.f; rw [if_pos h1]; simp only [laws_FnOffersPart.j0, if_true]⟩
  by_cases h2 : (l1.length : Int) > 1048576
  · exact ⟨0 + 1, by unfold laws_FnOffersPart.f; rw [if_neg h1, decide_eq_true h2]; simp only [laws_FnOffersPart.j0, if_true]⟩
  obtain ⟨l, hB, e⟩ := drawOffersValid_ok l0 ok0
  have hl := hB.1
  obtain ⟨k, hk⟩ : ∃ k : Nat, 20 ≤ k := ⟨20, Nat.le_refl _⟩
  refine ⟨k + 1 + 1, ?_⟩
  unfold laws_FnOffersPart.f
  rw [if_neg h1, decide_eq_false h2]
  simp only [laws_FnOffersPart.j0]
  rw [if_neg (by simp), e _ (by omega)]
  simp only [bsome]
  rw [impl_OffersValid_eq l (by omega) _ (by omega), spec_OffersValid_eq l (by omega) _ (by omega)]
  simp only [bsome, bne_self_eq_false, Bool.false_eq_true, if_false, laws_FnOffersPart.j1]
  cases hv : offersV l with
  | false => simp
  | true =>
    have hlen := ((offersV_iff l).1 hv).1
    obtain ⟨m, hm⟩ : ∃ m : Nat, (l1.length : Int) % (l.length : Int) = (m : Int) := ⟨l1.length % l.length, by omega⟩
    have hml : m < l.length := by
      have := Int.emod_lt_of_pos (l1.length : Int) (b := (l.length : Int)) (by omega)
      omega
    have w1 : wrap64 ((m : Int) + 1) = ((m + 1 : Nat) : Int) := by rw [w64 _ (by omega) (by omega)]; omega
    obtain ⟨p1, p2⟩ := part_law l hv m hml
    have n0 : ([] : List S37).length = 0 := rfl
    rw [if_neg (by simp), if_neg (by omega)]
    simp only [hm, w1, bsome, Int.toNat_natCast, List.nil_append]
    rw [if_pos (by omega), if_pos (by omega), if_pos (by rw [n0, List.length_take]; omega), if_pos (by omega), if_pos (by omega), if_pos (by rw [List.length_take, List.length_drop]; omega), if_pos (by rw [n0, List.length_take]; omega), if_pos (by rw [List.length_take, List.length_drop]; omega)]
    rw [impl_OffersValid_eq _ (by rw [List.length_append, List.length_take, List.length_drop]; omega) _ (by rw [List.length_append, List.length_take, List.length_drop]; omega), impl_OffersValid_eq _ (by rw [List.length_append, List.length_take, List.length_drop]; omega) _ (by rw [List.length_append, List.length_take, List.length_drop]; omega)]
    simp only [bsome, p1, p2]
    simp

end Go.Proofs.Ytddlmemjmmohhaa.Pure
