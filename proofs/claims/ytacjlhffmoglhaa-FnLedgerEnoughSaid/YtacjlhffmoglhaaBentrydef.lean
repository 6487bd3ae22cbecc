/- Lemmas about the printed functions (entrydef). -/
import Derived.Test.YtacjlhffmoglhaaPAllx0
import Derived.Test.YtacjlhffmoglhaaBbase
import Derived.Test.YtacjlhffmoglhaaBwithin
namespace Go.Proofs.Ytacjlhffmoglhaa.B
open Go.RowKit Go.Proofs.Ytacjlhffmoglhaa.PAll Go.Proofs.YtacjlhffmoglhaaW.PrintWords Go.Proofs.YtacjlhffmoglhaaW.PrintLast
set_option linter.unusedVariables false
set_option linter.unusedSimpArgs false

/-! #### entries of a ledger: reading, what they leave, what is valid -/
theorem rd_entry (l : List S40) (i : Nat) (h : i < l.length) : rd_T40 l (i : Int) = l[i] := by
  unfold rd_T40
  rw [Int.toNat_natCast, List.getD_eq_getElem?_getD, List.getElem?_eq_getElem h]
  rfl
theorem drop_entry (l : List S40) (i : Nat) (h : i < l.length) : l.drop i = rd_T40 l (i : Int) :: l.drop (i + 1) := by
  rw [rd_entry l i h, List.drop_eq_getElem_cons h]
theorem take_entry (l : List S40) (i : Nat) (h : i < l.length) : l.take (i + 1) = l.take i ++ [rd_T40 l (i : Int)] := by
  rw [rd_entry l i h, List.take_succ_eq_append_getElem h]
theorem up (i : Nat) : (i : Int) + 1 = ((i + 1 : Nat) : Int) := by omega
def okE (x : S40) : Prop := (1 ≤ x.f0 ∧ x.f0 ≤ 3) ∧ (1 ≤ x.f1 ∧ x.f1 ≤ 20) ∧ (1 ≤ x.f2 ∧ x.f2 ≤ 9999)
instance (x : S40) : Decidable (okE x) := by unfold okE; infer_instance
/-- what an entry adds to what is left of a food -/
def sg (x : S40) (f : Int) : Int := if x.f1 = f then (if x.f0 = 1 then x.f2 else -x.f2) else 0
def bal : List S40 → Int → Int
  | [], _ => 0
  | x :: xs, f => sg x f + bal xs f
theorem bal_append (a b : List S40) (f : Int) : bal (a ++ b) f = bal a f + bal b f := by
  induction a with
  | nil => rw [List.nil_append, bal, Int.zero_add]
  | cons x xs ih => rw [List.cons_append, bal, bal, ih, Int.add_assoc]
theorem bal_snoc (a : List S40) (x : S40) (f : Int) : bal (a ++ [x]) f = bal a f + sg x f := by
  rw [bal_append, bal, bal, Int.add_zero]
theorem sg_range (x : S40) (h : okE x) (f : Int) : -9999 ≤ sg x f ∧ sg x f ≤ 9999 := by
  obtain ⟨_, _, h3⟩ := h
  unfold sg
  split
  · split <;> omega
  · omega
theorem bal_range (f : Int) : ∀ l : List S40, (∀ x ∈ l, okE x) → -(9999 * (l.length : Int)) ≤ bal l f ∧ bal l f ≤ 9999 * (l.length : Int) := by
  intro l
  induction l with
  | nil => intro _; simp [bal]
  | cons x xs ih =>
    intro h
    have a := ih fun y hy => h y (List.mem_cons_of_mem _ hy)
    have b := sg_range x (h x (List.mem_cons_self ..)) f
    rw [bal, List.length_cons]
    omega
/-- an entry of a food and a kind -/
def sk (x : S40) (f q : Int) : Int := if x.f1 = f then (if x.f0 = q then x.f2 else 0) else 0
def sm : List S40 → Int → Int → Int
  | [], _, _ => 0
  | x :: xs, f, q => sk x f q + sm xs f q
theorem sm_append (a b : List S40) (f q : Int) : sm (a ++ b) f q = sm a f q + sm b f q := by
  induction a with
  | nil => rw [List.nil_append, sm, Int.zero_add]
  | cons x xs ih => rw [List.cons_append, sm, sm, ih, Int.add_assoc]
theorem sm_snoc (a : List S40) (x : S40) (f q : Int) : sm (a ++ [x]) f q = sm a f q + sk x f q := by
  rw [sm_append, sm, sm, Int.add_zero]
theorem sk_range (x : S40) (h : okE x) (f q : Int) : 0 ≤ sk x f q ∧ sk x f q ≤ 9999 := by
  obtain ⟨_, _, h3⟩ := h
  unfold sk
  split
  · split <;> omega
  · omega
theorem sm_range (f q : Int) : ∀ l : List S40, (∀ x ∈ l, okE x) → 0 ≤ sm l f q ∧ sm l f q ≤ 9999 * (l.length : Int) := by
  intro l
  induction l with
  | nil => intro _; simp [sm]
  | cons x xs ih =>
    intro h
    have a := ih fun y hy => h y (List.mem_cons_of_mem _ hy)
    have b := sk_range x (h x (List.mem_cons_self ..)) f q
    rw [sm, List.length_cons]
    omega
theorem sg_sk (x : S40) (h : okE x) (f : Int) : sg x f = sk x f 1 - sk x f 2 - sk x f 3 := by
  obtain ⟨h1, _, _⟩ := h
  unfold sg sk
  by_cases a : x.f1 = f
  · rw [if_pos a, if_pos a, if_pos a, if_pos a]
    rcases (by omega : x.f0 = 1 ∨ x.f0 = 2 ∨ x.f0 = 3) with e | e | e <;> rw [e] <;> simp
  · rw [if_neg a, if_neg a, if_neg a, if_neg a]
    rfl
theorem bal_sm (f : Int) : ∀ l : List S40, (∀ x ∈ l, okE x) → bal l f = sm l f 1 - sm l f 2 - sm l f 3 := by
  intro l
  induction l with
  | nil => intro _; rfl
  | cons x xs ih =>
    intro h
    rw [bal, sm, sm, sm, ih fun y hy => h y (List.mem_cons_of_mem _ hy), sg_sk x (h x (List.mem_cons_self ..))]
    omega
def allN (f : Nat → Bool) : Nat → Nat → Bool
  | 0, _ => true
  | d + 1, i => f i && allN f d (i + 1)
theorem allN_iff (f : Nat → Bool) : ∀ (d i : Nat), allN f d i = true ↔ ∀ j, i ≤ j → j < i + d → f j = true := by
  intro d
  induction d with
  | zero => exact fun i => ⟨fun _ j h1 h2 => by omega, fun _ => rfl⟩
  | succ d ih =>
    intro i
    simp only [allN, Bool.and_eq_true, ih]
    constructor
    · rintro ⟨h1, h2⟩ j h3 h4
      by_cases e : j = i
      · rw [e]; exact h1
      · exact h2 j (by omega) (by omega)
    · exact fun h => ⟨h i (by omega) (by omega), fun j h1 h2 => h j (by omega) (by omega)⟩
def okAt (l : List S40) (i : Nat) : Bool := decide (okE (rd_T40 l (i : Int))) && decide (0 ≤ bal (l.take (i + 1)) (rd_T40 l (i : Int)).f1)
def ledgerV (l : List S40) : Bool := allN (okAt l) l.length 0 && decide ((l.length : Int) ≤ 20)
theorem ledgerV_iff (l : List S40) : ledgerV l = true ↔ l.length ≤ 20 ∧ ∀ i : Nat, ∀ h : i < l.length, okE l[i] ∧ 0 ≤ bal (l.take (i + 1)) l[i].f1 := by
  unfold ledgerV
  rw [Bool.and_eq_true, allN_iff, decide_eq_true_eq]
  constructor
  · rintro ⟨h1, h2⟩
    refine ⟨by omega, fun i h => ?_⟩
    have q := h1 i (by omega) (by omega)
    unfold okAt at q
    rw [Bool.and_eq_true, decide_eq_true_eq, decide_eq_true_eq, rd_entry l i h] at q
    exact q
  · rintro ⟨h1, h2⟩
    refine ⟨fun i _ h => ?_, by omega⟩
    unfold okAt
    rw [Bool.and_eq_true, decide_eq_true_eq, decide_eq_true_eq, rd_entry l i (by omega)]
    exact h2 i (by omega)
theorem ledger_ok (l : List S40) (h : ledgerV l = true) : l.length ≤ 20 ∧ ∀ x ∈ l, okE x := by
  obtain ⟨h1, h2⟩ := (ledgerV_iff l).1 h
  refine ⟨h1, fun x hx => ?_⟩
  obtain ⟨i, hi, rfl⟩ := List.getElem_of_mem hx
  exact (h2 i hi).1
/-- nothing is ever less than nothing -/
theorem ledger_bal (l : List S40) (h : ledgerV l = true) (f : Int) : ∀ i : Nat, i ≤ l.length → 0 ≤ bal (l.take i) f := by
  obtain ⟨h1, h2⟩ := (ledgerV_iff l).1 h
  intro i
  induction i with
  | zero => intro _; rw [List.take_zero]; exact Int.le_refl _
  | succ i ih =>
    intro hi
    have q := h2 i (by omega)
    have e : l.take (i + 1) = l.take i ++ [l[i]] := List.take_succ_eq_append_getElem (by omega)
    by_cases c : l[i].f1 = f
    · rw [← c]
      exact q.2
    · rw [e, bal_snoc]
      have := ih (by omega)
      unfold sg
      rw [if_neg c]
      omega
theorem ledger_take (l : List S40) (h : ledgerV l = true) (m : Nat) (hm : m ≤ l.length) : ledgerV (l.take m) = true := by
  obtain ⟨h1, h2⟩ := (ledgerV_iff l).1 h
  have e : (l.take m).length = m := by rw [List.length_take]; omega
  rw [ledgerV_iff]
  refine ⟨by omega, fun i hi => ?_⟩
  rw [List.getElem_take, List.take_take, Nat.min_eq_left (by omega)]
  exact h2 i (by omega)
theorem ledger_snoc (l : List S40) (h : ledgerV l = true) (x : S40) : ledgerV (l ++ [x]) = true ↔ l.length < 20 ∧ okE x ∧ 0 ≤ bal l x.f1 + sg x x.f1 := by
  obtain ⟨h1, h2⟩ := (ledgerV_iff l).1 h
  have el : (l ++ [x]).length = l.length + 1 := by simp
  rw [ledgerV_iff]
  constructor
  · rintro ⟨a, b⟩
    have q := b l.length (by omega)
    rw [List.getElem_append_right (by omega), List.take_of_length_le (by omega), bal_snoc] at q
    simp only [Nat.sub_self, List.getElem_cons_zero] at q
    exact ⟨by omega, q⟩
  · rintro ⟨a, b, c⟩
    refine ⟨by omega, fun i hi => ?_⟩
    by_cases e : i < l.length
    · rw [List.getElem_append_left e, List.take_append_of_le_length (by omega)]
      exact h2 i e
    · obtain rfl : i = l.length := by omega
      rw [List.getElem_append_right (by omega), List.take_of_length_le (by omega), bal_snoc]
      simp only [Nat.sub_self, List.getElem_cons_zero]
      exact ⟨b, c⟩

end Go.Proofs.Ytacjlhffmoglhaa.B
