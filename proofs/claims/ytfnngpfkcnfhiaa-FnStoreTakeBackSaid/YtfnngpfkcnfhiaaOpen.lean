/- What is proved: whatever reads as data of a type lies in memory as the kind of that type says (whole numbers, slices, structs, one in another). Conditions: none. -/
import Derived.Test.YtfnngpfkcnfhiaaWWords
import Derived.ChangeArms
import Derived.ProofKit
namespace Go.Proofs.Ytfnngpfkcnfhiaa.Open
open Go.RowKit Go.ChangeShapes Go.WideShapes Go.Proofs.YtfnngpfkcnfhiaaW.PrintWords

/-- Whatever reads as data of type t is of kind d, and Ok holds of it. -/
def Tr (P : Program) (t : TypeId) {α : Type} (d : Kd α) (Ok : α → Prop) : Prop :=
  ∀ {H : Type} (enc : TypeId × Value → H) (w : World) (base : Nat) (spare : Nat → Bool) (held : Bool) (fuel : Nat) (cs : List Value) (x : DataW H × List MemPlace),
    DataW.trod enc P w base spare held fuel t cs = some x → ∃ y, d.K w y cs ∧ Ok y
/-- The fields of a struct from a cell on. -/
def TrF (P : Program) (fs : List Field) (off : Nat) {α : Type} (d : Kd α) (Ok : α → Prop) : Prop :=
  ∀ {H : Type} (enc : TypeId × Value → H) (w : World) (base : Nat) (spare : Nat → Bool) (held : Bool) (cs : List Value),
    (∀ f ∈ fs, ∃ n y, DataW.trod enc P w base spare held n f.type ((cs.drop f.offset).take (P.cellsOf f.type)) = some y) → cs.length = off + d.sz → ∃ y, d.K w y (cs.drop off) ∧ Ok y
theorem list_of {α : Type} {p : Nat → α → Prop} : ∀ n, (∀ i, i < n → ∃ x, p i x) → ∃ xs : List α, xs.length = n ∧ ∀ i x, xs[i]? = some x → p i x := by
  intro n
  induction n with
  | zero => exact fun _ => ⟨[], rfl, fun i x h => by simp at h⟩
  | succ n ih =>
    intro h
    obtain ⟨xs, hl, hx⟩ := ih fun i hi => h i (by omega)
    obtain ⟨y, hy⟩ := h n (by omega)
    refine ⟨xs ++ [y], by simp [hl], fun i x hi => ?_⟩
    by_cases e : i < n
    · rw [List.getElem?_append_left (by omega)] at hi
      exact hx i x hi
    · have hil : i < (xs ++ [y]).length := (List.getElem?_eq_some_iff.1 hi).1
      rw [List.length_append, List.length_singleton] at hil
      obtain rfl : i = n := by omega
      rw [List.getElem?_append_right (by omega), hl, Nat.sub_self] at hi
      simp at hi
      rw [← hi]
      exact hy
theorem Tr.int {P : Program} {t : TypeId} {k : IntKind} (ht : P.underlying t = some (.int k)) : Tr P t (Kd.int k) (fun n => (Lit.int k n).wf = true) := by
  intro H enc w base spare held fuel cs x h
  obtain ⟨m, rfl, rfl, hw⟩ := DataW.trod_int ht h
  exact ⟨m, rfl, hw⟩
theorem Tr.iso {P : Program} {t : TypeId} {α β : Type} {d : Kd α} {Ok : α → Prop} (f : β → α) (g : α → β) (hg : ∀ a, f (g a) = a) (h : Tr P t d Ok) : Tr P t (Kd.iso d f) (fun b => Ok (f b)) := by
  intro H enc w base spare held fuel cs x hx
  obtain ⟨y, hK, ho⟩ := h enc w base spare held fuel cs x hx
  exact ⟨g y, by show d.K w (f (g y)) cs; rw [hg]; exact hK, by show Ok (f (g y)); rw [hg]; exact ho⟩
theorem TrF.one {P : Program} {f : Field} {off : Nat} {α : Type} {d : Kd α} {Ok : α → Prop} (ho : f.offset = off) (hc : P.cellsOf f.type = d.sz) (h : Tr P f.type d Ok) : TrF P [f] off d Ok := by
  intro H enc w base spare held cs hf hl
  obtain ⟨n, y, hy⟩ := hf f (List.mem_singleton.2 rfl)
  rw [ho, hc, List.take_of_length_le (by rw [List.length_drop]; omega)] at hy
  exact h enc w base spare held n _ y hy
theorem TrF.cons {P : Program} {f : Field} {fs : List Field} {off : Nat} {α β : Type} {a : Kd α} {b : Kd β} {OkA : α → Prop} {OkB : β → Prop} (ho : f.offset = off) (hc : P.cellsOf f.type = a.sz) (h : Tr P f.type a OkA) (hs : TrF P fs (off + a.sz) b OkB) :
    TrF P (f :: fs) off (Kd.pair a b) (fun y => OkA y.1 ∧ OkB y.2) := by
  intro H enc w base spare held cs hf hl
  have hl' : cs.length = off + (a.sz + b.sz) := hl
  obtain ⟨n, y, hy⟩ := hf f (List.mem_cons_self ..)
  rw [ho, hc] at hy
  obtain ⟨y1, k1, o1⟩ := h enc w base spare held n _ y hy
  obtain ⟨y2, k2, o2⟩ := hs enc w base spare held cs (fun g hg => hf g (List.mem_cons_of_mem _ hg)) (by omega)
  refine ⟨(y1, y2), ⟨(cs.drop off).take a.sz, cs.drop (off + a.sz), ?_, k1, k2⟩, o1, o2⟩
  rw [← List.drop_drop, List.take_append_drop]
theorem Tr.struct {P : Program} {t : TypeId} {fs : Array Field} {α : Type} {d : Kd α} {Ok : α → Prop} (ht : P.underlying t = some (.struct fs)) (hc : P.cellsOf t = d.sz) (h : TrF P fs.toList 0 d Ok) : Tr P t d Ok := by
  intro H enc w base spare held fuel cs x hx
  obtain ⟨xs, n, _, _, hl, hlen, hf⟩ := DataW.trod_struct ht hx
  have := h enc w base spare held cs (fun f hm => by
    obtain ⟨i, hi⟩ := List.getElem?_of_mem hm
    have hi' : fs[i]? = some f := by rw [← Array.getElem?_toList]; exact hi
    have his : i < xs.length := by
      have := (List.getElem?_eq_some_iff.1 hi).1
      rw [Array.length_toList] at this
      omega
    have e := hf i f hi'
    rw [List.getElem?_eq_getElem his] at e
    exact ⟨n, _, e⟩) (by omega)
  simpa using this
theorem Tr.slice {P : Program} {t e : TypeId} {α : Type} {d : Kd α} {Ok : α → Prop} (ht : P.underlying t = some (.slice e)) (hc : P.cellsOf e = d.sz) (h : Tr P e d Ok) : Tr P t (Kd.slice e d) (fun xs => xs.length ≤ maxLen ∧ ∀ x ∈ xs, Ok x) := by
  intro H enc w base spare held fuel cs x hx
  rcases DataW.trod_slice ht hx with ⟨rfl, _⟩ | ⟨a, len, cap, elems, rest, n, _, rfl, _, hb, hl, hm, hlen, hel, _, _⟩
  · exact ⟨[], ⟨none, 0, rfl, Nat.le_refl _, Kd.C_nil d w⟩, Nat.zero_le _, fun x hx => nomatch hx⟩
  · have each : ∀ i, i < len → ∃ y, Ok y ∧ ∃ c : List Value, c.length = d.sz ∧ d.K w y c ∧ ∀ j u, c[j]? = some u → w.cell? (a.add (i * d.sz + j)) = some u := by
      intro i hi
      have e1 := hel i hi
      rw [List.getElem?_eq_getElem (by omega), hc] at e1
      obtain ⟨c, hc1, hc2⟩ := Option.bind_eq_some_iff.1 e1
      obtain ⟨_, hcl, hcell⟩ := World.cells?_some hc1
      obtain ⟨y, hK, ho⟩ := h enc w base spare held n c _ hc2
      refine ⟨y, ho, c, hcl, hK, fun j u hu => ?_⟩
      have hj : j < d.sz := by
        have := (List.getElem?_eq_some_iff.1 hu).1
        omega
      have := hcell j hj
      rw [hu] at this
      rw [← this, Addr.add_add]
    obtain ⟨ys, hyl, hy⟩ := list_of (p := fun i y => Ok y ∧ ∃ c : List Value, c.length = d.sz ∧ d.K w y c ∧ ∀ j u, c[j]? = some u → w.cell? (a.add (i * d.sz + j)) = some u) len each
    have hmax : len ≤ 9223372036854775807 := by
      have := hm
      unfold maxLen at this
      omega
    refine ⟨ys, ⟨some a, cap, by rw [hyl], by omega, rfl, by omega, fun _ => ⟨a, rfl, fun j p hj => (hy j p hj).2⟩⟩, by omega, fun x hx => ?_⟩
    obtain ⟨i, hi⟩ := List.getElem?_of_mem hx
    exact (hy i x hi).1
end Go.Proofs.Ytfnngpfkcnfhiaa.Open
