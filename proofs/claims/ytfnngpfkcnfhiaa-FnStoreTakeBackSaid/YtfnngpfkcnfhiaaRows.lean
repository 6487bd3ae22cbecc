/-
  No cell of these rows narrows 'for every input' (looked for: loops, veiled, ifaces, maps, wideKeys, modest, calm, conditions, laid).
  DERIVED. THE GIVEN ROWS OF THIS SEAT. 4 by the template 'for every input the law returns true; each argument reads behind the call as it read before'; 0 by the template 'total and deterministic' (their statements: YtfnngpfkcnfhiaaTotals.lean).
  GIVEN WITH THE SEED: the statements are not yours to turn. If you find one false, say at which input.
  Laid BY PROGRAM, IN A SANDBOX (cutbox-rows.mjs): the forced cells as the released guide's own fill.sh prints them over the translation 25e73f311bcfa52c… (all of the seat's roots in one cut). By AI agents, Wed Nov 11 2026. No macro, syntax, notation, axiom, sorry.
-/
import Derived.Test.YtfnngpfkcnfhiaaChecked
import GoSem.Claim
import GoSem.ClaimJoined
import GoSem.ClaimMapViews
import Derived.JoinedTies
import Derived.KernelRfl
namespace Go.Proofs.Ytfnngpfkcnfhiaa
/- THE CELL 'sum', in the pinned program and in every row, IS THE sha256 OF THE DUMP (.gsa) THAT YtfnngpfkcnfhiaaProg.lean LOADS. Nothing in Lean hashes anything: it is a label: what it is worth is what the hold of that sum in a sandbox is worth. -/
noncomputable def Try.pinned : Pinned := { name := "ytfnngpfkcnfhiaa", sum := "25e73f311bcfa52c47b116acc54f23574f62d72c0e43c3929507d111d14f8c45", checked := Try.checked }
namespace Rows
def none {H : Type} : Left H := { results := [], args := [] }

/-- 'laws.FnExactStorePut': WHATEVER THE INPUT: true; the input reads as it did. -/
def fnExactStorePutSpec : ChangeSpec := { name := "fnExactStorePut", fn := fun _ => fun
  | [d1, d2] => { results := [.lit (.bool true)], args := [d1, d2] }
  | _ => none }
def fnExactStorePutRow : OpenClaim := { program := "ytfnngpfkcnfhiaa", sum := "25e73f311bcfa52c47b116acc54f23574f62d72c0e43c3929507d111d14f8c45", func := "loop.example/messkitchen/laws.FnExactStorePut", spec := "fnExactStorePut", inPlace := ["slices.overlaps[loop.example/messkitchen/impl.Lot]"], unfollowed := true, recurses := true, apart := false }
def FnExactStorePutSaid : Prop := fnExactStorePutRow.holds Try.pinned (OpenSpec.ofChange fnExactStorePutSpec)

/-- ITS FALSE NEIGHBOUR: 'it returns false'. Refute it at one input. -/
def fnExactStorePutWrong : ChangeSpec := { name := "fnExactStorePut", fn := fun _ => fun
  | [d1, d2] => { results := [.lit (.bool false)], args := [d1, d2] }
  | _ => none }
def FnExactStorePutWrongFalsely : Prop := fnExactStorePutRow.holds Try.pinned (OpenSpec.ofChange fnExactStorePutWrong)

/-- 'laws.FnStorePut': WHATEVER THE INPUT: true; the input reads as it did. -/
def fnStorePutSpec : ChangeSpec := { name := "fnStorePut", fn := fun _ => fun
  | [d] => { results := [.lit (.bool true)], args := [d] }
  | _ => none }
def fnStorePutRow : OpenClaim := { program := "ytfnngpfkcnfhiaa", sum := "25e73f311bcfa52c47b116acc54f23574f62d72c0e43c3929507d111d14f8c45", func := "loop.example/messkitchen/laws.FnStorePut", spec := "fnStorePut", inPlace := ["slices.overlaps[loop.example/messkitchen/impl.Lot]"], unfollowed := true, recurses := true, apart := false }
def FnStorePutSaid : Prop := fnStorePutRow.holds Try.pinned (OpenSpec.ofChange fnStorePutSpec)

/-- ITS FALSE NEIGHBOUR: 'it returns false'. Refute it at one input. -/
def fnStorePutWrong : ChangeSpec := { name := "fnStorePut", fn := fun _ => fun
  | [d] => { results := [.lit (.bool false)], args := [d] }
  | _ => none }
def FnStorePutWrongFalsely : Prop := fnStorePutRow.holds Try.pinned (OpenSpec.ofChange fnStorePutWrong)

/-- 'laws.FnStoreTakeBack': WHATEVER THE INPUT: true; the input reads as it did. -/
def fnStoreTakeBackSpec : ChangeSpec := { name := "fnStoreTakeBack", fn := fun _ => fun
  | [d] => { results := [.lit (.bool true)], args := [d] }
  | _ => none }
def fnStoreTakeBackRow : OpenClaim := { program := "ytfnngpfkcnfhiaa", sum := "25e73f311bcfa52c47b116acc54f23574f62d72c0e43c3929507d111d14f8c45", func := "loop.example/messkitchen/laws.FnStoreTakeBack", spec := "fnStoreTakeBack", inPlace := ["slices.overlaps[loop.example/messkitchen/impl.Lot]"], unfollowed := true, recurses := true, apart := false }
def FnStoreTakeBackSaid : Prop := fnStoreTakeBackRow.holds Try.pinned (OpenSpec.ofChange fnStoreTakeBackSpec)

/-- ITS FALSE NEIGHBOUR: 'it returns false'. Refute it at one input. -/
def fnStoreTakeBackWrong : ChangeSpec := { name := "fnStoreTakeBack", fn := fun _ => fun
  | [d] => { results := [.lit (.bool false)], args := [d] }
  | _ => none }
def FnStoreTakeBackWrongFalsely : Prop := fnStoreTakeBackRow.holds Try.pinned (OpenSpec.ofChange fnStoreTakeBackWrong)

/-- 'laws.FnStorePutOrder': WHATEVER THE INPUT: true; the input reads as it did. -/
def fnStorePutOrderSpec : ChangeSpec := { name := "fnStorePutOrder", fn := fun _ => fun
  | [d1, d2] => { results := [.lit (.bool true)], args := [d1, d2] }
  | _ => none }
def fnStorePutOrderRow : OpenClaim := { program := "ytfnngpfkcnfhiaa", sum := "25e73f311bcfa52c47b116acc54f23574f62d72c0e43c3929507d111d14f8c45", func := "loop.example/messkitchen/laws.FnStorePutOrder", spec := "fnStorePutOrder", inPlace := ["slices.overlaps[loop.example/messkitchen/impl.Lot]"], unfollowed := true, recurses := true, apart := false }
def FnStorePutOrderSaid : Prop := fnStorePutOrderRow.holds Try.pinned (OpenSpec.ofChange fnStorePutOrderSpec)

/-- ITS FALSE NEIGHBOUR: 'it returns false'. Refute it at one input. -/
def fnStorePutOrderWrong : ChangeSpec := { name := "fnStorePutOrder", fn := fun _ => fun
  | [d1, d2] => { results := [.lit (.bool false)], args := [d1, d2] }
  | _ => none }
def FnStorePutOrderWrongFalsely : Prop := fnStorePutOrderRow.holds Try.pinned (OpenSpec.ofChange fnStorePutOrderWrong)

/- THE SECOND FORM. 'bulk': how many values and letters a reading holds, each counted each time it is reached (what is shared counts as often as it is met; a slice's spare places count too). A statement '..UptoSaid' is the law's where the arguments, and the package variables that the reading takes, are together of bulk at most 1048576: NARROWER than '..Said'. Prove '..Said' where nothing that the law and all that it calls make is longer than what came in: it says more and counts as full. Else prove '..UptoSaid'. A law counts once. -/
mutual
def uptoBulk {H : Type} : DataW H → Nat
  | .lit (.string bytes) => bytes.length + 1
  | .lit _ => 1
  | .nil => 1
  | .ptr d => uptoBulk d + 1
  | .slice elems spare => uptoBulkAll elems + uptoBulkAll spare + 1
  | .agg parts => uptoBulkAll parts + 1
  | .iface _ d => uptoBulk d + 1
  | .map entries => uptoBulkEntries entries + 1
  | .held _ => 1
def uptoBulkAll {H : Type} : List (DataW H) → Nat
  | [] => 0
  | d :: r => uptoBulk d + uptoBulkAll r
def uptoBulkEntries {H : Type} : List (Lit × DataW H) → Nat
  | [] => 0
  | x :: r => uptoBulkEntry x + uptoBulkEntries r
def uptoBulkEntry {H : Type} : Lit × DataW H → Nat
  | (.string bytes, d) => bytes.length + uptoBulk d + 1
  | (_, d) => uptoBulk d + 1
 end
def uptoSmall : (H : Type) → List (DataW H) → Bool := fun _ ds => decide (uptoBulkAll ds ≤ 1048576)
def OpenSpec.upto (s : _root_.Go.ChangeSpec) : _root_.Go.OpenSpec := { _root_.Go.OpenSpec.ofChange s with cond := some uptoSmall }

/-- 'laws.FnExactStorePut', WHERE WHAT IT READS IS OF BULK AT MOST 1048576: true; the input reads as it did. -/
def fnExactStorePutUptoRow : OpenClaim := { program := "ytfnngpfkcnfhiaa", sum := "25e73f311bcfa52c47b116acc54f23574f62d72c0e43c3929507d111d14f8c45", func := "loop.example/messkitchen/laws.FnExactStorePut", spec := "fnExactStorePut", inPlace := ["slices.overlaps[loop.example/messkitchen/impl.Lot]"], unfollowed := true, recurses := true, apart := false, narrowed := true }
def FnExactStorePutUptoSaid : Prop := fnExactStorePutUptoRow.holds Try.pinned (OpenSpec.upto fnExactStorePutSpec)

/-- 'laws.FnStorePut', WHERE WHAT IT READS IS OF BULK AT MOST 1048576: true; the input reads as it did. -/
def fnStorePutUptoRow : OpenClaim := { program := "ytfnngpfkcnfhiaa", sum := "25e73f311bcfa52c47b116acc54f23574f62d72c0e43c3929507d111d14f8c45", func := "loop.example/messkitchen/laws.FnStorePut", spec := "fnStorePut", inPlace := ["slices.overlaps[loop.example/messkitchen/impl.Lot]"], unfollowed := true, recurses := true, apart := false, narrowed := true }
def FnStorePutUptoSaid : Prop := fnStorePutUptoRow.holds Try.pinned (OpenSpec.upto fnStorePutSpec)

/-- 'laws.FnStoreTakeBack', WHERE WHAT IT READS IS OF BULK AT MOST 1048576: true; the input reads as it did. -/
def fnStoreTakeBackUptoRow : OpenClaim := { program := "ytfnngpfkcnfhiaa", sum := "25e73f311bcfa52c47b116acc54f23574f62d72c0e43c3929507d111d14f8c45", func := "loop.example/messkitchen/laws.FnStoreTakeBack", spec := "fnStoreTakeBack", inPlace := ["slices.overlaps[loop.example/messkitchen/impl.Lot]"], unfollowed := true, recurses := true, apart := false, narrowed := true }
def FnStoreTakeBackUptoSaid : Prop := fnStoreTakeBackUptoRow.holds Try.pinned (OpenSpec.upto fnStoreTakeBackSpec)

/-- 'laws.FnStorePutOrder', WHERE WHAT IT READS IS OF BULK AT MOST 1048576: true; the input reads as it did. -/
def fnStorePutOrderUptoRow : OpenClaim := { program := "ytfnngpfkcnfhiaa", sum := "25e73f311bcfa52c47b116acc54f23574f62d72c0e43c3929507d111d14f8c45", func := "loop.example/messkitchen/laws.FnStorePutOrder", spec := "fnStorePutOrder", inPlace := ["slices.overlaps[loop.example/messkitchen/impl.Lot]"], unfollowed := true, recurses := true, apart := false, narrowed := true }
def FnStorePutOrderUptoSaid : Prop := fnStorePutOrderUptoRow.holds Try.pinned (OpenSpec.upto fnStorePutOrderSpec)

end Rows
end Go.Proofs.Ytfnngpfkcnfhiaa
