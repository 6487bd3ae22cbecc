/-
  No cell of these rows narrows 'for every input' (looked for: loops, veiled, ifaces, maps, wideKeys, modest, calm, conditions, laid).
  DERIVED. THE GIVEN ROWS OF THIS SEAT. 10 by the template 'for every input the law returns true; each argument reads behind the call as it read before'; 0 by the template 'total and deterministic' (their statements: YtacjlhffmoglhaaTotals.lean).
  GIVEN WITH THE SEED: the statements are not yours to turn. If you find one false, say at which input.
  Laid BY PROGRAM, IN A SANDBOX (cutbox-rows.mjs): the forced cells as the released guide's own fill.sh prints them over the translation 53e20701b711e0fc… (all of the seat's roots in one cut). By AI agents, Wed Nov 11 2026. No macro, syntax, notation, axiom, sorry.
-/
import Derived.Test.YtacjlhffmoglhaaChecked
import GoSem.Claim
import GoSem.ClaimJoined
import GoSem.ClaimMapViews
import Derived.JoinedTies
import Derived.KernelRfl
namespace Go.Proofs.Ytacjlhffmoglhaa
/- THE CELL 'sum', in the pinned program and in every row, IS THE sha256 OF THE DUMP (.gsa) THAT YtacjlhffmoglhaaProg.lean LOADS. Nothing in Lean hashes anything: it is a label: what it is worth is what the hold of that sum in a sandbox is worth. -/
noncomputable def Try.pinned : Pinned := { name := "ytacjlhffmoglhaa", sum := "53e20701b711e0fcb7e1979bc5b557eb3b163eeb2ab8a1fb0b128ae227c2b137", checked := Try.checked }
namespace Rows
def none {H : Type} : Left H := { results := [], args := [] }

/-- 'laws.FnExactLedgerValid': WHATEVER THE INPUT: true; the input reads as it did. -/
def fnExactLedgerValidSpec : ChangeSpec := { name := "fnExactLedgerValid", fn := fun _ => fun
  | [d] => { results := [.lit (.bool true)], args := [d] }
  | _ => none }
def fnExactLedgerValidRow : OpenClaim := { program := "ytacjlhffmoglhaa", sum := "53e20701b711e0fcb7e1979bc5b557eb3b163eeb2ab8a1fb0b128ae227c2b137", func := "loop.example/messkitchen/laws.FnExactLedgerValid", spec := "fnExactLedgerValid", apart := false }
def FnExactLedgerValidSaid : Prop := fnExactLedgerValidRow.holds Try.pinned (OpenSpec.ofChange fnExactLedgerValidSpec)

/-- ITS FALSE NEIGHBOUR: 'it returns false'. Refute it at one input. -/
def fnExactLedgerValidWrong : ChangeSpec := { name := "fnExactLedgerValid", fn := fun _ => fun
  | [d] => { results := [.lit (.bool false)], args := [d] }
  | _ => none }
def FnExactLedgerValidWrongFalsely : Prop := fnExactLedgerValidRow.holds Try.pinned (OpenSpec.ofChange fnExactLedgerValidWrong)

/-- 'laws.FnExactLedgerLeft': WHATEVER THE INPUT: true; the input reads as it did. -/
def fnExactLedgerLeftSpec : ChangeSpec := { name := "fnExactLedgerLeft", fn := fun _ => fun
  | [d1, d2] => { results := [.lit (.bool true)], args := [d1, d2] }
  | _ => none }
def fnExactLedgerLeftRow : OpenClaim := { program := "ytacjlhffmoglhaa", sum := "53e20701b711e0fcb7e1979bc5b557eb3b163eeb2ab8a1fb0b128ae227c2b137", func := "loop.example/messkitchen/laws.FnExactLedgerLeft", spec := "fnExactLedgerLeft", apart := false }
def FnExactLedgerLeftSaid : Prop := fnExactLedgerLeftRow.holds Try.pinned (OpenSpec.ofChange fnExactLedgerLeftSpec)

/-- ITS FALSE NEIGHBOUR: 'it returns false'. Refute it at one input. -/
def fnExactLedgerLeftWrong : ChangeSpec := { name := "fnExactLedgerLeft", fn := fun _ => fun
  | [d1, d2] => { results := [.lit (.bool false)], args := [d1, d2] }
  | _ => none }
def FnExactLedgerLeftWrongFalsely : Prop := fnExactLedgerLeftRow.holds Try.pinned (OpenSpec.ofChange fnExactLedgerLeftWrong)

/-- 'laws.FnExactLedgerSum': WHATEVER THE INPUT: true; the input reads as it did. -/
def fnExactLedgerSumSpec : ChangeSpec := { name := "fnExactLedgerSum", fn := fun _ => fun
  | [d1, d2, d3] => { results := [.lit (.bool true)], args := [d1, d2, d3] }
  | _ => none }
def fnExactLedgerSumRow : OpenClaim := { program := "ytacjlhffmoglhaa", sum := "53e20701b711e0fcb7e1979bc5b557eb3b163eeb2ab8a1fb0b128ae227c2b137", func := "loop.example/messkitchen/laws.FnExactLedgerSum", spec := "fnExactLedgerSum", apart := false }
def FnExactLedgerSumSaid : Prop := fnExactLedgerSumRow.holds Try.pinned (OpenSpec.ofChange fnExactLedgerSumSpec)

/-- ITS FALSE NEIGHBOUR: 'it returns false'. Refute it at one input. -/
def fnExactLedgerSumWrong : ChangeSpec := { name := "fnExactLedgerSum", fn := fun _ => fun
  | [d1, d2, d3] => { results := [.lit (.bool false)], args := [d1, d2, d3] }
  | _ => none }
def FnExactLedgerSumWrongFalsely : Prop := fnExactLedgerSumRow.holds Try.pinned (OpenSpec.ofChange fnExactLedgerSumWrong)

/-- 'laws.FnLedgerBegin': WHATEVER THE INPUT: true; the input reads as it did. -/
def fnLedgerBeginSpec : ChangeSpec := { name := "fnLedgerBegin", fn := fun _ => fun
  | [d1, d2] => { results := [.lit (.bool true)], args := [d1, d2] }
  | _ => none }
def fnLedgerBeginRow : OpenClaim := { program := "ytacjlhffmoglhaa", sum := "53e20701b711e0fcb7e1979bc5b557eb3b163eeb2ab8a1fb0b128ae227c2b137", func := "loop.example/messkitchen/laws.FnLedgerBegin", spec := "fnLedgerBegin", apart := false }
def FnLedgerBeginSaid : Prop := fnLedgerBeginRow.holds Try.pinned (OpenSpec.ofChange fnLedgerBeginSpec)

/-- ITS FALSE NEIGHBOUR: 'it returns false'. Refute it at one input. -/
def fnLedgerBeginWrong : ChangeSpec := { name := "fnLedgerBegin", fn := fun _ => fun
  | [d1, d2] => { results := [.lit (.bool false)], args := [d1, d2] }
  | _ => none }
def FnLedgerBeginWrongFalsely : Prop := fnLedgerBeginRow.holds Try.pinned (OpenSpec.ofChange fnLedgerBeginWrong)

/-- 'laws.FnExactLedgerAdd': WHATEVER THE INPUT: true; the input reads as it did. -/
def fnExactLedgerAddSpec : ChangeSpec := { name := "fnExactLedgerAdd", fn := fun _ => fun
  | [d1, d2] => { results := [.lit (.bool true)], args := [d1, d2] }
  | _ => none }
def fnExactLedgerAddRow : OpenClaim := { program := "ytacjlhffmoglhaa", sum := "53e20701b711e0fcb7e1979bc5b557eb3b163eeb2ab8a1fb0b128ae227c2b137", func := "loop.example/messkitchen/laws.FnExactLedgerAdd", spec := "fnExactLedgerAdd", apart := false }
def FnExactLedgerAddSaid : Prop := fnExactLedgerAddRow.holds Try.pinned (OpenSpec.ofChange fnExactLedgerAddSpec)

/-- ITS FALSE NEIGHBOUR: 'it returns false'. Refute it at one input. -/
def fnExactLedgerAddWrong : ChangeSpec := { name := "fnExactLedgerAdd", fn := fun _ => fun
  | [d1, d2] => { results := [.lit (.bool false)], args := [d1, d2] }
  | _ => none }
def FnExactLedgerAddWrongFalsely : Prop := fnExactLedgerAddRow.holds Try.pinned (OpenSpec.ofChange fnExactLedgerAddWrong)

/-- 'laws.FnLedgerLeft': WHATEVER THE INPUT: true; the input reads as it did. -/
def fnLedgerLeftSpec : ChangeSpec := { name := "fnLedgerLeft", fn := fun _ => fun
  | [d] => { results := [.lit (.bool true)], args := [d] }
  | _ => none }
def fnLedgerLeftRow : OpenClaim := { program := "ytacjlhffmoglhaa", sum := "53e20701b711e0fcb7e1979bc5b557eb3b163eeb2ab8a1fb0b128ae227c2b137", func := "loop.example/messkitchen/laws.FnLedgerLeft", spec := "fnLedgerLeft", apart := false }
def FnLedgerLeftSaid : Prop := fnLedgerLeftRow.holds Try.pinned (OpenSpec.ofChange fnLedgerLeftSpec)

/-- ITS FALSE NEIGHBOUR: 'it returns false'. Refute it at one input. -/
def fnLedgerLeftWrong : ChangeSpec := { name := "fnLedgerLeft", fn := fun _ => fun
  | [d] => { results := [.lit (.bool false)], args := [d] }
  | _ => none }
def FnLedgerLeftWrongFalsely : Prop := fnLedgerLeftRow.holds Try.pinned (OpenSpec.ofChange fnLedgerLeftWrong)

/-- 'laws.FnLedgerSum': WHATEVER THE INPUT: true; the input reads as it did. -/
def fnLedgerSumSpec : ChangeSpec := { name := "fnLedgerSum", fn := fun _ => fun
  | [d] => { results := [.lit (.bool true)], args := [d] }
  | _ => none }
def fnLedgerSumRow : OpenClaim := { program := "ytacjlhffmoglhaa", sum := "53e20701b711e0fcb7e1979bc5b557eb3b163eeb2ab8a1fb0b128ae227c2b137", func := "loop.example/messkitchen/laws.FnLedgerSum", spec := "fnLedgerSum", apart := false }
def FnLedgerSumSaid : Prop := fnLedgerSumRow.holds Try.pinned (OpenSpec.ofChange fnLedgerSumSpec)

/-- ITS FALSE NEIGHBOUR: 'it returns false'. Refute it at one input. -/
def fnLedgerSumWrong : ChangeSpec := { name := "fnLedgerSum", fn := fun _ => fun
  | [d] => { results := [.lit (.bool false)], args := [d] }
  | _ => none }
def FnLedgerSumWrongFalsely : Prop := fnLedgerSumRow.holds Try.pinned (OpenSpec.ofChange fnLedgerSumWrong)

/-- 'laws.FnLedgerEnough': WHATEVER THE INPUT: true; the input reads as it did. -/
def fnLedgerEnoughSpec : ChangeSpec := { name := "fnLedgerEnough", fn := fun _ => fun
  | [d] => { results := [.lit (.bool true)], args := [d] }
  | _ => none }
def fnLedgerEnoughRow : OpenClaim := { program := "ytacjlhffmoglhaa", sum := "53e20701b711e0fcb7e1979bc5b557eb3b163eeb2ab8a1fb0b128ae227c2b137", func := "loop.example/messkitchen/laws.FnLedgerEnough", spec := "fnLedgerEnough", apart := false }
def FnLedgerEnoughSaid : Prop := fnLedgerEnoughRow.holds Try.pinned (OpenSpec.ofChange fnLedgerEnoughSpec)

/-- ITS FALSE NEIGHBOUR: 'it returns false'. Refute it at one input. -/
def fnLedgerEnoughWrong : ChangeSpec := { name := "fnLedgerEnough", fn := fun _ => fun
  | [d] => { results := [.lit (.bool false)], args := [d] }
  | _ => none }
def FnLedgerEnoughWrongFalsely : Prop := fnLedgerEnoughRow.holds Try.pinned (OpenSpec.ofChange fnLedgerEnoughWrong)

/-- 'laws.FnLedgerOther': WHATEVER THE INPUT: true; the input reads as it did. -/
def fnLedgerOtherSpec : ChangeSpec := { name := "fnLedgerOther", fn := fun _ => fun
  | [d] => { results := [.lit (.bool true)], args := [d] }
  | _ => none }
def fnLedgerOtherRow : OpenClaim := { program := "ytacjlhffmoglhaa", sum := "53e20701b711e0fcb7e1979bc5b557eb3b163eeb2ab8a1fb0b128ae227c2b137", func := "loop.example/messkitchen/laws.FnLedgerOther", spec := "fnLedgerOther", apart := false }
def FnLedgerOtherSaid : Prop := fnLedgerOtherRow.holds Try.pinned (OpenSpec.ofChange fnLedgerOtherSpec)

/-- ITS FALSE NEIGHBOUR: 'it returns false'. Refute it at one input. -/
def fnLedgerOtherWrong : ChangeSpec := { name := "fnLedgerOther", fn := fun _ => fun
  | [d] => { results := [.lit (.bool false)], args := [d] }
  | _ => none }
def FnLedgerOtherWrongFalsely : Prop := fnLedgerOtherRow.holds Try.pinned (OpenSpec.ofChange fnLedgerOtherWrong)

/-- 'laws.FnLedgerAdd': WHATEVER THE INPUT: true; the input reads as it did. -/
def fnLedgerAddSpec : ChangeSpec := { name := "fnLedgerAdd", fn := fun _ => fun
  | [d] => { results := [.lit (.bool true)], args := [d] }
  | _ => none }
def fnLedgerAddRow : OpenClaim := { program := "ytacjlhffmoglhaa", sum := "53e20701b711e0fcb7e1979bc5b557eb3b163eeb2ab8a1fb0b128ae227c2b137", func := "loop.example/messkitchen/laws.FnLedgerAdd", spec := "fnLedgerAdd", apart := false }
def FnLedgerAddSaid : Prop := fnLedgerAddRow.holds Try.pinned (OpenSpec.ofChange fnLedgerAddSpec)

/-- ITS FALSE NEIGHBOUR: 'it returns false'. Refute it at one input. -/
def fnLedgerAddWrong : ChangeSpec := { name := "fnLedgerAdd", fn := fun _ => fun
  | [d] => { results := [.lit (.bool false)], args := [d] }
  | _ => none }
def FnLedgerAddWrongFalsely : Prop := fnLedgerAddRow.holds Try.pinned (OpenSpec.ofChange fnLedgerAddWrong)

/- THE SECOND FORM. 'bulk': how many values and letters a reading holds, each counted each time it is reached (what is shared counts as often as it is met; a slice's spare places count too). A statement '..UptoSaid' is the law's where the arguments, and the package variables that the reading takes, are together of bulk at most 1048576: NARROWER than '..Said'. Prove '..Said' where nothing that the law and all that it calls make is longer than what came in: it says more and counts as full. Else prove '..UptoSaid'. A law counts once. -/
mutual
def uptoBulk {H : Type} : DataW H → Nat
  | .lit (.string bytes) => bytes.length + 1
  | .lit _ => 1
  | .nil => 1
  | .ptr d => uptoBulk d + 1
  | .slice elems spare => uptoBulkAll elems + uptoBulkAll spare + 1
  | .agg parts => uptoBulkAll parts + 1
  | .iface _ d => uptoBulk d + 1
  | .map entries => uptoBulkEntries entries + 1
  | .held _ => 1
def uptoBulkAll {H : Type} : List (DataW H) → Nat
  | [] => 0
  | d :: r => uptoBulk d + uptoBulkAll r
def uptoBulkEntries {H : Type} : List (Lit × DataW H) → Nat
  | [] => 0
  | x :: r => uptoBulkEntry x + uptoBulkEntries r
def uptoBulkEntry {H : Type} : Lit × DataW H → Nat
  | (.string bytes, d) => bytes.length + uptoBulk d + 1
  | (_, d) => uptoBulk d + 1
 end
def uptoSmall : (H : Type) → List (DataW H) → Bool := fun _ ds => decide (uptoBulkAll ds ≤ 1048576)
def OpenSpec.upto (s : _root_.Go.ChangeSpec) : _root_.Go.OpenSpec := { _root_.Go.OpenSpec.ofChange s with cond := some uptoSmall }

/-- 'laws.FnExactLedgerValid', WHERE WHAT IT READS IS OF BULK AT MOST 1048576: true; the input reads as it did. -/
def fnExactLedgerValidUptoRow : OpenClaim := { program := "ytacjlhffmoglhaa", sum := "53e20701b711e0fcb7e1979bc5b557eb3b163eeb2ab8a1fb0b128ae227c2b137", func := "loop.example/messkitchen/laws.FnExactLedgerValid", spec := "fnExactLedgerValid", apart := false, narrowed := true }
def FnExactLedgerValidUptoSaid : Prop := fnExactLedgerValidUptoRow.holds Try.pinned (OpenSpec.upto fnExactLedgerValidSpec)

/-- 'laws.FnExactLedgerLeft', WHERE WHAT IT READS IS OF BULK AT MOST 1048576: true; the input reads as it did. -/
def fnExactLedgerLeftUptoRow : OpenClaim := { program := "ytacjlhffmoglhaa", sum := "53e20701b711e0fcb7e1979bc5b557eb3b163eeb2ab8a1fb0b128ae227c2b137", func := "loop.example/messkitchen/laws.FnExactLedgerLeft", spec := "fnExactLedgerLeft", apart := false, narrowed := true }
def FnExactLedgerLeftUptoSaid : Prop := fnExactLedgerLeftUptoRow.holds Try.pinned (OpenSpec.upto fnExactLedgerLeftSpec)

/-- 'laws.FnExactLedgerSum', WHERE WHAT IT READS IS OF BULK AT MOST 1048576: true; the input reads as it did. -/
def fnExactLedgerSumUptoRow : OpenClaim := { program := "ytacjlhffmoglhaa", sum := "53e20701b711e0fcb7e1979bc5b557eb3b163eeb2ab8a1fb0b128ae227c2b137", func := "loop.example/messkitchen/laws.FnExactLedgerSum", spec := "fnExactLedgerSum", apart := false, narrowed := true }
def FnExactLedgerSumUptoSaid : Prop := fnExactLedgerSumUptoRow.holds Try.pinned (OpenSpec.upto fnExactLedgerSumSpec)

/-- 'laws.FnLedgerBegin', WHERE WHAT IT READS IS OF BULK AT MOST 1048576: true; the input reads as it did. -/
def fnLedgerBeginUptoRow : OpenClaim := { program := "ytacjlhffmoglhaa", sum := "53e20701b711e0fcb7e1979bc5b557eb3b163eeb2ab8a1fb0b128ae227c2b137", func := "loop.example/messkitchen/laws.FnLedgerBegin", spec := "fnLedgerBegin", apart := false, narrowed := true }
def FnLedgerBeginUptoSaid : Prop := fnLedgerBeginUptoRow.holds Try.pinned (OpenSpec.upto fnLedgerBeginSpec)

/-- 'laws.FnExactLedgerAdd', WHERE WHAT IT READS IS OF BULK AT MOST 1048576: true; the input reads as it did. -/
def fnExactLedgerAddUptoRow : OpenClaim := { program := "ytacjlhffmoglhaa", sum := "53e20701b711e0fcb7e1979bc5b557eb3b163eeb2ab8a1fb0b128ae227c2b137", func := "loop.example/messkitchen/laws.FnExactLedgerAdd", spec := "fnExactLedgerAdd", apart := false, narrowed := true }
def FnExactLedgerAddUptoSaid : Prop := fnExactLedgerAddUptoRow.holds Try.pinned (OpenSpec.upto fnExactLedgerAddSpec)

/-- 'laws.FnLedgerLeft', WHERE WHAT IT READS IS OF BULK AT MOST 1048576: true; the input reads as it did. -/
def fnLedgerLeftUptoRow : OpenClaim := { program := "ytacjlhffmoglhaa", sum := "53e20701b711e0fcb7e1979bc5b557eb3b163eeb2ab8a1fb0b128ae227c2b137", func := "loop.example/messkitchen/laws.FnLedgerLeft", spec := "fnLedgerLeft", apart := false, narrowed := true }
def FnLedgerLeftUptoSaid : Prop := fnLedgerLeftUptoRow.holds Try.pinned (OpenSpec.upto fnLedgerLeftSpec)

/-- 'laws.FnLedgerSum', WHERE WHAT IT READS IS OF BULK AT MOST 1048576: true; the input reads as it did. -/
def fnLedgerSumUptoRow : OpenClaim := { program := "ytacjlhffmoglhaa", sum := "53e20701b711e0fcb7e1979bc5b557eb3b163eeb2ab8a1fb0b128ae227c2b137", func := "loop.example/messkitchen/laws.FnLedgerSum", spec := "fnLedgerSum", apart := false, narrowed := true }
def FnLedgerSumUptoSaid : Prop := fnLedgerSumUptoRow.holds Try.pinned (OpenSpec.upto fnLedgerSumSpec)

/-- 'laws.FnLedgerEnough', WHERE WHAT IT READS IS OF BULK AT MOST 1048576: true; the input reads as it did. -/
def fnLedgerEnoughUptoRow : OpenClaim := { program := "ytacjlhffmoglhaa", sum := "53e20701b711e0fcb7e1979bc5b557eb3b163eeb2ab8a1fb0b128ae227c2b137", func := "loop.example/messkitchen/laws.FnLedgerEnough", spec := "fnLedgerEnough", apart := false, narrowed := true }
def FnLedgerEnoughUptoSaid : Prop := fnLedgerEnoughUptoRow.holds Try.pinned (OpenSpec.upto fnLedgerEnoughSpec)

/-- 'laws.FnLedgerOther', WHERE WHAT IT READS IS OF BULK AT MOST 1048576: true; the input reads as it did. -/
def fnLedgerOtherUptoRow : OpenClaim := { program := "ytacjlhffmoglhaa", sum := "53e20701b711e0fcb7e1979bc5b557eb3b163eeb2ab8a1fb0b128ae227c2b137", func := "loop.example/messkitchen/laws.FnLedgerOther", spec := "fnLedgerOther", apart := false, narrowed := true }
def FnLedgerOtherUptoSaid : Prop := fnLedgerOtherUptoRow.holds Try.pinned (OpenSpec.upto fnLedgerOtherSpec)

/-- 'laws.FnLedgerAdd', WHERE WHAT IT READS IS OF BULK AT MOST 1048576: true; the input reads as it did. -/
def fnLedgerAddUptoRow : OpenClaim := { program := "ytacjlhffmoglhaa", sum := "53e20701b711e0fcb7e1979bc5b557eb3b163eeb2ab8a1fb0b128ae227c2b137", func := "loop.example/messkitchen/laws.FnLedgerAdd", spec := "fnLedgerAdd", apart := false, narrowed := true }
def FnLedgerAddUptoSaid : Prop := fnLedgerAddUptoRow.holds Try.pinned (OpenSpec.upto fnLedgerAddSpec)

end Rows
end Go.Proofs.Ytacjlhffmoglhaa
