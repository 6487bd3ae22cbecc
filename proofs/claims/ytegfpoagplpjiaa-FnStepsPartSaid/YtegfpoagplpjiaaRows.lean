/-
  No cell of these rows narrows 'for every input' (looked for: loops, veiled, ifaces, maps, wideKeys, modest, calm, conditions, laid).
  DERIVED. THE GIVEN ROWS OF THIS SEAT. 13 by the template 'for every input the law returns true; each argument reads behind the call as it read before'; 0 by the template 'total and deterministic' (their statements: YtegfpoagplpjiaaTotals.lean).
  GIVEN WITH THE SEED: the statements are not yours to turn. If you find one false, say at which input.
  Laid BY PROGRAM, IN A SANDBOX (cutbox-rows.mjs): the forced cells as the released guide's own fill.sh prints them over the translation a1792af6d0216c31… (all of the seat's roots in one cut). By AI agents, Wed Nov 11 2026. No macro, syntax, notation, axiom, sorry.
-/
import Derived.Test.YtegfpoagplpjiaaChecked
import GoSem.Claim
import GoSem.ClaimJoined
import GoSem.ClaimMapViews
import Derived.JoinedTies
import Derived.KernelRfl
namespace Go.Proofs.Ytegfpoagplpjiaa
/- THE CELL 'sum', in the pinned program and in every row, IS THE sha256 OF THE DUMP (.gsa) THAT YtegfpoagplpjiaaProg.lean LOADS. Nothing in Lean hashes anything: it is a label: what it is worth is what the hold of that sum in a sandbox is worth. -/
noncomputable def Try.pinned : Pinned := { name := "ytegfpoagplpjiaa", sum := "a1792af6d0216c31cb65042f6f2e624acd9dacca1528a5f6ffd184e76bd1b2c9", checked := Try.checked }
namespace Rows
def none {H : Type} : Left H := { results := [], args := [] }

/-- 'laws.FnStepsPart': WHATEVER THE INPUT: true; the input reads as it did. -/
def fnStepsPartSpec : ChangeSpec := { name := "fnStepsPart", fn := fun _ => fun
  | [d] => { results := [.lit (.bool true)], args := [d] }
  | _ => none }
def fnStepsPartRow : OpenClaim := { program := "ytegfpoagplpjiaa", sum := "a1792af6d0216c31cb65042f6f2e624acd9dacca1528a5f6ffd184e76bd1b2c9", func := "loop.example/messkitchen/laws.FnStepsPart", spec := "fnStepsPart", apart := false }
def FnStepsPartSaid : Prop := fnStepsPartRow.holds Try.pinned (OpenSpec.ofChange fnStepsPartSpec)

/-- ITS FALSE NEIGHBOUR: 'it returns false'. Refute it at one input. -/
def fnStepsPartWrong : ChangeSpec := { name := "fnStepsPart", fn := fun _ => fun
  | [d] => { results := [.lit (.bool false)], args := [d] }
  | _ => none }
def FnStepsPartWrongFalsely : Prop := fnStepsPartRow.holds Try.pinned (OpenSpec.ofChange fnStepsPartWrong)

/-- 'laws.FnStepsWork': WHATEVER THE INPUT: true; the input reads as it did. -/
def fnStepsWorkSpec : ChangeSpec := { name := "fnStepsWork", fn := fun _ => fun
  | [d1, d2] => { results := [.lit (.bool true)], args := [d1, d2] }
  | _ => none }
def fnStepsWorkRow : OpenClaim := { program := "ytegfpoagplpjiaa", sum := "a1792af6d0216c31cb65042f6f2e624acd9dacca1528a5f6ffd184e76bd1b2c9", func := "loop.example/messkitchen/laws.FnStepsWork", spec := "fnStepsWork", apart := false }
def FnStepsWorkSaid : Prop := fnStepsWorkRow.holds Try.pinned (OpenSpec.ofChange fnStepsWorkSpec)

/-- ITS FALSE NEIGHBOUR: 'it returns false'. Refute it at one input. -/
def fnStepsWorkWrong : ChangeSpec := { name := "fnStepsWork", fn := fun _ => fun
  | [d1, d2] => { results := [.lit (.bool false)], args := [d1, d2] }
  | _ => none }
def FnStepsWorkWrongFalsely : Prop := fnStepsWorkRow.holds Try.pinned (OpenSpec.ofChange fnStepsWorkWrong)

/-- 'laws.FnExactStepsValid': WHATEVER THE INPUT: true; the input reads as it did. -/
def fnExactStepsValidSpec : ChangeSpec := { name := "fnExactStepsValid", fn := fun _ => fun
  | [d] => { results := [.lit (.bool true)], args := [d] }
  | _ => none }
def fnExactStepsValidRow : OpenClaim := { program := "ytegfpoagplpjiaa", sum := "a1792af6d0216c31cb65042f6f2e624acd9dacca1528a5f6ffd184e76bd1b2c9", func := "loop.example/messkitchen/laws.FnExactStepsValid", spec := "fnExactStepsValid", apart := false }
def FnExactStepsValidSaid : Prop := fnExactStepsValidRow.holds Try.pinned (OpenSpec.ofChange fnExactStepsValidSpec)

/-- ITS FALSE NEIGHBOUR: 'it returns false'. Refute it at one input. -/
def fnExactStepsValidWrong : ChangeSpec := { name := "fnExactStepsValid", fn := fun _ => fun
  | [d] => { results := [.lit (.bool false)], args := [d] }
  | _ => none }
def FnExactStepsValidWrongFalsely : Prop := fnExactStepsValidRow.holds Try.pinned (OpenSpec.ofChange fnExactStepsValidWrong)

/-- 'laws.FnStepsEarly': WHATEVER THE INPUT: true; the input reads as it did. -/
def fnStepsEarlySpec : ChangeSpec := { name := "fnStepsEarly", fn := fun _ => fun
  | [d] => { results := [.lit (.bool true)], args := [d] }
  | _ => none }
def fnStepsEarlyRow : OpenClaim := { program := "ytegfpoagplpjiaa", sum := "a1792af6d0216c31cb65042f6f2e624acd9dacca1528a5f6ffd184e76bd1b2c9", func := "loop.example/messkitchen/laws.FnStepsEarly", spec := "fnStepsEarly", apart := false }
def FnStepsEarlySaid : Prop := fnStepsEarlyRow.holds Try.pinned (OpenSpec.ofChange fnStepsEarlySpec)

/-- ITS FALSE NEIGHBOUR: 'it returns false'. Refute it at one input. -/
def fnStepsEarlyWrong : ChangeSpec := { name := "fnStepsEarly", fn := fun _ => fun
  | [d] => { results := [.lit (.bool false)], args := [d] }
  | _ => none }
def FnStepsEarlyWrongFalsely : Prop := fnStepsEarlyRow.holds Try.pinned (OpenSpec.ofChange fnStepsEarlyWrong)

/-- 'laws.FnStepsLonger': WHATEVER THE INPUT: true; the input reads as it did. -/
def fnStepsLongerSpec : ChangeSpec := { name := "fnStepsLonger", fn := fun _ => fun
  | [d1, d2] => { results := [.lit (.bool true)], args := [d1, d2] }
  | _ => none }
def fnStepsLongerRow : OpenClaim := { program := "ytegfpoagplpjiaa", sum := "a1792af6d0216c31cb65042f6f2e624acd9dacca1528a5f6ffd184e76bd1b2c9", func := "loop.example/messkitchen/laws.FnStepsLonger", spec := "fnStepsLonger", apart := false }
def FnStepsLongerSaid : Prop := fnStepsLongerRow.holds Try.pinned (OpenSpec.ofChange fnStepsLongerSpec)

/-- ITS FALSE NEIGHBOUR: 'it returns false'. Refute it at one input. -/
def fnStepsLongerWrong : ChangeSpec := { name := "fnStepsLonger", fn := fun _ => fun
  | [d1, d2] => { results := [.lit (.bool false)], args := [d1, d2] }
  | _ => none }
def FnStepsLongerWrongFalsely : Prop := fnStepsLongerRow.holds Try.pinned (OpenSpec.ofChange fnStepsLongerWrong)

/-- 'laws.FnStepsLength': WHATEVER THE INPUT: true; the input reads as it did. -/
def fnStepsLengthSpec : ChangeSpec := { name := "fnStepsLength", fn := fun _ => fun
  | [d] => { results := [.lit (.bool true)], args := [d] }
  | _ => none }
def fnStepsLengthRow : OpenClaim := { program := "ytegfpoagplpjiaa", sum := "a1792af6d0216c31cb65042f6f2e624acd9dacca1528a5f6ffd184e76bd1b2c9", func := "loop.example/messkitchen/laws.FnStepsLength", spec := "fnStepsLength", apart := false }
def FnStepsLengthSaid : Prop := fnStepsLengthRow.holds Try.pinned (OpenSpec.ofChange fnStepsLengthSpec)

/-- ITS FALSE NEIGHBOUR: 'it returns false'. Refute it at one input. -/
def fnStepsLengthWrong : ChangeSpec := { name := "fnStepsLength", fn := fun _ => fun
  | [d] => { results := [.lit (.bool false)], args := [d] }
  | _ => none }
def FnStepsLengthWrongFalsely : Prop := fnStepsLengthRow.holds Try.pinned (OpenSpec.ofChange fnStepsLengthWrong)

/-- 'laws.FnExactStepsWork': WHATEVER THE INPUT: true; the input reads as it did. -/
def fnExactStepsWorkSpec : ChangeSpec := { name := "fnExactStepsWork", fn := fun _ => fun
  | [d] => { results := [.lit (.bool true)], args := [d] }
  | _ => none }
def fnExactStepsWorkRow : OpenClaim := { program := "ytegfpoagplpjiaa", sum := "a1792af6d0216c31cb65042f6f2e624acd9dacca1528a5f6ffd184e76bd1b2c9", func := "loop.example/messkitchen/laws.FnExactStepsWork", spec := "fnExactStepsWork", apart := false }
def FnExactStepsWorkSaid : Prop := fnExactStepsWorkRow.holds Try.pinned (OpenSpec.ofChange fnExactStepsWorkSpec)

/-- ITS FALSE NEIGHBOUR: 'it returns false'. Refute it at one input. -/
def fnExactStepsWorkWrong : ChangeSpec := { name := "fnExactStepsWork", fn := fun _ => fun
  | [d] => { results := [.lit (.bool false)], args := [d] }
  | _ => none }
def FnExactStepsWorkWrongFalsely : Prop := fnExactStepsWorkRow.holds Try.pinned (OpenSpec.ofChange fnExactStepsWorkWrong)

/-- 'laws.FnExactStepsLength': WHATEVER THE INPUT: true; the input reads as it did. -/
def fnExactStepsLengthSpec : ChangeSpec := { name := "fnExactStepsLength", fn := fun _ => fun
  | [d] => { results := [.lit (.bool true)], args := [d] }
  | _ => none }
def fnExactStepsLengthRow : OpenClaim := { program := "ytegfpoagplpjiaa", sum := "a1792af6d0216c31cb65042f6f2e624acd9dacca1528a5f6ffd184e76bd1b2c9", func := "loop.example/messkitchen/laws.FnExactStepsLength", spec := "fnExactStepsLength", apart := false }
def FnExactStepsLengthSaid : Prop := fnExactStepsLengthRow.holds Try.pinned (OpenSpec.ofChange fnExactStepsLengthSpec)

/-- ITS FALSE NEIGHBOUR: 'it returns false'. Refute it at one input. -/
def fnExactStepsLengthWrong : ChangeSpec := { name := "fnExactStepsLength", fn := fun _ => fun
  | [d] => { results := [.lit (.bool false)], args := [d] }
  | _ => none }
def FnExactStepsLengthWrongFalsely : Prop := fnExactStepsLengthRow.holds Try.pinned (OpenSpec.ofChange fnExactStepsLengthWrong)

/-- 'laws.FnStepsLate': WHATEVER THE INPUT: true; the input reads as it did. -/
def fnStepsLateSpec : ChangeSpec := { name := "fnStepsLate", fn := fun _ => fun
  | [d] => { results := [.lit (.bool true)], args := [d] }
  | _ => none }
def fnStepsLateRow : OpenClaim := { program := "ytegfpoagplpjiaa", sum := "a1792af6d0216c31cb65042f6f2e624acd9dacca1528a5f6ffd184e76bd1b2c9", func := "loop.example/messkitchen/laws.FnStepsLate", spec := "fnStepsLate", apart := false }
def FnStepsLateSaid : Prop := fnStepsLateRow.holds Try.pinned (OpenSpec.ofChange fnStepsLateSpec)

/-- ITS FALSE NEIGHBOUR: 'it returns false'. Refute it at one input. -/
def fnStepsLateWrong : ChangeSpec := { name := "fnStepsLate", fn := fun _ => fun
  | [d] => { results := [.lit (.bool false)], args := [d] }
  | _ => none }
def FnStepsLateWrongFalsely : Prop := fnStepsLateRow.holds Try.pinned (OpenSpec.ofChange fnStepsLateWrong)

/-- 'laws.FnExactStepsEarly': WHATEVER THE INPUT: true; the input reads as it did. -/
def fnExactStepsEarlySpec : ChangeSpec := { name := "fnExactStepsEarly", fn := fun _ => fun
  | [d] => { results := [.lit (.bool true)], args := [d] }
  | _ => none }
def fnExactStepsEarlyRow : OpenClaim := { program := "ytegfpoagplpjiaa", sum := "a1792af6d0216c31cb65042f6f2e624acd9dacca1528a5f6ffd184e76bd1b2c9", func := "loop.example/messkitchen/laws.FnExactStepsEarly", spec := "fnExactStepsEarly", apart := false }
def FnExactStepsEarlySaid : Prop := fnExactStepsEarlyRow.holds Try.pinned (OpenSpec.ofChange fnExactStepsEarlySpec)

/-- ITS FALSE NEIGHBOUR: 'it returns false'. Refute it at one input. -/
def fnExactStepsEarlyWrong : ChangeSpec := { name := "fnExactStepsEarly", fn := fun _ => fun
  | [d] => { results := [.lit (.bool false)], args := [d] }
  | _ => none }
def FnExactStepsEarlyWrongFalsely : Prop := fnExactStepsEarlyRow.holds Try.pinned (OpenSpec.ofChange fnExactStepsEarlyWrong)

/-- 'laws.FnStepsLateTight': WHATEVER THE INPUT: true; the input reads as it did. -/
def fnStepsLateTightSpec : ChangeSpec := { name := "fnStepsLateTight", fn := fun _ => fun
  | [d] => { results := [.lit (.bool true)], args := [d] }
  | _ => none }
def fnStepsLateTightRow : OpenClaim := { program := "ytegfpoagplpjiaa", sum := "a1792af6d0216c31cb65042f6f2e624acd9dacca1528a5f6ffd184e76bd1b2c9", func := "loop.example/messkitchen/laws.FnStepsLateTight", spec := "fnStepsLateTight", apart := false }
def FnStepsLateTightSaid : Prop := fnStepsLateTightRow.holds Try.pinned (OpenSpec.ofChange fnStepsLateTightSpec)

/-- ITS FALSE NEIGHBOUR: 'it returns false'. Refute it at one input. -/
def fnStepsLateTightWrong : ChangeSpec := { name := "fnStepsLateTight", fn := fun _ => fun
  | [d] => { results := [.lit (.bool false)], args := [d] }
  | _ => none }
def FnStepsLateTightWrongFalsely : Prop := fnStepsLateTightRow.holds Try.pinned (OpenSpec.ofChange fnStepsLateTightWrong)

/-- 'laws.FnStepsSlack': WHATEVER THE INPUT: true; the input reads as it did. -/
def fnStepsSlackSpec : ChangeSpec := { name := "fnStepsSlack", fn := fun _ => fun
  | [d] => { results := [.lit (.bool true)], args := [d] }
  | _ => none }
def fnStepsSlackRow : OpenClaim := { program := "ytegfpoagplpjiaa", sum := "a1792af6d0216c31cb65042f6f2e624acd9dacca1528a5f6ffd184e76bd1b2c9", func := "loop.example/messkitchen/laws.FnStepsSlack", spec := "fnStepsSlack", apart := false }
def FnStepsSlackSaid : Prop := fnStepsSlackRow.holds Try.pinned (OpenSpec.ofChange fnStepsSlackSpec)

/-- ITS FALSE NEIGHBOUR: 'it returns false'. Refute it at one input. -/
def fnStepsSlackWrong : ChangeSpec := { name := "fnStepsSlack", fn := fun _ => fun
  | [d] => { results := [.lit (.bool false)], args := [d] }
  | _ => none }
def FnStepsSlackWrongFalsely : Prop := fnStepsSlackRow.holds Try.pinned (OpenSpec.ofChange fnStepsSlackWrong)

/-- 'laws.FnExactStepsLate': WHATEVER THE INPUT: true; the input reads as it did. -/
def fnExactStepsLateSpec : ChangeSpec := { name := "fnExactStepsLate", fn := fun _ => fun
  | [d1, d2] => { results := [.lit (.bool true)], args := [d1, d2] }
  | _ => none }
def fnExactStepsLateRow : OpenClaim := { program := "ytegfpoagplpjiaa", sum := "a1792af6d0216c31cb65042f6f2e624acd9dacca1528a5f6ffd184e76bd1b2c9", func := "loop.example/messkitchen/laws.FnExactStepsLate", spec := "fnExactStepsLate", apart := false }
def FnExactStepsLateSaid : Prop := fnExactStepsLateRow.holds Try.pinned (OpenSpec.ofChange fnExactStepsLateSpec)

/-- ITS FALSE NEIGHBOUR: 'it returns false'. Refute it at one input. -/
def fnExactStepsLateWrong : ChangeSpec := { name := "fnExactStepsLate", fn := fun _ => fun
  | [d1, d2] => { results := [.lit (.bool false)], args := [d1, d2] }
  | _ => none }
def FnExactStepsLateWrongFalsely : Prop := fnExactStepsLateRow.holds Try.pinned (OpenSpec.ofChange fnExactStepsLateWrong)

/- THE SECOND FORM. 'bulk': how many values and letters a reading holds, each counted each time it is reached (what is shared counts as often as it is met; a slice's spare places count too). A statement '..UptoSaid' is the law's where the arguments, and the package variables that the reading takes, are together of bulk at most 1048576: NARROWER than '..Said'. Prove '..Said' where nothing that the law and all that it calls make is longer than what came in: it says more and counts as full. Else prove '..UptoSaid'. A law counts once. -/
mutual
def uptoBulk {H : Type} : DataW H → Nat
  | .lit (.string bytes) => bytes.length + 1
  | .lit _ => 1
  | .nil => 1
  | .ptr d => uptoBulk d + 1
  | .slice elems spare => uptoBulkAll elems + uptoBulkAll spare + 1
  | .agg parts => uptoBulkAll parts + 1
  | .iface _ d => uptoBulk d + 1
  | .map entries => uptoBulkEntries entries + 1
  | .held _ => 1
def uptoBulkAll {H : Type} : List (DataW H) → Nat
  | [] => 0
  | d :: r => uptoBulk d + uptoBulkAll r
def uptoBulkEntries {H : Type} : List (Lit × DataW H) → Nat
  | [] => 0
  | x :: r => uptoBulkEntry x + uptoBulkEntries r
def uptoBulkEntry {H : Type} : Lit × DataW H → Nat
  | (.string bytes, d) => bytes.length + uptoBulk d + 1
  | (_, d) => uptoBulk d + 1
 end
def uptoSmall : (H : Type) → List (DataW H) → Bool := fun _ ds => decide (uptoBulkAll ds ≤ 1048576)
def OpenSpec.upto (s : _root_.Go.ChangeSpec) : _root_.Go.OpenSpec := { _root_.Go.OpenSpec.ofChange s with cond := some uptoSmall }

/-- 'laws.FnStepsPart', WHERE WHAT IT READS IS OF BULK AT MOST 1048576: true; the input reads as it did. -/
def fnStepsPartUptoRow : OpenClaim := { program := "ytegfpoagplpjiaa", sum := "a1792af6d0216c31cb65042f6f2e624acd9dacca1528a5f6ffd184e76bd1b2c9", func := "loop.example/messkitchen/laws.FnStepsPart", spec := "fnStepsPart", apart := false, narrowed := true }
def FnStepsPartUptoSaid : Prop := fnStepsPartUptoRow.holds Try.pinned (OpenSpec.upto fnStepsPartSpec)

/-- 'laws.FnStepsWork', WHERE WHAT IT READS IS OF BULK AT MOST 1048576: true; the input reads as it did. -/
def fnStepsWorkUptoRow : OpenClaim := { program := "ytegfpoagplpjiaa", sum := "a1792af6d0216c31cb65042f6f2e624acd9dacca1528a5f6ffd184e76bd1b2c9", func := "loop.example/messkitchen/laws.FnStepsWork", spec := "fnStepsWork", apart := false, narrowed := true }
def FnStepsWorkUptoSaid : Prop := fnStepsWorkUptoRow.holds Try.pinned (OpenSpec.upto fnStepsWorkSpec)

/-- 'laws.FnExactStepsValid', WHERE WHAT IT READS IS OF BULK AT MOST 1048576: true; the input reads as it did. -/
def fnExactStepsValidUptoRow : OpenClaim := { program := "ytegfpoagplpjiaa", sum := "a1792af6d0216c31cb65042f6f2e624acd9dacca1528a5f6ffd184e76bd1b2c9", func := "loop.example/messkitchen/laws.FnExactStepsValid", spec := "fnExactStepsValid", apart := false, narrowed := true }
def FnExactStepsValidUptoSaid : Prop := fnExactStepsValidUptoRow.holds Try.pinned (OpenSpec.upto fnExactStepsValidSpec)

/-- 'laws.FnStepsEarly', WHERE WHAT IT READS IS OF BULK AT MOST 1048576: true; the input reads as it did. -/
def fnStepsEarlyUptoRow : OpenClaim := { program := "ytegfpoagplpjiaa", sum := "a1792af6d0216c31cb65042f6f2e624acd9dacca1528a5f6ffd184e76bd1b2c9", func := "loop.example/messkitchen/laws.FnStepsEarly", spec := "fnStepsEarly", apart := false, narrowed := true }
def FnStepsEarlyUptoSaid : Prop := fnStepsEarlyUptoRow.holds Try.pinned (OpenSpec.upto fnStepsEarlySpec)

/-- 'laws.FnStepsLonger', WHERE WHAT IT READS IS OF BULK AT MOST 1048576: true; the input reads as it did. -/
def fnStepsLongerUptoRow : OpenClaim := { program := "ytegfpoagplpjiaa", sum := "a1792af6d0216c31cb65042f6f2e624acd9dacca1528a5f6ffd184e76bd1b2c9", func := "loop.example/messkitchen/laws.FnStepsLonger", spec := "fnStepsLonger", apart := false, narrowed := true }
def FnStepsLongerUptoSaid : Prop := fnStepsLongerUptoRow.holds Try.pinned (OpenSpec.upto fnStepsLongerSpec)

/-- 'laws.FnStepsLength', WHERE WHAT IT READS IS OF BULK AT MOST 1048576: true; the input reads as it did. -/
def fnStepsLengthUptoRow : OpenClaim := { program := "ytegfpoagplpjiaa", sum := "a1792af6d0216c31cb65042f6f2e624acd9dacca1528a5f6ffd184e76bd1b2c9", func := "loop.example/messkitchen/laws.FnStepsLength", spec := "fnStepsLength", apart := false, narrowed := true }
def FnStepsLengthUptoSaid : Prop := fnStepsLengthUptoRow.holds Try.pinned (OpenSpec.upto fnStepsLengthSpec)

/-- 'laws.FnExactStepsWork', WHERE WHAT IT READS IS OF BULK AT MOST 1048576: true; the input reads as it did. -/
def fnExactStepsWorkUptoRow : OpenClaim := { program := "ytegfpoagplpjiaa", sum := "a1792af6d0216c31cb65042f6f2e624acd9dacca1528a5f6ffd184e76bd1b2c9", func := "loop.example/messkitchen/laws.FnExactStepsWork", spec := "fnExactStepsWork", apart := false, narrowed := true }
def FnExactStepsWorkUptoSaid : Prop := fnExactStepsWorkUptoRow.holds Try.pinned (OpenSpec.upto fnExactStepsWorkSpec)

/-- 'laws.FnExactStepsLength', WHERE WHAT IT READS IS OF BULK AT MOST 1048576: true; the input reads as it did. -/
def fnExactStepsLengthUptoRow : OpenClaim := { program := "ytegfpoagplpjiaa", sum := "a1792af6d0216c31cb65042f6f2e624acd9dacca1528a5f6ffd184e76bd1b2c9", func := "loop.example/messkitchen/laws.FnExactStepsLength", spec := "fnExactStepsLength", apart := false, narrowed := true }
def FnExactStepsLengthUptoSaid : Prop := fnExactStepsLengthUptoRow.holds Try.pinned (OpenSpec.upto fnExactStepsLengthSpec)

/-- 'laws.FnStepsLate', WHERE WHAT IT READS IS OF BULK AT MOST 1048576: true; the input reads as it did. -/
def fnStepsLateUptoRow : OpenClaim := { program := "ytegfpoagplpjiaa", sum := "a1792af6d0216c31cb65042f6f2e624acd9dacca1528a5f6ffd184e76bd1b2c9", func := "loop.example/messkitchen/laws.FnStepsLate", spec := "fnStepsLate", apart := false, narrowed := true }
def FnStepsLateUptoSaid : Prop := fnStepsLateUptoRow.holds Try.pinned (OpenSpec.upto fnStepsLateSpec)

/-- 'laws.FnExactStepsEarly', WHERE WHAT IT READS IS OF BULK AT MOST 1048576: true; the input reads as it did. -/
def fnExactStepsEarlyUptoRow : OpenClaim := { program := "ytegfpoagplpjiaa", sum := "a1792af6d0216c31cb65042f6f2e624acd9dacca1528a5f6ffd184e76bd1b2c9", func := "loop.example/messkitchen/laws.FnExactStepsEarly", spec := "fnExactStepsEarly", apart := false, narrowed := true }
def FnExactStepsEarlyUptoSaid : Prop := fnExactStepsEarlyUptoRow.holds Try.pinned (OpenSpec.upto fnExactStepsEarlySpec)

/-- 'laws.FnStepsLateTight', WHERE WHAT IT READS IS OF BULK AT MOST 1048576: true; the input reads as it did. -/
def fnStepsLateTightUptoRow : OpenClaim := { program := "ytegfpoagplpjiaa", sum := "a1792af6d0216c31cb65042f6f2e624acd9dacca1528a5f6ffd184e76bd1b2c9", func := "loop.example/messkitchen/laws.FnStepsLateTight", spec := "fnStepsLateTight", apart := false, narrowed := true }
def FnStepsLateTightUptoSaid : Prop := fnStepsLateTightUptoRow.holds Try.pinned (OpenSpec.upto fnStepsLateTightSpec)

/-- 'laws.FnStepsSlack', WHERE WHAT IT READS IS OF BULK AT MOST 1048576: true; the input reads as it did. -/
def fnStepsSlackUptoRow : OpenClaim := { program := "ytegfpoagplpjiaa", sum := "a1792af6d0216c31cb65042f6f2e624acd9dacca1528a5f6ffd184e76bd1b2c9", func := "loop.example/messkitchen/laws.FnStepsSlack", spec := "fnStepsSlack", apart := false, narrowed := true }
def FnStepsSlackUptoSaid : Prop := fnStepsSlackUptoRow.holds Try.pinned (OpenSpec.upto fnStepsSlackSpec)

/-- 'laws.FnExactStepsLate', WHERE WHAT IT READS IS OF BULK AT MOST 1048576: true; the input reads as it did. -/
def fnExactStepsLateUptoRow : OpenClaim := { program := "ytegfpoagplpjiaa", sum := "a1792af6d0216c31cb65042f6f2e624acd9dacca1528a5f6ffd184e76bd1b2c9", func := "loop.example/messkitchen/laws.FnExactStepsLate", spec := "fnExactStepsLate", apart := false, narrowed := true }
def FnExactStepsLateUptoSaid : Prop := fnExactStepsLateUptoRow.holds Try.pinned (OpenSpec.upto fnExactStepsLateSpec)

end Rows
end Go.Proofs.Ytegfpoagplpjiaa
