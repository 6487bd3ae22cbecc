/-
  No cell of these rows narrows 'for every input' (looked for: loops, veiled, ifaces, maps, wideKeys, modest, calm, conditions, laid).
  DERIVED. THE GIVEN ROWS OF THIS SEAT. 8 by the template 'for every input the law returns true; each argument reads behind the call as it read before'; 0 by the template 'total and deterministic' (their statements: YtleehcjhbpnmlaaTotals.lean).
  GIVEN WITH THE SEED: the statements are not yours to turn. If you find one false, say at which input.
  Laid BY PROGRAM, IN A SANDBOX (cutbox-rows.mjs): the forced cells as the released guide's own fill.sh prints them over the translation e7464d03255e98f1… (all of the seat's roots in one cut). By AI agents, Wed Nov 11 2026. No macro, syntax, notation, axiom, sorry.
-/
import Derived.Test.YtleehcjhbpnmlaaChecked
import GoSem.Claim
import GoSem.ClaimJoined
import GoSem.ClaimMapViews
import Derived.JoinedTies
import Derived.KernelRfl
namespace Go.Proofs.Ytleehcjhbpnmlaa
/- THE CELL 'sum', in the pinned program and in every row, IS THE sha256 OF THE DUMP (.gsa) THAT YtleehcjhbpnmlaaProg.lean LOADS. Nothing in Lean hashes anything: it is a label: what it is worth is what the hold of that sum in a sandbox is worth. -/
noncomputable def Try.pinned : Pinned := { name := "ytleehcjhbpnmlaa", sum := "e7464d03255e98f1607a56d76fd3c80eced0e608f03375b765df8f1fc0cde575", checked := Try.checked }
namespace Rows
def none {H : Type} : Left H := { results := [], args := [] }

/-- 'laws.FnNeedsEnergy': WHATEVER THE INPUT: true; the input reads as it did. -/
def fnNeedsEnergySpec : ChangeSpec := { name := "fnNeedsEnergy", fn := fun _ => fun
  | [d] => { results := [.lit (.bool true)], args := [d] }
  | _ => none }
def fnNeedsEnergyRow : OpenClaim := { program := "ytleehcjhbpnmlaa", sum := "e7464d03255e98f1607a56d76fd3c80eced0e608f03375b765df8f1fc0cde575", func := "loop.example/messkitchen/laws.FnNeedsEnergy", spec := "fnNeedsEnergy", unfollowed := true, recurses := true, apart := false }
def FnNeedsEnergySaid : Prop := fnNeedsEnergyRow.holds Try.pinned (OpenSpec.ofChange fnNeedsEnergySpec)

/-- ITS FALSE NEIGHBOUR: 'it returns false'. Refute it at one input. -/
def fnNeedsEnergyWrong : ChangeSpec := { name := "fnNeedsEnergy", fn := fun _ => fun
  | [d] => { results := [.lit (.bool false)], args := [d] }
  | _ => none }
def FnNeedsEnergyWrongFalsely : Prop := fnNeedsEnergyRow.holds Try.pinned (OpenSpec.ofChange fnNeedsEnergyWrong)

/-- 'laws.FnExactNeedsPrice': WHATEVER THE INPUT: true; the input reads as it did. -/
def fnExactNeedsPriceSpec : ChangeSpec := { name := "fnExactNeedsPrice", fn := fun _ => fun
  | [d1, d2] => { results := [.lit (.bool true)], args := [d1, d2] }
  | _ => none }
def fnExactNeedsPriceRow : OpenClaim := { program := "ytleehcjhbpnmlaa", sum := "e7464d03255e98f1607a56d76fd3c80eced0e608f03375b765df8f1fc0cde575", func := "loop.example/messkitchen/laws.FnExactNeedsPrice", spec := "fnExactNeedsPrice", unfollowed := true, recurses := true, apart := false }
def FnExactNeedsPriceSaid : Prop := fnExactNeedsPriceRow.holds Try.pinned (OpenSpec.ofChange fnExactNeedsPriceSpec)

/-- ITS FALSE NEIGHBOUR: 'it returns false'. Refute it at one input. -/
def fnExactNeedsPriceWrong : ChangeSpec := { name := "fnExactNeedsPrice", fn := fun _ => fun
  | [d1, d2] => { results := [.lit (.bool false)], args := [d1, d2] }
  | _ => none }
def FnExactNeedsPriceWrongFalsely : Prop := fnExactNeedsPriceRow.holds Try.pinned (OpenSpec.ofChange fnExactNeedsPriceWrong)

/-- 'laws.FnNeedsPrice': WHATEVER THE INPUT: true; the input reads as it did. -/
def fnNeedsPriceSpec : ChangeSpec := { name := "fnNeedsPrice", fn := fun _ => fun
  | [d] => { results := [.lit (.bool true)], args := [d] }
  | _ => none }
def fnNeedsPriceRow : OpenClaim := { program := "ytleehcjhbpnmlaa", sum := "e7464d03255e98f1607a56d76fd3c80eced0e608f03375b765df8f1fc0cde575", func := "loop.example/messkitchen/laws.FnNeedsPrice", spec := "fnNeedsPrice", unfollowed := true, recurses := true, apart := false }
def FnNeedsPriceSaid : Prop := fnNeedsPriceRow.holds Try.pinned (OpenSpec.ofChange fnNeedsPriceSpec)

/-- ITS FALSE NEIGHBOUR: 'it returns false'. Refute it at one input. -/
def fnNeedsPriceWrong : ChangeSpec := { name := "fnNeedsPrice", fn := fun _ => fun
  | [d] => { results := [.lit (.bool false)], args := [d] }
  | _ => none }
def FnNeedsPriceWrongFalsely : Prop := fnNeedsPriceRow.holds Try.pinned (OpenSpec.ofChange fnNeedsPriceWrong)

/-- 'laws.FnNeedsAdd': WHATEVER THE INPUT: true; the input reads as it did. -/
def fnNeedsAddSpec : ChangeSpec := { name := "fnNeedsAdd", fn := fun _ => fun
  | [d] => { results := [.lit (.bool true)], args := [d] }
  | _ => none }
def fnNeedsAddRow : OpenClaim := { program := "ytleehcjhbpnmlaa", sum := "e7464d03255e98f1607a56d76fd3c80eced0e608f03375b765df8f1fc0cde575", func := "loop.example/messkitchen/laws.FnNeedsAdd", spec := "fnNeedsAdd", unfollowed := true, recurses := true, apart := false }
def FnNeedsAddSaid : Prop := fnNeedsAddRow.holds Try.pinned (OpenSpec.ofChange fnNeedsAddSpec)

/-- ITS FALSE NEIGHBOUR: 'it returns false'. Refute it at one input. -/
def fnNeedsAddWrong : ChangeSpec := { name := "fnNeedsAdd", fn := fun _ => fun
  | [d] => { results := [.lit (.bool false)], args := [d] }
  | _ => none }
def FnNeedsAddWrongFalsely : Prop := fnNeedsAddRow.holds Try.pinned (OpenSpec.ofChange fnNeedsAddWrong)

/-- 'laws.FnNeedsShort': WHATEVER THE INPUT: true; the input reads as it did. -/
def fnNeedsShortSpec : ChangeSpec := { name := "fnNeedsShort", fn := fun _ => fun
  | [d] => { results := [.lit (.bool true)], args := [d] }
  | _ => none }
def fnNeedsShortRow : OpenClaim := { program := "ytleehcjhbpnmlaa", sum := "e7464d03255e98f1607a56d76fd3c80eced0e608f03375b765df8f1fc0cde575", func := "loop.example/messkitchen/laws.FnNeedsShort", spec := "fnNeedsShort", unfollowed := true, recurses := true, apart := false }
def FnNeedsShortSaid : Prop := fnNeedsShortRow.holds Try.pinned (OpenSpec.ofChange fnNeedsShortSpec)

/-- ITS FALSE NEIGHBOUR: 'it returns false'. Refute it at one input. -/
def fnNeedsShortWrong : ChangeSpec := { name := "fnNeedsShort", fn := fun _ => fun
  | [d] => { results := [.lit (.bool false)], args := [d] }
  | _ => none }
def FnNeedsShortWrongFalsely : Prop := fnNeedsShortRow.holds Try.pinned (OpenSpec.ofChange fnNeedsShortWrong)

/-- 'laws.FnExactNeedsShort': WHATEVER THE INPUT: true; the input reads as it did. -/
def fnExactNeedsShortSpec : ChangeSpec := { name := "fnExactNeedsShort", fn := fun _ => fun
  | [d1, d2, d3] => { results := [.lit (.bool true)], args := [d1, d2, d3] }
  | _ => none }
def fnExactNeedsShortRow : OpenClaim := { program := "ytleehcjhbpnmlaa", sum := "e7464d03255e98f1607a56d76fd3c80eced0e608f03375b765df8f1fc0cde575", func := "loop.example/messkitchen/laws.FnExactNeedsShort", spec := "fnExactNeedsShort", unfollowed := true, recurses := true, apart := false }
def FnExactNeedsShortSaid : Prop := fnExactNeedsShortRow.holds Try.pinned (OpenSpec.ofChange fnExactNeedsShortSpec)

/-- ITS FALSE NEIGHBOUR: 'it returns false'. Refute it at one input. -/
def fnExactNeedsShortWrong : ChangeSpec := { name := "fnExactNeedsShort", fn := fun _ => fun
  | [d1, d2, d3] => { results := [.lit (.bool false)], args := [d1, d2, d3] }
  | _ => none }
def FnExactNeedsShortWrongFalsely : Prop := fnExactNeedsShortRow.holds Try.pinned (OpenSpec.ofChange fnExactNeedsShortWrong)

/-- 'laws.FnExactNeedsAdd': WHATEVER THE INPUT: true; the input reads as it did. -/
def fnExactNeedsAddSpec : ChangeSpec := { name := "fnExactNeedsAdd", fn := fun _ => fun
  | [d1, d2, d3] => { results := [.lit (.bool true)], args := [d1, d2, d3] }
  | _ => none }
def fnExactNeedsAddRow : OpenClaim := { program := "ytleehcjhbpnmlaa", sum := "e7464d03255e98f1607a56d76fd3c80eced0e608f03375b765df8f1fc0cde575", func := "loop.example/messkitchen/laws.FnExactNeedsAdd", spec := "fnExactNeedsAdd", unfollowed := true, recurses := true, apart := false }
def FnExactNeedsAddSaid : Prop := fnExactNeedsAddRow.holds Try.pinned (OpenSpec.ofChange fnExactNeedsAddSpec)

/-- ITS FALSE NEIGHBOUR: 'it returns false'. Refute it at one input. -/
def fnExactNeedsAddWrong : ChangeSpec := { name := "fnExactNeedsAdd", fn := fun _ => fun
  | [d1, d2, d3] => { results := [.lit (.bool false)], args := [d1, d2, d3] }
  | _ => none }
def FnExactNeedsAddWrongFalsely : Prop := fnExactNeedsAddRow.holds Try.pinned (OpenSpec.ofChange fnExactNeedsAddWrong)

/-- 'laws.FnNeedsTogether': WHATEVER THE INPUT: true; the input reads as it did. -/
def fnNeedsTogetherSpec : ChangeSpec := { name := "fnNeedsTogether", fn := fun _ => fun
  | [d] => { results := [.lit (.bool true)], args := [d] }
  | _ => none }
def fnNeedsTogetherRow : OpenClaim := { program := "ytleehcjhbpnmlaa", sum := "e7464d03255e98f1607a56d76fd3c80eced0e608f03375b765df8f1fc0cde575", func := "loop.example/messkitchen/laws.FnNeedsTogether", spec := "fnNeedsTogether", unfollowed := true, recurses := true, apart := false }
def FnNeedsTogetherSaid : Prop := fnNeedsTogetherRow.holds Try.pinned (OpenSpec.ofChange fnNeedsTogetherSpec)

/-- ITS FALSE NEIGHBOUR: 'it returns false'. Refute it at one input. -/
def fnNeedsTogetherWrong : ChangeSpec := { name := "fnNeedsTogether", fn := fun _ => fun
  | [d] => { results := [.lit (.bool false)], args := [d] }
  | _ => none }
def FnNeedsTogetherWrongFalsely : Prop := fnNeedsTogetherRow.holds Try.pinned (OpenSpec.ofChange fnNeedsTogetherWrong)

/- THE SECOND FORM. 'bulk': how many values and letters a reading holds, each counted each time it is reached (what is shared counts as often as it is met; a slice's spare places count too). A statement '..UptoSaid' is the law's where the arguments, and the package variables that the reading takes, are together of bulk at most 1048576: NARROWER than '..Said'. Prove '..Said' where nothing that the law and all that it calls make is longer than what came in: it says more and counts as full. Else prove '..UptoSaid'. A law counts once. -/
mutual
def uptoBulk {H : Type} : DataW H → Nat
  | .lit (.string bytes) => bytes.length + 1
  | .lit _ => 1
  | .nil => 1
  | .ptr d => uptoBulk d + 1
  | .slice elems spare => uptoBulkAll elems + uptoBulkAll spare + 1
  | .agg parts => uptoBulkAll parts + 1
  | .iface _ d => uptoBulk d + 1
  | .map entries => uptoBulkEntries entries + 1
  | .held _ => 1
def uptoBulkAll {H : Type} : List (DataW H) → Nat
  | [] => 0
  | d :: r => uptoBulk d + uptoBulkAll r
def uptoBulkEntries {H : Type} : List (Lit × DataW H) → Nat
  | [] => 0
  | x :: r => uptoBulkEntry x + uptoBulkEntries r
def uptoBulkEntry {H : Type} : Lit × DataW H → Nat
  | (.string bytes, d) => bytes.length + uptoBulk d + 1
  | (_, d) => uptoBulk d + 1
 end
def uptoSmall : (H : Type) → List (DataW H) → Bool := fun _ ds => decide (uptoBulkAll ds ≤ 1048576)
def OpenSpec.upto (s : _root_.Go.ChangeSpec) : _root_.Go.OpenSpec := { _root_.Go.OpenSpec.ofChange s with cond := some uptoSmall }

/-- 'laws.FnNeedsEnergy', WHERE WHAT IT READS IS OF BULK AT MOST 1048576: true; the input reads as it did. -/
def fnNeedsEnergyUptoRow : OpenClaim := { program := "ytleehcjhbpnmlaa", sum := "e7464d03255e98f1607a56d76fd3c80eced0e608f03375b765df8f1fc0cde575", func := "loop.example/messkitchen/laws.FnNeedsEnergy", spec := "fnNeedsEnergy", unfollowed := true, recurses := true, apart := false, narrowed := true }
def FnNeedsEnergyUptoSaid : Prop := fnNeedsEnergyUptoRow.holds Try.pinned (OpenSpec.upto fnNeedsEnergySpec)

/-- 'laws.FnExactNeedsPrice', WHERE WHAT IT READS IS OF BULK AT MOST 1048576: true; the input reads as it did. -/
def fnExactNeedsPriceUptoRow : OpenClaim := { program := "ytleehcjhbpnmlaa", sum := "e7464d03255e98f1607a56d76fd3c80eced0e608f03375b765df8f1fc0cde575", func := "loop.example/messkitchen/laws.FnExactNeedsPrice", spec := "fnExactNeedsPrice", unfollowed := true, recurses := true, apart := false, narrowed := true }
def FnExactNeedsPriceUptoSaid : Prop := fnExactNeedsPriceUptoRow.holds Try.pinned (OpenSpec.upto fnExactNeedsPriceSpec)

/-- 'laws.FnNeedsPrice', WHERE WHAT IT READS IS OF BULK AT MOST 1048576: true; the input reads as it did. -/
def fnNeedsPriceUptoRow : OpenClaim := { program := "ytleehcjhbpnmlaa", sum := "e7464d03255e98f1607a56d76fd3c80eced0e608f03375b765df8f1fc0cde575", func := "loop.example/messkitchen/laws.FnNeedsPrice", spec := "fnNeedsPrice", unfollowed := true, recurses := true, apart := false, narrowed := true }
def FnNeedsPriceUptoSaid : Prop := fnNeedsPriceUptoRow.holds Try.pinned (OpenSpec.upto fnNeedsPriceSpec)

/-- 'laws.FnNeedsAdd', WHERE WHAT IT READS IS OF BULK AT MOST 1048576: true; the input reads as it did. -/
def fnNeedsAddUptoRow : OpenClaim := { program := "ytleehcjhbpnmlaa", sum := "e7464d03255e98f1607a56d76fd3c80eced0e608f03375b765df8f1fc0cde575", func := "loop.example/messkitchen/laws.FnNeedsAdd", spec := "fnNeedsAdd", unfollowed := true, recurses := true, apart := false, narrowed := true }
def FnNeedsAddUptoSaid : Prop := fnNeedsAddUptoRow.holds Try.pinned (OpenSpec.upto fnNeedsAddSpec)

/-- 'laws.FnNeedsShort', WHERE WHAT IT READS IS OF BULK AT MOST 1048576: true; the input reads as it did. -/
def fnNeedsShortUptoRow : OpenClaim := { program := "ytleehcjhbpnmlaa", sum := "e7464d03255e98f1607a56d76fd3c80eced0e608f03375b765df8f1fc0cde575", func := "loop.example/messkitchen/laws.FnNeedsShort", spec := "fnNeedsShort", unfollowed := true, recurses := true, apart := false, narrowed := true }
def FnNeedsShortUptoSaid : Prop := fnNeedsShortUptoRow.holds Try.pinned (OpenSpec.upto fnNeedsShortSpec)

/-- 'laws.FnExactNeedsShort', WHERE WHAT IT READS IS OF BULK AT MOST 1048576: true; the input reads as it did. -/
def fnExactNeedsShortUptoRow : OpenClaim := { program := "ytleehcjhbpnmlaa", sum := "e7464d03255e98f1607a56d76fd3c80eced0e608f03375b765df8f1fc0cde575", func := "loop.example/messkitchen/laws.FnExactNeedsShort", spec := "fnExactNeedsShort", unfollowed := true, recurses := true, apart := false, narrowed := true }
def FnExactNeedsShortUptoSaid : Prop := fnExactNeedsShortUptoRow.holds Try.pinned (OpenSpec.upto fnExactNeedsShortSpec)

/-- 'laws.FnExactNeedsAdd', WHERE WHAT IT READS IS OF BULK AT MOST 1048576: true; the input reads as it did. -/
def fnExactNeedsAddUptoRow : OpenClaim := { program := "ytleehcjhbpnmlaa", sum := "e7464d03255e98f1607a56d76fd3c80eced0e608f03375b765df8f1fc0cde575", func := "loop.example/messkitchen/laws.FnExactNeedsAdd", spec := "fnExactNeedsAdd", unfollowed := true, recurses := true, apart := false, narrowed := true }
def FnExactNeedsAddUptoSaid : Prop := fnExactNeedsAddUptoRow.holds Try.pinned (OpenSpec.upto fnExactNeedsAddSpec)

/-- 'laws.FnNeedsTogether', WHERE WHAT IT READS IS OF BULK AT MOST 1048576: true; the input reads as it did. -/
def fnNeedsTogetherUptoRow : OpenClaim := { program := "ytleehcjhbpnmlaa", sum := "e7464d03255e98f1607a56d76fd3c80eced0e608f03375b765df8f1fc0cde575", func := "loop.example/messkitchen/laws.FnNeedsTogether", spec := "fnNeedsTogether", unfollowed := true, recurses := true, apart := false, narrowed := true }
def FnNeedsTogetherUptoSaid : Prop := fnNeedsTogetherUptoRow.holds Try.pinned (OpenSpec.upto fnNeedsTogetherSpec)

end Rows
end Go.Proofs.Ytleehcjhbpnmlaa
