/-
  No cell of these rows narrows 'for every input' (looked for: loops, veiled, ifaces, maps, wideKeys, modest, calm, conditions, laid).
  DERIVED. THE GIVEN ROWS OF THIS SEAT. 13 by the template 'for every input the law returns true; each argument reads behind the call as it read before'; 0 by the template 'total and deterministic' (their statements: YtddlmemjmmohhaaTotals.lean).
  GIVEN WITH THE SEED: the statements are not yours to turn. If you find one false, say at which input.
  Laid BY PROGRAM, IN A SANDBOX (cutbox-rows.mjs): the forced cells as the released guide's own fill.sh prints them over the translation 28c52b5eea77f884… (all of the seat's roots in one cut). By AI agents, Wed Nov 11 2026. No macro, syntax, notation, axiom, sorry.
-/
import Derived.Test.YtddlmemjmmohhaaChecked
import GoSem.Claim
import GoSem.ClaimJoined
import GoSem.ClaimMapViews
import Derived.JoinedTies
import Derived.KernelRfl
namespace Go.Proofs.Ytddlmemjmmohhaa
/- THE CELL 'sum', in the pinned program and in every row, IS THE sha256 OF THE DUMP (.gsa) THAT YtddlmemjmmohhaaProg.lean LOADS. Nothing in Lean hashes anything: it is a label: what it is worth is what the hold of that sum in a sandbox is worth. -/
noncomputable def Try.pinned : Pinned := { name := "ytddlmemjmmohhaa", sum := "28c52b5eea77f8849dd553c66c26cd392818413a1a2e0383f541c6362f237f1c", checked := Try.checked }
namespace Rows
def none {H : Type} : Left H := { results := [], args := [] }

/-- 'laws.FnOffersPart': WHATEVER THE INPUT: true; the input reads as it did. -/
def fnOffersPartSpec : ChangeSpec := { name := "fnOffersPart", fn := fun _ => fun
  | [d1, d2] => { results := [.lit (.bool true)], args := [d1, d2] }
  | _ => none }
def fnOffersPartRow : OpenClaim := { program := "ytddlmemjmmohhaa", sum := "28c52b5eea77f8849dd553c66c26cd392818413a1a2e0383f541c6362f237f1c", func := "loop.example/messkitchen/laws.FnOffersPart", spec := "fnOffersPart", apart := false }
def FnOffersPartSaid : Prop := fnOffersPartRow.holds Try.pinned (OpenSpec.ofChange fnOffersPartSpec)

/-- ITS FALSE NEIGHBOUR: 'it returns false'. Refute it at one input. -/
def fnOffersPartWrong : ChangeSpec := { name := "fnOffersPart", fn := fun _ => fun
  | [d1, d2] => { results := [.lit (.bool false)], args := [d1, d2] }
  | _ => none }
def FnOffersPartWrongFalsely : Prop := fnOffersPartRow.holds Try.pinned (OpenSpec.ofChange fnOffersPartWrong)

/-- 'laws.FnExactOffersValid': WHATEVER THE INPUT: true; the input reads as it did. -/
def fnExactOffersValidSpec : ChangeSpec := { name := "fnExactOffersValid", fn := fun _ => fun
  | [d] => { results := [.lit (.bool true)], args := [d] }
  | _ => none }
def fnExactOffersValidRow : OpenClaim := { program := "ytddlmemjmmohhaa", sum := "28c52b5eea77f8849dd553c66c26cd392818413a1a2e0383f541c6362f237f1c", func := "loop.example/messkitchen/laws.FnExactOffersValid", spec := "fnExactOffersValid", apart := false }
def FnExactOffersValidSaid : Prop := fnExactOffersValidRow.holds Try.pinned (OpenSpec.ofChange fnExactOffersValidSpec)

/-- ITS FALSE NEIGHBOUR: 'it returns false'. Refute it at one input. -/
def fnExactOffersValidWrong : ChangeSpec := { name := "fnExactOffersValid", fn := fun _ => fun
  | [d] => { results := [.lit (.bool false)], args := [d] }
  | _ => none }
def FnExactOffersValidWrongFalsely : Prop := fnExactOffersValidRow.holds Try.pinned (OpenSpec.ofChange fnExactOffersValidWrong)

/-- 'laws.FnExactOrderLeast': WHATEVER THE INPUT: true; the input reads as it did. -/
def fnExactOrderLeastSpec : ChangeSpec := { name := "fnExactOrderLeast", fn := fun _ => fun
  | [d1, d2] => { results := [.lit (.bool true)], args := [d1, d2] }
  | _ => none }
def fnExactOrderLeastRow : OpenClaim := { program := "ytddlmemjmmohhaa", sum := "28c52b5eea77f8849dd553c66c26cd392818413a1a2e0383f541c6362f237f1c", func := "loop.example/messkitchen/laws.FnExactOrderLeast", spec := "fnExactOrderLeast", apart := false }
def FnExactOrderLeastSaid : Prop := fnExactOrderLeastRow.holds Try.pinned (OpenSpec.ofChange fnExactOrderLeastSpec)

/-- ITS FALSE NEIGHBOUR: 'it returns false'. Refute it at one input. -/
def fnExactOrderLeastWrong : ChangeSpec := { name := "fnExactOrderLeast", fn := fun _ => fun
  | [d1, d2] => { results := [.lit (.bool false)], args := [d1, d2] }
  | _ => none }
def FnExactOrderLeastWrongFalsely : Prop := fnExactOrderLeastRow.holds Try.pinned (OpenSpec.ofChange fnExactOrderLeastWrong)

/-- 'laws.FnOrderLeastMore': WHATEVER THE INPUT: true; the input reads as it did. -/
def fnOrderLeastMoreSpec : ChangeSpec := { name := "fnOrderLeastMore", fn := fun _ => fun
  | [d] => { results := [.lit (.bool true)], args := [d] }
  | _ => none }
def fnOrderLeastMoreRow : OpenClaim := { program := "ytddlmemjmmohhaa", sum := "28c52b5eea77f8849dd553c66c26cd392818413a1a2e0383f541c6362f237f1c", func := "loop.example/messkitchen/laws.FnOrderLeastMore", spec := "fnOrderLeastMore", apart := false }
def FnOrderLeastMoreSaid : Prop := fnOrderLeastMoreRow.holds Try.pinned (OpenSpec.ofChange fnOrderLeastMoreSpec)

/-- ITS FALSE NEIGHBOUR: 'it returns false'. Refute it at one input. -/
def fnOrderLeastMoreWrong : ChangeSpec := { name := "fnOrderLeastMore", fn := fun _ => fun
  | [d] => { results := [.lit (.bool false)], args := [d] }
  | _ => none }
def FnOrderLeastMoreWrongFalsely : Prop := fnOrderLeastMoreRow.holds Try.pinned (OpenSpec.ofChange fnOrderLeastMoreWrong)

/-- 'laws.FnOrderLeastTwo': WHATEVER THE INPUT: true; the input reads as it did. -/
def fnOrderLeastTwoSpec : ChangeSpec := { name := "fnOrderLeastTwo", fn := fun _ => fun
  | [d1, d2] => { results := [.lit (.bool true)], args := [d1, d2] }
  | _ => none }
def fnOrderLeastTwoRow : OpenClaim := { program := "ytddlmemjmmohhaa", sum := "28c52b5eea77f8849dd553c66c26cd392818413a1a2e0383f541c6362f237f1c", func := "loop.example/messkitchen/laws.FnOrderLeastTwo", spec := "fnOrderLeastTwo", apart := false }
def FnOrderLeastTwoSaid : Prop := fnOrderLeastTwoRow.holds Try.pinned (OpenSpec.ofChange fnOrderLeastTwoSpec)

/-- ITS FALSE NEIGHBOUR: 'it returns false'. Refute it at one input. -/
def fnOrderLeastTwoWrong : ChangeSpec := { name := "fnOrderLeastTwo", fn := fun _ => fun
  | [d1, d2] => { results := [.lit (.bool false)], args := [d1, d2] }
  | _ => none }
def FnOrderLeastTwoWrongFalsely : Prop := fnOrderLeastTwoRow.holds Try.pinned (OpenSpec.ofChange fnOrderLeastTwoWrong)

/-- 'laws.FnExactOrderPrice': WHATEVER THE INPUT: true; the input reads as it did. -/
def fnExactOrderPriceSpec : ChangeSpec := { name := "fnExactOrderPrice", fn := fun _ => fun
  | [d1, d2] => { results := [.lit (.bool true)], args := [d1, d2] }
  | _ => none }
def fnExactOrderPriceRow : OpenClaim := { program := "ytddlmemjmmohhaa", sum := "28c52b5eea77f8849dd553c66c26cd392818413a1a2e0383f541c6362f237f1c", func := "loop.example/messkitchen/laws.FnExactOrderPrice", spec := "fnExactOrderPrice", unfollowed := true, recurses := true, apart := false }
def FnExactOrderPriceSaid : Prop := fnExactOrderPriceRow.holds Try.pinned (OpenSpec.ofChange fnExactOrderPriceSpec)

/-- ITS FALSE NEIGHBOUR: 'it returns false'. Refute it at one input. -/
def fnExactOrderPriceWrong : ChangeSpec := { name := "fnExactOrderPrice", fn := fun _ => fun
  | [d1, d2] => { results := [.lit (.bool false)], args := [d1, d2] }
  | _ => none }
def FnExactOrderPriceWrongFalsely : Prop := fnExactOrderPriceRow.holds Try.pinned (OpenSpec.ofChange fnExactOrderPriceWrong)

/-- 'laws.FnExactOrderSize': WHATEVER THE INPUT: true; the input reads as it did. -/
def fnExactOrderSizeSpec : ChangeSpec := { name := "fnExactOrderSize", fn := fun _ => fun
  | [d1, d2] => { results := [.lit (.bool true)], args := [d1, d2] }
  | _ => none }
def fnExactOrderSizeRow : OpenClaim := { program := "ytddlmemjmmohhaa", sum := "28c52b5eea77f8849dd553c66c26cd392818413a1a2e0383f541c6362f237f1c", func := "loop.example/messkitchen/laws.FnExactOrderSize", spec := "fnExactOrderSize", unfollowed := true, recurses := true, apart := false }
def FnExactOrderSizeSaid : Prop := fnExactOrderSizeRow.holds Try.pinned (OpenSpec.ofChange fnExactOrderSizeSpec)

/-- ITS FALSE NEIGHBOUR: 'it returns false'. Refute it at one input. -/
def fnExactOrderSizeWrong : ChangeSpec := { name := "fnExactOrderSize", fn := fun _ => fun
  | [d1, d2] => { results := [.lit (.bool false)], args := [d1, d2] }
  | _ => none }
def FnExactOrderSizeWrongFalsely : Prop := fnExactOrderSizeRow.holds Try.pinned (OpenSpec.ofChange fnExactOrderSizeWrong)

/-- 'laws.FnOrderSize': WHATEVER THE INPUT: true; the input reads as it did. -/
def fnOrderSizeSpec : ChangeSpec := { name := "fnOrderSize", fn := fun _ => fun
  | [d1, d2] => { results := [.lit (.bool true)], args := [d1, d2] }
  | _ => none }
def fnOrderSizeRow : OpenClaim := { program := "ytddlmemjmmohhaa", sum := "28c52b5eea77f8849dd553c66c26cd392818413a1a2e0383f541c6362f237f1c", func := "loop.example/messkitchen/laws.FnOrderSize", spec := "fnOrderSize", unfollowed := true, recurses := true, apart := false }
def FnOrderSizeSaid : Prop := fnOrderSizeRow.holds Try.pinned (OpenSpec.ofChange fnOrderSizeSpec)

/-- ITS FALSE NEIGHBOUR: 'it returns false'. Refute it at one input. -/
def fnOrderSizeWrong : ChangeSpec := { name := "fnOrderSize", fn := fun _ => fun
  | [d1, d2] => { results := [.lit (.bool false)], args := [d1, d2] }
  | _ => none }
def FnOrderSizeWrongFalsely : Prop := fnOrderSizeRow.holds Try.pinned (OpenSpec.ofChange fnOrderSizeWrong)

/-- 'laws.FnOrderLeast': WHATEVER THE INPUT: true; the input reads as it did. -/
def fnOrderLeastSpec : ChangeSpec := { name := "fnOrderLeast", fn := fun _ => fun
  | [d] => { results := [.lit (.bool true)], args := [d] }
  | _ => none }
def fnOrderLeastRow : OpenClaim := { program := "ytddlmemjmmohhaa", sum := "28c52b5eea77f8849dd553c66c26cd392818413a1a2e0383f541c6362f237f1c", func := "loop.example/messkitchen/laws.FnOrderLeast", spec := "fnOrderLeast", unfollowed := true, recurses := true, apart := false }
def FnOrderLeastSaid : Prop := fnOrderLeastRow.holds Try.pinned (OpenSpec.ofChange fnOrderLeastSpec)

/-- ITS FALSE NEIGHBOUR: 'it returns false'. Refute it at one input. -/
def fnOrderLeastWrong : ChangeSpec := { name := "fnOrderLeast", fn := fun _ => fun
  | [d] => { results := [.lit (.bool false)], args := [d] }
  | _ => none }
def FnOrderLeastWrongFalsely : Prop := fnOrderLeastRow.holds Try.pinned (OpenSpec.ofChange fnOrderLeastWrong)

/-- 'laws.FnOrderNone': WHATEVER THE INPUT: true; the input reads as it did. -/
def fnOrderNoneSpec : ChangeSpec := { name := "fnOrderNone", fn := fun _ => fun
  | [d] => { results := [.lit (.bool true)], args := [d] }
  | _ => none }
def fnOrderNoneRow : OpenClaim := { program := "ytddlmemjmmohhaa", sum := "28c52b5eea77f8849dd553c66c26cd392818413a1a2e0383f541c6362f237f1c", func := "loop.example/messkitchen/laws.FnOrderNone", spec := "fnOrderNone", unfollowed := true, recurses := true, apart := false }
def FnOrderNoneSaid : Prop := fnOrderNoneRow.holds Try.pinned (OpenSpec.ofChange fnOrderNoneSpec)

/-- ITS FALSE NEIGHBOUR: 'it returns false'. Refute it at one input. -/
def fnOrderNoneWrong : ChangeSpec := { name := "fnOrderNone", fn := fun _ => fun
  | [d] => { results := [.lit (.bool false)], args := [d] }
  | _ => none }
def FnOrderNoneWrongFalsely : Prop := fnOrderNoneRow.holds Try.pinned (OpenSpec.ofChange fnOrderNoneWrong)

/-- 'laws.FnExactOrderBest': WHATEVER THE INPUT: true; the input reads as it did. -/
def fnExactOrderBestSpec : ChangeSpec := { name := "fnExactOrderBest", fn := fun _ => fun
  | [d1, d2] => { results := [.lit (.bool true)], args := [d1, d2] }
  | _ => none }
def fnExactOrderBestRow : OpenClaim := { program := "ytddlmemjmmohhaa", sum := "28c52b5eea77f8849dd553c66c26cd392818413a1a2e0383f541c6362f237f1c", func := "loop.example/messkitchen/laws.FnExactOrderBest", spec := "fnExactOrderBest", apart := false }
def FnExactOrderBestSaid : Prop := fnExactOrderBestRow.holds Try.pinned (OpenSpec.ofChange fnExactOrderBestSpec)

/-- ITS FALSE NEIGHBOUR: 'it returns false'. Refute it at one input. -/
def fnExactOrderBestWrong : ChangeSpec := { name := "fnExactOrderBest", fn := fun _ => fun
  | [d1, d2] => { results := [.lit (.bool false)], args := [d1, d2] }
  | _ => none }
def FnExactOrderBestWrongFalsely : Prop := fnExactOrderBestRow.holds Try.pinned (OpenSpec.ofChange fnExactOrderBestWrong)

/-- 'laws.FnOrderBest': WHATEVER THE INPUT: true; the input reads as it did. -/
def fnOrderBestSpec : ChangeSpec := { name := "fnOrderBest", fn := fun _ => fun
  | [d] => { results := [.lit (.bool true)], args := [d] }
  | _ => none }
def fnOrderBestRow : OpenClaim := { program := "ytddlmemjmmohhaa", sum := "28c52b5eea77f8849dd553c66c26cd392818413a1a2e0383f541c6362f237f1c", func := "loop.example/messkitchen/laws.FnOrderBest", spec := "fnOrderBest", unfollowed := true, recurses := true, apart := false }
def FnOrderBestSaid : Prop := fnOrderBestRow.holds Try.pinned (OpenSpec.ofChange fnOrderBestSpec)

/-- ITS FALSE NEIGHBOUR: 'it returns false'. Refute it at one input. -/
def fnOrderBestWrong : ChangeSpec := { name := "fnOrderBest", fn := fun _ => fun
  | [d] => { results := [.lit (.bool false)], args := [d] }
  | _ => none }
def FnOrderBestWrongFalsely : Prop := fnOrderBestRow.holds Try.pinned (OpenSpec.ofChange fnOrderBestWrong)

/-- 'laws.FnOrderBestFirst': WHATEVER THE INPUT: true; the input reads as it did. -/
def fnOrderBestFirstSpec : ChangeSpec := { name := "fnOrderBestFirst", fn := fun _ => fun
  | [d] => { results := [.lit (.bool true)], args := [d] }
  | _ => none }
def fnOrderBestFirstRow : OpenClaim := { program := "ytddlmemjmmohhaa", sum := "28c52b5eea77f8849dd553c66c26cd392818413a1a2e0383f541c6362f237f1c", func := "loop.example/messkitchen/laws.FnOrderBestFirst", spec := "fnOrderBestFirst", unfollowed := true, recurses := true, apart := false }
def FnOrderBestFirstSaid : Prop := fnOrderBestFirstRow.holds Try.pinned (OpenSpec.ofChange fnOrderBestFirstSpec)

/-- ITS FALSE NEIGHBOUR: 'it returns false'. Refute it at one input. -/
def fnOrderBestFirstWrong : ChangeSpec := { name := "fnOrderBestFirst", fn := fun _ => fun
  | [d] => { results := [.lit (.bool false)], args := [d] }
  | _ => none }
def FnOrderBestFirstWrongFalsely : Prop := fnOrderBestFirstRow.holds Try.pinned (OpenSpec.ofChange fnOrderBestFirstWrong)

/- THE SECOND FORM. 'bulk': how many values and letters a reading holds, each counted each time it is reached (what is shared counts as often as it is met; a slice's spare places count too). A statement '..UptoSaid' is the law's where the arguments, and the package variables that the reading takes, are together of bulk at most 1048576: NARROWER than '..Said'. Prove '..Said' where nothing that the law and all that it calls make is longer than what came in: it says more and counts as full. Else prove '..UptoSaid'. A law counts once. -/
mutual
def uptoBulk {H : Type} : DataW H → Nat
  | .lit (.string bytes) => bytes.length + 1
  | .lit _ => 1
  | .nil => 1
  | .ptr d => uptoBulk d + 1
  | .slice elems spare => uptoBulkAll elems + uptoBulkAll spare + 1
  | .agg parts => uptoBulkAll parts + 1
  | .iface _ d => uptoBulk d + 1
  | .map entries => uptoBulkEntries entries + 1
  | .held _ => 1
def uptoBulkAll {H : Type} : List (DataW H) → Nat
  | [] => 0
  | d :: r => uptoBulk d + uptoBulkAll r
def uptoBulkEntries {H : Type} : List (Lit × DataW H) → Nat
  | [] => 0
  | x :: r => uptoBulkEntry x + uptoBulkEntries r
def uptoBulkEntry {H : Type} : Lit × DataW H → Nat
  | (.string bytes, d) => bytes.length + uptoBulk d + 1
  | (_, d) => uptoBulk d + 1
 end
def uptoSmall : (H : Type) → List (DataW H) → Bool := fun _ ds => decide (uptoBulkAll ds ≤ 1048576)
def OpenSpec.upto (s : _root_.Go.ChangeSpec) : _root_.Go.OpenSpec := { _root_.Go.OpenSpec.ofChange s with cond := some uptoSmall }

/-- 'laws.FnOffersPart', WHERE WHAT IT READS IS OF BULK AT MOST 1048576: true; the input reads as it did. -/
def fnOffersPartUptoRow : OpenClaim := { program := "ytddlmemjmmohhaa", sum := "28c52b5eea77f8849dd553c66c26cd392818413a1a2e0383f541c6362f237f1c", func := "loop.example/messkitchen/laws.FnOffersPart", spec := "fnOffersPart", apart := false, narrowed := true }
def FnOffersPartUptoSaid : Prop := fnOffersPartUptoRow.holds Try.pinned (OpenSpec.upto fnOffersPartSpec)

/-- 'laws.FnExactOffersValid', WHERE WHAT IT READS IS OF BULK AT MOST 1048576: true; the input reads as it did. -/
def fnExactOffersValidUptoRow : OpenClaim := { program := "ytddlmemjmmohhaa", sum := "28c52b5eea77f8849dd553c66c26cd392818413a1a2e0383f541c6362f237f1c", func := "loop.example/messkitchen/laws.FnExactOffersValid", spec := "fnExactOffersValid", apart := false, narrowed := true }
def FnExactOffersValidUptoSaid : Prop := fnExactOffersValidUptoRow.holds Try.pinned (OpenSpec.upto fnExactOffersValidSpec)

/-- 'laws.FnExactOrderLeast', WHERE WHAT IT READS IS OF BULK AT MOST 1048576: true; the input reads as it did. -/
def fnExactOrderLeastUptoRow : OpenClaim := { program := "ytddlmemjmmohhaa", sum := "28c52b5eea77f8849dd553c66c26cd392818413a1a2e0383f541c6362f237f1c", func := "loop.example/messkitchen/laws.FnExactOrderLeast", spec := "fnExactOrderLeast", apart := false, narrowed := true }
def FnExactOrderLeastUptoSaid : Prop := fnExactOrderLeastUptoRow.holds Try.pinned (OpenSpec.upto fnExactOrderLeastSpec)

/-- 'laws.FnOrderLeastMore', WHERE WHAT IT READS IS OF BULK AT MOST 1048576: true; the input reads as it did. -/
def fnOrderLeastMoreUptoRow : OpenClaim := { program := "ytddlmemjmmohhaa", sum := "28c52b5eea77f8849dd553c66c26cd392818413a1a2e0383f541c6362f237f1c", func := "loop.example/messkitchen/laws.FnOrderLeastMore", spec := "fnOrderLeastMore", apart := false, narrowed := true }
def FnOrderLeastMoreUptoSaid : Prop := fnOrderLeastMoreUptoRow.holds Try.pinned (OpenSpec.upto fnOrderLeastMoreSpec)

/-- 'laws.FnOrderLeastTwo', WHERE WHAT IT READS IS OF BULK AT MOST 1048576: true; the input reads as it did. -/
def fnOrderLeastTwoUptoRow : OpenClaim := { program := "ytddlmemjmmohhaa", sum := "28c52b5eea77f8849dd553c66c26cd392818413a1a2e0383f541c6362f237f1c", func := "loop.example/messkitchen/laws.FnOrderLeastTwo", spec := "fnOrderLeastTwo", apart := false, narrowed := true }
def FnOrderLeastTwoUptoSaid : Prop := fnOrderLeastTwoUptoRow.holds Try.pinned (OpenSpec.upto fnOrderLeastTwoSpec)

/-- 'laws.FnExactOrderPrice', WHERE WHAT IT READS IS OF BULK AT MOST 1048576: true; the input reads as it did. -/
def fnExactOrderPriceUptoRow : OpenClaim := { program := "ytddlmemjmmohhaa", sum := "28c52b5eea77f8849dd553c66c26cd392818413a1a2e0383f541c6362f237f1c", func := "loop.example/messkitchen/laws.FnExactOrderPrice", spec := "fnExactOrderPrice", unfollowed := true, recurses := true, apart := false, narrowed := true }
def FnExactOrderPriceUptoSaid : Prop := fnExactOrderPriceUptoRow.holds Try.pinned (OpenSpec.upto fnExactOrderPriceSpec)

/-- 'laws.FnExactOrderSize', WHERE WHAT IT READS IS OF BULK AT MOST 1048576: true; the input reads as it did. -/
def fnExactOrderSizeUptoRow : OpenClaim := { program := "ytddlmemjmmohhaa", sum := "28c52b5eea77f8849dd553c66c26cd392818413a1a2e0383f541c6362f237f1c", func := "loop.example/messkitchen/laws.FnExactOrderSize", spec := "fnExactOrderSize", unfollowed := true, recurses := true, apart := false, narrowed := true }
def FnExactOrderSizeUptoSaid : Prop := fnExactOrderSizeUptoRow.holds Try.pinned (OpenSpec.upto fnExactOrderSizeSpec)

/-- 'laws.FnOrderSize', WHERE WHAT IT READS IS OF BULK AT MOST 1048576: true; the input reads as it did. -/
def fnOrderSizeUptoRow : OpenClaim := { program := "ytddlmemjmmohhaa", sum := "28c52b5eea77f8849dd553c66c26cd392818413a1a2e0383f541c6362f237f1c", func := "loop.example/messkitchen/laws.FnOrderSize", spec := "fnOrderSize", unfollowed := true, recurses := true, apart := false, narrowed := true }
def FnOrderSizeUptoSaid : Prop := fnOrderSizeUptoRow.holds Try.pinned (OpenSpec.upto fnOrderSizeSpec)

/-- 'laws.FnOrderLeast', WHERE WHAT IT READS IS OF BULK AT MOST 1048576: true; the input reads as it did. -/
def fnOrderLeastUptoRow : OpenClaim := { program := "ytddlmemjmmohhaa", sum := "28c52b5eea77f8849dd553c66c26cd392818413a1a2e0383f541c6362f237f1c", func := "loop.example/messkitchen/laws.FnOrderLeast", spec := "fnOrderLeast", unfollowed := true, recurses := true, apart := false, narrowed := true }
def FnOrderLeastUptoSaid : Prop := fnOrderLeastUptoRow.holds Try.pinned (OpenSpec.upto fnOrderLeastSpec)

/-- 'laws.FnOrderNone', WHERE WHAT IT READS IS OF BULK AT MOST 1048576: true; the input reads as it did. -/
def fnOrderNoneUptoRow : OpenClaim := { program := "ytddlmemjmmohhaa", sum := "28c52b5eea77f8849dd553c66c26cd392818413a1a2e0383f541c6362f237f1c", func := "loop.example/messkitchen/laws.FnOrderNone", spec := "fnOrderNone", unfollowed := true, recurses := true, apart := false, narrowed := true }
def FnOrderNoneUptoSaid : Prop := fnOrderNoneUptoRow.holds Try.pinned (OpenSpec.upto fnOrderNoneSpec)

/-- 'laws.FnExactOrderBest', WHERE WHAT IT READS IS OF BULK AT MOST 1048576: true; the input reads as it did. -/
def fnExactOrderBestUptoRow : OpenClaim := { program := "ytddlmemjmmohhaa", sum := "28c52b5eea77f8849dd553c66c26cd392818413a1a2e0383f541c6362f237f1c", func := "loop.example/messkitchen/laws.FnExactOrderBest", spec := "fnExactOrderBest", apart := false, narrowed := true }
def FnExactOrderBestUptoSaid : Prop := fnExactOrderBestUptoRow.holds Try.pinned (OpenSpec.upto fnExactOrderBestSpec)

/-- 'laws.FnOrderBest', WHERE WHAT IT READS IS OF BULK AT MOST 1048576: true; the input reads as it did. -/
def fnOrderBestUptoRow : OpenClaim := { program := "ytddlmemjmmohhaa", sum := "28c52b5eea77f8849dd553c66c26cd392818413a1a2e0383f541c6362f237f1c", func := "loop.example/messkitchen/laws.FnOrderBest", spec := "fnOrderBest", unfollowed := true, recurses := true, apart := false, narrowed := true }
def FnOrderBestUptoSaid : Prop := fnOrderBestUptoRow.holds Try.pinned (OpenSpec.upto fnOrderBestSpec)

/-- 'laws.FnOrderBestFirst', WHERE WHAT IT READS IS OF BULK AT MOST 1048576: true; the input reads as it did. -/
def fnOrderBestFirstUptoRow : OpenClaim := { program := "ytddlmemjmmohhaa", sum := "28c52b5eea77f8849dd553c66c26cd392818413a1a2e0383f541c6362f237f1c", func := "loop.example/messkitchen/laws.FnOrderBestFirst", spec := "fnOrderBestFirst", unfollowed := true, recurses := true, apart := false, narrowed := true }
def FnOrderBestFirstUptoSaid : Prop := fnOrderBestFirstUptoRow.holds Try.pinned (OpenSpec.upto fnOrderBestFirstSpec)

end Rows
end Go.Proofs.Ytddlmemjmmohhaa
