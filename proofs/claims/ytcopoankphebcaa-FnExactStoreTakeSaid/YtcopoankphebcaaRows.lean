/-
  No cell of these rows narrows 'for every input' (looked for: loops, veiled, ifaces, maps, wideKeys, modest, calm, conditions, laid).
  DERIVED. THE GIVEN ROWS OF THIS SEAT. 14 by the template 'for every input the law returns true; each argument reads behind the call as it read before'; 0 by the template 'total and deterministic' (their statements: YtcopoankphebcaaTotals.lean).
  GIVEN WITH THE SEED: the statements are not yours to turn. If you find one false, say at which input.
  Laid BY PROGRAM, IN A SANDBOX (cutbox-rows.mjs): the forced cells as the released guide's own fill.sh prints them over the translation 9e349bf605e8c860… (all of the seat's roots in one cut). By AI agents, Wed Nov 11 2026. No macro, syntax, notation, axiom, sorry.
-/
import Derived.Test.YtcopoankphebcaaChecked
import GoSem.Claim
import GoSem.ClaimJoined
import GoSem.ClaimMapViews
import Derived.JoinedTies
import Derived.KernelRfl
namespace Go.Proofs.Ytcopoankphebcaa
/- THE CELL 'sum', in the pinned program and in every row, IS THE sha256 OF THE DUMP (.gsa) THAT YtcopoankphebcaaProg.lean LOADS. Nothing in Lean hashes anything: it is a label: what it is worth is what the hold of that sum in a sandbox is worth. -/
noncomputable def Try.pinned : Pinned := { name := "ytcopoankphebcaa", sum := "9e349bf605e8c8606f0d43fbf8bfe15d5391b2149f3934e6dae0f7effd3ad35a", checked := Try.checked }
namespace Rows
def none {H : Type} : Left H := { results := [], args := [] }

/-- 'laws.FnExactStorePut': WHATEVER THE INPUT: true; the input reads as it did. -/
def fnExactStorePutSpec : ChangeSpec := { name := "fnExactStorePut", fn := fun _ => fun
  | [d1, d2] => { results := [.lit (.bool true)], args := [d1, d2] }
  | _ => none }
def fnExactStorePutRow : OpenClaim := { program := "ytcopoankphebcaa", sum := "9e349bf605e8c8606f0d43fbf8bfe15d5391b2149f3934e6dae0f7effd3ad35a", func := "loop.example/messkitchen/laws.FnExactStorePut", spec := "fnExactStorePut", inPlace := ["slices.overlaps[loop.example/messkitchen/impl.Lot]"], unfollowed := true, recurses := true, apart := false }
def FnExactStorePutSaid : Prop := fnExactStorePutRow.holds Try.pinned (OpenSpec.ofChange fnExactStorePutSpec)

/-- ITS FALSE NEIGHBOUR: 'it returns false'. Refute it at one input. -/
def fnExactStorePutWrong : ChangeSpec := { name := "fnExactStorePut", fn := fun _ => fun
  | [d1, d2] => { results := [.lit (.bool false)], args := [d1, d2] }
  | _ => none }
def FnExactStorePutWrongFalsely : Prop := fnExactStorePutRow.holds Try.pinned (OpenSpec.ofChange fnExactStorePutWrong)

/-- 'laws.FnExactStoreValid': WHATEVER THE INPUT: true; the input reads as it did. -/
def fnExactStoreValidSpec : ChangeSpec := { name := "fnExactStoreValid", fn := fun _ => fun
  | [d] => { results := [.lit (.bool true)], args := [d] }
  | _ => none }
def fnExactStoreValidRow : OpenClaim := { program := "ytcopoankphebcaa", sum := "9e349bf605e8c8606f0d43fbf8bfe15d5391b2149f3934e6dae0f7effd3ad35a", func := "loop.example/messkitchen/laws.FnExactStoreValid", spec := "fnExactStoreValid", apart := false }
def FnExactStoreValidSaid : Prop := fnExactStoreValidRow.holds Try.pinned (OpenSpec.ofChange fnExactStoreValidSpec)

/-- ITS FALSE NEIGHBOUR: 'it returns false'. Refute it at one input. -/
def fnExactStoreValidWrong : ChangeSpec := { name := "fnExactStoreValid", fn := fun _ => fun
  | [d] => { results := [.lit (.bool false)], args := [d] }
  | _ => none }
def FnExactStoreValidWrongFalsely : Prop := fnExactStoreValidRow.holds Try.pinned (OpenSpec.ofChange fnExactStoreValidWrong)

/-- 'laws.FnStorePut': WHATEVER THE INPUT: true; the input reads as it did. -/
def fnStorePutSpec : ChangeSpec := { name := "fnStorePut", fn := fun _ => fun
  | [d] => { results := [.lit (.bool true)], args := [d] }
  | _ => none }
def fnStorePutRow : OpenClaim := { program := "ytcopoankphebcaa", sum := "9e349bf605e8c8606f0d43fbf8bfe15d5391b2149f3934e6dae0f7effd3ad35a", func := "loop.example/messkitchen/laws.FnStorePut", spec := "fnStorePut", inPlace := ["slices.overlaps[loop.example/messkitchen/impl.Lot]"], unfollowed := true, recurses := true, apart := false }
def FnStorePutSaid : Prop := fnStorePutRow.holds Try.pinned (OpenSpec.ofChange fnStorePutSpec)

/-- ITS FALSE NEIGHBOUR: 'it returns false'. Refute it at one input. -/
def fnStorePutWrong : ChangeSpec := { name := "fnStorePut", fn := fun _ => fun
  | [d] => { results := [.lit (.bool false)], args := [d] }
  | _ => none }
def FnStorePutWrongFalsely : Prop := fnStorePutRow.holds Try.pinned (OpenSpec.ofChange fnStorePutWrong)

/-- 'laws.FnExactStoreHas': WHATEVER THE INPUT: true; the input reads as it did. -/
def fnExactStoreHasSpec : ChangeSpec := { name := "fnExactStoreHas", fn := fun _ => fun
  | [d1, d2, d3] => { results := [.lit (.bool true)], args := [d1, d2, d3] }
  | _ => none }
def fnExactStoreHasRow : OpenClaim := { program := "ytcopoankphebcaa", sum := "9e349bf605e8c8606f0d43fbf8bfe15d5391b2149f3934e6dae0f7effd3ad35a", func := "loop.example/messkitchen/laws.FnExactStoreHas", spec := "fnExactStoreHas", apart := false }
def FnExactStoreHasSaid : Prop := fnExactStoreHasRow.holds Try.pinned (OpenSpec.ofChange fnExactStoreHasSpec)

/-- ITS FALSE NEIGHBOUR: 'it returns false'. Refute it at one input. -/
def fnExactStoreHasWrong : ChangeSpec := { name := "fnExactStoreHas", fn := fun _ => fun
  | [d1, d2, d3] => { results := [.lit (.bool false)], args := [d1, d2, d3] }
  | _ => none }
def FnExactStoreHasWrongFalsely : Prop := fnExactStoreHasRow.holds Try.pinned (OpenSpec.ofChange fnExactStoreHasWrong)

/-- 'laws.FnStoreTakeBack': WHATEVER THE INPUT: true; the input reads as it did. -/
def fnStoreTakeBackSpec : ChangeSpec := { name := "fnStoreTakeBack", fn := fun _ => fun
  | [d] => { results := [.lit (.bool true)], args := [d] }
  | _ => none }
def fnStoreTakeBackRow : OpenClaim := { program := "ytcopoankphebcaa", sum := "9e349bf605e8c8606f0d43fbf8bfe15d5391b2149f3934e6dae0f7effd3ad35a", func := "loop.example/messkitchen/laws.FnStoreTakeBack", spec := "fnStoreTakeBack", inPlace := ["slices.overlaps[loop.example/messkitchen/impl.Lot]"], unfollowed := true, recurses := true, apart := false }
def FnStoreTakeBackSaid : Prop := fnStoreTakeBackRow.holds Try.pinned (OpenSpec.ofChange fnStoreTakeBackSpec)

/-- ITS FALSE NEIGHBOUR: 'it returns false'. Refute it at one input. -/
def fnStoreTakeBackWrong : ChangeSpec := { name := "fnStoreTakeBack", fn := fun _ => fun
  | [d] => { results := [.lit (.bool false)], args := [d] }
  | _ => none }
def FnStoreTakeBackWrongFalsely : Prop := fnStoreTakeBackRow.holds Try.pinned (OpenSpec.ofChange fnStoreTakeBackWrong)

/-- 'laws.FnExactStoreDrop': WHATEVER THE INPUT: true; the input reads as it did. -/
def fnExactStoreDropSpec : ChangeSpec := { name := "fnExactStoreDrop", fn := fun _ => fun
  | [d1, d2] => { results := [.lit (.bool true)], args := [d1, d2] }
  | _ => none }
def fnExactStoreDropRow : OpenClaim := { program := "ytcopoankphebcaa", sum := "9e349bf605e8c8606f0d43fbf8bfe15d5391b2149f3934e6dae0f7effd3ad35a", func := "loop.example/messkitchen/laws.FnExactStoreDrop", spec := "fnExactStoreDrop", apart := false }
def FnExactStoreDropSaid : Prop := fnExactStoreDropRow.holds Try.pinned (OpenSpec.ofChange fnExactStoreDropSpec)

/-- ITS FALSE NEIGHBOUR: 'it returns false'. Refute it at one input. -/
def fnExactStoreDropWrong : ChangeSpec := { name := "fnExactStoreDrop", fn := fun _ => fun
  | [d1, d2] => { results := [.lit (.bool false)], args := [d1, d2] }
  | _ => none }
def FnExactStoreDropWrongFalsely : Prop := fnExactStoreDropRow.holds Try.pinned (OpenSpec.ofChange fnExactStoreDropWrong)

/-- 'laws.FnStoreHas': WHATEVER THE INPUT: true; the input reads as it did. -/
def fnStoreHasSpec : ChangeSpec := { name := "fnStoreHas", fn := fun _ => fun
  | [d] => { results := [.lit (.bool true)], args := [d] }
  | _ => none }
def fnStoreHasRow : OpenClaim := { program := "ytcopoankphebcaa", sum := "9e349bf605e8c8606f0d43fbf8bfe15d5391b2149f3934e6dae0f7effd3ad35a", func := "loop.example/messkitchen/laws.FnStoreHas", spec := "fnStoreHas", apart := false }
def FnStoreHasSaid : Prop := fnStoreHasRow.holds Try.pinned (OpenSpec.ofChange fnStoreHasSpec)

/-- ITS FALSE NEIGHBOUR: 'it returns false'. Refute it at one input. -/
def fnStoreHasWrong : ChangeSpec := { name := "fnStoreHas", fn := fun _ => fun
  | [d] => { results := [.lit (.bool false)], args := [d] }
  | _ => none }
def FnStoreHasWrongFalsely : Prop := fnStoreHasRow.holds Try.pinned (OpenSpec.ofChange fnStoreHasWrong)

/-- 'laws.FnStoreTakeAll': WHATEVER THE INPUT: true; the input reads as it did. -/
def fnStoreTakeAllSpec : ChangeSpec := { name := "fnStoreTakeAll", fn := fun _ => fun
  | [d] => { results := [.lit (.bool true)], args := [d] }
  | _ => none }
def fnStoreTakeAllRow : OpenClaim := { program := "ytcopoankphebcaa", sum := "9e349bf605e8c8606f0d43fbf8bfe15d5391b2149f3934e6dae0f7effd3ad35a", func := "loop.example/messkitchen/laws.FnStoreTakeAll", spec := "fnStoreTakeAll", apart := false }
def FnStoreTakeAllSaid : Prop := fnStoreTakeAllRow.holds Try.pinned (OpenSpec.ofChange fnStoreTakeAllSpec)

/-- ITS FALSE NEIGHBOUR: 'it returns false'. Refute it at one input. -/
def fnStoreTakeAllWrong : ChangeSpec := { name := "fnStoreTakeAll", fn := fun _ => fun
  | [d] => { results := [.lit (.bool false)], args := [d] }
  | _ => none }
def FnStoreTakeAllWrongFalsely : Prop := fnStoreTakeAllRow.holds Try.pinned (OpenSpec.ofChange fnStoreTakeAllWrong)

/-- 'laws.FnStoreDrop': WHATEVER THE INPUT: true; the input reads as it did. -/
def fnStoreDropSpec : ChangeSpec := { name := "fnStoreDrop", fn := fun _ => fun
  | [d] => { results := [.lit (.bool true)], args := [d] }
  | _ => none }
def fnStoreDropRow : OpenClaim := { program := "ytcopoankphebcaa", sum := "9e349bf605e8c8606f0d43fbf8bfe15d5391b2149f3934e6dae0f7effd3ad35a", func := "loop.example/messkitchen/laws.FnStoreDrop", spec := "fnStoreDrop", apart := false }
def FnStoreDropSaid : Prop := fnStoreDropRow.holds Try.pinned (OpenSpec.ofChange fnStoreDropSpec)

/-- ITS FALSE NEIGHBOUR: 'it returns false'. Refute it at one input. -/
def fnStoreDropWrong : ChangeSpec := { name := "fnStoreDrop", fn := fun _ => fun
  | [d] => { results := [.lit (.bool false)], args := [d] }
  | _ => none }
def FnStoreDropWrongFalsely : Prop := fnStoreDropRow.holds Try.pinned (OpenSpec.ofChange fnStoreDropWrong)

/-- 'laws.FnExactStoreTake': WHATEVER THE INPUT: true; the input reads as it did. -/
def fnExactStoreTakeSpec : ChangeSpec := { name := "fnExactStoreTake", fn := fun _ => fun
  | [d1, d2, d3, d4] => { results := [.lit (.bool true)], args := [d1, d2, d3, d4] }
  | _ => none }
def fnExactStoreTakeRow : OpenClaim := { program := "ytcopoankphebcaa", sum := "9e349bf605e8c8606f0d43fbf8bfe15d5391b2149f3934e6dae0f7effd3ad35a", func := "loop.example/messkitchen/laws.FnExactStoreTake", spec := "fnExactStoreTake", apart := false }
def FnExactStoreTakeSaid : Prop := fnExactStoreTakeRow.holds Try.pinned (OpenSpec.ofChange fnExactStoreTakeSpec)

/-- ITS FALSE NEIGHBOUR: 'it returns false'. Refute it at one input. -/
def fnExactStoreTakeWrong : ChangeSpec := { name := "fnExactStoreTake", fn := fun _ => fun
  | [d1, d2, d3, d4] => { results := [.lit (.bool false)], args := [d1, d2, d3, d4] }
  | _ => none }
def FnExactStoreTakeWrongFalsely : Prop := fnExactStoreTakeRow.holds Try.pinned (OpenSpec.ofChange fnExactStoreTakeWrong)

/-- 'laws.FnStoreTakeFirst': WHATEVER THE INPUT: true; the input reads as it did. -/
def fnStoreTakeFirstSpec : ChangeSpec := { name := "fnStoreTakeFirst", fn := fun _ => fun
  | [d] => { results := [.lit (.bool true)], args := [d] }
  | _ => none }
def fnStoreTakeFirstRow : OpenClaim := { program := "ytcopoankphebcaa", sum := "9e349bf605e8c8606f0d43fbf8bfe15d5391b2149f3934e6dae0f7effd3ad35a", func := "loop.example/messkitchen/laws.FnStoreTakeFirst", spec := "fnStoreTakeFirst", apart := false }
def FnStoreTakeFirstSaid : Prop := fnStoreTakeFirstRow.holds Try.pinned (OpenSpec.ofChange fnStoreTakeFirstSpec)

/-- ITS FALSE NEIGHBOUR: 'it returns false'. Refute it at one input. -/
def fnStoreTakeFirstWrong : ChangeSpec := { name := "fnStoreTakeFirst", fn := fun _ => fun
  | [d] => { results := [.lit (.bool false)], args := [d] }
  | _ => none }
def FnStoreTakeFirstWrongFalsely : Prop := fnStoreTakeFirstRow.holds Try.pinned (OpenSpec.ofChange fnStoreTakeFirstWrong)

/-- 'laws.FnStoreTakeParts': WHATEVER THE INPUT: true; the input reads as it did. -/
def fnStoreTakePartsSpec : ChangeSpec := { name := "fnStoreTakeParts", fn := fun _ => fun
  | [d1, d2] => { results := [.lit (.bool true)], args := [d1, d2] }
  | _ => none }
def fnStoreTakePartsRow : OpenClaim := { program := "ytcopoankphebcaa", sum := "9e349bf605e8c8606f0d43fbf8bfe15d5391b2149f3934e6dae0f7effd3ad35a", func := "loop.example/messkitchen/laws.FnStoreTakeParts", spec := "fnStoreTakeParts", apart := false }
def FnStoreTakePartsSaid : Prop := fnStoreTakePartsRow.holds Try.pinned (OpenSpec.ofChange fnStoreTakePartsSpec)

/-- ITS FALSE NEIGHBOUR: 'it returns false'. Refute it at one input. -/
def fnStoreTakePartsWrong : ChangeSpec := { name := "fnStoreTakeParts", fn := fun _ => fun
  | [d1, d2] => { results := [.lit (.bool false)], args := [d1, d2] }
  | _ => none }
def FnStoreTakePartsWrongFalsely : Prop := fnStoreTakePartsRow.holds Try.pinned (OpenSpec.ofChange fnStoreTakePartsWrong)

/-- 'laws.FnStoreTake': WHATEVER THE INPUT: true; the input reads as it did. -/
def fnStoreTakeSpec : ChangeSpec := { name := "fnStoreTake", fn := fun _ => fun
  | [d] => { results := [.lit (.bool true)], args := [d] }
  | _ => none }
def fnStoreTakeRow : OpenClaim := { program := "ytcopoankphebcaa", sum := "9e349bf605e8c8606f0d43fbf8bfe15d5391b2149f3934e6dae0f7effd3ad35a", func := "loop.example/messkitchen/laws.FnStoreTake", spec := "fnStoreTake", apart := false }
def FnStoreTakeSaid : Prop := fnStoreTakeRow.holds Try.pinned (OpenSpec.ofChange fnStoreTakeSpec)

/-- ITS FALSE NEIGHBOUR: 'it returns false'. Refute it at one input. -/
def fnStoreTakeWrong : ChangeSpec := { name := "fnStoreTake", fn := fun _ => fun
  | [d] => { results := [.lit (.bool false)], args := [d] }
  | _ => none }
def FnStoreTakeWrongFalsely : Prop := fnStoreTakeRow.holds Try.pinned (OpenSpec.ofChange fnStoreTakeWrong)

/-- 'laws.FnStorePutOrder': WHATEVER THE INPUT: true; the input reads as it did. -/
def fnStorePutOrderSpec : ChangeSpec := { name := "fnStorePutOrder", fn := fun _ => fun
  | [d1, d2] => { results := [.lit (.bool true)], args := [d1, d2] }
  | _ => none }
def fnStorePutOrderRow : OpenClaim := { program := "ytcopoankphebcaa", sum := "9e349bf605e8c8606f0d43fbf8bfe15d5391b2149f3934e6dae0f7effd3ad35a", func := "loop.example/messkitchen/laws.FnStorePutOrder", spec := "fnStorePutOrder", inPlace := ["slices.overlaps[loop.example/messkitchen/impl.Lot]"], unfollowed := true, recurses := true, apart := false }
def FnStorePutOrderSaid : Prop := fnStorePutOrderRow.holds Try.pinned (OpenSpec.ofChange fnStorePutOrderSpec)

/-- ITS FALSE NEIGHBOUR: 'it returns false'. Refute it at one input. -/
def fnStorePutOrderWrong : ChangeSpec := { name := "fnStorePutOrder", fn := fun _ => fun
  | [d1, d2] => { results := [.lit (.bool false)], args := [d1, d2] }
  | _ => none }
def FnStorePutOrderWrongFalsely : Prop := fnStorePutOrderRow.holds Try.pinned (OpenSpec.ofChange fnStorePutOrderWrong)

/- THE SECOND FORM. 'bulk': how many values and letters a reading holds, each counted each time it is reached (what is shared counts as often as it is met; a slice's spare places count too). A statement '..UptoSaid' is the law's where the arguments, and the package variables that the reading takes, are together of bulk at most 1048576: NARROWER than '..Said'. Prove '..Said' where nothing that the law and all that it calls make is longer than what came in: it says more and counts as full. Else prove '..UptoSaid'. A law counts once. -/
mutual
def uptoBulk {H : Type} : DataW H → Nat
  | .lit (.string bytes) => bytes.length + 1
  | .lit _ => 1
  | .nil => 1
  | .ptr d => uptoBulk d + 1
  | .slice elems spare => uptoBulkAll elems + uptoBulkAll spare + 1
  | .agg parts => uptoBulkAll parts + 1
  | .iface _ d => uptoBulk d + 1
  | .map entries => uptoBulkEntries entries + 1
  | .held _ => 1
def uptoBulkAll {H : Type} : List (DataW H) → Nat
  | [] => 0
  | d :: r => uptoBulk d + uptoBulkAll r
def uptoBulkEntries {H : Type} : List (Lit × DataW H) → Nat
  | [] => 0
  | x :: r => uptoBulkEntry x + uptoBulkEntries r
def uptoBulkEntry {H : Type} : Lit × DataW H → Nat
  | (.string bytes, d) => bytes.length + uptoBulk d + 1
  | (_, d) => uptoBulk d + 1
 end
def uptoSmall : (H : Type) → List (DataW H) → Bool := fun _ ds => decide (uptoBulkAll ds ≤ 1048576)
def OpenSpec.upto (s : _root_.Go.ChangeSpec) : _root_.Go.OpenSpec := { _root_.Go.OpenSpec.ofChange s with cond := some uptoSmall }

/-- 'laws.FnExactStorePut', WHERE WHAT IT READS IS OF BULK AT MOST 1048576: true; the input reads as it did. -/
def fnExactStorePutUptoRow : OpenClaim := { program := "ytcopoankphebcaa", sum := "9e349bf605e8c8606f0d43fbf8bfe15d5391b2149f3934e6dae0f7effd3ad35a", func := "loop.example/messkitchen/laws.FnExactStorePut", spec := "fnExactStorePut", inPlace := ["slices.overlaps[loop.example/messkitchen/impl.Lot]"], unfollowed := true, recurses := true, apart := false, narrowed := true }
def FnExactStorePutUptoSaid : Prop := fnExactStorePutUptoRow.holds Try.pinned (OpenSpec.upto fnExactStorePutSpec)

/-- 'laws.FnExactStoreValid', WHERE WHAT IT READS IS OF BULK AT MOST 1048576: true; the input reads as it did. -/
def fnExactStoreValidUptoRow : OpenClaim := { program := "ytcopoankphebcaa", sum := "9e349bf605e8c8606f0d43fbf8bfe15d5391b2149f3934e6dae0f7effd3ad35a", func := "loop.example/messkitchen/laws.FnExactStoreValid", spec := "fnExactStoreValid", apart := false, narrowed := true }
def FnExactStoreValidUptoSaid : Prop := fnExactStoreValidUptoRow.holds Try.pinned (OpenSpec.upto fnExactStoreValidSpec)

/-- 'laws.FnStorePut', WHERE WHAT IT READS IS OF BULK AT MOST 1048576: true; the input reads as it did. -/
def fnStorePutUptoRow : OpenClaim := { program := "ytcopoankphebcaa", sum := "9e349bf605e8c8606f0d43fbf8bfe15d5391b2149f3934e6dae0f7effd3ad35a", func := "loop.example/messkitchen/laws.FnStorePut", spec := "fnStorePut", inPlace := ["slices.overlaps[loop.example/messkitchen/impl.Lot]"], unfollowed := true, recurses := true, apart := false, narrowed := true }
def FnStorePutUptoSaid : Prop := fnStorePutUptoRow.holds Try.pinned (OpenSpec.upto fnStorePutSpec)

/-- 'laws.FnExactStoreHas', WHERE WHAT IT READS IS OF BULK AT MOST 1048576: true; the input reads as it did. -/
def fnExactStoreHasUptoRow : OpenClaim := { program := "ytcopoankphebcaa", sum := "9e349bf605e8c8606f0d43fbf8bfe15d5391b2149f3934e6dae0f7effd3ad35a", func := "loop.example/messkitchen/laws.FnExactStoreHas", spec := "fnExactStoreHas", apart := false, narrowed := true }
def FnExactStoreHasUptoSaid : Prop := fnExactStoreHasUptoRow.holds Try.pinned (OpenSpec.upto fnExactStoreHasSpec)

/-- 'laws.FnStoreTakeBack', WHERE WHAT IT READS IS OF BULK AT MOST 1048576: true; the input reads as it did. -/
def fnStoreTakeBackUptoRow : OpenClaim := { program := "ytcopoankphebcaa", sum := "9e349bf605e8c8606f0d43fbf8bfe15d5391b2149f3934e6dae0f7effd3ad35a", func := "loop.example/messkitchen/laws.FnStoreTakeBack", spec := "fnStoreTakeBack", inPlace := ["slices.overlaps[loop.example/messkitchen/impl.Lot]"], unfollowed := true, recurses := true, apart := false, narrowed := true }
def FnStoreTakeBackUptoSaid : Prop := fnStoreTakeBackUptoRow.holds Try.pinned (OpenSpec.upto fnStoreTakeBackSpec)

/-- 'laws.FnExactStoreDrop', WHERE WHAT IT READS IS OF BULK AT MOST 1048576: true; the input reads as it did. -/
def fnExactStoreDropUptoRow : OpenClaim := { program := "ytcopoankphebcaa", sum := "9e349bf605e8c8606f0d43fbf8bfe15d5391b2149f3934e6dae0f7effd3ad35a", func := "loop.example/messkitchen/laws.FnExactStoreDrop", spec := "fnExactStoreDrop", apart := false, narrowed := true }
def FnExactStoreDropUptoSaid : Prop := fnExactStoreDropUptoRow.holds Try.pinned (OpenSpec.upto fnExactStoreDropSpec)

/-- 'laws.FnStoreHas', WHERE WHAT IT READS IS OF BULK AT MOST 1048576: true; the input reads as it did. -/
def fnStoreHasUptoRow : OpenClaim := { program := "ytcopoankphebcaa", sum := "9e349bf605e8c8606f0d43fbf8bfe15d5391b2149f3934e6dae0f7effd3ad35a", func := "loop.example/messkitchen/laws.FnStoreHas", spec := "fnStoreHas", apart := false, narrowed := true }
def FnStoreHasUptoSaid : Prop := fnStoreHasUptoRow.holds Try.pinned (OpenSpec.upto fnStoreHasSpec)

/-- 'laws.FnStoreTakeAll', WHERE WHAT IT READS IS OF BULK AT MOST 1048576: true; the input reads as it did. -/
def fnStoreTakeAllUptoRow : OpenClaim := { program := "ytcopoankphebcaa", sum := "9e349bf605e8c8606f0d43fbf8bfe15d5391b2149f3934e6dae0f7effd3ad35a", func := "loop.example/messkitchen/laws.FnStoreTakeAll", spec := "fnStoreTakeAll", apart := false, narrowed := true }
def FnStoreTakeAllUptoSaid : Prop := fnStoreTakeAllUptoRow.holds Try.pinned (OpenSpec.upto fnStoreTakeAllSpec)

/-- 'laws.FnStoreDrop', WHERE WHAT IT READS IS OF BULK AT MOST 1048576: true; the input reads as it did. -/
def fnStoreDropUptoRow : OpenClaim := { program := "ytcopoankphebcaa", sum := "9e349bf605e8c8606f0d43fbf8bfe15d5391b2149f3934e6dae0f7effd3ad35a", func := "loop.example/messkitchen/laws.FnStoreDrop", spec := "fnStoreDrop", apart := false, narrowed := true }
def FnStoreDropUptoSaid : Prop := fnStoreDropUptoRow.holds Try.pinned (OpenSpec.upto fnStoreDropSpec)

/-- 'laws.FnExactStoreTake', WHERE WHAT IT READS IS OF BULK AT MOST 1048576: true; the input reads as it did. -/
def fnExactStoreTakeUptoRow : OpenClaim := { program := "ytcopoankphebcaa", sum := "9e349bf605e8c8606f0d43fbf8bfe15d5391b2149f3934e6dae0f7effd3ad35a", func := "loop.example/messkitchen/laws.FnExactStoreTake", spec := "fnExactStoreTake", apart := false, narrowed := true }
def FnExactStoreTakeUptoSaid : Prop := fnExactStoreTakeUptoRow.holds Try.pinned (OpenSpec.upto fnExactStoreTakeSpec)

/-- 'laws.FnStoreTakeFirst', WHERE WHAT IT READS IS OF BULK AT MOST 1048576: true; the input reads as it did. -/
def fnStoreTakeFirstUptoRow : OpenClaim := { program := "ytcopoankphebcaa", sum := "9e349bf605e8c8606f0d43fbf8bfe15d5391b2149f3934e6dae0f7effd3ad35a", func := "loop.example/messkitchen/laws.FnStoreTakeFirst", spec := "fnStoreTakeFirst", apart := false, narrowed := true }
def FnStoreTakeFirstUptoSaid : Prop := fnStoreTakeFirstUptoRow.holds Try.pinned (OpenSpec.upto fnStoreTakeFirstSpec)

/-- 'laws.FnStoreTakeParts', WHERE WHAT IT READS IS OF BULK AT MOST 1048576: true; the input reads as it did. -/
def fnStoreTakePartsUptoRow : OpenClaim := { program := "ytcopoankphebcaa", sum := "9e349bf605e8c8606f0d43fbf8bfe15d5391b2149f3934e6dae0f7effd3ad35a", func := "loop.example/messkitchen/laws.FnStoreTakeParts", spec := "fnStoreTakeParts", apart := false, narrowed := true }
def FnStoreTakePartsUptoSaid : Prop := fnStoreTakePartsUptoRow.holds Try.pinned (OpenSpec.upto fnStoreTakePartsSpec)

/-- 'laws.FnStoreTake', WHERE WHAT IT READS IS OF BULK AT MOST 1048576: true; the input reads as it did. -/
def fnStoreTakeUptoRow : OpenClaim := { program := "ytcopoankphebcaa", sum := "9e349bf605e8c8606f0d43fbf8bfe15d5391b2149f3934e6dae0f7effd3ad35a", func := "loop.example/messkitchen/laws.FnStoreTake", spec := "fnStoreTake", apart := false, narrowed := true }
def FnStoreTakeUptoSaid : Prop := fnStoreTakeUptoRow.holds Try.pinned (OpenSpec.upto fnStoreTakeSpec)

/-- 'laws.FnStorePutOrder', WHERE WHAT IT READS IS OF BULK AT MOST 1048576: true; the input reads as it did. -/
def fnStorePutOrderUptoRow : OpenClaim := { program := "ytcopoankphebcaa", sum := "9e349bf605e8c8606f0d43fbf8bfe15d5391b2149f3934e6dae0f7effd3ad35a", func := "loop.example/messkitchen/laws.FnStorePutOrder", spec := "fnStorePutOrder", inPlace := ["slices.overlaps[loop.example/messkitchen/impl.Lot]"], unfollowed := true, recurses := true, apart := false, narrowed := true }
def FnStorePutOrderUptoSaid : Prop := fnStorePutOrderUptoRow.holds Try.pinned (OpenSpec.upto fnStorePutOrderSpec)

end Rows
end Go.Proofs.Ytcopoankphebcaa
