/-
  No cell of these rows narrows 'for every input' (looked for: loops, veiled, ifaces, maps, wideKeys, modest, calm, conditions, laid).
  DERIVED. THE GIVEN ROWS OF THIS SEAT. 12 by the template 'for every input the law returns true; each argument reads behind the call as it read before'; 0 by the template 'total and deterministic' (their statements: YtckapidlhhjipaaTotals.lean).
  GIVEN WITH THE SEED: the statements are not yours to turn. If you find one false, say at which input.
  Laid BY PROGRAM, IN A SANDBOX (cutbox-rows.mjs): the forced cells as the released guide's own fill.sh prints them over the translation 58312429b4c580a1… (all of the seat's roots in one cut). By AI agents, Wed Nov 11 2026. No macro, syntax, notation, axiom, sorry.
-/
import Derived.Test.YtckapidlhhjipaaChecked
import GoSem.Claim
import GoSem.ClaimJoined
import GoSem.ClaimMapViews
import Derived.JoinedTies
import Derived.KernelRfl
namespace Go.Proofs.Ytckapidlhhjipaa
/- THE CELL 'sum', in the pinned program and in every row, IS THE sha256 OF THE DUMP (.gsa) THAT YtckapidlhhjipaaProg.lean LOADS. Nothing in Lean hashes anything: it is a label: what it is worth is what the hold of that sum in a sandbox is worth. -/
noncomputable def Try.pinned : Pinned := { name := "ytckapidlhhjipaa", sum := "58312429b4c580a10c4e42418f2c8b2675ed9c9bd40c3a7b30b9945665726961", checked := Try.checked }
namespace Rows
def none {H : Type} : Left H := { results := [], args := [] }

/-- 'laws.FnExactRateOf': WHATEVER THE INPUT: true; the input reads as it did. -/
def fnExactRateOfSpec : ChangeSpec := { name := "fnExactRateOf", fn := fun _ => fun
  | [d] => { results := [.lit (.bool true)], args := [d] }
  | _ => none }
def fnExactRateOfRow : OpenClaim := { program := "ytckapidlhhjipaa", sum := "58312429b4c580a10c4e42418f2c8b2675ed9c9bd40c3a7b30b9945665726961", func := "loop.example/g01390/laws.FnExactRateOf", spec := "fnExactRateOf", unfollowed := true, recurses := true, apart := false }
def FnExactRateOfSaid : Prop := fnExactRateOfRow.holds Try.pinned (OpenSpec.ofChange fnExactRateOfSpec)

/-- ITS FALSE NEIGHBOUR: 'it returns false'. Refute it at one input. -/
def fnExactRateOfWrong : ChangeSpec := { name := "fnExactRateOf", fn := fun _ => fun
  | [d] => { results := [.lit (.bool false)], args := [d] }
  | _ => none }
def FnExactRateOfWrongFalsely : Prop := fnExactRateOfRow.holds Try.pinned (OpenSpec.ofChange fnExactRateOfWrong)

/-- 'laws.FnExactSameCrate': WHATEVER THE INPUT: true; the input reads as it did. -/
def fnExactSameCrateSpec : ChangeSpec := { name := "fnExactSameCrate", fn := fun _ => fun
  | [d1, d2] => { results := [.lit (.bool true)], args := [d1, d2] }
  | _ => none }
def fnExactSameCrateRow : OpenClaim := { program := "ytckapidlhhjipaa", sum := "58312429b4c580a10c4e42418f2c8b2675ed9c9bd40c3a7b30b9945665726961", func := "loop.example/g01390/laws.FnExactSameCrate", spec := "fnExactSameCrate", inPlace := ["math.Float32bits"], unfollowed := true, recurses := true, apart := false }
def FnExactSameCrateSaid : Prop := fnExactSameCrateRow.holds Try.pinned (OpenSpec.ofChange fnExactSameCrateSpec)

/-- ITS FALSE NEIGHBOUR: 'it returns false'. Refute it at one input. -/
def fnExactSameCrateWrong : ChangeSpec := { name := "fnExactSameCrate", fn := fun _ => fun
  | [d1, d2] => { results := [.lit (.bool false)], args := [d1, d2] }
  | _ => none }
def FnExactSameCrateWrongFalsely : Prop := fnExactSameCrateRow.holds Try.pinned (OpenSpec.ofChange fnExactSameCrateWrong)

/-- 'laws.FnExactValidCrate': WHATEVER THE INPUT: true; the input reads as it did. -/
def fnExactValidCrateSpec : ChangeSpec := { name := "fnExactValidCrate", fn := fun _ => fun
  | [d] => { results := [.lit (.bool true)], args := [d] }
  | _ => none }
def fnExactValidCrateRow : OpenClaim := { program := "ytckapidlhhjipaa", sum := "58312429b4c580a10c4e42418f2c8b2675ed9c9bd40c3a7b30b9945665726961", func := "loop.example/g01390/laws.FnExactValidCrate", spec := "fnExactValidCrate", inPlace := ["math.Float32bits"], unfollowed := true, recurses := true, apart := false }
def FnExactValidCrateSaid : Prop := fnExactValidCrateRow.holds Try.pinned (OpenSpec.ofChange fnExactValidCrateSpec)

/-- ITS FALSE NEIGHBOUR: 'it returns false'. Refute it at one input. -/
def fnExactValidCrateWrong : ChangeSpec := { name := "fnExactValidCrate", fn := fun _ => fun
  | [d] => { results := [.lit (.bool false)], args := [d] }
  | _ => none }
def FnExactValidCrateWrongFalsely : Prop := fnExactValidCrateRow.holds Try.pinned (OpenSpec.ofChange fnExactValidCrateWrong)

/-- 'laws.FnExactCountAbove': WHATEVER THE INPUT: true; the input reads as it did. -/
def fnExactCountAboveSpec : ChangeSpec := { name := "fnExactCountAbove", fn := fun _ => fun
  | [d1, d2] => { results := [.lit (.bool true)], args := [d1, d2] }
  | _ => none }
def fnExactCountAboveRow : OpenClaim := { program := "ytckapidlhhjipaa", sum := "58312429b4c580a10c4e42418f2c8b2675ed9c9bd40c3a7b30b9945665726961", func := "loop.example/g01390/laws.FnExactCountAbove", spec := "fnExactCountAbove", inPlace := ["math.Float32bits"], unfollowed := true, recurses := true, apart := false }
def FnExactCountAboveSaid : Prop := fnExactCountAboveRow.holds Try.pinned (OpenSpec.ofChange fnExactCountAboveSpec)

/-- ITS FALSE NEIGHBOUR: 'it returns false'. Refute it at one input. -/
def fnExactCountAboveWrong : ChangeSpec := { name := "fnExactCountAbove", fn := fun _ => fun
  | [d1, d2] => { results := [.lit (.bool false)], args := [d1, d2] }
  | _ => none }
def FnExactCountAboveWrongFalsely : Prop := fnExactCountAboveRow.holds Try.pinned (OpenSpec.ofChange fnExactCountAboveWrong)

/-- 'laws.FnExactRipestOf': WHATEVER THE INPUT: true; the input reads as it did. -/
def fnExactRipestOfSpec : ChangeSpec := { name := "fnExactRipestOf", fn := fun _ => fun
  | [d] => { results := [.lit (.bool true)], args := [d] }
  | _ => none }
def fnExactRipestOfRow : OpenClaim := { program := "ytckapidlhhjipaa", sum := "58312429b4c580a10c4e42418f2c8b2675ed9c9bd40c3a7b30b9945665726961", func := "loop.example/g01390/laws.FnExactRipestOf", spec := "fnExactRipestOf", inPlace := ["math.Float32bits"], unfollowed := true, recurses := true, apart := false }
def FnExactRipestOfSaid : Prop := fnExactRipestOfRow.holds Try.pinned (OpenSpec.ofChange fnExactRipestOfSpec)

/-- ITS FALSE NEIGHBOUR: 'it returns false'. Refute it at one input. -/
def fnExactRipestOfWrong : ChangeSpec := { name := "fnExactRipestOf", fn := fun _ => fun
  | [d] => { results := [.lit (.bool false)], args := [d] }
  | _ => none }
def FnExactRipestOfWrongFalsely : Prop := fnExactRipestOfRow.holds Try.pinned (OpenSpec.ofChange fnExactRipestOfWrong)

/-- 'laws.FnExactMeanRipe': WHATEVER THE INPUT: true; the input reads as it did. -/
def fnExactMeanRipeSpec : ChangeSpec := { name := "fnExactMeanRipe", fn := fun _ => fun
  | [d] => { results := [.lit (.bool true)], args := [d] }
  | _ => none }
def fnExactMeanRipeRow : OpenClaim := { program := "ytckapidlhhjipaa", sum := "58312429b4c580a10c4e42418f2c8b2675ed9c9bd40c3a7b30b9945665726961", func := "loop.example/g01390/laws.FnExactMeanRipe", spec := "fnExactMeanRipe", inPlace := ["math.Float32bits"], unfollowed := true, recurses := true, apart := false }
def FnExactMeanRipeSaid : Prop := fnExactMeanRipeRow.holds Try.pinned (OpenSpec.ofChange fnExactMeanRipeSpec)

/-- ITS FALSE NEIGHBOUR: 'it returns false'. Refute it at one input. -/
def fnExactMeanRipeWrong : ChangeSpec := { name := "fnExactMeanRipe", fn := fun _ => fun
  | [d] => { results := [.lit (.bool false)], args := [d] }
  | _ => none }
def FnExactMeanRipeWrongFalsely : Prop := fnExactMeanRipeRow.holds Try.pinned (OpenSpec.ofChange fnExactMeanRipeWrong)

/-- 'laws.FnExactPutFruit': WHATEVER THE INPUT: true; the input reads as it did. -/
def fnExactPutFruitSpec : ChangeSpec := { name := "fnExactPutFruit", fn := fun _ => fun
  | [d1, d2] => { results := [.lit (.bool true)], args := [d1, d2] }
  | _ => none }
def fnExactPutFruitRow : OpenClaim := { program := "ytckapidlhhjipaa", sum := "58312429b4c580a10c4e42418f2c8b2675ed9c9bd40c3a7b30b9945665726961", func := "loop.example/g01390/laws.FnExactPutFruit", spec := "fnExactPutFruit", inPlace := ["math.Float32bits"], unfollowed := true, recurses := true, apart := false }
def FnExactPutFruitSaid : Prop := fnExactPutFruitRow.holds Try.pinned (OpenSpec.ofChange fnExactPutFruitSpec)

/-- ITS FALSE NEIGHBOUR: 'it returns false'. Refute it at one input. -/
def fnExactPutFruitWrong : ChangeSpec := { name := "fnExactPutFruit", fn := fun _ => fun
  | [d1, d2] => { results := [.lit (.bool false)], args := [d1, d2] }
  | _ => none }
def FnExactPutFruitWrongFalsely : Prop := fnExactPutFruitRow.holds Try.pinned (OpenSpec.ofChange fnExactPutFruitWrong)

/-- 'laws.FnExactTakeFruit': WHATEVER THE INPUT: true; the input reads as it did. -/
def fnExactTakeFruitSpec : ChangeSpec := { name := "fnExactTakeFruit", fn := fun _ => fun
  | [d1, d2] => { results := [.lit (.bool true)], args := [d1, d2] }
  | _ => none }
def fnExactTakeFruitRow : OpenClaim := { program := "ytckapidlhhjipaa", sum := "58312429b4c580a10c4e42418f2c8b2675ed9c9bd40c3a7b30b9945665726961", func := "loop.example/g01390/laws.FnExactTakeFruit", spec := "fnExactTakeFruit", inPlace := ["math.Float32bits"], unfollowed := true, recurses := true, apart := false }
def FnExactTakeFruitSaid : Prop := fnExactTakeFruitRow.holds Try.pinned (OpenSpec.ofChange fnExactTakeFruitSpec)

/-- ITS FALSE NEIGHBOUR: 'it returns false'. Refute it at one input. -/
def fnExactTakeFruitWrong : ChangeSpec := { name := "fnExactTakeFruit", fn := fun _ => fun
  | [d1, d2] => { results := [.lit (.bool false)], args := [d1, d2] }
  | _ => none }
def FnExactTakeFruitWrongFalsely : Prop := fnExactTakeFruitRow.holds Try.pinned (OpenSpec.ofChange fnExactTakeFruitWrong)

/-- 'laws.FnExactSplitCrate': WHATEVER THE INPUT: true; the input reads as it did. -/
def fnExactSplitCrateSpec : ChangeSpec := { name := "fnExactSplitCrate", fn := fun _ => fun
  | [d1, d2] => { results := [.lit (.bool true)], args := [d1, d2] }
  | _ => none }
def fnExactSplitCrateRow : OpenClaim := { program := "ytckapidlhhjipaa", sum := "58312429b4c580a10c4e42418f2c8b2675ed9c9bd40c3a7b30b9945665726961", func := "loop.example/g01390/laws.FnExactSplitCrate", spec := "fnExactSplitCrate", inPlace := ["math.Float32bits"], unfollowed := true, recurses := true, apart := false }
def FnExactSplitCrateSaid : Prop := fnExactSplitCrateRow.holds Try.pinned (OpenSpec.ofChange fnExactSplitCrateSpec)

/-- ITS FALSE NEIGHBOUR: 'it returns false'. Refute it at one input. -/
def fnExactSplitCrateWrong : ChangeSpec := { name := "fnExactSplitCrate", fn := fun _ => fun
  | [d1, d2] => { results := [.lit (.bool false)], args := [d1, d2] }
  | _ => none }
def FnExactSplitCrateWrongFalsely : Prop := fnExactSplitCrateRow.holds Try.pinned (OpenSpec.ofChange fnExactSplitCrateWrong)

/-- 'laws.FnExactJoinCrates': WHATEVER THE INPUT: true; the input reads as it did. -/
def fnExactJoinCratesSpec : ChangeSpec := { name := "fnExactJoinCrates", fn := fun _ => fun
  | [d1, d2] => { results := [.lit (.bool true)], args := [d1, d2] }
  | _ => none }
def fnExactJoinCratesRow : OpenClaim := { program := "ytckapidlhhjipaa", sum := "58312429b4c580a10c4e42418f2c8b2675ed9c9bd40c3a7b30b9945665726961", func := "loop.example/g01390/laws.FnExactJoinCrates", spec := "fnExactJoinCrates", inPlace := ["math.Float32bits"], unfollowed := true, recurses := true, apart := false }
def FnExactJoinCratesSaid : Prop := fnExactJoinCratesRow.holds Try.pinned (OpenSpec.ofChange fnExactJoinCratesSpec)

/-- ITS FALSE NEIGHBOUR: 'it returns false'. Refute it at one input. -/
def fnExactJoinCratesWrong : ChangeSpec := { name := "fnExactJoinCrates", fn := fun _ => fun
  | [d1, d2] => { results := [.lit (.bool false)], args := [d1, d2] }
  | _ => none }
def FnExactJoinCratesWrongFalsely : Prop := fnExactJoinCratesRow.holds Try.pinned (OpenSpec.ofChange fnExactJoinCratesWrong)

/-- 'laws.FnExactSortCrate': WHATEVER THE INPUT: true; the input reads as it did. -/
def fnExactSortCrateSpec : ChangeSpec := { name := "fnExactSortCrate", fn := fun _ => fun
  | [d] => { results := [.lit (.bool true)], args := [d] }
  | _ => none }
def fnExactSortCrateRow : OpenClaim := { program := "ytckapidlhhjipaa", sum := "58312429b4c580a10c4e42418f2c8b2675ed9c9bd40c3a7b30b9945665726961", func := "loop.example/g01390/laws.FnExactSortCrate", spec := "fnExactSortCrate", inPlace := ["math.Float32bits"], unfollowed := true, recurses := true, apart := false }
def FnExactSortCrateSaid : Prop := fnExactSortCrateRow.holds Try.pinned (OpenSpec.ofChange fnExactSortCrateSpec)

/-- ITS FALSE NEIGHBOUR: 'it returns false'. Refute it at one input. -/
def fnExactSortCrateWrong : ChangeSpec := { name := "fnExactSortCrate", fn := fun _ => fun
  | [d] => { results := [.lit (.bool false)], args := [d] }
  | _ => none }
def FnExactSortCrateWrongFalsely : Prop := fnExactSortCrateRow.holds Try.pinned (OpenSpec.ofChange fnExactSortCrateWrong)

/-- 'laws.FnExactLooksApart': WHATEVER THE INPUT: true; the input reads as it did. -/
def fnExactLooksApartSpec : ChangeSpec := { name := "fnExactLooksApart", fn := fun _ => fun
  | [d1, d2] => { results := [.lit (.bool true)], args := [d1, d2] }
  | _ => none }
def fnExactLooksApartRow : OpenClaim := { program := "ytckapidlhhjipaa", sum := "58312429b4c580a10c4e42418f2c8b2675ed9c9bd40c3a7b30b9945665726961", func := "loop.example/g01390/laws.FnExactLooksApart", spec := "fnExactLooksApart", unfollowed := true, recurses := true, apart := false }
def FnExactLooksApartSaid : Prop := fnExactLooksApartRow.holds Try.pinned (OpenSpec.ofChange fnExactLooksApartSpec)

/-- ITS FALSE NEIGHBOUR: 'it returns false'. Refute it at one input. -/
def fnExactLooksApartWrong : ChangeSpec := { name := "fnExactLooksApart", fn := fun _ => fun
  | [d1, d2] => { results := [.lit (.bool false)], args := [d1, d2] }
  | _ => none }
def FnExactLooksApartWrongFalsely : Prop := fnExactLooksApartRow.holds Try.pinned (OpenSpec.ofChange fnExactLooksApartWrong)

/- THE SECOND FORM. 'bulk': how many values and letters a reading holds, each counted each time it is reached (what is shared counts as often as it is met; a slice's spare places count too). A statement '..UptoSaid' is the law's where the arguments, and the package variables that the reading takes, are together of bulk at most 1048576: NARROWER than '..Said'. Prove '..Said' where nothing that the law and all that it calls make is longer than what came in: it says more and counts as full. Else prove '..UptoSaid'. A law counts once. -/
mutual
def uptoBulk {H : Type} : DataW H → Nat
  | .lit (.string bytes) => bytes.length + 1
  | .lit _ => 1
  | .nil => 1
  | .ptr d => uptoBulk d + 1
  | .slice elems spare => uptoBulkAll elems + uptoBulkAll spare + 1
  | .agg parts => uptoBulkAll parts + 1
  | .iface _ d => uptoBulk d + 1
  | .map entries => uptoBulkEntries entries + 1
  | .held _ => 1
def uptoBulkAll {H : Type} : List (DataW H) → Nat
  | [] => 0
  | d :: r => uptoBulk d + uptoBulkAll r
def uptoBulkEntries {H : Type} : List (Lit × DataW H) → Nat
  | [] => 0
  | x :: r => uptoBulkEntry x + uptoBulkEntries r
def uptoBulkEntry {H : Type} : Lit × DataW H → Nat
  | (.string bytes, d) => bytes.length + uptoBulk d + 1
  | (_, d) => uptoBulk d + 1
 end
def uptoSmall : (H : Type) → List (DataW H) → Bool := fun _ ds => decide (uptoBulkAll ds ≤ 1048576)
def OpenSpec.upto (s : _root_.Go.ChangeSpec) : _root_.Go.OpenSpec := { _root_.Go.OpenSpec.ofChange s with cond := some uptoSmall }

/-- 'laws.FnExactRateOf', WHERE WHAT IT READS IS OF BULK AT MOST 1048576: true; the input reads as it did. -/
def fnExactRateOfUptoRow : OpenClaim := { program := "ytckapidlhhjipaa", sum := "58312429b4c580a10c4e42418f2c8b2675ed9c9bd40c3a7b30b9945665726961", func := "loop.example/g01390/laws.FnExactRateOf", spec := "fnExactRateOf", unfollowed := true, recurses := true, apart := false, narrowed := true }
def FnExactRateOfUptoSaid : Prop := fnExactRateOfUptoRow.holds Try.pinned (OpenSpec.upto fnExactRateOfSpec)

/-- 'laws.FnExactSameCrate', WHERE WHAT IT READS IS OF BULK AT MOST 1048576: true; the input reads as it did. -/
def fnExactSameCrateUptoRow : OpenClaim := { program := "ytckapidlhhjipaa", sum := "58312429b4c580a10c4e42418f2c8b2675ed9c9bd40c3a7b30b9945665726961", func := "loop.example/g01390/laws.FnExactSameCrate", spec := "fnExactSameCrate", inPlace := ["math.Float32bits"], unfollowed := true, recurses := true, apart := false, narrowed := true }
def FnExactSameCrateUptoSaid : Prop := fnExactSameCrateUptoRow.holds Try.pinned (OpenSpec.upto fnExactSameCrateSpec)

/-- 'laws.FnExactValidCrate', WHERE WHAT IT READS IS OF BULK AT MOST 1048576: true; the input reads as it did. -/
def fnExactValidCrateUptoRow : OpenClaim := { program := "ytckapidlhhjipaa", sum := "58312429b4c580a10c4e42418f2c8b2675ed9c9bd40c3a7b30b9945665726961", func := "loop.example/g01390/laws.FnExactValidCrate", spec := "fnExactValidCrate", inPlace := ["math.Float32bits"], unfollowed := true, recurses := true, apart := false, narrowed := true }
def FnExactValidCrateUptoSaid : Prop := fnExactValidCrateUptoRow.holds Try.pinned (OpenSpec.upto fnExactValidCrateSpec)

/-- 'laws.FnExactCountAbove', WHERE WHAT IT READS IS OF BULK AT MOST 1048576: true; the input reads as it did. -/
def fnExactCountAboveUptoRow : OpenClaim := { program := "ytckapidlhhjipaa", sum := "58312429b4c580a10c4e42418f2c8b2675ed9c9bd40c3a7b30b9945665726961", func := "loop.example/g01390/laws.FnExactCountAbove", spec := "fnExactCountAbove", inPlace := ["math.Float32bits"], unfollowed := true, recurses := true, apart := false, narrowed := true }
def FnExactCountAboveUptoSaid : Prop := fnExactCountAboveUptoRow.holds Try.pinned (OpenSpec.upto fnExactCountAboveSpec)

/-- 'laws.FnExactRipestOf', WHERE WHAT IT READS IS OF BULK AT MOST 1048576: true; the input reads as it did. -/
def fnExactRipestOfUptoRow : OpenClaim := { program := "ytckapidlhhjipaa", sum := "58312429b4c580a10c4e42418f2c8b2675ed9c9bd40c3a7b30b9945665726961", func := "loop.example/g01390/laws.FnExactRipestOf", spec := "fnExactRipestOf", inPlace := ["math.Float32bits"], unfollowed := true, recurses := true, apart := false, narrowed := true }
def FnExactRipestOfUptoSaid : Prop := fnExactRipestOfUptoRow.holds Try.pinned (OpenSpec.upto fnExactRipestOfSpec)

/-- 'laws.FnExactMeanRipe', WHERE WHAT IT READS IS OF BULK AT MOST 1048576: true; the input reads as it did. -/
def fnExactMeanRipeUptoRow : OpenClaim := { program := "ytckapidlhhjipaa", sum := "58312429b4c580a10c4e42418f2c8b2675ed9c9bd40c3a7b30b9945665726961", func := "loop.example/g01390/laws.FnExactMeanRipe", spec := "fnExactMeanRipe", inPlace := ["math.Float32bits"], unfollowed := true, recurses := true, apart := false, narrowed := true }
def FnExactMeanRipeUptoSaid : Prop := fnExactMeanRipeUptoRow.holds Try.pinned (OpenSpec.upto fnExactMeanRipeSpec)

/-- 'laws.FnExactPutFruit', WHERE WHAT IT READS IS OF BULK AT MOST 1048576: true; the input reads as it did. -/
def fnExactPutFruitUptoRow : OpenClaim := { program := "ytckapidlhhjipaa", sum := "58312429b4c580a10c4e42418f2c8b2675ed9c9bd40c3a7b30b9945665726961", func := "loop.example/g01390/laws.FnExactPutFruit", spec := "fnExactPutFruit", inPlace := ["math.Float32bits"], unfollowed := true, recurses := true, apart := false, narrowed := true }
def FnExactPutFruitUptoSaid : Prop := fnExactPutFruitUptoRow.holds Try.pinned (OpenSpec.upto fnExactPutFruitSpec)

/-- 'laws.FnExactTakeFruit', WHERE WHAT IT READS IS OF BULK AT MOST 1048576: true; the input reads as it did. -/
def fnExactTakeFruitUptoRow : OpenClaim := { program := "ytckapidlhhjipaa", sum := "58312429b4c580a10c4e42418f2c8b2675ed9c9bd40c3a7b30b9945665726961", func := "loop.example/g01390/laws.FnExactTakeFruit", spec := "fnExactTakeFruit", inPlace := ["math.Float32bits"], unfollowed := true, recurses := true, apart := false, narrowed := true }
def FnExactTakeFruitUptoSaid : Prop := fnExactTakeFruitUptoRow.holds Try.pinned (OpenSpec.upto fnExactTakeFruitSpec)

/-- 'laws.FnExactSplitCrate', WHERE WHAT IT READS IS OF BULK AT MOST 1048576: true; the input reads as it did. -/
def fnExactSplitCrateUptoRow : OpenClaim := { program := "ytckapidlhhjipaa", sum := "58312429b4c580a10c4e42418f2c8b2675ed9c9bd40c3a7b30b9945665726961", func := "loop.example/g01390/laws.FnExactSplitCrate", spec := "fnExactSplitCrate", inPlace := ["math.Float32bits"], unfollowed := true, recurses := true, apart := false, narrowed := true }
def FnExactSplitCrateUptoSaid : Prop := fnExactSplitCrateUptoRow.holds Try.pinned (OpenSpec.upto fnExactSplitCrateSpec)

/-- 'laws.FnExactJoinCrates', WHERE WHAT IT READS IS OF BULK AT MOST 1048576: true; the input reads as it did. -/
def fnExactJoinCratesUptoRow : OpenClaim := { program := "ytckapidlhhjipaa", sum := "58312429b4c580a10c4e42418f2c8b2675ed9c9bd40c3a7b30b9945665726961", func := "loop.example/g01390/laws.FnExactJoinCrates", spec := "fnExactJoinCrates", inPlace := ["math.Float32bits"], unfollowed := true, recurses := true, apart := false, narrowed := true }
def FnExactJoinCratesUptoSaid : Prop := fnExactJoinCratesUptoRow.holds Try.pinned (OpenSpec.upto fnExactJoinCratesSpec)

/-- 'laws.FnExactSortCrate', WHERE WHAT IT READS IS OF BULK AT MOST 1048576: true; the input reads as it did. -/
def fnExactSortCrateUptoRow : OpenClaim := { program := "ytckapidlhhjipaa", sum := "58312429b4c580a10c4e42418f2c8b2675ed9c9bd40c3a7b30b9945665726961", func := "loop.example/g01390/laws.FnExactSortCrate", spec := "fnExactSortCrate", inPlace := ["math.Float32bits"], unfollowed := true, recurses := true, apart := false, narrowed := true }
def FnExactSortCrateUptoSaid : Prop := fnExactSortCrateUptoRow.holds Try.pinned (OpenSpec.upto fnExactSortCrateSpec)

/-- 'laws.FnExactLooksApart', WHERE WHAT IT READS IS OF BULK AT MOST 1048576: true; the input reads as it did. -/
def fnExactLooksApartUptoRow : OpenClaim := { program := "ytckapidlhhjipaa", sum := "58312429b4c580a10c4e42418f2c8b2675ed9c9bd40c3a7b30b9945665726961", func := "loop.example/g01390/laws.FnExactLooksApart", spec := "fnExactLooksApart", unfollowed := true, recurses := true, apart := false, narrowed := true }
def FnExactLooksApartUptoSaid : Prop := fnExactLooksApartUptoRow.holds Try.pinned (OpenSpec.upto fnExactLooksApartSpec)

end Rows
end Go.Proofs.Ytckapidlhhjipaa
