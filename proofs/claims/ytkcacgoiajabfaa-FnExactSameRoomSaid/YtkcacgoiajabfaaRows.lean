/-
  No cell of these rows narrows 'for every input' (looked for: loops, veiled, ifaces, maps, wideKeys, modest, calm, conditions, laid).
  DERIVED. THE GIVEN ROWS OF THIS SEAT. 12 by the template 'for every input the law returns true; each argument reads behind the call as it read before'; 0 by the template 'total and deterministic' (their statements: YtkcacgoiajabfaaTotals.lean).
  GIVEN WITH THE SEED: the statements are not yours to turn. If you find one false, say at which input.
  Laid BY PROGRAM, IN A SANDBOX (cutbox-rows.mjs): the forced cells as the released guide's own fill.sh prints them over the translation 6ff0802882b462b0… (all of the seat's roots in one cut). By AI agents, Wed Nov 11 2026. No macro, syntax, notation, axiom, sorry.
-/
import Derived.Test.YtkcacgoiajabfaaChecked
import GoSem.Claim
import GoSem.ClaimJoined
import GoSem.ClaimMapViews
import Derived.JoinedTies
import Derived.KernelRfl
namespace Go.Proofs.Ytkcacgoiajabfaa
/- THE CELL 'sum', in the pinned program and in every row, IS THE sha256 OF THE DUMP (.gsa) THAT YtkcacgoiajabfaaProg.lean LOADS. Nothing in Lean hashes anything: it is a label: what it is worth is what the hold of that sum in a sandbox is worth. -/
noncomputable def Try.pinned : Pinned := { name := "ytkcacgoiajabfaa", sum := "6ff0802882b462b021aa6fc03b39f984f7ac330d04870df1a3d69a5d9477f0f8", checked := Try.checked }
namespace Rows
def none {H : Type} : Left H := { results := [], args := [] }

/-- 'laws.FnExactConstants': WHATEVER THE INPUT: true; the input reads as it did. -/
def fnExactConstantsSpec : ChangeSpec := { name := "fnExactConstants", fn := fun _ => fun
  | [] => { results := [.lit (.bool true)], args := [] }
  | _ => none }
def fnExactConstantsRow : OpenClaim := { program := "ytkcacgoiajabfaa", sum := "6ff0802882b462b021aa6fc03b39f984f7ac330d04870df1a3d69a5d9477f0f8", func := "loop.example/g01390/laws.FnExactConstants", spec := "fnExactConstants", apart := false }
def FnExactConstantsSaid : Prop := fnExactConstantsRow.holds Try.pinned (OpenSpec.ofChange fnExactConstantsSpec)

/-- ITS FALSE NEIGHBOUR: 'it returns false'. Refute it at one input. -/
def fnExactConstantsWrong : ChangeSpec := { name := "fnExactConstants", fn := fun _ => fun
  | [] => { results := [.lit (.bool false)], args := [] }
  | _ => none }
def FnExactConstantsWrongFalsely : Prop := fnExactConstantsRow.holds Try.pinned (OpenSpec.ofChange fnExactConstantsWrong)

/-- 'laws.FnExactIsPart': WHATEVER THE INPUT: true; the input reads as it did. -/
def fnExactIsPartSpec : ChangeSpec := { name := "fnExactIsPart", fn := fun _ => fun
  | [d] => { results := [.lit (.bool true)], args := [d] }
  | _ => none }
def fnExactIsPartRow : OpenClaim := { program := "ytkcacgoiajabfaa", sum := "6ff0802882b462b021aa6fc03b39f984f7ac330d04870df1a3d69a5d9477f0f8", func := "loop.example/g01390/laws.FnExactIsPart", spec := "fnExactIsPart", apart := false }
def FnExactIsPartSaid : Prop := fnExactIsPartRow.holds Try.pinned (OpenSpec.ofChange fnExactIsPartSpec)

/-- ITS FALSE NEIGHBOUR: 'it returns false'. Refute it at one input. -/
def fnExactIsPartWrong : ChangeSpec := { name := "fnExactIsPart", fn := fun _ => fun
  | [d] => { results := [.lit (.bool false)], args := [d] }
  | _ => none }
def FnExactIsPartWrongFalsely : Prop := fnExactIsPartRow.holds Try.pinned (OpenSpec.ofChange fnExactIsPartWrong)

/-- 'laws.FnExactIsPlain': WHATEVER THE INPUT: true; the input reads as it did. -/
def fnExactIsPlainSpec : ChangeSpec := { name := "fnExactIsPlain", fn := fun _ => fun
  | [d] => { results := [.lit (.bool true)], args := [d] }
  | _ => none }
def fnExactIsPlainRow : OpenClaim := { program := "ytkcacgoiajabfaa", sum := "6ff0802882b462b021aa6fc03b39f984f7ac330d04870df1a3d69a5d9477f0f8", func := "loop.example/g01390/laws.FnExactIsPlain", spec := "fnExactIsPlain", apart := false }
def FnExactIsPlainSaid : Prop := fnExactIsPlainRow.holds Try.pinned (OpenSpec.ofChange fnExactIsPlainSpec)

/-- ITS FALSE NEIGHBOUR: 'it returns false'. Refute it at one input. -/
def fnExactIsPlainWrong : ChangeSpec := { name := "fnExactIsPlain", fn := fun _ => fun
  | [d] => { results := [.lit (.bool false)], args := [d] }
  | _ => none }
def FnExactIsPlainWrongFalsely : Prop := fnExactIsPlainRow.holds Try.pinned (OpenSpec.ofChange fnExactIsPlainWrong)

/-- 'laws.FnExactSameNumber': WHATEVER THE INPUT: true; the input reads as it did. -/
def fnExactSameNumberSpec : ChangeSpec := { name := "fnExactSameNumber", fn := fun _ => fun
  | [d1, d2] => { results := [.lit (.bool true)], args := [d1, d2] }
  | _ => none }
def fnExactSameNumberRow : OpenClaim := { program := "ytkcacgoiajabfaa", sum := "6ff0802882b462b021aa6fc03b39f984f7ac330d04870df1a3d69a5d9477f0f8", func := "loop.example/g01390/laws.FnExactSameNumber", spec := "fnExactSameNumber", inPlace := ["math.Float32bits"], apart := false }
def FnExactSameNumberSaid : Prop := fnExactSameNumberRow.holds Try.pinned (OpenSpec.ofChange fnExactSameNumberSpec)

/-- ITS FALSE NEIGHBOUR: 'it returns false'. Refute it at one input. -/
def fnExactSameNumberWrong : ChangeSpec := { name := "fnExactSameNumber", fn := fun _ => fun
  | [d1, d2] => { results := [.lit (.bool false)], args := [d1, d2] }
  | _ => none }
def FnExactSameNumberWrongFalsely : Prop := fnExactSameNumberRow.holds Try.pinned (OpenSpec.ofChange fnExactSameNumberWrong)

/-- 'laws.FnExactCodeName': WHATEVER THE INPUT: true; the input reads as it did. -/
def fnExactCodeNameSpec : ChangeSpec := { name := "fnExactCodeName", fn := fun _ => fun
  | [d] => { results := [.lit (.bool true)], args := [d] }
  | _ => none }
def fnExactCodeNameRow : OpenClaim := { program := "ytkcacgoiajabfaa", sum := "6ff0802882b462b021aa6fc03b39f984f7ac330d04870df1a3d69a5d9477f0f8", func := "loop.example/g01390/laws.FnExactCodeName", spec := "fnExactCodeName", apart := false }
def FnExactCodeNameSaid : Prop := fnExactCodeNameRow.holds Try.pinned (OpenSpec.ofChange fnExactCodeNameSpec)

/-- ITS FALSE NEIGHBOUR: 'it returns false'. Refute it at one input. -/
def fnExactCodeNameWrong : ChangeSpec := { name := "fnExactCodeName", fn := fun _ => fun
  | [d] => { results := [.lit (.bool false)], args := [d] }
  | _ => none }
def FnExactCodeNameWrongFalsely : Prop := fnExactCodeNameRow.holds Try.pinned (OpenSpec.ofChange fnExactCodeNameWrong)

/-- 'laws.FnExactValidScale': WHATEVER THE INPUT: true; the input reads as it did. -/
def fnExactValidScaleSpec : ChangeSpec := { name := "fnExactValidScale", fn := fun _ => fun
  | [d] => { results := [.lit (.bool true)], args := [d] }
  | _ => none }
def fnExactValidScaleRow : OpenClaim := { program := "ytkcacgoiajabfaa", sum := "6ff0802882b462b021aa6fc03b39f984f7ac330d04870df1a3d69a5d9477f0f8", func := "loop.example/g01390/laws.FnExactValidScale", spec := "fnExactValidScale", apart := false }
def FnExactValidScaleSaid : Prop := fnExactValidScaleRow.holds Try.pinned (OpenSpec.ofChange fnExactValidScaleSpec)

/-- ITS FALSE NEIGHBOUR: 'it returns false'. Refute it at one input. -/
def fnExactValidScaleWrong : ChangeSpec := { name := "fnExactValidScale", fn := fun _ => fun
  | [d] => { results := [.lit (.bool false)], args := [d] }
  | _ => none }
def FnExactValidScaleWrongFalsely : Prop := fnExactValidScaleRow.holds Try.pinned (OpenSpec.ofChange fnExactValidScaleWrong)

/-- 'laws.FnExactValidAir': WHATEVER THE INPUT: true; the input reads as it did. -/
def fnExactValidAirSpec : ChangeSpec := { name := "fnExactValidAir", fn := fun _ => fun
  | [d] => { results := [.lit (.bool true)], args := [d] }
  | _ => none }
def fnExactValidAirRow : OpenClaim := { program := "ytkcacgoiajabfaa", sum := "6ff0802882b462b021aa6fc03b39f984f7ac330d04870df1a3d69a5d9477f0f8", func := "loop.example/g01390/laws.FnExactValidAir", spec := "fnExactValidAir", unfollowed := true, recurses := true, apart := false }
def FnExactValidAirSaid : Prop := fnExactValidAirRow.holds Try.pinned (OpenSpec.ofChange fnExactValidAirSpec)

/-- ITS FALSE NEIGHBOUR: 'it returns false'. Refute it at one input. -/
def fnExactValidAirWrong : ChangeSpec := { name := "fnExactValidAir", fn := fun _ => fun
  | [d] => { results := [.lit (.bool false)], args := [d] }
  | _ => none }
def FnExactValidAirWrongFalsely : Prop := fnExactValidAirRow.holds Try.pinned (OpenSpec.ofChange fnExactValidAirWrong)

/-- 'laws.FnExactValidLook': WHATEVER THE INPUT: true; the input reads as it did. -/
def fnExactValidLookSpec : ChangeSpec := { name := "fnExactValidLook", fn := fun _ => fun
  | [d] => { results := [.lit (.bool true)], args := [d] }
  | _ => none }
def fnExactValidLookRow : OpenClaim := { program := "ytkcacgoiajabfaa", sum := "6ff0802882b462b021aa6fc03b39f984f7ac330d04870df1a3d69a5d9477f0f8", func := "loop.example/g01390/laws.FnExactValidLook", spec := "fnExactValidLook", unfollowed := true, recurses := true, apart := false }
def FnExactValidLookSaid : Prop := fnExactValidLookRow.holds Try.pinned (OpenSpec.ofChange fnExactValidLookSpec)

/-- ITS FALSE NEIGHBOUR: 'it returns false'. Refute it at one input. -/
def fnExactValidLookWrong : ChangeSpec := { name := "fnExactValidLook", fn := fun _ => fun
  | [d] => { results := [.lit (.bool false)], args := [d] }
  | _ => none }
def FnExactValidLookWrongFalsely : Prop := fnExactValidLookRow.holds Try.pinned (OpenSpec.ofChange fnExactValidLookWrong)

/-- 'laws.FnExactSameCooler': WHATEVER THE INPUT: true; the input reads as it did. -/
def fnExactSameCoolerSpec : ChangeSpec := { name := "fnExactSameCooler", fn := fun _ => fun
  | [d1, d2] => { results := [.lit (.bool true)], args := [d1, d2] }
  | _ => none }
def fnExactSameCoolerRow : OpenClaim := { program := "ytkcacgoiajabfaa", sum := "6ff0802882b462b021aa6fc03b39f984f7ac330d04870df1a3d69a5d9477f0f8", func := "loop.example/g01390/laws.FnExactSameCooler", spec := "fnExactSameCooler", inPlace := ["math.Float32bits"], apart := false }
def FnExactSameCoolerSaid : Prop := fnExactSameCoolerRow.holds Try.pinned (OpenSpec.ofChange fnExactSameCoolerSpec)

/-- ITS FALSE NEIGHBOUR: 'it returns false'. Refute it at one input. -/
def fnExactSameCoolerWrong : ChangeSpec := { name := "fnExactSameCooler", fn := fun _ => fun
  | [d1, d2] => { results := [.lit (.bool false)], args := [d1, d2] }
  | _ => none }
def FnExactSameCoolerWrongFalsely : Prop := fnExactSameCoolerRow.holds Try.pinned (OpenSpec.ofChange fnExactSameCoolerWrong)

/-- 'laws.FnExactValidCooler': WHATEVER THE INPUT: true; the input reads as it did. -/
def fnExactValidCoolerSpec : ChangeSpec := { name := "fnExactValidCooler", fn := fun _ => fun
  | [d] => { results := [.lit (.bool true)], args := [d] }
  | _ => none }
def fnExactValidCoolerRow : OpenClaim := { program := "ytkcacgoiajabfaa", sum := "6ff0802882b462b021aa6fc03b39f984f7ac330d04870df1a3d69a5d9477f0f8", func := "loop.example/g01390/laws.FnExactValidCooler", spec := "fnExactValidCooler", unfollowed := true, recurses := true, apart := false }
def FnExactValidCoolerSaid : Prop := fnExactValidCoolerRow.holds Try.pinned (OpenSpec.ofChange fnExactValidCoolerSpec)

/-- ITS FALSE NEIGHBOUR: 'it returns false'. Refute it at one input. -/
def fnExactValidCoolerWrong : ChangeSpec := { name := "fnExactValidCooler", fn := fun _ => fun
  | [d] => { results := [.lit (.bool false)], args := [d] }
  | _ => none }
def FnExactValidCoolerWrongFalsely : Prop := fnExactValidCoolerRow.holds Try.pinned (OpenSpec.ofChange fnExactValidCoolerWrong)

/-- 'laws.FnExactSameRoom': WHATEVER THE INPUT: true; the input reads as it did. -/
def fnExactSameRoomSpec : ChangeSpec := { name := "fnExactSameRoom", fn := fun _ => fun
  | [d1, d2] => { results := [.lit (.bool true)], args := [d1, d2] }
  | _ => none }
def fnExactSameRoomRow : OpenClaim := { program := "ytkcacgoiajabfaa", sum := "6ff0802882b462b021aa6fc03b39f984f7ac330d04870df1a3d69a5d9477f0f8", func := "loop.example/g01390/laws.FnExactSameRoom", spec := "fnExactSameRoom", inPlace := ["math.Float32bits"], apart := false }
def FnExactSameRoomSaid : Prop := fnExactSameRoomRow.holds Try.pinned (OpenSpec.ofChange fnExactSameRoomSpec)

/-- ITS FALSE NEIGHBOUR: 'it returns false'. Refute it at one input. -/
def fnExactSameRoomWrong : ChangeSpec := { name := "fnExactSameRoom", fn := fun _ => fun
  | [d1, d2] => { results := [.lit (.bool false)], args := [d1, d2] }
  | _ => none }
def FnExactSameRoomWrongFalsely : Prop := fnExactSameRoomRow.holds Try.pinned (OpenSpec.ofChange fnExactSameRoomWrong)

/-- 'laws.FnExactValidRoom': WHATEVER THE INPUT: true; the input reads as it did. -/
def fnExactValidRoomSpec : ChangeSpec := { name := "fnExactValidRoom", fn := fun _ => fun
  | [d] => { results := [.lit (.bool true)], args := [d] }
  | _ => none }
def fnExactValidRoomRow : OpenClaim := { program := "ytkcacgoiajabfaa", sum := "6ff0802882b462b021aa6fc03b39f984f7ac330d04870df1a3d69a5d9477f0f8", func := "loop.example/g01390/laws.FnExactValidRoom", spec := "fnExactValidRoom", apart := false }
def FnExactValidRoomSaid : Prop := fnExactValidRoomRow.holds Try.pinned (OpenSpec.ofChange fnExactValidRoomSpec)

/-- ITS FALSE NEIGHBOUR: 'it returns false'. Refute it at one input. -/
def fnExactValidRoomWrong : ChangeSpec := { name := "fnExactValidRoom", fn := fun _ => fun
  | [d] => { results := [.lit (.bool false)], args := [d] }
  | _ => none }
def FnExactValidRoomWrongFalsely : Prop := fnExactValidRoomRow.holds Try.pinned (OpenSpec.ofChange fnExactValidRoomWrong)

/- THE SECOND FORM. 'bulk': how many values and letters a reading holds, each counted each time it is reached (what is shared counts as often as it is met; a slice's spare places count too). A statement '..UptoSaid' is the law's where the arguments, and the package variables that the reading takes, are together of bulk at most 1048576: NARROWER than '..Said'. Prove '..Said' where nothing that the law and all that it calls make is longer than what came in: it says more and counts as full. Else prove '..UptoSaid'. A law counts once. -/
mutual
def uptoBulk {H : Type} : DataW H → Nat
  | .lit (.string bytes) => bytes.length + 1
  | .lit _ => 1
  | .nil => 1
  | .ptr d => uptoBulk d + 1
  | .slice elems spare => uptoBulkAll elems + uptoBulkAll spare + 1
  | .agg parts => uptoBulkAll parts + 1
  | .iface _ d => uptoBulk d + 1
  | .map entries => uptoBulkEntries entries + 1
  | .held _ => 1
def uptoBulkAll {H : Type} : List (DataW H) → Nat
  | [] => 0
  | d :: r => uptoBulk d + uptoBulkAll r
def uptoBulkEntries {H : Type} : List (Lit × DataW H) → Nat
  | [] => 0
  | x :: r => uptoBulkEntry x + uptoBulkEntries r
def uptoBulkEntry {H : Type} : Lit × DataW H → Nat
  | (.string bytes, d) => bytes.length + uptoBulk d + 1
  | (_, d) => uptoBulk d + 1
 end
def uptoSmall : (H : Type) → List (DataW H) → Bool := fun _ ds => decide (uptoBulkAll ds ≤ 1048576)
def OpenSpec.upto (s : _root_.Go.ChangeSpec) : _root_.Go.OpenSpec := { _root_.Go.OpenSpec.ofChange s with cond := some uptoSmall }

/-- 'laws.FnExactConstants', WHERE WHAT IT READS IS OF BULK AT MOST 1048576: true; the input reads as it did. -/
def fnExactConstantsUptoRow : OpenClaim := { program := "ytkcacgoiajabfaa", sum := "6ff0802882b462b021aa6fc03b39f984f7ac330d04870df1a3d69a5d9477f0f8", func := "loop.example/g01390/laws.FnExactConstants", spec := "fnExactConstants", apart := false, narrowed := true }
def FnExactConstantsUptoSaid : Prop := fnExactConstantsUptoRow.holds Try.pinned (OpenSpec.upto fnExactConstantsSpec)

/-- 'laws.FnExactIsPart', WHERE WHAT IT READS IS OF BULK AT MOST 1048576: true; the input reads as it did. -/
def fnExactIsPartUptoRow : OpenClaim := { program := "ytkcacgoiajabfaa", sum := "6ff0802882b462b021aa6fc03b39f984f7ac330d04870df1a3d69a5d9477f0f8", func := "loop.example/g01390/laws.FnExactIsPart", spec := "fnExactIsPart", apart := false, narrowed := true }
def FnExactIsPartUptoSaid : Prop := fnExactIsPartUptoRow.holds Try.pinned (OpenSpec.upto fnExactIsPartSpec)

/-- 'laws.FnExactIsPlain', WHERE WHAT IT READS IS OF BULK AT MOST 1048576: true; the input reads as it did. -/
def fnExactIsPlainUptoRow : OpenClaim := { program := "ytkcacgoiajabfaa", sum := "6ff0802882b462b021aa6fc03b39f984f7ac330d04870df1a3d69a5d9477f0f8", func := "loop.example/g01390/laws.FnExactIsPlain", spec := "fnExactIsPlain", apart := false, narrowed := true }
def FnExactIsPlainUptoSaid : Prop := fnExactIsPlainUptoRow.holds Try.pinned (OpenSpec.upto fnExactIsPlainSpec)

/-- 'laws.FnExactSameNumber', WHERE WHAT IT READS IS OF BULK AT MOST 1048576: true; the input reads as it did. -/
def fnExactSameNumberUptoRow : OpenClaim := { program := "ytkcacgoiajabfaa", sum := "6ff0802882b462b021aa6fc03b39f984f7ac330d04870df1a3d69a5d9477f0f8", func := "loop.example/g01390/laws.FnExactSameNumber", spec := "fnExactSameNumber", inPlace := ["math.Float32bits"], apart := false, narrowed := true }
def FnExactSameNumberUptoSaid : Prop := fnExactSameNumberUptoRow.holds Try.pinned (OpenSpec.upto fnExactSameNumberSpec)

/-- 'laws.FnExactCodeName', WHERE WHAT IT READS IS OF BULK AT MOST 1048576: true; the input reads as it did. -/
def fnExactCodeNameUptoRow : OpenClaim := { program := "ytkcacgoiajabfaa", sum := "6ff0802882b462b021aa6fc03b39f984f7ac330d04870df1a3d69a5d9477f0f8", func := "loop.example/g01390/laws.FnExactCodeName", spec := "fnExactCodeName", apart := false, narrowed := true }
def FnExactCodeNameUptoSaid : Prop := fnExactCodeNameUptoRow.holds Try.pinned (OpenSpec.upto fnExactCodeNameSpec)

/-- 'laws.FnExactValidScale', WHERE WHAT IT READS IS OF BULK AT MOST 1048576: true; the input reads as it did. -/
def fnExactValidScaleUptoRow : OpenClaim := { program := "ytkcacgoiajabfaa", sum := "6ff0802882b462b021aa6fc03b39f984f7ac330d04870df1a3d69a5d9477f0f8", func := "loop.example/g01390/laws.FnExactValidScale", spec := "fnExactValidScale", apart := false, narrowed := true }
def FnExactValidScaleUptoSaid : Prop := fnExactValidScaleUptoRow.holds Try.pinned (OpenSpec.upto fnExactValidScaleSpec)

/-- 'laws.FnExactValidAir', WHERE WHAT IT READS IS OF BULK AT MOST 1048576: true; the input reads as it did. -/
def fnExactValidAirUptoRow : OpenClaim := { program := "ytkcacgoiajabfaa", sum := "6ff0802882b462b021aa6fc03b39f984f7ac330d04870df1a3d69a5d9477f0f8", func := "loop.example/g01390/laws.FnExactValidAir", spec := "fnExactValidAir", unfollowed := true, recurses := true, apart := false, narrowed := true }
def FnExactValidAirUptoSaid : Prop := fnExactValidAirUptoRow.holds Try.pinned (OpenSpec.upto fnExactValidAirSpec)

/-- 'laws.FnExactValidLook', WHERE WHAT IT READS IS OF BULK AT MOST 1048576: true; the input reads as it did. -/
def fnExactValidLookUptoRow : OpenClaim := { program := "ytkcacgoiajabfaa", sum := "6ff0802882b462b021aa6fc03b39f984f7ac330d04870df1a3d69a5d9477f0f8", func := "loop.example/g01390/laws.FnExactValidLook", spec := "fnExactValidLook", unfollowed := true, recurses := true, apart := false, narrowed := true }
def FnExactValidLookUptoSaid : Prop := fnExactValidLookUptoRow.holds Try.pinned (OpenSpec.upto fnExactValidLookSpec)

/-- 'laws.FnExactSameCooler', WHERE WHAT IT READS IS OF BULK AT MOST 1048576: true; the input reads as it did. -/
def fnExactSameCoolerUptoRow : OpenClaim := { program := "ytkcacgoiajabfaa", sum := "6ff0802882b462b021aa6fc03b39f984f7ac330d04870df1a3d69a5d9477f0f8", func := "loop.example/g01390/laws.FnExactSameCooler", spec := "fnExactSameCooler", inPlace := ["math.Float32bits"], apart := false, narrowed := true }
def FnExactSameCoolerUptoSaid : Prop := fnExactSameCoolerUptoRow.holds Try.pinned (OpenSpec.upto fnExactSameCoolerSpec)

/-- 'laws.FnExactValidCooler', WHERE WHAT IT READS IS OF BULK AT MOST 1048576: true; the input reads as it did. -/
def fnExactValidCoolerUptoRow : OpenClaim := { program := "ytkcacgoiajabfaa", sum := "6ff0802882b462b021aa6fc03b39f984f7ac330d04870df1a3d69a5d9477f0f8", func := "loop.example/g01390/laws.FnExactValidCooler", spec := "fnExactValidCooler", unfollowed := true, recurses := true, apart := false, narrowed := true }
def FnExactValidCoolerUptoSaid : Prop := fnExactValidCoolerUptoRow.holds Try.pinned (OpenSpec.upto fnExactValidCoolerSpec)

/-- 'laws.FnExactSameRoom', WHERE WHAT IT READS IS OF BULK AT MOST 1048576: true; the input reads as it did. -/
def fnExactSameRoomUptoRow : OpenClaim := { program := "ytkcacgoiajabfaa", sum := "6ff0802882b462b021aa6fc03b39f984f7ac330d04870df1a3d69a5d9477f0f8", func := "loop.example/g01390/laws.FnExactSameRoom", spec := "fnExactSameRoom", inPlace := ["math.Float32bits"], apart := false, narrowed := true }
def FnExactSameRoomUptoSaid : Prop := fnExactSameRoomUptoRow.holds Try.pinned (OpenSpec.upto fnExactSameRoomSpec)

/-- 'laws.FnExactValidRoom', WHERE WHAT IT READS IS OF BULK AT MOST 1048576: true; the input reads as it did. -/
def fnExactValidRoomUptoRow : OpenClaim := { program := "ytkcacgoiajabfaa", sum := "6ff0802882b462b021aa6fc03b39f984f7ac330d04870df1a3d69a5d9477f0f8", func := "loop.example/g01390/laws.FnExactValidRoom", spec := "fnExactValidRoom", apart := false, narrowed := true }
def FnExactValidRoomUptoSaid : Prop := fnExactValidRoomUptoRow.holds Try.pinned (OpenSpec.upto fnExactValidRoomSpec)

end Rows
end Go.Proofs.Ytkcacgoiajabfaa
