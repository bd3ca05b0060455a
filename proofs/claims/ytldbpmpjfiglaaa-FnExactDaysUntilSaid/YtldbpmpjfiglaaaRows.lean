/-
  No cell of these rows narrows 'for every input' (looked for: loops, veiled, ifaces, maps, wideKeys, modest, calm, conditions, laid).
  DERIVED. THE GIVEN ROWS OF THIS SEAT. 12 by the template 'for every input the law returns true; each argument reads behind the call as it read before'; 0 by the template 'total and deterministic' (their statements: YtldbpmpjfiglaaaTotals.lean).
  GIVEN WITH THE SEED: the statements are not yours to turn. If you find one false, say at which input.
  Laid BY PROGRAM, IN A SANDBOX (cutbox-rows.mjs): the forced cells as the released guide's own fill.sh prints them over the translation da90fa3bb97348a3… (all of the seat's roots in one cut). By AI agents, Wed Nov 11 2026. No macro, syntax, notation, axiom, sorry.
-/
import Derived.Test.YtldbpmpjfiglaaaChecked
import GoSem.Claim
import GoSem.ClaimJoined
import GoSem.ClaimMapViews
import Derived.JoinedTies
import Derived.KernelRfl
namespace Go.Proofs.Ytldbpmpjfiglaaa
/- THE CELL 'sum', in the pinned program and in every row, IS THE sha256 OF THE DUMP (.gsa) THAT YtldbpmpjfiglaaaProg.lean LOADS. Nothing in Lean hashes anything: it is a label: what it is worth is what the hold of that sum in a sandbox is worth. -/
noncomputable def Try.pinned : Pinned := { name := "ytldbpmpjfiglaaa", sum := "da90fa3bb97348a3555a06808462ea6b2ca909fde5fbcff1e95a8523837e8712", checked := Try.checked }
namespace Rows
def none {H : Type} : Left H := { results := [], args := [] }

/-- 'laws.FnExactGrowOnce': WHATEVER THE INPUT: true; the input reads as it did. -/
def fnExactGrowOnceSpec : ChangeSpec := { name := "fnExactGrowOnce", fn := fun _ => fun
  | [d1, d2] => { results := [.lit (.bool true)], args := [d1, d2] }
  | _ => none }
def fnExactGrowOnceRow : OpenClaim := { program := "ytldbpmpjfiglaaa", sum := "da90fa3bb97348a3555a06808462ea6b2ca909fde5fbcff1e95a8523837e8712", func := "loop.example/g01390/laws.FnExactGrowOnce", spec := "fnExactGrowOnce", inPlace := ["math.Float32bits"], unfollowed := true, recurses := true, apart := false }
def FnExactGrowOnceSaid : Prop := fnExactGrowOnceRow.holds Try.pinned (OpenSpec.ofChange fnExactGrowOnceSpec)

/-- ITS FALSE NEIGHBOUR: 'it returns false'. Refute it at one input. -/
def fnExactGrowOnceWrong : ChangeSpec := { name := "fnExactGrowOnce", fn := fun _ => fun
  | [d1, d2] => { results := [.lit (.bool false)], args := [d1, d2] }
  | _ => none }
def FnExactGrowOnceWrongFalsely : Prop := fnExactGrowOnceRow.holds Try.pinned (OpenSpec.ofChange fnExactGrowOnceWrong)

/-- 'laws.FnExactGrowDays': WHATEVER THE INPUT: true; the input reads as it did. -/
def fnExactGrowDaysSpec : ChangeSpec := { name := "fnExactGrowDays", fn := fun _ => fun
  | [d1, d2, d3] => { results := [.lit (.bool true)], args := [d1, d2, d3] }
  | _ => none }
def fnExactGrowDaysRow : OpenClaim := { program := "ytldbpmpjfiglaaa", sum := "da90fa3bb97348a3555a06808462ea6b2ca909fde5fbcff1e95a8523837e8712", func := "loop.example/g01390/laws.FnExactGrowDays", spec := "fnExactGrowDays", inPlace := ["math.Float32bits"], unfollowed := true, recurses := true, apart := false }
def FnExactGrowDaysSaid : Prop := fnExactGrowDaysRow.holds Try.pinned (OpenSpec.ofChange fnExactGrowDaysSpec)

/-- ITS FALSE NEIGHBOUR: 'it returns false'. Refute it at one input. -/
def fnExactGrowDaysWrong : ChangeSpec := { name := "fnExactGrowDays", fn := fun _ => fun
  | [d1, d2, d3] => { results := [.lit (.bool false)], args := [d1, d2, d3] }
  | _ => none }
def FnExactGrowDaysWrongFalsely : Prop := fnExactGrowDaysRow.holds Try.pinned (OpenSpec.ofChange fnExactGrowDaysWrong)

/-- 'laws.FnExactDaysUntil': WHATEVER THE INPUT: true; the input reads as it did. -/
def fnExactDaysUntilSpec : ChangeSpec := { name := "fnExactDaysUntil", fn := fun _ => fun
  | [d1, d2, d3] => { results := [.lit (.bool true)], args := [d1, d2, d3] }
  | _ => none }
def fnExactDaysUntilRow : OpenClaim := { program := "ytldbpmpjfiglaaa", sum := "da90fa3bb97348a3555a06808462ea6b2ca909fde5fbcff1e95a8523837e8712", func := "loop.example/g01390/laws.FnExactDaysUntil", spec := "fnExactDaysUntil", inPlace := ["math.Float32bits"], unfollowed := true, recurses := true, apart := false }
def FnExactDaysUntilSaid : Prop := fnExactDaysUntilRow.holds Try.pinned (OpenSpec.ofChange fnExactDaysUntilSpec)

/-- ITS FALSE NEIGHBOUR: 'it returns false'. Refute it at one input. -/
def fnExactDaysUntilWrong : ChangeSpec := { name := "fnExactDaysUntil", fn := fun _ => fun
  | [d1, d2, d3] => { results := [.lit (.bool false)], args := [d1, d2, d3] }
  | _ => none }
def FnExactDaysUntilWrongFalsely : Prop := fnExactDaysUntilRow.holds Try.pinned (OpenSpec.ofChange fnExactDaysUntilWrong)

/-- 'laws.FnExactWarmthFor': WHATEVER THE INPUT: true; the input reads as it did. -/
def fnExactWarmthForSpec : ChangeSpec := { name := "fnExactWarmthFor", fn := fun _ => fun
  | [d1, d2, d3, d4] => { results := [.lit (.bool true)], args := [d1, d2, d3, d4] }
  | _ => none }
def fnExactWarmthForRow : OpenClaim := { program := "ytldbpmpjfiglaaa", sum := "da90fa3bb97348a3555a06808462ea6b2ca909fde5fbcff1e95a8523837e8712", func := "loop.example/g01390/laws.FnExactWarmthFor", spec := "fnExactWarmthFor", unfollowed := true, recurses := true, apart := false }
def FnExactWarmthForSaid : Prop := fnExactWarmthForRow.holds Try.pinned (OpenSpec.ofChange fnExactWarmthForSpec)

/-- ITS FALSE NEIGHBOUR: 'it returns false'. Refute it at one input. -/
def fnExactWarmthForWrong : ChangeSpec := { name := "fnExactWarmthFor", fn := fun _ => fun
  | [d1, d2, d3, d4] => { results := [.lit (.bool false)], args := [d1, d2, d3, d4] }
  | _ => none }
def FnExactWarmthForWrongFalsely : Prop := fnExactWarmthForRow.holds Try.pinned (OpenSpec.ofChange fnExactWarmthForWrong)

/-- 'laws.FnDays': WHATEVER THE INPUT: true; the input reads as it did. -/
def fnDaysSpec : ChangeSpec := { name := "fnDays", fn := fun _ => fun
  | [d1, d2] => { results := [.lit (.bool true)], args := [d1, d2] }
  | _ => none }
def fnDaysRow : OpenClaim := { program := "ytldbpmpjfiglaaa", sum := "da90fa3bb97348a3555a06808462ea6b2ca909fde5fbcff1e95a8523837e8712", func := "loop.example/g01390/laws.FnDays", spec := "fnDays", inPlace := ["math.Float32bits"], unfollowed := true, recurses := true, apart := false }
def FnDaysSaid : Prop := fnDaysRow.holds Try.pinned (OpenSpec.ofChange fnDaysSpec)

/-- ITS FALSE NEIGHBOUR: 'it returns false'. Refute it at one input. -/
def fnDaysWrong : ChangeSpec := { name := "fnDays", fn := fun _ => fun
  | [d1, d2] => { results := [.lit (.bool false)], args := [d1, d2] }
  | _ => none }
def FnDaysWrongFalsely : Prop := fnDaysRow.holds Try.pinned (OpenSpec.ofChange fnDaysWrong)

/-- 'laws.FnExactCoolOnce': WHATEVER THE INPUT: true; the input reads as it did. -/
def fnExactCoolOnceSpec : ChangeSpec := { name := "fnExactCoolOnce", fn := fun _ => fun
  | [d1, d2, d3, d4] => { results := [.lit (.bool true)], args := [d1, d2, d3, d4] }
  | _ => none }
def fnExactCoolOnceRow : OpenClaim := { program := "ytldbpmpjfiglaaa", sum := "da90fa3bb97348a3555a06808462ea6b2ca909fde5fbcff1e95a8523837e8712", func := "loop.example/g01390/laws.FnExactCoolOnce", spec := "fnExactCoolOnce", unfollowed := true, recurses := true, apart := false }
def FnExactCoolOnceSaid : Prop := fnExactCoolOnceRow.holds Try.pinned (OpenSpec.ofChange fnExactCoolOnceSpec)

/-- ITS FALSE NEIGHBOUR: 'it returns false'. Refute it at one input. -/
def fnExactCoolOnceWrong : ChangeSpec := { name := "fnExactCoolOnce", fn := fun _ => fun
  | [d1, d2, d3, d4] => { results := [.lit (.bool false)], args := [d1, d2, d3, d4] }
  | _ => none }
def FnExactCoolOnceWrongFalsely : Prop := fnExactCoolOnceRow.holds Try.pinned (OpenSpec.ofChange fnExactCoolOnceWrong)

/-- 'laws.FnExactHoldsBetween': WHATEVER THE INPUT: true; the input reads as it did. -/
def fnExactHoldsBetweenSpec : ChangeSpec := { name := "fnExactHoldsBetween", fn := fun _ => fun
  | [d1, d2, d3, d4, d5] => { results := [.lit (.bool true)], args := [d1, d2, d3, d4, d5] }
  | _ => none }
def fnExactHoldsBetweenRow : OpenClaim := { program := "ytldbpmpjfiglaaa", sum := "da90fa3bb97348a3555a06808462ea6b2ca909fde5fbcff1e95a8523837e8712", func := "loop.example/g01390/laws.FnExactHoldsBetween", spec := "fnExactHoldsBetween", unfollowed := true, recurses := true, apart := false }
def FnExactHoldsBetweenSaid : Prop := fnExactHoldsBetweenRow.holds Try.pinned (OpenSpec.ofChange fnExactHoldsBetweenSpec)

/-- ITS FALSE NEIGHBOUR: 'it returns false'. Refute it at one input. -/
def fnExactHoldsBetweenWrong : ChangeSpec := { name := "fnExactHoldsBetween", fn := fun _ => fun
  | [d1, d2, d3, d4, d5] => { results := [.lit (.bool false)], args := [d1, d2, d3, d4, d5] }
  | _ => none }
def FnExactHoldsBetweenWrongFalsely : Prop := fnExactHoldsBetweenRow.holds Try.pinned (OpenSpec.ofChange fnExactHoldsBetweenWrong)

/-- 'laws.FnExactCoolSteps': WHATEVER THE INPUT: true; the input reads as it did. -/
def fnExactCoolStepsSpec : ChangeSpec := { name := "fnExactCoolSteps", fn := fun _ => fun
  | [d1, d2, d3, d4, d5] => { results := [.lit (.bool true)], args := [d1, d2, d3, d4, d5] }
  | _ => none }
def fnExactCoolStepsRow : OpenClaim := { program := "ytldbpmpjfiglaaa", sum := "da90fa3bb97348a3555a06808462ea6b2ca909fde5fbcff1e95a8523837e8712", func := "loop.example/g01390/laws.FnExactCoolSteps", spec := "fnExactCoolSteps", unfollowed := true, recurses := true, apart := false }
def FnExactCoolStepsSaid : Prop := fnExactCoolStepsRow.holds Try.pinned (OpenSpec.ofChange fnExactCoolStepsSpec)

/-- ITS FALSE NEIGHBOUR: 'it returns false'. Refute it at one input. -/
def fnExactCoolStepsWrong : ChangeSpec := { name := "fnExactCoolSteps", fn := fun _ => fun
  | [d1, d2, d3, d4, d5] => { results := [.lit (.bool false)], args := [d1, d2, d3, d4, d5] }
  | _ => none }
def FnExactCoolStepsWrongFalsely : Prop := fnExactCoolStepsRow.holds Try.pinned (OpenSpec.ofChange fnExactCoolStepsWrong)

/-- 'laws.FnExactPowerFor': WHATEVER THE INPUT: true; the input reads as it did. -/
def fnExactPowerForSpec : ChangeSpec := { name := "fnExactPowerFor", fn := fun _ => fun
  | [d1, d2, d3, d4, d5] => { results := [.lit (.bool true)], args := [d1, d2, d3, d4, d5] }
  | _ => none }
def fnExactPowerForRow : OpenClaim := { program := "ytldbpmpjfiglaaa", sum := "da90fa3bb97348a3555a06808462ea6b2ca909fde5fbcff1e95a8523837e8712", func := "loop.example/g01390/laws.FnExactPowerFor", spec := "fnExactPowerFor", unfollowed := true, recurses := true, apart := false }
def FnExactPowerForSaid : Prop := fnExactPowerForRow.holds Try.pinned (OpenSpec.ofChange fnExactPowerForSpec)

/-- ITS FALSE NEIGHBOUR: 'it returns false'. Refute it at one input. -/
def fnExactPowerForWrong : ChangeSpec := { name := "fnExactPowerFor", fn := fun _ => fun
  | [d1, d2, d3, d4, d5] => { results := [.lit (.bool false)], args := [d1, d2, d3, d4, d5] }
  | _ => none }
def FnExactPowerForWrongFalsely : Prop := fnExactPowerForRow.holds Try.pinned (OpenSpec.ofChange fnExactPowerForWrong)

/-- 'laws.FnCoolers': WHATEVER THE INPUT: true; the input reads as it did. -/
def fnCoolersSpec : ChangeSpec := { name := "fnCoolers", fn := fun _ => fun
  | [d1, d2] => { results := [.lit (.bool true)], args := [d1, d2] }
  | _ => none }
def fnCoolersRow : OpenClaim := { program := "ytldbpmpjfiglaaa", sum := "da90fa3bb97348a3555a06808462ea6b2ca909fde5fbcff1e95a8523837e8712", func := "loop.example/g01390/laws.FnCoolers", spec := "fnCoolers", inPlace := ["math.Float32bits"], unfollowed := true, recurses := true, apart := false }
def FnCoolersSaid : Prop := fnCoolersRow.holds Try.pinned (OpenSpec.ofChange fnCoolersSpec)

/-- ITS FALSE NEIGHBOUR: 'it returns false'. Refute it at one input. -/
def fnCoolersWrong : ChangeSpec := { name := "fnCoolers", fn := fun _ => fun
  | [d1, d2] => { results := [.lit (.bool false)], args := [d1, d2] }
  | _ => none }
def FnCoolersWrongFalsely : Prop := fnCoolersRow.holds Try.pinned (OpenSpec.ofChange fnCoolersWrong)

/-- 'laws.FnExactValidPile': WHATEVER THE INPUT: true; the input reads as it did. -/
def fnExactValidPileSpec : ChangeSpec := { name := "fnExactValidPile", fn := fun _ => fun
  | [d] => { results := [.lit (.bool true)], args := [d] }
  | _ => none }
def fnExactValidPileRow : OpenClaim := { program := "ytldbpmpjfiglaaa", sum := "da90fa3bb97348a3555a06808462ea6b2ca909fde5fbcff1e95a8523837e8712", func := "loop.example/g01390/laws.FnExactValidPile", spec := "fnExactValidPile", unfollowed := true, recurses := true, apart := false }
def FnExactValidPileSaid : Prop := fnExactValidPileRow.holds Try.pinned (OpenSpec.ofChange fnExactValidPileSpec)

/-- ITS FALSE NEIGHBOUR: 'it returns false'. Refute it at one input. -/
def fnExactValidPileWrong : ChangeSpec := { name := "fnExactValidPile", fn := fun _ => fun
  | [d] => { results := [.lit (.bool false)], args := [d] }
  | _ => none }
def FnExactValidPileWrongFalsely : Prop := fnExactValidPileRow.holds Try.pinned (OpenSpec.ofChange fnExactValidPileWrong)

/-- 'laws.FnExactSamePile': WHATEVER THE INPUT: true; the input reads as it did. -/
def fnExactSamePileSpec : ChangeSpec := { name := "fnExactSamePile", fn := fun _ => fun
  | [d1, d2] => { results := [.lit (.bool true)], args := [d1, d2] }
  | _ => none }
def fnExactSamePileRow : OpenClaim := { program := "ytldbpmpjfiglaaa", sum := "da90fa3bb97348a3555a06808462ea6b2ca909fde5fbcff1e95a8523837e8712", func := "loop.example/g01390/laws.FnExactSamePile", spec := "fnExactSamePile", inPlace := ["math.Float32bits"], unfollowed := true, recurses := true, apart := false }
def FnExactSamePileSaid : Prop := fnExactSamePileRow.holds Try.pinned (OpenSpec.ofChange fnExactSamePileSpec)

/-- ITS FALSE NEIGHBOUR: 'it returns false'. Refute it at one input. -/
def fnExactSamePileWrong : ChangeSpec := { name := "fnExactSamePile", fn := fun _ => fun
  | [d1, d2] => { results := [.lit (.bool false)], args := [d1, d2] }
  | _ => none }
def FnExactSamePileWrongFalsely : Prop := fnExactSamePileRow.holds Try.pinned (OpenSpec.ofChange fnExactSamePileWrong)

/- THE SECOND FORM. 'bulk': how many values and letters a reading holds, each counted each time it is reached (what is shared counts as often as it is met; a slice's spare places count too). A statement '..UptoSaid' is the law's where the arguments, and the package variables that the reading takes, are together of bulk at most 1048576: NARROWER than '..Said'. Prove '..Said' where nothing that the law and all that it calls make is longer than what came in: it says more and counts as full. Else prove '..UptoSaid'. A law counts once. -/
mutual
def uptoBulk {H : Type} : DataW H → Nat
  | .lit (.string bytes) => bytes.length + 1
  | .lit _ => 1
  | .nil => 1
  | .ptr d => uptoBulk d + 1
  | .slice elems spare => uptoBulkAll elems + uptoBulkAll spare + 1
  | .agg parts => uptoBulkAll parts + 1
  | .iface _ d => uptoBulk d + 1
  | .map entries => uptoBulkEntries entries + 1
  | .held _ => 1
def uptoBulkAll {H : Type} : List (DataW H) → Nat
  | [] => 0
  | d :: r => uptoBulk d + uptoBulkAll r
def uptoBulkEntries {H : Type} : List (Lit × DataW H) → Nat
  | [] => 0
  | x :: r => uptoBulkEntry x + uptoBulkEntries r
def uptoBulkEntry {H : Type} : Lit × DataW H → Nat
  | (.string bytes, d) => bytes.length + uptoBulk d + 1
  | (_, d) => uptoBulk d + 1
 end
def uptoSmall : (H : Type) → List (DataW H) → Bool := fun _ ds => decide (uptoBulkAll ds ≤ 1048576)
def OpenSpec.upto (s : _root_.Go.ChangeSpec) : _root_.Go.OpenSpec := { _root_.Go.OpenSpec.ofChange s with cond := some uptoSmall }

/-- 'laws.FnExactGrowOnce', WHERE WHAT IT READS IS OF BULK AT MOST 1048576: true; the input reads as it did. -/
def fnExactGrowOnceUptoRow : OpenClaim := { program := "ytldbpmpjfiglaaa", sum := "da90fa3bb97348a3555a06808462ea6b2ca909fde5fbcff1e95a8523837e8712", func := "loop.example/g01390/laws.FnExactGrowOnce", spec := "fnExactGrowOnce", inPlace := ["math.Float32bits"], unfollowed := true, recurses := true, apart := false, narrowed := true }
def FnExactGrowOnceUptoSaid : Prop := fnExactGrowOnceUptoRow.holds Try.pinned (OpenSpec.upto fnExactGrowOnceSpec)

/-- 'laws.FnExactGrowDays', WHERE WHAT IT READS IS OF BULK AT MOST 1048576: true; the input reads as it did. -/
def fnExactGrowDaysUptoRow : OpenClaim := { program := "ytldbpmpjfiglaaa", sum := "da90fa3bb97348a3555a06808462ea6b2ca909fde5fbcff1e95a8523837e8712", func := "loop.example/g01390/laws.FnExactGrowDays", spec := "fnExactGrowDays", inPlace := ["math.Float32bits"], unfollowed := true, recurses := true, apart := false, narrowed := true }
def FnExactGrowDaysUptoSaid : Prop := fnExactGrowDaysUptoRow.holds Try.pinned (OpenSpec.upto fnExactGrowDaysSpec)

/-- 'laws.FnExactDaysUntil', WHERE WHAT IT READS IS OF BULK AT MOST 1048576: true; the input reads as it did. -/
def fnExactDaysUntilUptoRow : OpenClaim := { program := "ytldbpmpjfiglaaa", sum := "da90fa3bb97348a3555a06808462ea6b2ca909fde5fbcff1e95a8523837e8712", func := "loop.example/g01390/laws.FnExactDaysUntil", spec := "fnExactDaysUntil", inPlace := ["math.Float32bits"], unfollowed := true, recurses := true, apart := false, narrowed := true }
def FnExactDaysUntilUptoSaid : Prop := fnExactDaysUntilUptoRow.holds Try.pinned (OpenSpec.upto fnExactDaysUntilSpec)

/-- 'laws.FnExactWarmthFor', WHERE WHAT IT READS IS OF BULK AT MOST 1048576: true; the input reads as it did. -/
def fnExactWarmthForUptoRow : OpenClaim := { program := "ytldbpmpjfiglaaa", sum := "da90fa3bb97348a3555a06808462ea6b2ca909fde5fbcff1e95a8523837e8712", func := "loop.example/g01390/laws.FnExactWarmthFor", spec := "fnExactWarmthFor", unfollowed := true, recurses := true, apart := false, narrowed := true }
def FnExactWarmthForUptoSaid : Prop := fnExactWarmthForUptoRow.holds Try.pinned (OpenSpec.upto fnExactWarmthForSpec)

/-- 'laws.FnDays', WHERE WHAT IT READS IS OF BULK AT MOST 1048576: true; the input reads as it did. -/
def fnDaysUptoRow : OpenClaim := { program := "ytldbpmpjfiglaaa", sum := "da90fa3bb97348a3555a06808462ea6b2ca909fde5fbcff1e95a8523837e8712", func := "loop.example/g01390/laws.FnDays", spec := "fnDays", inPlace := ["math.Float32bits"], unfollowed := true, recurses := true, apart := false, narrowed := true }
def FnDaysUptoSaid : Prop := fnDaysUptoRow.holds Try.pinned (OpenSpec.upto fnDaysSpec)

/-- 'laws.FnExactCoolOnce', WHERE WHAT IT READS IS OF BULK AT MOST 1048576: true; the input reads as it did. -/
def fnExactCoolOnceUptoRow : OpenClaim := { program := "ytldbpmpjfiglaaa", sum := "da90fa3bb97348a3555a06808462ea6b2ca909fde5fbcff1e95a8523837e8712", func := "loop.example/g01390/laws.FnExactCoolOnce", spec := "fnExactCoolOnce", unfollowed := true, recurses := true, apart := false, narrowed := true }
def FnExactCoolOnceUptoSaid : Prop := fnExactCoolOnceUptoRow.holds Try.pinned (OpenSpec.upto fnExactCoolOnceSpec)

/-- 'laws.FnExactHoldsBetween', WHERE WHAT IT READS IS OF BULK AT MOST 1048576: true; the input reads as it did. -/
def fnExactHoldsBetweenUptoRow : OpenClaim := { program := "ytldbpmpjfiglaaa", sum := "da90fa3bb97348a3555a06808462ea6b2ca909fde5fbcff1e95a8523837e8712", func := "loop.example/g01390/laws.FnExactHoldsBetween", spec := "fnExactHoldsBetween", unfollowed := true, recurses := true, apart := false, narrowed := true }
def FnExactHoldsBetweenUptoSaid : Prop := fnExactHoldsBetweenUptoRow.holds Try.pinned (OpenSpec.upto fnExactHoldsBetweenSpec)

/-- 'laws.FnExactCoolSteps', WHERE WHAT IT READS IS OF BULK AT MOST 1048576: true; the input reads as it did. -/
def fnExactCoolStepsUptoRow : OpenClaim := { program := "ytldbpmpjfiglaaa", sum := "da90fa3bb97348a3555a06808462ea6b2ca909fde5fbcff1e95a8523837e8712", func := "loop.example/g01390/laws.FnExactCoolSteps", spec := "fnExactCoolSteps", unfollowed := true, recurses := true, apart := false, narrowed := true }
def FnExactCoolStepsUptoSaid : Prop := fnExactCoolStepsUptoRow.holds Try.pinned (OpenSpec.upto fnExactCoolStepsSpec)

/-- 'laws.FnExactPowerFor', WHERE WHAT IT READS IS OF BULK AT MOST 1048576: true; the input reads as it did. -/
def fnExactPowerForUptoRow : OpenClaim := { program := "ytldbpmpjfiglaaa", sum := "da90fa3bb97348a3555a06808462ea6b2ca909fde5fbcff1e95a8523837e8712", func := "loop.example/g01390/laws.FnExactPowerFor", spec := "fnExactPowerFor", unfollowed := true, recurses := true, apart := false, narrowed := true }
def FnExactPowerForUptoSaid : Prop := fnExactPowerForUptoRow.holds Try.pinned (OpenSpec.upto fnExactPowerForSpec)

/-- 'laws.FnCoolers', WHERE WHAT IT READS IS OF BULK AT MOST 1048576: true; the input reads as it did. -/
def fnCoolersUptoRow : OpenClaim := { program := "ytldbpmpjfiglaaa", sum := "da90fa3bb97348a3555a06808462ea6b2ca909fde5fbcff1e95a8523837e8712", func := "loop.example/g01390/laws.FnCoolers", spec := "fnCoolers", inPlace := ["math.Float32bits"], unfollowed := true, recurses := true, apart := false, narrowed := true }
def FnCoolersUptoSaid : Prop := fnCoolersUptoRow.holds Try.pinned (OpenSpec.upto fnCoolersSpec)

/-- 'laws.FnExactValidPile', WHERE WHAT IT READS IS OF BULK AT MOST 1048576: true; the input reads as it did. -/
def fnExactValidPileUptoRow : OpenClaim := { program := "ytldbpmpjfiglaaa", sum := "da90fa3bb97348a3555a06808462ea6b2ca909fde5fbcff1e95a8523837e8712", func := "loop.example/g01390/laws.FnExactValidPile", spec := "fnExactValidPile", unfollowed := true, recurses := true, apart := false, narrowed := true }
def FnExactValidPileUptoSaid : Prop := fnExactValidPileUptoRow.holds Try.pinned (OpenSpec.upto fnExactValidPileSpec)

/-- 'laws.FnExactSamePile', WHERE WHAT IT READS IS OF BULK AT MOST 1048576: true; the input reads as it did. -/
def fnExactSamePileUptoRow : OpenClaim := { program := "ytldbpmpjfiglaaa", sum := "da90fa3bb97348a3555a06808462ea6b2ca909fde5fbcff1e95a8523837e8712", func := "loop.example/g01390/laws.FnExactSamePile", spec := "fnExactSamePile", inPlace := ["math.Float32bits"], unfollowed := true, recurses := true, apart := false, narrowed := true }
def FnExactSamePileUptoSaid : Prop := fnExactSamePileUptoRow.holds Try.pinned (OpenSpec.upto fnExactSamePileSpec)

end Rows
end Go.Proofs.Ytldbpmpjfiglaaa
