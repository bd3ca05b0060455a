/-
  No cell of these rows narrows 'for every input' (looked for: loops, veiled, ifaces, maps, wideKeys, modest, calm, conditions, laid).
  DERIVED. THE GIVEN ROWS OF THIS SEAT. 10 by the template 'for every input the law returns true; each argument reads behind the call as it read before'; 0 by the template 'total and deterministic' (their statements: YtejipgofbefbjaaTotals.lean).
  GIVEN WITH THE SEED: the statements are not yours to turn. If you find one false, say at which input.
  Laid BY PROGRAM, IN A SANDBOX (cutbox-rows.mjs): the forced cells as the released guide's own fill.sh prints them over the translation 0aa217a5f632f27f… (all of the seat's roots in one cut). By AI agents, Wed Nov 11 2026. No macro, syntax, notation, axiom, sorry.
-/
import Derived.Test.YtejipgofbefbjaaChecked
import GoSem.Claim
import GoSem.ClaimJoined
import GoSem.ClaimMapViews
import Derived.JoinedTies
import Derived.KernelRfl
namespace Go.Proofs.Ytejipgofbefbjaa
/- THE CELL 'sum', in the pinned program and in every row, IS THE sha256 OF THE DUMP (.gsa) THAT YtejipgofbefbjaaProg.lean LOADS. Nothing in Lean hashes anything: it is a label: what it is worth is what the hold of that sum in a sandbox is worth. -/
noncomputable def Try.pinned : Pinned := { name := "ytejipgofbefbjaa", sum := "0aa217a5f632f27f9a5beeac61054fa5070cea46c0c3af8a0ee5ba98cc974d56", checked := Try.checked }
namespace Rows
def none {H : Type} : Left H := { results := [], args := [] }

/-- 'laws.FnExactSameGas': WHATEVER THE INPUT: true; the input reads as it did. -/
def fnExactSameGasSpec : ChangeSpec := { name := "fnExactSameGas", fn := fun _ => fun
  | [d1, d2] => { results := [.lit (.bool true)], args := [d1, d2] }
  | _ => none }
def fnExactSameGasRow : OpenClaim := { program := "ytejipgofbefbjaa", sum := "0aa217a5f632f27f9a5beeac61054fa5070cea46c0c3af8a0ee5ba98cc974d56", func := "loop.example/g01390/laws.FnExactSameGas", spec := "fnExactSameGas", inPlace := ["math.Float32bits"], unfollowed := true, recurses := true, apart := false }
def FnExactSameGasSaid : Prop := fnExactSameGasRow.holds Try.pinned (OpenSpec.ofChange fnExactSameGasSpec)

/-- ITS FALSE NEIGHBOUR: 'it returns false'. Refute it at one input. -/
def fnExactSameGasWrong : ChangeSpec := { name := "fnExactSameGas", fn := fun _ => fun
  | [d1, d2] => { results := [.lit (.bool false)], args := [d1, d2] }
  | _ => none }
def FnExactSameGasWrongFalsely : Prop := fnExactSameGasRow.holds Try.pinned (OpenSpec.ofChange fnExactSameGasWrong)

/-- 'laws.FnExactValidGas': WHATEVER THE INPUT: true; the input reads as it did. -/
def fnExactValidGasSpec : ChangeSpec := { name := "fnExactValidGas", fn := fun _ => fun
  | [d1, d2] => { results := [.lit (.bool true)], args := [d1, d2] }
  | _ => none }
def fnExactValidGasRow : OpenClaim := { program := "ytejipgofbefbjaa", sum := "0aa217a5f632f27f9a5beeac61054fa5070cea46c0c3af8a0ee5ba98cc974d56", func := "loop.example/g01390/laws.FnExactValidGas", spec := "fnExactValidGas", inPlace := ["math.Float32bits"], apart := false }
def FnExactValidGasSaid : Prop := fnExactValidGasRow.holds Try.pinned (OpenSpec.ofChange fnExactValidGasSpec)

/-- ITS FALSE NEIGHBOUR: 'it returns false'. Refute it at one input. -/
def fnExactValidGasWrong : ChangeSpec := { name := "fnExactValidGas", fn := fun _ => fun
  | [d1, d2] => { results := [.lit (.bool false)], args := [d1, d2] }
  | _ => none }
def FnExactValidGasWrongFalsely : Prop := fnExactValidGasRow.holds Try.pinned (OpenSpec.ofChange fnExactValidGasWrong)

/-- 'laws.FnExactTotalGas': WHATEVER THE INPUT: true; the input reads as it did. -/
def fnExactTotalGasSpec : ChangeSpec := { name := "fnExactTotalGas", fn := fun _ => fun
  | [d1, d2] => { results := [.lit (.bool true)], args := [d1, d2] }
  | _ => none }
def fnExactTotalGasRow : OpenClaim := { program := "ytejipgofbefbjaa", sum := "0aa217a5f632f27f9a5beeac61054fa5070cea46c0c3af8a0ee5ba98cc974d56", func := "loop.example/g01390/laws.FnExactTotalGas", spec := "fnExactTotalGas", inPlace := ["math.Float32bits"], apart := false }
def FnExactTotalGasSaid : Prop := fnExactTotalGasRow.holds Try.pinned (OpenSpec.ofChange fnExactTotalGasSpec)

/-- ITS FALSE NEIGHBOUR: 'it returns false'. Refute it at one input. -/
def fnExactTotalGasWrong : ChangeSpec := { name := "fnExactTotalGas", fn := fun _ => fun
  | [d1, d2] => { results := [.lit (.bool false)], args := [d1, d2] }
  | _ => none }
def FnExactTotalGasWrongFalsely : Prop := fnExactTotalGasRow.holds Try.pinned (OpenSpec.ofChange fnExactTotalGasWrong)

/-- 'laws.FnExactMostGas': WHATEVER THE INPUT: true; the input reads as it did. -/
def fnExactMostGasSpec : ChangeSpec := { name := "fnExactMostGas", fn := fun _ => fun
  | [d1, d2] => { results := [.lit (.bool true)], args := [d1, d2] }
  | _ => none }
def fnExactMostGasRow : OpenClaim := { program := "ytejipgofbefbjaa", sum := "0aa217a5f632f27f9a5beeac61054fa5070cea46c0c3af8a0ee5ba98cc974d56", func := "loop.example/g01390/laws.FnExactMostGas", spec := "fnExactMostGas", inPlace := ["math.Float32bits"], apart := false }
def FnExactMostGasSaid : Prop := fnExactMostGasRow.holds Try.pinned (OpenSpec.ofChange fnExactMostGasSpec)

/-- ITS FALSE NEIGHBOUR: 'it returns false'. Refute it at one input. -/
def fnExactMostGasWrong : ChangeSpec := { name := "fnExactMostGas", fn := fun _ => fun
  | [d1, d2] => { results := [.lit (.bool false)], args := [d1, d2] }
  | _ => none }
def FnExactMostGasWrongFalsely : Prop := fnExactMostGasRow.holds Try.pinned (OpenSpec.ofChange fnExactMostGasWrong)

/-- 'laws.FnExactAirAt': WHATEVER THE INPUT: true; the input reads as it did. -/
def fnExactAirAtSpec : ChangeSpec := { name := "fnExactAirAt", fn := fun _ => fun
  | [d1, d2, d3, d4, d5] => { results := [.lit (.bool true)], args := [d1, d2, d3, d4, d5] }
  | _ => none }
def fnExactAirAtRow : OpenClaim := { program := "ytejipgofbefbjaa", sum := "0aa217a5f632f27f9a5beeac61054fa5070cea46c0c3af8a0ee5ba98cc974d56", func := "loop.example/g01390/laws.FnExactAirAt", spec := "fnExactAirAt", inPlace := ["math.Float32bits"], apart := false }
def FnExactAirAtSaid : Prop := fnExactAirAtRow.holds Try.pinned (OpenSpec.ofChange fnExactAirAtSpec)

/-- ITS FALSE NEIGHBOUR: 'it returns false'. Refute it at one input. -/
def fnExactAirAtWrong : ChangeSpec := { name := "fnExactAirAt", fn := fun _ => fun
  | [d1, d2, d3, d4, d5] => { results := [.lit (.bool false)], args := [d1, d2, d3, d4, d5] }
  | _ => none }
def FnExactAirAtWrongFalsely : Prop := fnExactAirAtRow.holds Try.pinned (OpenSpec.ofChange fnExactAirAtWrong)

/-- 'laws.FnExactGiveOff': WHATEVER THE INPUT: true; the input reads as it did. -/
def fnExactGiveOffSpec : ChangeSpec := { name := "fnExactGiveOff", fn := fun _ => fun
  | [d1, d2, d3, d4, d5] => { results := [.lit (.bool true)], args := [d1, d2, d3, d4, d5] }
  | _ => none }
def fnExactGiveOffRow : OpenClaim := { program := "ytejipgofbefbjaa", sum := "0aa217a5f632f27f9a5beeac61054fa5070cea46c0c3af8a0ee5ba98cc974d56", func := "loop.example/g01390/laws.FnExactGiveOff", spec := "fnExactGiveOff", inPlace := ["math.Float32bits"], unfollowed := true, recurses := true, apart := false }
def FnExactGiveOffSaid : Prop := fnExactGiveOffRow.holds Try.pinned (OpenSpec.ofChange fnExactGiveOffSpec)

/-- ITS FALSE NEIGHBOUR: 'it returns false'. Refute it at one input. -/
def fnExactGiveOffWrong : ChangeSpec := { name := "fnExactGiveOff", fn := fun _ => fun
  | [d1, d2, d3, d4, d5] => { results := [.lit (.bool false)], args := [d1, d2, d3, d4, d5] }
  | _ => none }
def FnExactGiveOffWrongFalsely : Prop := fnExactGiveOffRow.holds Try.pinned (OpenSpec.ofChange fnExactGiveOffWrong)

/-- 'laws.FnExactSpreadOnce': WHATEVER THE INPUT: true; the input reads as it did. -/
def fnExactSpreadOnceSpec : ChangeSpec := { name := "fnExactSpreadOnce", fn := fun _ => fun
  | [d1, d2] => { results := [.lit (.bool true)], args := [d1, d2] }
  | _ => none }
def fnExactSpreadOnceRow : OpenClaim := { program := "ytejipgofbefbjaa", sum := "0aa217a5f632f27f9a5beeac61054fa5070cea46c0c3af8a0ee5ba98cc974d56", func := "loop.example/g01390/laws.FnExactSpreadOnce", spec := "fnExactSpreadOnce", inPlace := ["math.Float32bits"], apart := false }
def FnExactSpreadOnceSaid : Prop := fnExactSpreadOnceRow.holds Try.pinned (OpenSpec.ofChange fnExactSpreadOnceSpec)

/-- ITS FALSE NEIGHBOUR: 'it returns false'. Refute it at one input. -/
def fnExactSpreadOnceWrong : ChangeSpec := { name := "fnExactSpreadOnce", fn := fun _ => fun
  | [d1, d2] => { results := [.lit (.bool false)], args := [d1, d2] }
  | _ => none }
def FnExactSpreadOnceWrongFalsely : Prop := fnExactSpreadOnceRow.holds Try.pinned (OpenSpec.ofChange fnExactSpreadOnceWrong)

/-- 'laws.FnExactStepsUntil': WHATEVER THE INPUT: true; the input reads as it did. -/
def fnExactStepsUntilSpec : ChangeSpec := { name := "fnExactStepsUntil", fn := fun _ => fun
  | [d1, d2, d3] => { results := [.lit (.bool true)], args := [d1, d2, d3] }
  | _ => none }
def fnExactStepsUntilRow : OpenClaim := { program := "ytejipgofbefbjaa", sum := "0aa217a5f632f27f9a5beeac61054fa5070cea46c0c3af8a0ee5ba98cc974d56", func := "loop.example/g01390/laws.FnExactStepsUntil", spec := "fnExactStepsUntil", inPlace := ["math.Float32bits"], apart := false }
def FnExactStepsUntilSaid : Prop := fnExactStepsUntilRow.holds Try.pinned (OpenSpec.ofChange fnExactStepsUntilSpec)

/-- ITS FALSE NEIGHBOUR: 'it returns false'. Refute it at one input. -/
def fnExactStepsUntilWrong : ChangeSpec := { name := "fnExactStepsUntil", fn := fun _ => fun
  | [d1, d2, d3] => { results := [.lit (.bool false)], args := [d1, d2, d3] }
  | _ => none }
def FnExactStepsUntilWrongFalsely : Prop := fnExactStepsUntilRow.holds Try.pinned (OpenSpec.ofChange fnExactStepsUntilWrong)

/-- 'laws.FnExactSpreadSteps': WHATEVER THE INPUT: true; the input reads as it did. -/
def fnExactSpreadStepsSpec : ChangeSpec := { name := "fnExactSpreadSteps", fn := fun _ => fun
  | [d1, d2, d3] => { results := [.lit (.bool true)], args := [d1, d2, d3] }
  | _ => none }
def fnExactSpreadStepsRow : OpenClaim := { program := "ytejipgofbefbjaa", sum := "0aa217a5f632f27f9a5beeac61054fa5070cea46c0c3af8a0ee5ba98cc974d56", func := "loop.example/g01390/laws.FnExactSpreadSteps", spec := "fnExactSpreadSteps", inPlace := ["math.Float32bits"], apart := false }
def FnExactSpreadStepsSaid : Prop := fnExactSpreadStepsRow.holds Try.pinned (OpenSpec.ofChange fnExactSpreadStepsSpec)

/-- ITS FALSE NEIGHBOUR: 'it returns false'. Refute it at one input. -/
def fnExactSpreadStepsWrong : ChangeSpec := { name := "fnExactSpreadSteps", fn := fun _ => fun
  | [d1, d2, d3] => { results := [.lit (.bool false)], args := [d1, d2, d3] }
  | _ => none }
def FnExactSpreadStepsWrongFalsely : Prop := fnExactSpreadStepsRow.holds Try.pinned (OpenSpec.ofChange fnExactSpreadStepsWrong)

/-- 'laws.FnExactSpreadDay': WHATEVER THE INPUT: true; the input reads as it did. -/
def fnExactSpreadDaySpec : ChangeSpec := { name := "fnExactSpreadDay", fn := fun _ => fun
  | [d1, d2, d3, d4, d5, d6] => { results := [.lit (.bool true)], args := [d1, d2, d3, d4, d5, d6] }
  | _ => none }
def fnExactSpreadDayRow : OpenClaim := { program := "ytejipgofbefbjaa", sum := "0aa217a5f632f27f9a5beeac61054fa5070cea46c0c3af8a0ee5ba98cc974d56", func := "loop.example/g01390/laws.FnExactSpreadDay", spec := "fnExactSpreadDay", inPlace := ["math.Float32bits"], unfollowed := true, recurses := true, apart := false }
def FnExactSpreadDaySaid : Prop := fnExactSpreadDayRow.holds Try.pinned (OpenSpec.ofChange fnExactSpreadDaySpec)

/-- ITS FALSE NEIGHBOUR: 'it returns false'. Refute it at one input. -/
def fnExactSpreadDayWrong : ChangeSpec := { name := "fnExactSpreadDay", fn := fun _ => fun
  | [d1, d2, d3, d4, d5, d6] => { results := [.lit (.bool false)], args := [d1, d2, d3, d4, d5, d6] }
  | _ => none }
def FnExactSpreadDayWrongFalsely : Prop := fnExactSpreadDayRow.holds Try.pinned (OpenSpec.ofChange fnExactSpreadDayWrong)

/- THE SECOND FORM. 'bulk': how many values and letters a reading holds, each counted each time it is reached (what is shared counts as often as it is met; a slice's spare places count too). A statement '..UptoSaid' is the law's where the arguments, and the package variables that the reading takes, are together of bulk at most 1048576: NARROWER than '..Said'. Prove '..Said' where nothing that the law and all that it calls make is longer than what came in: it says more and counts as full. Else prove '..UptoSaid'. A law counts once. -/
mutual
def uptoBulk {H : Type} : DataW H → Nat
  | .lit (.string bytes) => bytes.length + 1
  | .lit _ => 1
  | .nil => 1
  | .ptr d => uptoBulk d + 1
  | .slice elems spare => uptoBulkAll elems + uptoBulkAll spare + 1
  | .agg parts => uptoBulkAll parts + 1
  | .iface _ d => uptoBulk d + 1
  | .map entries => uptoBulkEntries entries + 1
  | .held _ => 1
def uptoBulkAll {H : Type} : List (DataW H) → Nat
  | [] => 0
  | d :: r => uptoBulk d + uptoBulkAll r
def uptoBulkEntries {H : Type} : List (Lit × DataW H) → Nat
  | [] => 0
  | x :: r => uptoBulkEntry x + uptoBulkEntries r
def uptoBulkEntry {H : Type} : Lit × DataW H → Nat
  | (.string bytes, d) => bytes.length + uptoBulk d + 1
  | (_, d) => uptoBulk d + 1
 end
def uptoSmall : (H : Type) → List (DataW H) → Bool := fun _ ds => decide (uptoBulkAll ds ≤ 1048576)
def OpenSpec.upto (s : _root_.Go.ChangeSpec) : _root_.Go.OpenSpec := { _root_.Go.OpenSpec.ofChange s with cond := some uptoSmall }

/-- 'laws.FnExactSameGas', WHERE WHAT IT READS IS OF BULK AT MOST 1048576: true; the input reads as it did. -/
def fnExactSameGasUptoRow : OpenClaim := { program := "ytejipgofbefbjaa", sum := "0aa217a5f632f27f9a5beeac61054fa5070cea46c0c3af8a0ee5ba98cc974d56", func := "loop.example/g01390/laws.FnExactSameGas", spec := "fnExactSameGas", inPlace := ["math.Float32bits"], unfollowed := true, recurses := true, apart := false, narrowed := true }
def FnExactSameGasUptoSaid : Prop := fnExactSameGasUptoRow.holds Try.pinned (OpenSpec.upto fnExactSameGasSpec)

/-- 'laws.FnExactValidGas', WHERE WHAT IT READS IS OF BULK AT MOST 1048576: true; the input reads as it did. -/
def fnExactValidGasUptoRow : OpenClaim := { program := "ytejipgofbefbjaa", sum := "0aa217a5f632f27f9a5beeac61054fa5070cea46c0c3af8a0ee5ba98cc974d56", func := "loop.example/g01390/laws.FnExactValidGas", spec := "fnExactValidGas", inPlace := ["math.Float32bits"], apart := false, narrowed := true }
def FnExactValidGasUptoSaid : Prop := fnExactValidGasUptoRow.holds Try.pinned (OpenSpec.upto fnExactValidGasSpec)

/-- 'laws.FnExactTotalGas', WHERE WHAT IT READS IS OF BULK AT MOST 1048576: true; the input reads as it did. -/
def fnExactTotalGasUptoRow : OpenClaim := { program := "ytejipgofbefbjaa", sum := "0aa217a5f632f27f9a5beeac61054fa5070cea46c0c3af8a0ee5ba98cc974d56", func := "loop.example/g01390/laws.FnExactTotalGas", spec := "fnExactTotalGas", inPlace := ["math.Float32bits"], apart := false, narrowed := true }
def FnExactTotalGasUptoSaid : Prop := fnExactTotalGasUptoRow.holds Try.pinned (OpenSpec.upto fnExactTotalGasSpec)

/-- 'laws.FnExactMostGas', WHERE WHAT IT READS IS OF BULK AT MOST 1048576: true; the input reads as it did. -/
def fnExactMostGasUptoRow : OpenClaim := { program := "ytejipgofbefbjaa", sum := "0aa217a5f632f27f9a5beeac61054fa5070cea46c0c3af8a0ee5ba98cc974d56", func := "loop.example/g01390/laws.FnExactMostGas", spec := "fnExactMostGas", inPlace := ["math.Float32bits"], apart := false, narrowed := true }
def FnExactMostGasUptoSaid : Prop := fnExactMostGasUptoRow.holds Try.pinned (OpenSpec.upto fnExactMostGasSpec)

/-- 'laws.FnExactAirAt', WHERE WHAT IT READS IS OF BULK AT MOST 1048576: true; the input reads as it did. -/
def fnExactAirAtUptoRow : OpenClaim := { program := "ytejipgofbefbjaa", sum := "0aa217a5f632f27f9a5beeac61054fa5070cea46c0c3af8a0ee5ba98cc974d56", func := "loop.example/g01390/laws.FnExactAirAt", spec := "fnExactAirAt", inPlace := ["math.Float32bits"], apart := false, narrowed := true }
def FnExactAirAtUptoSaid : Prop := fnExactAirAtUptoRow.holds Try.pinned (OpenSpec.upto fnExactAirAtSpec)

/-- 'laws.FnExactGiveOff', WHERE WHAT IT READS IS OF BULK AT MOST 1048576: true; the input reads as it did. -/
def fnExactGiveOffUptoRow : OpenClaim := { program := "ytejipgofbefbjaa", sum := "0aa217a5f632f27f9a5beeac61054fa5070cea46c0c3af8a0ee5ba98cc974d56", func := "loop.example/g01390/laws.FnExactGiveOff", spec := "fnExactGiveOff", inPlace := ["math.Float32bits"], unfollowed := true, recurses := true, apart := false, narrowed := true }
def FnExactGiveOffUptoSaid : Prop := fnExactGiveOffUptoRow.holds Try.pinned (OpenSpec.upto fnExactGiveOffSpec)

/-- 'laws.FnExactSpreadOnce', WHERE WHAT IT READS IS OF BULK AT MOST 1048576: true; the input reads as it did. -/
def fnExactSpreadOnceUptoRow : OpenClaim := { program := "ytejipgofbefbjaa", sum := "0aa217a5f632f27f9a5beeac61054fa5070cea46c0c3af8a0ee5ba98cc974d56", func := "loop.example/g01390/laws.FnExactSpreadOnce", spec := "fnExactSpreadOnce", inPlace := ["math.Float32bits"], apart := false, narrowed := true }
def FnExactSpreadOnceUptoSaid : Prop := fnExactSpreadOnceUptoRow.holds Try.pinned (OpenSpec.upto fnExactSpreadOnceSpec)

/-- 'laws.FnExactStepsUntil', WHERE WHAT IT READS IS OF BULK AT MOST 1048576: true; the input reads as it did. -/
def fnExactStepsUntilUptoRow : OpenClaim := { program := "ytejipgofbefbjaa", sum := "0aa217a5f632f27f9a5beeac61054fa5070cea46c0c3af8a0ee5ba98cc974d56", func := "loop.example/g01390/laws.FnExactStepsUntil", spec := "fnExactStepsUntil", inPlace := ["math.Float32bits"], apart := false, narrowed := true }
def FnExactStepsUntilUptoSaid : Prop := fnExactStepsUntilUptoRow.holds Try.pinned (OpenSpec.upto fnExactStepsUntilSpec)

/-- 'laws.FnExactSpreadSteps', WHERE WHAT IT READS IS OF BULK AT MOST 1048576: true; the input reads as it did. -/
def fnExactSpreadStepsUptoRow : OpenClaim := { program := "ytejipgofbefbjaa", sum := "0aa217a5f632f27f9a5beeac61054fa5070cea46c0c3af8a0ee5ba98cc974d56", func := "loop.example/g01390/laws.FnExactSpreadSteps", spec := "fnExactSpreadSteps", inPlace := ["math.Float32bits"], apart := false, narrowed := true }
def FnExactSpreadStepsUptoSaid : Prop := fnExactSpreadStepsUptoRow.holds Try.pinned (OpenSpec.upto fnExactSpreadStepsSpec)

/-- 'laws.FnExactSpreadDay', WHERE WHAT IT READS IS OF BULK AT MOST 1048576: true; the input reads as it did. -/
def fnExactSpreadDayUptoRow : OpenClaim := { program := "ytejipgofbefbjaa", sum := "0aa217a5f632f27f9a5beeac61054fa5070cea46c0c3af8a0ee5ba98cc974d56", func := "loop.example/g01390/laws.FnExactSpreadDay", spec := "fnExactSpreadDay", inPlace := ["math.Float32bits"], unfollowed := true, recurses := true, apart := false, narrowed := true }
def FnExactSpreadDayUptoSaid : Prop := fnExactSpreadDayUptoRow.holds Try.pinned (OpenSpec.upto fnExactSpreadDaySpec)

end Rows
end Go.Proofs.Ytejipgofbefbjaa
