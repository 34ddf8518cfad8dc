/-
  No cell of these rows narrows 'for every input' (looked for: loops, veiled, ifaces, maps, wideKeys, modest, calm, conditions, laid).
  DERIVED. THE GIVEN ROWS OF THIS SEAT. 12 by the template 'for every input the law returns true; each argument reads behind the call as it read before'; 0 by the template 'total and deterministic' (their statements: YtooiepiankonmaaTotals.lean).
  GIVEN WITH THE SEED: the statements are not yours to turn. If you find one false, say at which input.
  Laid BY PROGRAM, IN A SANDBOX (cutbox-rows.mjs): the forced cells as the released guide's own fill.sh prints them over the translation ff1523c2ae228a30… (all of the seat's roots in one cut). By AI agents, Wed Nov 11 2026. No macro, syntax, notation, axiom, sorry.
-/
import Derived.Test.YtooiepiankonmaaChecked
import GoSem.Claim
import GoSem.ClaimJoined
import GoSem.ClaimMapViews
import Derived.JoinedTies
import Derived.KernelRfl
namespace Go.Proofs.Ytooiepiankonmaa
/- THE CELL 'sum', in the pinned program and in every row, IS THE sha256 OF THE DUMP (.gsa) THAT YtooiepiankonmaaProg.lean LOADS. Nothing in Lean hashes anything: it is a label: what it is worth is what the hold of that sum in a sandbox is worth. -/
noncomputable def Try.pinned : Pinned := { name := "ytooiepiankonmaa", sum := "ff1523c2ae228a30d84b2ed42acb3f9be0ca3c5f1c8d127eaedd22be11d444ee", checked := Try.checked }
namespace Rows
def none {H : Type} : Left H := { results := [], args := [] }

/-- 'laws.FnExactUnitsOf': WHATEVER THE INPUT: true; the input reads as it did. -/
def fnExactUnitsOfSpec : ChangeSpec := { name := "fnExactUnitsOf", fn := fun _ => fun
  | [d] => { results := [.lit (.bool true)], args := [d] }
  | _ => none }
def fnExactUnitsOfRow : OpenClaim := { program := "ytooiepiankonmaa", sum := "ff1523c2ae228a30d84b2ed42acb3f9be0ca3c5f1c8d127eaedd22be11d444ee", func := "loop.example/g00880/laws.FnExactUnitsOf", spec := "fnExactUnitsOf", inPlace := ["math/bits.Sub64", "math/bits.Add64"], named := ["math/bits.divideError", "math/bits.overflowError"], apart := false }
def FnExactUnitsOfSaid : Prop := fnExactUnitsOfRow.holds Try.pinned (OpenSpec.ofChange fnExactUnitsOfSpec)

/-- ITS FALSE NEIGHBOUR: 'it returns false'. Refute it at one input. -/
def fnExactUnitsOfWrong : ChangeSpec := { name := "fnExactUnitsOf", fn := fun _ => fun
  | [d] => { results := [.lit (.bool false)], args := [d] }
  | _ => none }
def FnExactUnitsOfWrongFalsely : Prop := fnExactUnitsOfRow.holds Try.pinned (OpenSpec.ofChange fnExactUnitsOfWrong)

/-- 'laws.FnExactRadiansOf': WHATEVER THE INPUT: true; the input reads as it did. -/
def fnExactRadiansOfSpec : ChangeSpec := { name := "fnExactRadiansOf", fn := fun _ => fun
  | [d] => { results := [.lit (.bool true)], args := [d] }
  | _ => none }
def fnExactRadiansOfRow : OpenClaim := { program := "ytooiepiankonmaa", sum := "ff1523c2ae228a30d84b2ed42acb3f9be0ca3c5f1c8d127eaedd22be11d444ee", func := "loop.example/g00880/laws.FnExactRadiansOf", spec := "fnExactRadiansOf", inPlace := ["math/bits.Sub64", "math/bits.Add64"], recurses := true, named := ["math/bits.divideError", "math/bits.overflowError"], apart := false }
def FnExactRadiansOfSaid : Prop := fnExactRadiansOfRow.holds Try.pinned (OpenSpec.ofChange fnExactRadiansOfSpec)

/-- ITS FALSE NEIGHBOUR: 'it returns false'. Refute it at one input. -/
def fnExactRadiansOfWrong : ChangeSpec := { name := "fnExactRadiansOf", fn := fun _ => fun
  | [d] => { results := [.lit (.bool false)], args := [d] }
  | _ => none }
def FnExactRadiansOfWrongFalsely : Prop := fnExactRadiansOfRow.holds Try.pinned (OpenSpec.ofChange fnExactRadiansOfWrong)

/-- 'laws.FnExactPowerI': WHATEVER THE INPUT: true; the input reads as it did. -/
def fnExactPowerISpec : ChangeSpec := { name := "fnExactPowerI", fn := fun _ => fun
  | [d1, d2] => { results := [.lit (.bool true)], args := [d1, d2] }
  | _ => none }
def fnExactPowerIRow : OpenClaim := { program := "ytooiepiankonmaa", sum := "ff1523c2ae228a30d84b2ed42acb3f9be0ca3c5f1c8d127eaedd22be11d444ee", func := "loop.example/g00880/laws.FnExactPowerI", spec := "fnExactPowerI", unfollowed := true, recurses := true, apart := false }
def FnExactPowerISaid : Prop := fnExactPowerIRow.holds Try.pinned (OpenSpec.ofChange fnExactPowerISpec)

/-- ITS FALSE NEIGHBOUR: 'it returns false'. Refute it at one input. -/
def fnExactPowerIWrong : ChangeSpec := { name := "fnExactPowerI", fn := fun _ => fun
  | [d1, d2] => { results := [.lit (.bool false)], args := [d1, d2] }
  | _ => none }
def FnExactPowerIWrongFalsely : Prop := fnExactPowerIRow.holds Try.pinned (OpenSpec.ofChange fnExactPowerIWrong)

/-- 'laws.FnExactQuotient': WHATEVER THE INPUT: true; the input reads as it did. -/
def fnExactQuotientSpec : ChangeSpec := { name := "fnExactQuotient", fn := fun _ => fun
  | [d1, d2] => { results := [.lit (.bool true)], args := [d1, d2] }
  | _ => none }
def fnExactQuotientRow : OpenClaim := { program := "ytooiepiankonmaa", sum := "ff1523c2ae228a30d84b2ed42acb3f9be0ca3c5f1c8d127eaedd22be11d444ee", func := "loop.example/g00880/laws.FnExactQuotient", spec := "fnExactQuotient", inPlace := ["math/bits.Sub64", "math/bits.Add64"], named := ["math/bits.divideError", "math/bits.overflowError"], apart := false }
def FnExactQuotientSaid : Prop := fnExactQuotientRow.holds Try.pinned (OpenSpec.ofChange fnExactQuotientSpec)

/-- ITS FALSE NEIGHBOUR: 'it returns false'. Refute it at one input. -/
def fnExactQuotientWrong : ChangeSpec := { name := "fnExactQuotient", fn := fun _ => fun
  | [d1, d2] => { results := [.lit (.bool false)], args := [d1, d2] }
  | _ => none }
def FnExactQuotientWrongFalsely : Prop := fnExactQuotientRow.holds Try.pinned (OpenSpec.ofChange fnExactQuotientWrong)

/-- 'laws.FnExactDivI': WHATEVER THE INPUT: true; the input reads as it did. -/
def fnExactDivISpec : ChangeSpec := { name := "fnExactDivI", fn := fun _ => fun
  | [d1, d2] => { results := [.lit (.bool true)], args := [d1, d2] }
  | _ => none }
def fnExactDivIRow : OpenClaim := { program := "ytooiepiankonmaa", sum := "ff1523c2ae228a30d84b2ed42acb3f9be0ca3c5f1c8d127eaedd22be11d444ee", func := "loop.example/g00880/laws.FnExactDivI", spec := "fnExactDivI", inPlace := ["math/bits.Sub64", "math/bits.Add64"], unfollowed := true, recurses := true, named := ["math/bits.divideError", "math/bits.overflowError"], apart := false }
def FnExactDivISaid : Prop := fnExactDivIRow.holds Try.pinned (OpenSpec.ofChange fnExactDivISpec)

/-- ITS FALSE NEIGHBOUR: 'it returns false'. Refute it at one input. -/
def fnExactDivIWrong : ChangeSpec := { name := "fnExactDivI", fn := fun _ => fun
  | [d1, d2] => { results := [.lit (.bool false)], args := [d1, d2] }
  | _ => none }
def FnExactDivIWrongFalsely : Prop := fnExactDivIRow.holds Try.pinned (OpenSpec.ofChange fnExactDivIWrong)

/-- 'laws.FnExactDegreesOf': WHATEVER THE INPUT: true; the input reads as it did. -/
def fnExactDegreesOfSpec : ChangeSpec := { name := "fnExactDegreesOf", fn := fun _ => fun
  | [d] => { results := [.lit (.bool true)], args := [d] }
  | _ => none }
def fnExactDegreesOfRow : OpenClaim := { program := "ytooiepiankonmaa", sum := "ff1523c2ae228a30d84b2ed42acb3f9be0ca3c5f1c8d127eaedd22be11d444ee", func := "loop.example/g00880/laws.FnExactDegreesOf", spec := "fnExactDegreesOf", inPlace := ["math/bits.Sub64", "math/bits.Add64"], unfollowed := true, recurses := true, named := ["math/bits.divideError", "math/bits.overflowError"], apart := false }
def FnExactDegreesOfSaid : Prop := fnExactDegreesOfRow.holds Try.pinned (OpenSpec.ofChange fnExactDegreesOfSpec)

/-- ITS FALSE NEIGHBOUR: 'it returns false'. Refute it at one input. -/
def fnExactDegreesOfWrong : ChangeSpec := { name := "fnExactDegreesOf", fn := fun _ => fun
  | [d] => { results := [.lit (.bool false)], args := [d] }
  | _ => none }
def FnExactDegreesOfWrongFalsely : Prop := fnExactDegreesOfRow.holds Try.pinned (OpenSpec.ofChange fnExactDegreesOfWrong)

/-- 'laws.FnExactArcCotangent': WHATEVER THE INPUT: true; the input reads as it did. -/
def fnExactArcCotangentSpec : ChangeSpec := { name := "fnExactArcCotangent", fn := fun _ => fun
  | [d1, d2] => { results := [.lit (.bool true)], args := [d1, d2] }
  | _ => none }
def fnExactArcCotangentRow : OpenClaim := { program := "ytooiepiankonmaa", sum := "ff1523c2ae228a30d84b2ed42acb3f9be0ca3c5f1c8d127eaedd22be11d444ee", func := "loop.example/g00880/laws.FnExactArcCotangent", spec := "fnExactArcCotangent", inPlace := ["math/bits.Sub64", "math/bits.Add64"], unfollowed := true, recurses := true, named := ["math/bits.divideError", "math/bits.overflowError"], apart := false }
def FnExactArcCotangentSaid : Prop := fnExactArcCotangentRow.holds Try.pinned (OpenSpec.ofChange fnExactArcCotangentSpec)

/-- ITS FALSE NEIGHBOUR: 'it returns false'. Refute it at one input. -/
def fnExactArcCotangentWrong : ChangeSpec := { name := "fnExactArcCotangent", fn := fun _ => fun
  | [d1, d2] => { results := [.lit (.bool false)], args := [d1, d2] }
  | _ => none }
def FnExactArcCotangentWrongFalsely : Prop := fnExactArcCotangentRow.holds Try.pinned (OpenSpec.ofChange fnExactArcCotangentWrong)

/-- 'laws.FnExactArcSeries': WHATEVER THE INPUT: true; the input reads as it did. -/
def fnExactArcSeriesSpec : ChangeSpec := { name := "fnExactArcSeries", fn := fun _ => fun
  | [d] => { results := [.lit (.bool true)], args := [d] }
  | _ => none }
def fnExactArcSeriesRow : OpenClaim := { program := "ytooiepiankonmaa", sum := "ff1523c2ae228a30d84b2ed42acb3f9be0ca3c5f1c8d127eaedd22be11d444ee", func := "loop.example/g00880/laws.FnExactArcSeries", spec := "fnExactArcSeries", inPlace := ["math/bits.Sub64", "math/bits.Add64"], unfollowed := true, recurses := true, named := ["math/bits.divideError", "math/bits.overflowError"], apart := false }
def FnExactArcSeriesSaid : Prop := fnExactArcSeriesRow.holds Try.pinned (OpenSpec.ofChange fnExactArcSeriesSpec)

/-- ITS FALSE NEIGHBOUR: 'it returns false'. Refute it at one input. -/
def fnExactArcSeriesWrong : ChangeSpec := { name := "fnExactArcSeries", fn := fun _ => fun
  | [d] => { results := [.lit (.bool false)], args := [d] }
  | _ => none }
def FnExactArcSeriesWrongFalsely : Prop := fnExactArcSeriesRow.holds Try.pinned (OpenSpec.ofChange fnExactArcSeriesWrong)

/-- 'laws.FnExactCosSeries': WHATEVER THE INPUT: true; the input reads as it did. -/
def fnExactCosSeriesSpec : ChangeSpec := { name := "fnExactCosSeries", fn := fun _ => fun
  | [d] => { results := [.lit (.bool true)], args := [d] }
  | _ => none }
def fnExactCosSeriesRow : OpenClaim := { program := "ytooiepiankonmaa", sum := "ff1523c2ae228a30d84b2ed42acb3f9be0ca3c5f1c8d127eaedd22be11d444ee", func := "loop.example/g00880/laws.FnExactCosSeries", spec := "fnExactCosSeries", inPlace := ["math/bits.Sub64", "math/bits.Add64"], unfollowed := true, recurses := true, named := ["math/bits.divideError", "math/bits.overflowError"], apart := false }
def FnExactCosSeriesSaid : Prop := fnExactCosSeriesRow.holds Try.pinned (OpenSpec.ofChange fnExactCosSeriesSpec)

/-- ITS FALSE NEIGHBOUR: 'it returns false'. Refute it at one input. -/
def fnExactCosSeriesWrong : ChangeSpec := { name := "fnExactCosSeries", fn := fun _ => fun
  | [d] => { results := [.lit (.bool false)], args := [d] }
  | _ => none }
def FnExactCosSeriesWrongFalsely : Prop := fnExactCosSeriesRow.holds Try.pinned (OpenSpec.ofChange fnExactCosSeriesWrong)

/-- 'laws.FnExactSinSeries': WHATEVER THE INPUT: true; the input reads as it did. -/
def fnExactSinSeriesSpec : ChangeSpec := { name := "fnExactSinSeries", fn := fun _ => fun
  | [d] => { results := [.lit (.bool true)], args := [d] }
  | _ => none }
def fnExactSinSeriesRow : OpenClaim := { program := "ytooiepiankonmaa", sum := "ff1523c2ae228a30d84b2ed42acb3f9be0ca3c5f1c8d127eaedd22be11d444ee", func := "loop.example/g00880/laws.FnExactSinSeries", spec := "fnExactSinSeries", inPlace := ["math/bits.Sub64", "math/bits.Add64"], unfollowed := true, recurses := true, named := ["math/bits.divideError", "math/bits.overflowError"], apart := false }
def FnExactSinSeriesSaid : Prop := fnExactSinSeriesRow.holds Try.pinned (OpenSpec.ofChange fnExactSinSeriesSpec)

/-- ITS FALSE NEIGHBOUR: 'it returns false'. Refute it at one input. -/
def fnExactSinSeriesWrong : ChangeSpec := { name := "fnExactSinSeries", fn := fun _ => fun
  | [d] => { results := [.lit (.bool false)], args := [d] }
  | _ => none }
def FnExactSinSeriesWrongFalsely : Prop := fnExactSinSeriesRow.holds Try.pinned (OpenSpec.ofChange fnExactSinSeriesWrong)

/-- 'laws.FnExactEulerPi': WHATEVER THE INPUT: true; the input reads as it did. -/
def fnExactEulerPiSpec : ChangeSpec := { name := "fnExactEulerPi", fn := fun _ => fun
  | [d] => { results := [.lit (.bool true)], args := [d] }
  | _ => none }
def fnExactEulerPiRow : OpenClaim := { program := "ytooiepiankonmaa", sum := "ff1523c2ae228a30d84b2ed42acb3f9be0ca3c5f1c8d127eaedd22be11d444ee", func := "loop.example/g00880/laws.FnExactEulerPi", spec := "fnExactEulerPi", inPlace := ["math/bits.Sub64", "math/bits.Add64"], unfollowed := true, recurses := true, named := ["math/bits.divideError", "math/bits.overflowError"], apart := false }
def FnExactEulerPiSaid : Prop := fnExactEulerPiRow.holds Try.pinned (OpenSpec.ofChange fnExactEulerPiSpec)

/-- ITS FALSE NEIGHBOUR: 'it returns false'. Refute it at one input. -/
def fnExactEulerPiWrong : ChangeSpec := { name := "fnExactEulerPi", fn := fun _ => fun
  | [d] => { results := [.lit (.bool false)], args := [d] }
  | _ => none }
def FnExactEulerPiWrongFalsely : Prop := fnExactEulerPiRow.holds Try.pinned (OpenSpec.ofChange fnExactEulerPiWrong)

/-- 'laws.FnExactMachinPi': WHATEVER THE INPUT: true; the input reads as it did. -/
def fnExactMachinPiSpec : ChangeSpec := { name := "fnExactMachinPi", fn := fun _ => fun
  | [d] => { results := [.lit (.bool true)], args := [d] }
  | _ => none }
def fnExactMachinPiRow : OpenClaim := { program := "ytooiepiankonmaa", sum := "ff1523c2ae228a30d84b2ed42acb3f9be0ca3c5f1c8d127eaedd22be11d444ee", func := "loop.example/g00880/laws.FnExactMachinPi", spec := "fnExactMachinPi", inPlace := ["math/bits.Sub64", "math/bits.Add64"], unfollowed := true, recurses := true, named := ["math/bits.divideError", "math/bits.overflowError"], apart := false }
def FnExactMachinPiSaid : Prop := fnExactMachinPiRow.holds Try.pinned (OpenSpec.ofChange fnExactMachinPiSpec)

/-- ITS FALSE NEIGHBOUR: 'it returns false'. Refute it at one input. -/
def fnExactMachinPiWrong : ChangeSpec := { name := "fnExactMachinPi", fn := fun _ => fun
  | [d] => { results := [.lit (.bool false)], args := [d] }
  | _ => none }
def FnExactMachinPiWrongFalsely : Prop := fnExactMachinPiRow.holds Try.pinned (OpenSpec.ofChange fnExactMachinPiWrong)

/- THE SECOND FORM. 'bulk': how many values and letters a reading holds, each counted each time it is reached (what is shared counts as often as it is met; a slice's spare places count too). A statement '..UptoSaid' is the law's where the arguments, and the package variables that the reading takes, are together of bulk at most 1048576: NARROWER than '..Said'. Prove '..Said' where nothing that the law and all that it calls make is longer than what came in: it says more and counts as full. Else prove '..UptoSaid'. A law counts once. -/
mutual
def uptoBulk {H : Type} : DataW H → Nat
  | .lit (.string bytes) => bytes.length + 1
  | .lit _ => 1
  | .nil => 1
  | .ptr d => uptoBulk d + 1
  | .slice elems spare => uptoBulkAll elems + uptoBulkAll spare + 1
  | .agg parts => uptoBulkAll parts + 1
  | .iface _ d => uptoBulk d + 1
  | .map entries => uptoBulkEntries entries + 1
  | .held _ => 1
def uptoBulkAll {H : Type} : List (DataW H) → Nat
  | [] => 0
  | d :: r => uptoBulk d + uptoBulkAll r
def uptoBulkEntries {H : Type} : List (Lit × DataW H) → Nat
  | [] => 0
  | x :: r => uptoBulkEntry x + uptoBulkEntries r
def uptoBulkEntry {H : Type} : Lit × DataW H → Nat
  | (.string bytes, d) => bytes.length + uptoBulk d + 1
  | (_, d) => uptoBulk d + 1
 end
def uptoSmall : (H : Type) → List (DataW H) → Bool := fun _ ds => decide (uptoBulkAll ds ≤ 1048576)
def OpenSpec.upto (s : _root_.Go.ChangeSpec) : _root_.Go.OpenSpec := { _root_.Go.OpenSpec.ofChange s with cond := some uptoSmall }

/-- 'laws.FnExactUnitsOf', WHERE WHAT IT READS IS OF BULK AT MOST 1048576: true; the input reads as it did. -/
def fnExactUnitsOfUptoRow : OpenClaim := { program := "ytooiepiankonmaa", sum := "ff1523c2ae228a30d84b2ed42acb3f9be0ca3c5f1c8d127eaedd22be11d444ee", func := "loop.example/g00880/laws.FnExactUnitsOf", spec := "fnExactUnitsOf", inPlace := ["math/bits.Sub64", "math/bits.Add64"], named := ["math/bits.divideError", "math/bits.overflowError"], apart := false, narrowed := true }
def FnExactUnitsOfUptoSaid : Prop := fnExactUnitsOfUptoRow.holds Try.pinned (OpenSpec.upto fnExactUnitsOfSpec)

/-- 'laws.FnExactRadiansOf', WHERE WHAT IT READS IS OF BULK AT MOST 1048576: true; the input reads as it did. -/
def fnExactRadiansOfUptoRow : OpenClaim := { program := "ytooiepiankonmaa", sum := "ff1523c2ae228a30d84b2ed42acb3f9be0ca3c5f1c8d127eaedd22be11d444ee", func := "loop.example/g00880/laws.FnExactRadiansOf", spec := "fnExactRadiansOf", inPlace := ["math/bits.Sub64", "math/bits.Add64"], recurses := true, named := ["math/bits.divideError", "math/bits.overflowError"], apart := false, narrowed := true }
def FnExactRadiansOfUptoSaid : Prop := fnExactRadiansOfUptoRow.holds Try.pinned (OpenSpec.upto fnExactRadiansOfSpec)

/-- 'laws.FnExactPowerI', WHERE WHAT IT READS IS OF BULK AT MOST 1048576: true; the input reads as it did. -/
def fnExactPowerIUptoRow : OpenClaim := { program := "ytooiepiankonmaa", sum := "ff1523c2ae228a30d84b2ed42acb3f9be0ca3c5f1c8d127eaedd22be11d444ee", func := "loop.example/g00880/laws.FnExactPowerI", spec := "fnExactPowerI", unfollowed := true, recurses := true, apart := false, narrowed := true }
def FnExactPowerIUptoSaid : Prop := fnExactPowerIUptoRow.holds Try.pinned (OpenSpec.upto fnExactPowerISpec)

/-- 'laws.FnExactQuotient', WHERE WHAT IT READS IS OF BULK AT MOST 1048576: true; the input reads as it did. -/
def fnExactQuotientUptoRow : OpenClaim := { program := "ytooiepiankonmaa", sum := "ff1523c2ae228a30d84b2ed42acb3f9be0ca3c5f1c8d127eaedd22be11d444ee", func := "loop.example/g00880/laws.FnExactQuotient", spec := "fnExactQuotient", inPlace := ["math/bits.Sub64", "math/bits.Add64"], named := ["math/bits.divideError", "math/bits.overflowError"], apart := false, narrowed := true }
def FnExactQuotientUptoSaid : Prop := fnExactQuotientUptoRow.holds Try.pinned (OpenSpec.upto fnExactQuotientSpec)

/-- 'laws.FnExactDivI', WHERE WHAT IT READS IS OF BULK AT MOST 1048576: true; the input reads as it did. -/
def fnExactDivIUptoRow : OpenClaim := { program := "ytooiepiankonmaa", sum := "ff1523c2ae228a30d84b2ed42acb3f9be0ca3c5f1c8d127eaedd22be11d444ee", func := "loop.example/g00880/laws.FnExactDivI", spec := "fnExactDivI", inPlace := ["math/bits.Sub64", "math/bits.Add64"], unfollowed := true, recurses := true, named := ["math/bits.divideError", "math/bits.overflowError"], apart := false, narrowed := true }
def FnExactDivIUptoSaid : Prop := fnExactDivIUptoRow.holds Try.pinned (OpenSpec.upto fnExactDivISpec)

/-- 'laws.FnExactDegreesOf', WHERE WHAT IT READS IS OF BULK AT MOST 1048576: true; the input reads as it did. -/
def fnExactDegreesOfUptoRow : OpenClaim := { program := "ytooiepiankonmaa", sum := "ff1523c2ae228a30d84b2ed42acb3f9be0ca3c5f1c8d127eaedd22be11d444ee", func := "loop.example/g00880/laws.FnExactDegreesOf", spec := "fnExactDegreesOf", inPlace := ["math/bits.Sub64", "math/bits.Add64"], unfollowed := true, recurses := true, named := ["math/bits.divideError", "math/bits.overflowError"], apart := false, narrowed := true }
def FnExactDegreesOfUptoSaid : Prop := fnExactDegreesOfUptoRow.holds Try.pinned (OpenSpec.upto fnExactDegreesOfSpec)

/-- 'laws.FnExactArcCotangent', WHERE WHAT IT READS IS OF BULK AT MOST 1048576: true; the input reads as it did. -/
def fnExactArcCotangentUptoRow : OpenClaim := { program := "ytooiepiankonmaa", sum := "ff1523c2ae228a30d84b2ed42acb3f9be0ca3c5f1c8d127eaedd22be11d444ee", func := "loop.example/g00880/laws.FnExactArcCotangent", spec := "fnExactArcCotangent", inPlace := ["math/bits.Sub64", "math/bits.Add64"], unfollowed := true, recurses := true, named := ["math/bits.divideError", "math/bits.overflowError"], apart := false, narrowed := true }
def FnExactArcCotangentUptoSaid : Prop := fnExactArcCotangentUptoRow.holds Try.pinned (OpenSpec.upto fnExactArcCotangentSpec)

/-- 'laws.FnExactArcSeries', WHERE WHAT IT READS IS OF BULK AT MOST 1048576: true; the input reads as it did. -/
def fnExactArcSeriesUptoRow : OpenClaim := { program := "ytooiepiankonmaa", sum := "ff1523c2ae228a30d84b2ed42acb3f9be0ca3c5f1c8d127eaedd22be11d444ee", func := "loop.example/g00880/laws.FnExactArcSeries", spec := "fnExactArcSeries", inPlace := ["math/bits.Sub64", "math/bits.Add64"], unfollowed := true, recurses := true, named := ["math/bits.divideError", "math/bits.overflowError"], apart := false, narrowed := true }
def FnExactArcSeriesUptoSaid : Prop := fnExactArcSeriesUptoRow.holds Try.pinned (OpenSpec.upto fnExactArcSeriesSpec)

/-- 'laws.FnExactCosSeries', WHERE WHAT IT READS IS OF BULK AT MOST 1048576: true; the input reads as it did. -/
def fnExactCosSeriesUptoRow : OpenClaim := { program := "ytooiepiankonmaa", sum := "ff1523c2ae228a30d84b2ed42acb3f9be0ca3c5f1c8d127eaedd22be11d444ee", func := "loop.example/g00880/laws.FnExactCosSeries", spec := "fnExactCosSeries", inPlace := ["math/bits.Sub64", "math/bits.Add64"], unfollowed := true, recurses := true, named := ["math/bits.divideError", "math/bits.overflowError"], apart := false, narrowed := true }
def FnExactCosSeriesUptoSaid : Prop := fnExactCosSeriesUptoRow.holds Try.pinned (OpenSpec.upto fnExactCosSeriesSpec)

/-- 'laws.FnExactSinSeries', WHERE WHAT IT READS IS OF BULK AT MOST 1048576: true; the input reads as it did. -/
def fnExactSinSeriesUptoRow : OpenClaim := { program := "ytooiepiankonmaa", sum := "ff1523c2ae228a30d84b2ed42acb3f9be0ca3c5f1c8d127eaedd22be11d444ee", func := "loop.example/g00880/laws.FnExactSinSeries", spec := "fnExactSinSeries", inPlace := ["math/bits.Sub64", "math/bits.Add64"], unfollowed := true, recurses := true, named := ["math/bits.divideError", "math/bits.overflowError"], apart := false, narrowed := true }
def FnExactSinSeriesUptoSaid : Prop := fnExactSinSeriesUptoRow.holds Try.pinned (OpenSpec.upto fnExactSinSeriesSpec)

/-- 'laws.FnExactEulerPi', WHERE WHAT IT READS IS OF BULK AT MOST 1048576: true; the input reads as it did. -/
def fnExactEulerPiUptoRow : OpenClaim := { program := "ytooiepiankonmaa", sum := "ff1523c2ae228a30d84b2ed42acb3f9be0ca3c5f1c8d127eaedd22be11d444ee", func := "loop.example/g00880/laws.FnExactEulerPi", spec := "fnExactEulerPi", inPlace := ["math/bits.Sub64", "math/bits.Add64"], unfollowed := true, recurses := true, named := ["math/bits.divideError", "math/bits.overflowError"], apart := false, narrowed := true }
def FnExactEulerPiUptoSaid : Prop := fnExactEulerPiUptoRow.holds Try.pinned (OpenSpec.upto fnExactEulerPiSpec)

/-- 'laws.FnExactMachinPi', WHERE WHAT IT READS IS OF BULK AT MOST 1048576: true; the input reads as it did. -/
def fnExactMachinPiUptoRow : OpenClaim := { program := "ytooiepiankonmaa", sum := "ff1523c2ae228a30d84b2ed42acb3f9be0ca3c5f1c8d127eaedd22be11d444ee", func := "loop.example/g00880/laws.FnExactMachinPi", spec := "fnExactMachinPi", inPlace := ["math/bits.Sub64", "math/bits.Add64"], unfollowed := true, recurses := true, named := ["math/bits.divideError", "math/bits.overflowError"], apart := false, narrowed := true }
def FnExactMachinPiUptoSaid : Prop := fnExactMachinPiUptoRow.holds Try.pinned (OpenSpec.upto fnExactMachinPiSpec)

end Rows
end Go.Proofs.Ytooiepiankonmaa
