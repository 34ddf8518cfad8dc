/-
  No cell of these rows narrows 'for every input' (looked for: loops, veiled, ifaces, maps, wideKeys, modest, calm, conditions, laid).
  DERIVED. THE GIVEN ROWS OF THIS SEAT. 4 by the template 'for every input the law returns true; each argument reads behind the call as it read before'; 0 by the template 'total and deterministic' (their statements: YtcnapkdccjibpaaGreatTotals.lean).
  GIVEN WITH THE SEED: the statements are not yours to turn. If you find one false, say at which input.
  Laid BY PROGRAM, IN A SANDBOX (cutbox-rows.mjs): the forced cells as the released guide's own fill.sh prints them over the translation 9ad82225b04e57a9… (all of the seat's roots in one cut). By AI agents, Wed Nov 11 2026. No macro, syntax, notation, axiom, sorry.
-/
import Derived.Test.YtcnapkdccjibpaaGreatChecked
import GoSem.Claim
import GoSem.ClaimJoined
import GoSem.ClaimMapViews
import Derived.JoinedTies
import Derived.KernelRfl
namespace Go.Proofs.YtcnapkdccjibpaaGreat
/- THE CELL 'sum', in the pinned program and in every row, IS THE sha256 OF THE DUMP (.gsa) THAT YtcnapkdccjibpaaGreatProg.lean LOADS. Nothing in Lean hashes anything: it is a label: what it is worth is what the hold of that sum in a sandbox is worth. -/
noncomputable def Tryz.pinned : Pinned := { name := "ytcnapkdccjibpaagreat", sum := "9ad82225b04e57a99cc714be64295ec2268385570361de1ed59b7a548ca67fbb", checked := Tryz.checked }
namespace Rows
def none {H : Type} : Left H := { results := [], args := [] }

/-- 'laws.FnTrig': WHATEVER THE INPUT: true; the input reads as it did. -/
def fnTrigSpec : ChangeSpec := { name := "fnTrig", fn := fun _ => fun
  | [d] => { results := [.lit (.bool true)], args := [d] }
  | _ => none }
def fnTrigRow : OpenClaim := { program := "ytcnapkdccjibpaagreat", sum := "9ad82225b04e57a99cc714be64295ec2268385570361de1ed59b7a548ca67fbb", func := "loop.example/g00880/laws.FnTrig", spec := "fnTrig", inPlace := ["math/bits.Sub64", "math/bits.Add64"], unfollowed := true, recurses := true, named := ["math/bits.divideError", "math/bits.overflowError"], apart := false }
def FnTrigSaid : Prop := fnTrigRow.holds Tryz.pinned (OpenSpec.ofChange fnTrigSpec)

/-- ITS FALSE NEIGHBOUR: 'it returns false'. Refute it at one input. -/
def fnTrigWrong : ChangeSpec := { name := "fnTrig", fn := fun _ => fun
  | [d] => { results := [.lit (.bool false)], args := [d] }
  | _ => none }
def FnTrigWrongFalsely : Prop := fnTrigRow.holds Tryz.pinned (OpenSpec.ofChange fnTrigWrong)

/-- 'laws.FnExp': WHATEVER THE INPUT: true; the input reads as it did. -/
def fnExpSpec : ChangeSpec := { name := "fnExp", fn := fun _ => fun
  | [d] => { results := [.lit (.bool true)], args := [d] }
  | _ => none }
def fnExpRow : OpenClaim := { program := "ytcnapkdccjibpaagreat", sum := "9ad82225b04e57a99cc714be64295ec2268385570361de1ed59b7a548ca67fbb", func := "loop.example/g00880/laws.FnExp", spec := "fnExp", inPlace := ["math/bits.Sub64", "math/bits.Add64"], unfollowed := true, recurses := true, named := ["math/bits.divideError", "math/bits.overflowError"], apart := false }
def FnExpSaid : Prop := fnExpRow.holds Tryz.pinned (OpenSpec.ofChange fnExpSpec)

/-- ITS FALSE NEIGHBOUR: 'it returns false'. Refute it at one input. -/
def fnExpWrong : ChangeSpec := { name := "fnExp", fn := fun _ => fun
  | [d] => { results := [.lit (.bool false)], args := [d] }
  | _ => none }
def FnExpWrongFalsely : Prop := fnExpRow.holds Tryz.pinned (OpenSpec.ofChange fnExpWrong)

/-- 'laws.FnArcs': WHATEVER THE INPUT: true; the input reads as it did. -/
def fnArcsSpec : ChangeSpec := { name := "fnArcs", fn := fun _ => fun
  | [d1, d2] => { results := [.lit (.bool true)], args := [d1, d2] }
  | _ => none }
def fnArcsRow : OpenClaim := { program := "ytcnapkdccjibpaagreat", sum := "9ad82225b04e57a99cc714be64295ec2268385570361de1ed59b7a548ca67fbb", func := "loop.example/g00880/laws.FnArcs", spec := "fnArcs", inPlace := ["math/bits.Sub64", "math/bits.Add64"], unfollowed := true, recurses := true, named := ["math/bits.divideError", "math/bits.overflowError"], apart := false }
def FnArcsSaid : Prop := fnArcsRow.holds Tryz.pinned (OpenSpec.ofChange fnArcsSpec)

/-- ITS FALSE NEIGHBOUR: 'it returns false'. Refute it at one input. -/
def fnArcsWrong : ChangeSpec := { name := "fnArcs", fn := fun _ => fun
  | [d1, d2] => { results := [.lit (.bool false)], args := [d1, d2] }
  | _ => none }
def FnArcsWrongFalsely : Prop := fnArcsRow.holds Tryz.pinned (OpenSpec.ofChange fnArcsWrong)

/-- 'laws.FnDirections': WHATEVER THE INPUT: true; the input reads as it did. -/
def fnDirectionsSpec : ChangeSpec := { name := "fnDirections", fn := fun _ => fun
  | [d1, d2] => { results := [.lit (.bool true)], args := [d1, d2] }
  | _ => none }
def fnDirectionsRow : OpenClaim := { program := "ytcnapkdccjibpaagreat", sum := "9ad82225b04e57a99cc714be64295ec2268385570361de1ed59b7a548ca67fbb", func := "loop.example/g00880/laws.FnDirections", spec := "fnDirections", inPlace := ["math/bits.Sub64", "math/bits.Add64"], unfollowed := true, recurses := true, named := ["math/bits.divideError", "math/bits.overflowError"], apart := false }
def FnDirectionsSaid : Prop := fnDirectionsRow.holds Tryz.pinned (OpenSpec.ofChange fnDirectionsSpec)

/-- ITS FALSE NEIGHBOUR: 'it returns false'. Refute it at one input. -/
def fnDirectionsWrong : ChangeSpec := { name := "fnDirections", fn := fun _ => fun
  | [d1, d2] => { results := [.lit (.bool false)], args := [d1, d2] }
  | _ => none }
def FnDirectionsWrongFalsely : Prop := fnDirectionsRow.holds Tryz.pinned (OpenSpec.ofChange fnDirectionsWrong)

/- THE SECOND FORM. 'bulk': how many values and letters a reading holds, each counted each time it is reached (what is shared counts as often as it is met; a slice's spare places count too). A statement '..UptoSaid' is the law's where the arguments, and the package variables that the reading takes, are together of bulk at most 1048576: NARROWER than '..Said'. Prove '..Said' where nothing that the law and all that it calls make is longer than what came in: it says more and counts as full. Else prove '..UptoSaid'. A law counts once. -/
mutual
def uptoBulk {H : Type} : DataW H → Nat
  | .lit (.string bytes) => bytes.length + 1
  | .lit _ => 1
  | .nil => 1
  | .ptr d => uptoBulk d + 1
  | .slice elems spare => uptoBulkAll elems + uptoBulkAll spare + 1
  | .agg parts => uptoBulkAll parts + 1
  | .iface _ d => uptoBulk d + 1
  | .map entries => uptoBulkEntries entries + 1
  | .held _ => 1
def uptoBulkAll {H : Type} : List (DataW H) → Nat
  | [] => 0
  | d :: r => uptoBulk d + uptoBulkAll r
def uptoBulkEntries {H : Type} : List (Lit × DataW H) → Nat
  | [] => 0
  | x :: r => uptoBulkEntry x + uptoBulkEntries r
def uptoBulkEntry {H : Type} : Lit × DataW H → Nat
  | (.string bytes, d) => bytes.length + uptoBulk d + 1
  | (_, d) => uptoBulk d + 1
 end
def uptoSmall : (H : Type) → List (DataW H) → Bool := fun _ ds => decide (uptoBulkAll ds ≤ 1048576)
def OpenSpec.upto (s : _root_.Go.ChangeSpec) : _root_.Go.OpenSpec := { _root_.Go.OpenSpec.ofChange s with cond := some uptoSmall }

/-- 'laws.FnTrig', WHERE WHAT IT READS IS OF BULK AT MOST 1048576: true; the input reads as it did. -/
def fnTrigUptoRow : OpenClaim := { program := "ytcnapkdccjibpaagreat", sum := "9ad82225b04e57a99cc714be64295ec2268385570361de1ed59b7a548ca67fbb", func := "loop.example/g00880/laws.FnTrig", spec := "fnTrig", inPlace := ["math/bits.Sub64", "math/bits.Add64"], unfollowed := true, recurses := true, named := ["math/bits.divideError", "math/bits.overflowError"], apart := false, narrowed := true }
def FnTrigUptoSaid : Prop := fnTrigUptoRow.holds Tryz.pinned (OpenSpec.upto fnTrigSpec)

/-- 'laws.FnExp', WHERE WHAT IT READS IS OF BULK AT MOST 1048576: true; the input reads as it did. -/
def fnExpUptoRow : OpenClaim := { program := "ytcnapkdccjibpaagreat", sum := "9ad82225b04e57a99cc714be64295ec2268385570361de1ed59b7a548ca67fbb", func := "loop.example/g00880/laws.FnExp", spec := "fnExp", inPlace := ["math/bits.Sub64", "math/bits.Add64"], unfollowed := true, recurses := true, named := ["math/bits.divideError", "math/bits.overflowError"], apart := false, narrowed := true }
def FnExpUptoSaid : Prop := fnExpUptoRow.holds Tryz.pinned (OpenSpec.upto fnExpSpec)

/-- 'laws.FnArcs', WHERE WHAT IT READS IS OF BULK AT MOST 1048576: true; the input reads as it did. -/
def fnArcsUptoRow : OpenClaim := { program := "ytcnapkdccjibpaagreat", sum := "9ad82225b04e57a99cc714be64295ec2268385570361de1ed59b7a548ca67fbb", func := "loop.example/g00880/laws.FnArcs", spec := "fnArcs", inPlace := ["math/bits.Sub64", "math/bits.Add64"], unfollowed := true, recurses := true, named := ["math/bits.divideError", "math/bits.overflowError"], apart := false, narrowed := true }
def FnArcsUptoSaid : Prop := fnArcsUptoRow.holds Tryz.pinned (OpenSpec.upto fnArcsSpec)

/-- 'laws.FnDirections', WHERE WHAT IT READS IS OF BULK AT MOST 1048576: true; the input reads as it did. -/
def fnDirectionsUptoRow : OpenClaim := { program := "ytcnapkdccjibpaagreat", sum := "9ad82225b04e57a99cc714be64295ec2268385570361de1ed59b7a548ca67fbb", func := "loop.example/g00880/laws.FnDirections", spec := "fnDirections", inPlace := ["math/bits.Sub64", "math/bits.Add64"], unfollowed := true, recurses := true, named := ["math/bits.divideError", "math/bits.overflowError"], apart := false, narrowed := true }
def FnDirectionsUptoSaid : Prop := fnDirectionsUptoRow.holds Tryz.pinned (OpenSpec.upto fnDirectionsSpec)

end Rows
end Go.Proofs.YtcnapkdccjibpaaGreat
