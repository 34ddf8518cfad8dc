/-
  No cell of these rows narrows 'for every input' (looked for: loops, veiled, ifaces, maps, wideKeys, modest, calm, conditions, laid).
  DERIVED. THE GIVEN ROWS OF THIS SEAT. 12 by the template 'for every input the law returns true; each argument reads behind the call as it read before'; 0 by the template 'total and deterministic' (their statements: YtpffelclaabijaaTotals.lean).
  GIVEN WITH THE SEED: the statements are not yours to turn. If you find one false, say at which input.
  Laid BY PROGRAM, IN A SANDBOX (cutbox-rows.mjs): the forced cells as the released guide's own fill.sh prints them over the translation c07d763f38e60f2b… (all of the seat's roots in one cut). By AI agents, Wed Nov 11 2026. No macro, syntax, notation, axiom, sorry.
-/
import Derived.Test.YtpffelclaabijaaChecked
import GoSem.Claim
import GoSem.ClaimJoined
import GoSem.ClaimMapViews
import Derived.JoinedTies
import Derived.KernelRfl
namespace Go.Proofs.Ytpffelclaabijaa
/- THE CELL 'sum', in the pinned program and in every row, IS THE sha256 OF THE DUMP (.gsa) THAT YtpffelclaabijaaProg.lean LOADS. Nothing in Lean hashes anything: it is a label: what it is worth is what the hold of that sum in a sandbox is worth. -/
noncomputable def Try.pinned : Pinned := { name := "ytpffelclaabijaa", sum := "c07d763f38e60f2b136c7398f9eed5d49116f5ee197e58e120be8dc5f444b3ab", checked := Try.checked }
namespace Rows
def none {H : Type} : Left H := { results := [], args := [] }

/-- 'laws.FnExactQuarterOf': WHATEVER THE INPUT: true; the input reads as it did. -/
def fnExactQuarterOfSpec : ChangeSpec := { name := "fnExactQuarterOf", fn := fun _ => fun
  | [d] => { results := [.lit (.bool true)], args := [d] }
  | _ => none }
def fnExactQuarterOfRow : OpenClaim := { program := "ytpffelclaabijaa", sum := "c07d763f38e60f2b136c7398f9eed5d49116f5ee197e58e120be8dc5f444b3ab", func := "loop.example/g00880/laws.FnExactQuarterOf", spec := "fnExactQuarterOf", apart := false }
def FnExactQuarterOfSaid : Prop := fnExactQuarterOfRow.holds Try.pinned (OpenSpec.ofChange fnExactQuarterOfSpec)

/-- ITS FALSE NEIGHBOUR: 'it returns false'. Refute it at one input. -/
def fnExactQuarterOfWrong : ChangeSpec := { name := "fnExactQuarterOf", fn := fun _ => fun
  | [d] => { results := [.lit (.bool false)], args := [d] }
  | _ => none }
def FnExactQuarterOfWrongFalsely : Prop := fnExactQuarterOfRow.holds Try.pinned (OpenSpec.ofChange fnExactQuarterOfWrong)

/-- 'laws.FnExactSignI': WHATEVER THE INPUT: true; the input reads as it did. -/
def fnExactSignISpec : ChangeSpec := { name := "fnExactSignI", fn := fun _ => fun
  | [d] => { results := [.lit (.bool true)], args := [d] }
  | _ => none }
def fnExactSignIRow : OpenClaim := { program := "ytpffelclaabijaa", sum := "c07d763f38e60f2b136c7398f9eed5d49116f5ee197e58e120be8dc5f444b3ab", func := "loop.example/g00880/laws.FnExactSignI", spec := "fnExactSignI", apart := false }
def FnExactSignISaid : Prop := fnExactSignIRow.holds Try.pinned (OpenSpec.ofChange fnExactSignISpec)

/-- ITS FALSE NEIGHBOUR: 'it returns false'. Refute it at one input. -/
def fnExactSignIWrong : ChangeSpec := { name := "fnExactSignI", fn := fun _ => fun
  | [d] => { results := [.lit (.bool false)], args := [d] }
  | _ => none }
def FnExactSignIWrongFalsely : Prop := fnExactSignIRow.holds Try.pinned (OpenSpec.ofChange fnExactSignIWrong)

/-- 'laws.FnExactValidPoly': WHATEVER THE INPUT: true; the input reads as it did. -/
def fnExactValidPolySpec : ChangeSpec := { name := "fnExactValidPoly", fn := fun _ => fun
  | [d] => { results := [.lit (.bool true)], args := [d] }
  | _ => none }
def fnExactValidPolyRow : OpenClaim := { program := "ytpffelclaabijaa", sum := "c07d763f38e60f2b136c7398f9eed5d49116f5ee197e58e120be8dc5f444b3ab", func := "loop.example/g00880/laws.FnExactValidPoly", spec := "fnExactValidPoly", unfollowed := true, recurses := true, apart := false }
def FnExactValidPolySaid : Prop := fnExactValidPolyRow.holds Try.pinned (OpenSpec.ofChange fnExactValidPolySpec)

/-- ITS FALSE NEIGHBOUR: 'it returns false'. Refute it at one input. -/
def fnExactValidPolyWrong : ChangeSpec := { name := "fnExactValidPoly", fn := fun _ => fun
  | [d] => { results := [.lit (.bool false)], args := [d] }
  | _ => none }
def FnExactValidPolyWrongFalsely : Prop := fnExactValidPolyRow.holds Try.pinned (OpenSpec.ofChange fnExactValidPolyWrong)

/-- 'laws.FnExactAbsI': WHATEVER THE INPUT: true; the input reads as it did. -/
def fnExactAbsISpec : ChangeSpec := { name := "fnExactAbsI", fn := fun _ => fun
  | [d] => { results := [.lit (.bool true)], args := [d] }
  | _ => none }
def fnExactAbsIRow : OpenClaim := { program := "ytpffelclaabijaa", sum := "c07d763f38e60f2b136c7398f9eed5d49116f5ee197e58e120be8dc5f444b3ab", func := "loop.example/g00880/laws.FnExactAbsI", spec := "fnExactAbsI", apart := false }
def FnExactAbsISaid : Prop := fnExactAbsIRow.holds Try.pinned (OpenSpec.ofChange fnExactAbsISpec)

/-- ITS FALSE NEIGHBOUR: 'it returns false'. Refute it at one input. -/
def fnExactAbsIWrong : ChangeSpec := { name := "fnExactAbsI", fn := fun _ => fun
  | [d] => { results := [.lit (.bool false)], args := [d] }
  | _ => none }
def FnExactAbsIWrongFalsely : Prop := fnExactAbsIRow.holds Try.pinned (OpenSpec.ofChange fnExactAbsIWrong)

/-- 'laws.FnExactCircleAt': WHATEVER THE INPUT: true; the input reads as it did. -/
def fnExactCircleAtSpec : ChangeSpec := { name := "fnExactCircleAt", fn := fun _ => fun
  | [d] => { results := [.lit (.bool true)], args := [d] }
  | _ => none }
def fnExactCircleAtRow : OpenClaim := { program := "ytpffelclaabijaa", sum := "c07d763f38e60f2b136c7398f9eed5d49116f5ee197e58e120be8dc5f444b3ab", func := "loop.example/g00880/laws.FnExactCircleAt", spec := "fnExactCircleAt", apart := false }
def FnExactCircleAtSaid : Prop := fnExactCircleAtRow.holds Try.pinned (OpenSpec.ofChange fnExactCircleAtSpec)

/-- ITS FALSE NEIGHBOUR: 'it returns false'. Refute it at one input. -/
def fnExactCircleAtWrong : ChangeSpec := { name := "fnExactCircleAt", fn := fun _ => fun
  | [d] => { results := [.lit (.bool false)], args := [d] }
  | _ => none }
def FnExactCircleAtWrongFalsely : Prop := fnExactCircleAtRow.holds Try.pinned (OpenSpec.ofChange fnExactCircleAtWrong)

/-- 'laws.FnExactPiI': WHATEVER THE INPUT: true; the input reads as it did. -/
def fnExactPiISpec : ChangeSpec := { name := "fnExactPiI", fn := fun _ => fun
  | [] => { results := [.lit (.bool true)], args := [] }
  | _ => none }
def fnExactPiIRow : OpenClaim := { program := "ytpffelclaabijaa", sum := "c07d763f38e60f2b136c7398f9eed5d49116f5ee197e58e120be8dc5f444b3ab", func := "loop.example/g00880/laws.FnExactPiI", spec := "fnExactPiI", recurses := true, apart := false }
def FnExactPiISaid : Prop := fnExactPiIRow.holds Try.pinned (OpenSpec.ofChange fnExactPiISpec)

/-- ITS FALSE NEIGHBOUR: 'it returns false'. Refute it at one input. -/
def fnExactPiIWrong : ChangeSpec := { name := "fnExactPiI", fn := fun _ => fun
  | [] => { results := [.lit (.bool false)], args := [] }
  | _ => none }
def FnExactPiIWrongFalsely : Prop := fnExactPiIRow.holds Try.pinned (OpenSpec.ofChange fnExactPiIWrong)

/-- 'laws.FnExactTurnI': WHATEVER THE INPUT: true; the input reads as it did. -/
def fnExactTurnISpec : ChangeSpec := { name := "fnExactTurnI", fn := fun _ => fun
  | [d] => { results := [.lit (.bool true)], args := [d] }
  | _ => none }
def fnExactTurnIRow : OpenClaim := { program := "ytpffelclaabijaa", sum := "c07d763f38e60f2b136c7398f9eed5d49116f5ee197e58e120be8dc5f444b3ab", func := "loop.example/g00880/laws.FnExactTurnI", spec := "fnExactTurnI", recurses := true, apart := false }
def FnExactTurnISaid : Prop := fnExactTurnIRow.holds Try.pinned (OpenSpec.ofChange fnExactTurnISpec)

/-- ITS FALSE NEIGHBOUR: 'it returns false'. Refute it at one input. -/
def fnExactTurnIWrong : ChangeSpec := { name := "fnExactTurnI", fn := fun _ => fun
  | [d] => { results := [.lit (.bool false)], args := [d] }
  | _ => none }
def FnExactTurnIWrongFalsely : Prop := fnExactTurnIRow.holds Try.pinned (OpenSpec.ofChange fnExactTurnIWrong)

/-- 'laws.FnExactLogTwoI': WHATEVER THE INPUT: true; the input reads as it did. -/
def fnExactLogTwoISpec : ChangeSpec := { name := "fnExactLogTwoI", fn := fun _ => fun
  | [d] => { results := [.lit (.bool true)], args := [d] }
  | _ => none }
def fnExactLogTwoIRow : OpenClaim := { program := "ytpffelclaabijaa", sum := "c07d763f38e60f2b136c7398f9eed5d49116f5ee197e58e120be8dc5f444b3ab", func := "loop.example/g00880/laws.FnExactLogTwoI", spec := "fnExactLogTwoI", recurses := true, apart := false }
def FnExactLogTwoISaid : Prop := fnExactLogTwoIRow.holds Try.pinned (OpenSpec.ofChange fnExactLogTwoISpec)

/-- ITS FALSE NEIGHBOUR: 'it returns false'. Refute it at one input. -/
def fnExactLogTwoIWrong : ChangeSpec := { name := "fnExactLogTwoI", fn := fun _ => fun
  | [d] => { results := [.lit (.bool false)], args := [d] }
  | _ => none }
def FnExactLogTwoIWrongFalsely : Prop := fnExactLogTwoIRow.holds Try.pinned (OpenSpec.ofChange fnExactLogTwoIWrong)

/-- 'laws.FnExactAddPolys': WHATEVER THE INPUT: true; the input reads as it did. -/
def fnExactAddPolysSpec : ChangeSpec := { name := "fnExactAddPolys", fn := fun _ => fun
  | [d1, d2] => { results := [.lit (.bool true)], args := [d1, d2] }
  | _ => none }
def fnExactAddPolysRow : OpenClaim := { program := "ytpffelclaabijaa", sum := "c07d763f38e60f2b136c7398f9eed5d49116f5ee197e58e120be8dc5f444b3ab", func := "loop.example/g00880/laws.FnExactAddPolys", spec := "fnExactAddPolys", unfollowed := true, recurses := true, apart := false }
def FnExactAddPolysSaid : Prop := fnExactAddPolysRow.holds Try.pinned (OpenSpec.ofChange fnExactAddPolysSpec)

/-- ITS FALSE NEIGHBOUR: 'it returns false'. Refute it at one input. -/
def fnExactAddPolysWrong : ChangeSpec := { name := "fnExactAddPolys", fn := fun _ => fun
  | [d1, d2] => { results := [.lit (.bool false)], args := [d1, d2] }
  | _ => none }
def FnExactAddPolysWrongFalsely : Prop := fnExactAddPolysRow.holds Try.pinned (OpenSpec.ofChange fnExactAddPolysWrong)

/-- 'laws.FnExactSqrtI': WHATEVER THE INPUT: true; the input reads as it did. -/
def fnExactSqrtISpec : ChangeSpec := { name := "fnExactSqrtI", fn := fun _ => fun
  | [d] => { results := [.lit (.bool true)], args := [d] }
  | _ => none }
def fnExactSqrtIRow : OpenClaim := { program := "ytpffelclaabijaa", sum := "c07d763f38e60f2b136c7398f9eed5d49116f5ee197e58e120be8dc5f444b3ab", func := "loop.example/g00880/laws.FnExactSqrtI", spec := "fnExactSqrtI", apart := false }
def FnExactSqrtISaid : Prop := fnExactSqrtIRow.holds Try.pinned (OpenSpec.ofChange fnExactSqrtISpec)

/-- ITS FALSE NEIGHBOUR: 'it returns false'. Refute it at one input. -/
def fnExactSqrtIWrong : ChangeSpec := { name := "fnExactSqrtI", fn := fun _ => fun
  | [d] => { results := [.lit (.bool false)], args := [d] }
  | _ => none }
def FnExactSqrtIWrongFalsely : Prop := fnExactSqrtIRow.holds Try.pinned (OpenSpec.ofChange fnExactSqrtIWrong)

/-- 'laws.FnExactSqrI': WHATEVER THE INPUT: true; the input reads as it did. -/
def fnExactSqrISpec : ChangeSpec := { name := "fnExactSqrI", fn := fun _ => fun
  | [d] => { results := [.lit (.bool true)], args := [d] }
  | _ => none }
def fnExactSqrIRow : OpenClaim := { program := "ytpffelclaabijaa", sum := "c07d763f38e60f2b136c7398f9eed5d49116f5ee197e58e120be8dc5f444b3ab", func := "loop.example/g00880/laws.FnExactSqrI", spec := "fnExactSqrI", apart := false }
def FnExactSqrISaid : Prop := fnExactSqrIRow.holds Try.pinned (OpenSpec.ofChange fnExactSqrISpec)

/-- ITS FALSE NEIGHBOUR: 'it returns false'. Refute it at one input. -/
def fnExactSqrIWrong : ChangeSpec := { name := "fnExactSqrI", fn := fun _ => fun
  | [d] => { results := [.lit (.bool false)], args := [d] }
  | _ => none }
def FnExactSqrIWrongFalsely : Prop := fnExactSqrIRow.holds Try.pinned (OpenSpec.ofChange fnExactSqrIWrong)

/-- 'laws.FnExactMulI': WHATEVER THE INPUT: true; the input reads as it did. -/
def fnExactMulISpec : ChangeSpec := { name := "fnExactMulI", fn := fun _ => fun
  | [d1, d2] => { results := [.lit (.bool true)], args := [d1, d2] }
  | _ => none }
def fnExactMulIRow : OpenClaim := { program := "ytpffelclaabijaa", sum := "c07d763f38e60f2b136c7398f9eed5d49116f5ee197e58e120be8dc5f444b3ab", func := "loop.example/g00880/laws.FnExactMulI", spec := "fnExactMulI", unfollowed := true, recurses := true, apart := false }
def FnExactMulISaid : Prop := fnExactMulIRow.holds Try.pinned (OpenSpec.ofChange fnExactMulISpec)

/-- ITS FALSE NEIGHBOUR: 'it returns false'. Refute it at one input. -/
def fnExactMulIWrong : ChangeSpec := { name := "fnExactMulI", fn := fun _ => fun
  | [d1, d2] => { results := [.lit (.bool false)], args := [d1, d2] }
  | _ => none }
def FnExactMulIWrongFalsely : Prop := fnExactMulIRow.holds Try.pinned (OpenSpec.ofChange fnExactMulIWrong)

/- THE SECOND FORM. 'bulk': how many values and letters a reading holds, each counted each time it is reached (what is shared counts as often as it is met; a slice's spare places count too). A statement '..UptoSaid' is the law's where the arguments, and the package variables that the reading takes, are together of bulk at most 1048576: NARROWER than '..Said'. Prove '..Said' where nothing that the law and all that it calls make is longer than what came in: it says more and counts as full. Else prove '..UptoSaid'. A law counts once. -/
mutual
def uptoBulk {H : Type} : DataW H → Nat
  | .lit (.string bytes) => bytes.length + 1
  | .lit _ => 1
  | .nil => 1
  | .ptr d => uptoBulk d + 1
  | .slice elems spare => uptoBulkAll elems + uptoBulkAll spare + 1
  | .agg parts => uptoBulkAll parts + 1
  | .iface _ d => uptoBulk d + 1
  | .map entries => uptoBulkEntries entries + 1
  | .held _ => 1
def uptoBulkAll {H : Type} : List (DataW H) → Nat
  | [] => 0
  | d :: r => uptoBulk d + uptoBulkAll r
def uptoBulkEntries {H : Type} : List (Lit × DataW H) → Nat
  | [] => 0
  | x :: r => uptoBulkEntry x + uptoBulkEntries r
def uptoBulkEntry {H : Type} : Lit × DataW H → Nat
  | (.string bytes, d) => bytes.length + uptoBulk d + 1
  | (_, d) => uptoBulk d + 1
 end
def uptoSmall : (H : Type) → List (DataW H) → Bool := fun _ ds => decide (uptoBulkAll ds ≤ 1048576)
def OpenSpec.upto (s : _root_.Go.ChangeSpec) : _root_.Go.OpenSpec := { _root_.Go.OpenSpec.ofChange s with cond := some uptoSmall }

/-- 'laws.FnExactQuarterOf', WHERE WHAT IT READS IS OF BULK AT MOST 1048576: true; the input reads as it did. -/
def fnExactQuarterOfUptoRow : OpenClaim := { program := "ytpffelclaabijaa", sum := "c07d763f38e60f2b136c7398f9eed5d49116f5ee197e58e120be8dc5f444b3ab", func := "loop.example/g00880/laws.FnExactQuarterOf", spec := "fnExactQuarterOf", apart := false, narrowed := true }
def FnExactQuarterOfUptoSaid : Prop := fnExactQuarterOfUptoRow.holds Try.pinned (OpenSpec.upto fnExactQuarterOfSpec)

/-- 'laws.FnExactSignI', WHERE WHAT IT READS IS OF BULK AT MOST 1048576: true; the input reads as it did. -/
def fnExactSignIUptoRow : OpenClaim := { program := "ytpffelclaabijaa", sum := "c07d763f38e60f2b136c7398f9eed5d49116f5ee197e58e120be8dc5f444b3ab", func := "loop.example/g00880/laws.FnExactSignI", spec := "fnExactSignI", apart := false, narrowed := true }
def FnExactSignIUptoSaid : Prop := fnExactSignIUptoRow.holds Try.pinned (OpenSpec.upto fnExactSignISpec)

/-- 'laws.FnExactValidPoly', WHERE WHAT IT READS IS OF BULK AT MOST 1048576: true; the input reads as it did. -/
def fnExactValidPolyUptoRow : OpenClaim := { program := "ytpffelclaabijaa", sum := "c07d763f38e60f2b136c7398f9eed5d49116f5ee197e58e120be8dc5f444b3ab", func := "loop.example/g00880/laws.FnExactValidPoly", spec := "fnExactValidPoly", unfollowed := true, recurses := true, apart := false, narrowed := true }
def FnExactValidPolyUptoSaid : Prop := fnExactValidPolyUptoRow.holds Try.pinned (OpenSpec.upto fnExactValidPolySpec)

/-- 'laws.FnExactAbsI', WHERE WHAT IT READS IS OF BULK AT MOST 1048576: true; the input reads as it did. -/
def fnExactAbsIUptoRow : OpenClaim := { program := "ytpffelclaabijaa", sum := "c07d763f38e60f2b136c7398f9eed5d49116f5ee197e58e120be8dc5f444b3ab", func := "loop.example/g00880/laws.FnExactAbsI", spec := "fnExactAbsI", apart := false, narrowed := true }
def FnExactAbsIUptoSaid : Prop := fnExactAbsIUptoRow.holds Try.pinned (OpenSpec.upto fnExactAbsISpec)

/-- 'laws.FnExactCircleAt', WHERE WHAT IT READS IS OF BULK AT MOST 1048576: true; the input reads as it did. -/
def fnExactCircleAtUptoRow : OpenClaim := { program := "ytpffelclaabijaa", sum := "c07d763f38e60f2b136c7398f9eed5d49116f5ee197e58e120be8dc5f444b3ab", func := "loop.example/g00880/laws.FnExactCircleAt", spec := "fnExactCircleAt", apart := false, narrowed := true }
def FnExactCircleAtUptoSaid : Prop := fnExactCircleAtUptoRow.holds Try.pinned (OpenSpec.upto fnExactCircleAtSpec)

/-- 'laws.FnExactPiI', WHERE WHAT IT READS IS OF BULK AT MOST 1048576: true; the input reads as it did. -/
def fnExactPiIUptoRow : OpenClaim := { program := "ytpffelclaabijaa", sum := "c07d763f38e60f2b136c7398f9eed5d49116f5ee197e58e120be8dc5f444b3ab", func := "loop.example/g00880/laws.FnExactPiI", spec := "fnExactPiI", recurses := true, apart := false, narrowed := true }
def FnExactPiIUptoSaid : Prop := fnExactPiIUptoRow.holds Try.pinned (OpenSpec.upto fnExactPiISpec)

/-- 'laws.FnExactTurnI', WHERE WHAT IT READS IS OF BULK AT MOST 1048576: true; the input reads as it did. -/
def fnExactTurnIUptoRow : OpenClaim := { program := "ytpffelclaabijaa", sum := "c07d763f38e60f2b136c7398f9eed5d49116f5ee197e58e120be8dc5f444b3ab", func := "loop.example/g00880/laws.FnExactTurnI", spec := "fnExactTurnI", recurses := true, apart := false, narrowed := true }
def FnExactTurnIUptoSaid : Prop := fnExactTurnIUptoRow.holds Try.pinned (OpenSpec.upto fnExactTurnISpec)

/-- 'laws.FnExactLogTwoI', WHERE WHAT IT READS IS OF BULK AT MOST 1048576: true; the input reads as it did. -/
def fnExactLogTwoIUptoRow : OpenClaim := { program := "ytpffelclaabijaa", sum := "c07d763f38e60f2b136c7398f9eed5d49116f5ee197e58e120be8dc5f444b3ab", func := "loop.example/g00880/laws.FnExactLogTwoI", spec := "fnExactLogTwoI", recurses := true, apart := false, narrowed := true }
def FnExactLogTwoIUptoSaid : Prop := fnExactLogTwoIUptoRow.holds Try.pinned (OpenSpec.upto fnExactLogTwoISpec)

/-- 'laws.FnExactAddPolys', WHERE WHAT IT READS IS OF BULK AT MOST 1048576: true; the input reads as it did. -/
def fnExactAddPolysUptoRow : OpenClaim := { program := "ytpffelclaabijaa", sum := "c07d763f38e60f2b136c7398f9eed5d49116f5ee197e58e120be8dc5f444b3ab", func := "loop.example/g00880/laws.FnExactAddPolys", spec := "fnExactAddPolys", unfollowed := true, recurses := true, apart := false, narrowed := true }
def FnExactAddPolysUptoSaid : Prop := fnExactAddPolysUptoRow.holds Try.pinned (OpenSpec.upto fnExactAddPolysSpec)

/-- 'laws.FnExactSqrtI', WHERE WHAT IT READS IS OF BULK AT MOST 1048576: true; the input reads as it did. -/
def fnExactSqrtIUptoRow : OpenClaim := { program := "ytpffelclaabijaa", sum := "c07d763f38e60f2b136c7398f9eed5d49116f5ee197e58e120be8dc5f444b3ab", func := "loop.example/g00880/laws.FnExactSqrtI", spec := "fnExactSqrtI", apart := false, narrowed := true }
def FnExactSqrtIUptoSaid : Prop := fnExactSqrtIUptoRow.holds Try.pinned (OpenSpec.upto fnExactSqrtISpec)

/-- 'laws.FnExactSqrI', WHERE WHAT IT READS IS OF BULK AT MOST 1048576: true; the input reads as it did. -/
def fnExactSqrIUptoRow : OpenClaim := { program := "ytpffelclaabijaa", sum := "c07d763f38e60f2b136c7398f9eed5d49116f5ee197e58e120be8dc5f444b3ab", func := "loop.example/g00880/laws.FnExactSqrI", spec := "fnExactSqrI", apart := false, narrowed := true }
def FnExactSqrIUptoSaid : Prop := fnExactSqrIUptoRow.holds Try.pinned (OpenSpec.upto fnExactSqrISpec)

/-- 'laws.FnExactMulI', WHERE WHAT IT READS IS OF BULK AT MOST 1048576: true; the input reads as it did. -/
def fnExactMulIUptoRow : OpenClaim := { program := "ytpffelclaabijaa", sum := "c07d763f38e60f2b136c7398f9eed5d49116f5ee197e58e120be8dc5f444b3ab", func := "loop.example/g00880/laws.FnExactMulI", spec := "fnExactMulI", unfollowed := true, recurses := true, apart := false, narrowed := true }
def FnExactMulIUptoSaid : Prop := fnExactMulIUptoRow.holds Try.pinned (OpenSpec.upto fnExactMulISpec)

end Rows
end Go.Proofs.Ytpffelclaabijaa
