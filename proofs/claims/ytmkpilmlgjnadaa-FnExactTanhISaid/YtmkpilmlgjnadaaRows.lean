/-
  No cell of these rows narrows 'for every input' (looked for: loops, veiled, ifaces, maps, wideKeys, modest, calm, conditions, laid).
  DERIVED. THE GIVEN ROWS OF THIS SEAT. 7 by the template 'for every input the law returns true; each argument reads behind the call as it read before'; 0 by the template 'total and deterministic' (their statements: YtmkpilmlgjnadaaTotals.lean).
  GIVEN WITH THE SEED: the statements are not yours to turn. If you find one false, say at which input.
  Laid BY PROGRAM, IN A SANDBOX (cutbox-rows.mjs): the forced cells as the released guide's own fill.sh prints them over the translation 104691ce80370b0e… (all of the seat's roots in one cut). By AI agents, Wed Nov 11 2026. No macro, syntax, notation, axiom, sorry.
-/
import Derived.Test.YtmkpilmlgjnadaaChecked
import GoSem.Claim
import GoSem.ClaimJoined
import GoSem.ClaimMapViews
import Derived.JoinedTies
import Derived.KernelRfl
namespace Go.Proofs.Ytmkpilmlgjnadaa
/- THE CELL 'sum', in the pinned program and in every row, IS THE sha256 OF THE DUMP (.gsa) THAT YtmkpilmlgjnadaaProg.lean LOADS. Nothing in Lean hashes anything: it is a label: what it is worth is what the hold of that sum in a sandbox is worth. -/
noncomputable def Try.pinned : Pinned := { name := "ytmkpilmlgjnadaa", sum := "104691ce80370b0e00a1d25f756ed08fd399bbb8fa5ac5b4bf3ff804df37489d", checked := Try.checked }
namespace Rows
def none {H : Type} : Left H := { results := [], args := [] }

/-- 'laws.FnExactExpAt': WHATEVER THE INPUT: true; the input reads as it did. -/
def fnExactExpAtSpec : ChangeSpec := { name := "fnExactExpAt", fn := fun _ => fun
  | [d] => { results := [.lit (.bool true)], args := [d] }
  | _ => none }
def fnExactExpAtRow : OpenClaim := { program := "ytmkpilmlgjnadaa", sum := "104691ce80370b0e00a1d25f756ed08fd399bbb8fa5ac5b4bf3ff804df37489d", func := "loop.example/g00880/laws.FnExactExpAt", spec := "fnExactExpAt", inPlace := ["math/bits.Sub64", "math/bits.Add64"], unfollowed := true, recurses := true, named := ["math/bits.divideError", "math/bits.overflowError"], apart := false }
def FnExactExpAtSaid : Prop := fnExactExpAtRow.holds Try.pinned (OpenSpec.ofChange fnExactExpAtSpec)

/-- ITS FALSE NEIGHBOUR: 'it returns false'. Refute it at one input. -/
def fnExactExpAtWrong : ChangeSpec := { name := "fnExactExpAt", fn := fun _ => fun
  | [d] => { results := [.lit (.bool false)], args := [d] }
  | _ => none }
def FnExactExpAtWrongFalsely : Prop := fnExactExpAtRow.holds Try.pinned (OpenSpec.ofChange fnExactExpAtWrong)

/-- 'laws.FnExactExpI': WHATEVER THE INPUT: true; the input reads as it did. -/
def fnExactExpISpec : ChangeSpec := { name := "fnExactExpI", fn := fun _ => fun
  | [d] => { results := [.lit (.bool true)], args := [d] }
  | _ => none }
def fnExactExpIRow : OpenClaim := { program := "ytmkpilmlgjnadaa", sum := "104691ce80370b0e00a1d25f756ed08fd399bbb8fa5ac5b4bf3ff804df37489d", func := "loop.example/g00880/laws.FnExactExpI", spec := "fnExactExpI", inPlace := ["math/bits.Sub64", "math/bits.Add64"], unfollowed := true, recurses := true, named := ["math/bits.divideError", "math/bits.overflowError"], apart := false }
def FnExactExpISaid : Prop := fnExactExpIRow.holds Try.pinned (OpenSpec.ofChange fnExactExpISpec)

/-- ITS FALSE NEIGHBOUR: 'it returns false'. Refute it at one input. -/
def fnExactExpIWrong : ChangeSpec := { name := "fnExactExpI", fn := fun _ => fun
  | [d] => { results := [.lit (.bool false)], args := [d] }
  | _ => none }
def FnExactExpIWrongFalsely : Prop := fnExactExpIRow.holds Try.pinned (OpenSpec.ofChange fnExactExpIWrong)

/-- 'laws.FnExactSinhI': WHATEVER THE INPUT: true; the input reads as it did. -/
def fnExactSinhISpec : ChangeSpec := { name := "fnExactSinhI", fn := fun _ => fun
  | [d] => { results := [.lit (.bool true)], args := [d] }
  | _ => none }
def fnExactSinhIRow : OpenClaim := { program := "ytmkpilmlgjnadaa", sum := "104691ce80370b0e00a1d25f756ed08fd399bbb8fa5ac5b4bf3ff804df37489d", func := "loop.example/g00880/laws.FnExactSinhI", spec := "fnExactSinhI", inPlace := ["math/bits.Sub64", "math/bits.Add64"], unfollowed := true, recurses := true, named := ["math/bits.divideError", "math/bits.overflowError"], apart := false }
def FnExactSinhISaid : Prop := fnExactSinhIRow.holds Try.pinned (OpenSpec.ofChange fnExactSinhISpec)

/-- ITS FALSE NEIGHBOUR: 'it returns false'. Refute it at one input. -/
def fnExactSinhIWrong : ChangeSpec := { name := "fnExactSinhI", fn := fun _ => fun
  | [d] => { results := [.lit (.bool false)], args := [d] }
  | _ => none }
def FnExactSinhIWrongFalsely : Prop := fnExactSinhIRow.holds Try.pinned (OpenSpec.ofChange fnExactSinhIWrong)

/-- 'laws.FnExactCoshI': WHATEVER THE INPUT: true; the input reads as it did. -/
def fnExactCoshISpec : ChangeSpec := { name := "fnExactCoshI", fn := fun _ => fun
  | [d] => { results := [.lit (.bool true)], args := [d] }
  | _ => none }
def fnExactCoshIRow : OpenClaim := { program := "ytmkpilmlgjnadaa", sum := "104691ce80370b0e00a1d25f756ed08fd399bbb8fa5ac5b4bf3ff804df37489d", func := "loop.example/g00880/laws.FnExactCoshI", spec := "fnExactCoshI", inPlace := ["math/bits.Sub64", "math/bits.Add64"], unfollowed := true, recurses := true, named := ["math/bits.divideError", "math/bits.overflowError"], apart := false }
def FnExactCoshISaid : Prop := fnExactCoshIRow.holds Try.pinned (OpenSpec.ofChange fnExactCoshISpec)

/-- ITS FALSE NEIGHBOUR: 'it returns false'. Refute it at one input. -/
def fnExactCoshIWrong : ChangeSpec := { name := "fnExactCoshI", fn := fun _ => fun
  | [d] => { results := [.lit (.bool false)], args := [d] }
  | _ => none }
def FnExactCoshIWrongFalsely : Prop := fnExactCoshIRow.holds Try.pinned (OpenSpec.ofChange fnExactCoshIWrong)

/-- 'laws.FnExactTanhI': WHATEVER THE INPUT: true; the input reads as it did. -/
def fnExactTanhISpec : ChangeSpec := { name := "fnExactTanhI", fn := fun _ => fun
  | [d] => { results := [.lit (.bool true)], args := [d] }
  | _ => none }
def fnExactTanhIRow : OpenClaim := { program := "ytmkpilmlgjnadaa", sum := "104691ce80370b0e00a1d25f756ed08fd399bbb8fa5ac5b4bf3ff804df37489d", func := "loop.example/g00880/laws.FnExactTanhI", spec := "fnExactTanhI", inPlace := ["math/bits.Sub64", "math/bits.Add64"], unfollowed := true, recurses := true, named := ["math/bits.divideError", "math/bits.overflowError"], apart := false }
def FnExactTanhISaid : Prop := fnExactTanhIRow.holds Try.pinned (OpenSpec.ofChange fnExactTanhISpec)

/-- ITS FALSE NEIGHBOUR: 'it returns false'. Refute it at one input. -/
def fnExactTanhIWrong : ChangeSpec := { name := "fnExactTanhI", fn := fun _ => fun
  | [d] => { results := [.lit (.bool false)], args := [d] }
  | _ => none }
def FnExactTanhIWrongFalsely : Prop := fnExactTanhIRow.holds Try.pinned (OpenSpec.ofChange fnExactTanhIWrong)

/-- 'laws.FnExactLogAt': WHATEVER THE INPUT: true; the input reads as it did. -/
def fnExactLogAtSpec : ChangeSpec := { name := "fnExactLogAt", fn := fun _ => fun
  | [d] => { results := [.lit (.bool true)], args := [d] }
  | _ => none }
def fnExactLogAtRow : OpenClaim := { program := "ytmkpilmlgjnadaa", sum := "104691ce80370b0e00a1d25f756ed08fd399bbb8fa5ac5b4bf3ff804df37489d", func := "loop.example/g00880/laws.FnExactLogAt", spec := "fnExactLogAt", inPlace := ["math/bits.Sub64", "math/bits.Add64"], unfollowed := true, recurses := true, named := ["math/bits.divideError", "math/bits.overflowError"], apart := false }
def FnExactLogAtSaid : Prop := fnExactLogAtRow.holds Try.pinned (OpenSpec.ofChange fnExactLogAtSpec)

/-- ITS FALSE NEIGHBOUR: 'it returns false'. Refute it at one input. -/
def fnExactLogAtWrong : ChangeSpec := { name := "fnExactLogAt", fn := fun _ => fun
  | [d] => { results := [.lit (.bool false)], args := [d] }
  | _ => none }
def FnExactLogAtWrongFalsely : Prop := fnExactLogAtRow.holds Try.pinned (OpenSpec.ofChange fnExactLogAtWrong)

/-- 'laws.FnExactLogI': WHATEVER THE INPUT: true; the input reads as it did. -/
def fnExactLogISpec : ChangeSpec := { name := "fnExactLogI", fn := fun _ => fun
  | [d] => { results := [.lit (.bool true)], args := [d] }
  | _ => none }
def fnExactLogIRow : OpenClaim := { program := "ytmkpilmlgjnadaa", sum := "104691ce80370b0e00a1d25f756ed08fd399bbb8fa5ac5b4bf3ff804df37489d", func := "loop.example/g00880/laws.FnExactLogI", spec := "fnExactLogI", inPlace := ["math/bits.Sub64", "math/bits.Add64"], unfollowed := true, recurses := true, named := ["math/bits.divideError", "math/bits.overflowError"], apart := false }
def FnExactLogISaid : Prop := fnExactLogIRow.holds Try.pinned (OpenSpec.ofChange fnExactLogISpec)

/-- ITS FALSE NEIGHBOUR: 'it returns false'. Refute it at one input. -/
def fnExactLogIWrong : ChangeSpec := { name := "fnExactLogI", fn := fun _ => fun
  | [d] => { results := [.lit (.bool false)], args := [d] }
  | _ => none }
def FnExactLogIWrongFalsely : Prop := fnExactLogIRow.holds Try.pinned (OpenSpec.ofChange fnExactLogIWrong)

/- THE SECOND FORM. 'bulk': how many values and letters a reading holds, each counted each time it is reached (what is shared counts as often as it is met; a slice's spare places count too). A statement '..UptoSaid' is the law's where the arguments, and the package variables that the reading takes, are together of bulk at most 1048576: NARROWER than '..Said'. Prove '..Said' where nothing that the law and all that it calls make is longer than what came in: it says more and counts as full. Else prove '..UptoSaid'. A law counts once. -/
mutual
def uptoBulk {H : Type} : DataW H → Nat
  | .lit (.string bytes) => bytes.length + 1
  | .lit _ => 1
  | .nil => 1
  | .ptr d => uptoBulk d + 1
  | .slice elems spare => uptoBulkAll elems + uptoBulkAll spare + 1
  | .agg parts => uptoBulkAll parts + 1
  | .iface _ d => uptoBulk d + 1
  | .map entries => uptoBulkEntries entries + 1
  | .held _ => 1
def uptoBulkAll {H : Type} : List (DataW H) → Nat
  | [] => 0
  | d :: r => uptoBulk d + uptoBulkAll r
def uptoBulkEntries {H : Type} : List (Lit × DataW H) → Nat
  | [] => 0
  | x :: r => uptoBulkEntry x + uptoBulkEntries r
def uptoBulkEntry {H : Type} : Lit × DataW H → Nat
  | (.string bytes, d) => bytes.length + uptoBulk d + 1
  | (_, d) => uptoBulk d + 1
 end
def uptoSmall : (H : Type) → List (DataW H) → Bool := fun _ ds => decide (uptoBulkAll ds ≤ 1048576)
def OpenSpec.upto (s : _root_.Go.ChangeSpec) : _root_.Go.OpenSpec := { _root_.Go.OpenSpec.ofChange s with cond := some uptoSmall }

/-- 'laws.FnExactExpAt', WHERE WHAT IT READS IS OF BULK AT MOST 1048576: true; the input reads as it did. -/
def fnExactExpAtUptoRow : OpenClaim := { program := "ytmkpilmlgjnadaa", sum := "104691ce80370b0e00a1d25f756ed08fd399bbb8fa5ac5b4bf3ff804df37489d", func := "loop.example/g00880/laws.FnExactExpAt", spec := "fnExactExpAt", inPlace := ["math/bits.Sub64", "math/bits.Add64"], unfollowed := true, recurses := true, named := ["math/bits.divideError", "math/bits.overflowError"], apart := false, narrowed := true }
def FnExactExpAtUptoSaid : Prop := fnExactExpAtUptoRow.holds Try.pinned (OpenSpec.upto fnExactExpAtSpec)

/-- 'laws.FnExactExpI', WHERE WHAT IT READS IS OF BULK AT MOST 1048576: true; the input reads as it did. -/
def fnExactExpIUptoRow : OpenClaim := { program := "ytmkpilmlgjnadaa", sum := "104691ce80370b0e00a1d25f756ed08fd399bbb8fa5ac5b4bf3ff804df37489d", func := "loop.example/g00880/laws.FnExactExpI", spec := "fnExactExpI", inPlace := ["math/bits.Sub64", "math/bits.Add64"], unfollowed := true, recurses := true, named := ["math/bits.divideError", "math/bits.overflowError"], apart := false, narrowed := true }
def FnExactExpIUptoSaid : Prop := fnExactExpIUptoRow.holds Try.pinned (OpenSpec.upto fnExactExpISpec)

/-- 'laws.FnExactSinhI', WHERE WHAT IT READS IS OF BULK AT MOST 1048576: true; the input reads as it did. -/
def fnExactSinhIUptoRow : OpenClaim := { program := "ytmkpilmlgjnadaa", sum := "104691ce80370b0e00a1d25f756ed08fd399bbb8fa5ac5b4bf3ff804df37489d", func := "loop.example/g00880/laws.FnExactSinhI", spec := "fnExactSinhI", inPlace := ["math/bits.Sub64", "math/bits.Add64"], unfollowed := true, recurses := true, named := ["math/bits.divideError", "math/bits.overflowError"], apart := false, narrowed := true }
def FnExactSinhIUptoSaid : Prop := fnExactSinhIUptoRow.holds Try.pinned (OpenSpec.upto fnExactSinhISpec)

/-- 'laws.FnExactCoshI', WHERE WHAT IT READS IS OF BULK AT MOST 1048576: true; the input reads as it did. -/
def fnExactCoshIUptoRow : OpenClaim := { program := "ytmkpilmlgjnadaa", sum := "104691ce80370b0e00a1d25f756ed08fd399bbb8fa5ac5b4bf3ff804df37489d", func := "loop.example/g00880/laws.FnExactCoshI", spec := "fnExactCoshI", inPlace := ["math/bits.Sub64", "math/bits.Add64"], unfollowed := true, recurses := true, named := ["math/bits.divideError", "math/bits.overflowError"], apart := false, narrowed := true }
def FnExactCoshIUptoSaid : Prop := fnExactCoshIUptoRow.holds Try.pinned (OpenSpec.upto fnExactCoshISpec)

/-- 'laws.FnExactTanhI', WHERE WHAT IT READS IS OF BULK AT MOST 1048576: true; the input reads as it did. -/
def fnExactTanhIUptoRow : OpenClaim := { program := "ytmkpilmlgjnadaa", sum := "104691ce80370b0e00a1d25f756ed08fd399bbb8fa5ac5b4bf3ff804df37489d", func := "loop.example/g00880/laws.FnExactTanhI", spec := "fnExactTanhI", inPlace := ["math/bits.Sub64", "math/bits.Add64"], unfollowed := true, recurses := true, named := ["math/bits.divideError", "math/bits.overflowError"], apart := false, narrowed := true }
def FnExactTanhIUptoSaid : Prop := fnExactTanhIUptoRow.holds Try.pinned (OpenSpec.upto fnExactTanhISpec)

/-- 'laws.FnExactLogAt', WHERE WHAT IT READS IS OF BULK AT MOST 1048576: true; the input reads as it did. -/
def fnExactLogAtUptoRow : OpenClaim := { program := "ytmkpilmlgjnadaa", sum := "104691ce80370b0e00a1d25f756ed08fd399bbb8fa5ac5b4bf3ff804df37489d", func := "loop.example/g00880/laws.FnExactLogAt", spec := "fnExactLogAt", inPlace := ["math/bits.Sub64", "math/bits.Add64"], unfollowed := true, recurses := true, named := ["math/bits.divideError", "math/bits.overflowError"], apart := false, narrowed := true }
def FnExactLogAtUptoSaid : Prop := fnExactLogAtUptoRow.holds Try.pinned (OpenSpec.upto fnExactLogAtSpec)

/-- 'laws.FnExactLogI', WHERE WHAT IT READS IS OF BULK AT MOST 1048576: true; the input reads as it did. -/
def fnExactLogIUptoRow : OpenClaim := { program := "ytmkpilmlgjnadaa", sum := "104691ce80370b0e00a1d25f756ed08fd399bbb8fa5ac5b4bf3ff804df37489d", func := "loop.example/g00880/laws.FnExactLogI", spec := "fnExactLogI", inPlace := ["math/bits.Sub64", "math/bits.Add64"], unfollowed := true, recurses := true, named := ["math/bits.divideError", "math/bits.overflowError"], apart := false, narrowed := true }
def FnExactLogIUptoSaid : Prop := fnExactLogIUptoRow.holds Try.pinned (OpenSpec.upto fnExactLogISpec)

end Rows
end Go.Proofs.Ytmkpilmlgjnadaa
