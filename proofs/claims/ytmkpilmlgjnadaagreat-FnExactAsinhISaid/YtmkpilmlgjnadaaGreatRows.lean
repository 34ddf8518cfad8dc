/-
  No cell of these rows narrows 'for every input' (looked for: loops, veiled, ifaces, maps, wideKeys, modest, calm, conditions, laid).
  DERIVED. THE GIVEN ROWS OF THIS SEAT. 5 by the template 'for every input the law returns true; each argument reads behind the call as it read before'; 0 by the template 'total and deterministic' (their statements: YtmkpilmlgjnadaaGreatTotals.lean).
  GIVEN WITH THE SEED: the statements are not yours to turn. If you find one false, say at which input.
  Laid BY PROGRAM, IN A SANDBOX (cutbox-rows.mjs): the forced cells as the released guide's own fill.sh prints them over the translation 09ece69f9270507a… (all of the seat's roots in one cut). By AI agents, Wed Nov 11 2026. No macro, syntax, notation, axiom, sorry.
-/
import Derived.Test.YtmkpilmlgjnadaaGreatChecked
import GoSem.Claim
import GoSem.ClaimJoined
import GoSem.ClaimMapViews
import Derived.JoinedTies
import Derived.KernelRfl
namespace Go.Proofs.YtmkpilmlgjnadaaGreat
/- THE CELL 'sum', in the pinned program and in every row, IS THE sha256 OF THE DUMP (.gsa) THAT YtmkpilmlgjnadaaGreatProg.lean LOADS. Nothing in Lean hashes anything: it is a label: what it is worth is what the hold of that sum in a sandbox is worth. -/
noncomputable def Tryz.pinned : Pinned := { name := "ytmkpilmlgjnadaagreat", sum := "09ece69f9270507a1348f42c974e745018d0a21ccf3ab3341e95976dae72e1e9", checked := Tryz.checked }
namespace Rows
def none {H : Type} : Left H := { results := [], args := [] }

/-- 'laws.FnExactAtanhI': WHATEVER THE INPUT: true; the input reads as it did. -/
def fnExactAtanhISpec : ChangeSpec := { name := "fnExactAtanhI", fn := fun _ => fun
  | [d] => { results := [.lit (.bool true)], args := [d] }
  | _ => none }
def fnExactAtanhIRow : OpenClaim := { program := "ytmkpilmlgjnadaagreat", sum := "09ece69f9270507a1348f42c974e745018d0a21ccf3ab3341e95976dae72e1e9", func := "loop.example/g00880/laws.FnExactAtanhI", spec := "fnExactAtanhI", inPlace := ["math/bits.Sub64", "math/bits.Add64"], unfollowed := true, recurses := true, named := ["math/bits.divideError", "math/bits.overflowError"], apart := false }
def FnExactAtanhISaid : Prop := fnExactAtanhIRow.holds Tryz.pinned (OpenSpec.ofChange fnExactAtanhISpec)

/-- ITS FALSE NEIGHBOUR: 'it returns false'. Refute it at one input. -/
def fnExactAtanhIWrong : ChangeSpec := { name := "fnExactAtanhI", fn := fun _ => fun
  | [d] => { results := [.lit (.bool false)], args := [d] }
  | _ => none }
def FnExactAtanhIWrongFalsely : Prop := fnExactAtanhIRow.holds Tryz.pinned (OpenSpec.ofChange fnExactAtanhIWrong)

/-- 'laws.FnExactAsinhI': WHATEVER THE INPUT: true; the input reads as it did. -/
def fnExactAsinhISpec : ChangeSpec := { name := "fnExactAsinhI", fn := fun _ => fun
  | [d] => { results := [.lit (.bool true)], args := [d] }
  | _ => none }
def fnExactAsinhIRow : OpenClaim := { program := "ytmkpilmlgjnadaagreat", sum := "09ece69f9270507a1348f42c974e745018d0a21ccf3ab3341e95976dae72e1e9", func := "loop.example/g00880/laws.FnExactAsinhI", spec := "fnExactAsinhI", inPlace := ["math/bits.Sub64", "math/bits.Add64"], unfollowed := true, recurses := true, named := ["math/bits.divideError", "math/bits.overflowError"], apart := false }
def FnExactAsinhISaid : Prop := fnExactAsinhIRow.holds Tryz.pinned (OpenSpec.ofChange fnExactAsinhISpec)

/-- ITS FALSE NEIGHBOUR: 'it returns false'. Refute it at one input. -/
def fnExactAsinhIWrong : ChangeSpec := { name := "fnExactAsinhI", fn := fun _ => fun
  | [d] => { results := [.lit (.bool false)], args := [d] }
  | _ => none }
def FnExactAsinhIWrongFalsely : Prop := fnExactAsinhIRow.holds Tryz.pinned (OpenSpec.ofChange fnExactAsinhIWrong)

/-- 'laws.FnExactCosAt': WHATEVER THE INPUT: true; the input reads as it did. -/
def fnExactCosAtSpec : ChangeSpec := { name := "fnExactCosAt", fn := fun _ => fun
  | [d] => { results := [.lit (.bool true)], args := [d] }
  | _ => none }
def fnExactCosAtRow : OpenClaim := { program := "ytmkpilmlgjnadaagreat", sum := "09ece69f9270507a1348f42c974e745018d0a21ccf3ab3341e95976dae72e1e9", func := "loop.example/g00880/laws.FnExactCosAt", spec := "fnExactCosAt", inPlace := ["math/bits.Sub64", "math/bits.Add64"], unfollowed := true, recurses := true, named := ["math/bits.divideError", "math/bits.overflowError"], apart := false }
def FnExactCosAtSaid : Prop := fnExactCosAtRow.holds Tryz.pinned (OpenSpec.ofChange fnExactCosAtSpec)

/-- ITS FALSE NEIGHBOUR: 'it returns false'. Refute it at one input. -/
def fnExactCosAtWrong : ChangeSpec := { name := "fnExactCosAt", fn := fun _ => fun
  | [d] => { results := [.lit (.bool false)], args := [d] }
  | _ => none }
def FnExactCosAtWrongFalsely : Prop := fnExactCosAtRow.holds Tryz.pinned (OpenSpec.ofChange fnExactCosAtWrong)

/-- 'laws.FnExactSinAt': WHATEVER THE INPUT: true; the input reads as it did. -/
def fnExactSinAtSpec : ChangeSpec := { name := "fnExactSinAt", fn := fun _ => fun
  | [d] => { results := [.lit (.bool true)], args := [d] }
  | _ => none }
def fnExactSinAtRow : OpenClaim := { program := "ytmkpilmlgjnadaagreat", sum := "09ece69f9270507a1348f42c974e745018d0a21ccf3ab3341e95976dae72e1e9", func := "loop.example/g00880/laws.FnExactSinAt", spec := "fnExactSinAt", inPlace := ["math/bits.Sub64", "math/bits.Add64"], unfollowed := true, recurses := true, named := ["math/bits.divideError", "math/bits.overflowError"], apart := false }
def FnExactSinAtSaid : Prop := fnExactSinAtRow.holds Tryz.pinned (OpenSpec.ofChange fnExactSinAtSpec)

/-- ITS FALSE NEIGHBOUR: 'it returns false'. Refute it at one input. -/
def fnExactSinAtWrong : ChangeSpec := { name := "fnExactSinAt", fn := fun _ => fun
  | [d] => { results := [.lit (.bool false)], args := [d] }
  | _ => none }
def FnExactSinAtWrongFalsely : Prop := fnExactSinAtRow.holds Tryz.pinned (OpenSpec.ofChange fnExactSinAtWrong)

/-- 'laws.FnExactAtanAt': WHATEVER THE INPUT: true; the input reads as it did. -/
def fnExactAtanAtSpec : ChangeSpec := { name := "fnExactAtanAt", fn := fun _ => fun
  | [d] => { results := [.lit (.bool true)], args := [d] }
  | _ => none }
def fnExactAtanAtRow : OpenClaim := { program := "ytmkpilmlgjnadaagreat", sum := "09ece69f9270507a1348f42c974e745018d0a21ccf3ab3341e95976dae72e1e9", func := "loop.example/g00880/laws.FnExactAtanAt", spec := "fnExactAtanAt", inPlace := ["math/bits.Sub64", "math/bits.Add64"], unfollowed := true, recurses := true, named := ["math/bits.divideError", "math/bits.overflowError"], apart := false }
def FnExactAtanAtSaid : Prop := fnExactAtanAtRow.holds Tryz.pinned (OpenSpec.ofChange fnExactAtanAtSpec)

/-- ITS FALSE NEIGHBOUR: 'it returns false'. Refute it at one input. -/
def fnExactAtanAtWrong : ChangeSpec := { name := "fnExactAtanAt", fn := fun _ => fun
  | [d] => { results := [.lit (.bool false)], args := [d] }
  | _ => none }
def FnExactAtanAtWrongFalsely : Prop := fnExactAtanAtRow.holds Tryz.pinned (OpenSpec.ofChange fnExactAtanAtWrong)

/- THE SECOND FORM. 'bulk': how many values and letters a reading holds, each counted each time it is reached (what is shared counts as often as it is met; a slice's spare places count too). A statement '..UptoSaid' is the law's where the arguments, and the package variables that the reading takes, are together of bulk at most 1048576: NARROWER than '..Said'. Prove '..Said' where nothing that the law and all that it calls make is longer than what came in: it says more and counts as full. Else prove '..UptoSaid'. A law counts once. -/
mutual
def uptoBulk {H : Type} : DataW H → Nat
  | .lit (.string bytes) => bytes.length + 1
  | .lit _ => 1
  | .nil => 1
  | .ptr d => uptoBulk d + 1
  | .slice elems spare => uptoBulkAll elems + uptoBulkAll spare + 1
  | .agg parts => uptoBulkAll parts + 1
  | .iface _ d => uptoBulk d + 1
  | .map entries => uptoBulkEntries entries + 1
  | .held _ => 1
def uptoBulkAll {H : Type} : List (DataW H) → Nat
  | [] => 0
  | d :: r => uptoBulk d + uptoBulkAll r
def uptoBulkEntries {H : Type} : List (Lit × DataW H) → Nat
  | [] => 0
  | x :: r => uptoBulkEntry x + uptoBulkEntries r
def uptoBulkEntry {H : Type} : Lit × DataW H → Nat
  | (.string bytes, d) => bytes.length + uptoBulk d + 1
  | (_, d) => uptoBulk d + 1
 end
def uptoSmall : (H : Type) → List (DataW H) → Bool := fun _ ds => decide (uptoBulkAll ds ≤ 1048576)
def OpenSpec.upto (s : _root_.Go.ChangeSpec) : _root_.Go.OpenSpec := { _root_.Go.OpenSpec.ofChange s with cond := some uptoSmall }

/-- 'laws.FnExactAtanhI', WHERE WHAT IT READS IS OF BULK AT MOST 1048576: true; the input reads as it did. -/
def fnExactAtanhIUptoRow : OpenClaim := { program := "ytmkpilmlgjnadaagreat", sum := "09ece69f9270507a1348f42c974e745018d0a21ccf3ab3341e95976dae72e1e9", func := "loop.example/g00880/laws.FnExactAtanhI", spec := "fnExactAtanhI", inPlace := ["math/bits.Sub64", "math/bits.Add64"], unfollowed := true, recurses := true, named := ["math/bits.divideError", "math/bits.overflowError"], apart := false, narrowed := true }
def FnExactAtanhIUptoSaid : Prop := fnExactAtanhIUptoRow.holds Tryz.pinned (OpenSpec.upto fnExactAtanhISpec)

/-- 'laws.FnExactAsinhI', WHERE WHAT IT READS IS OF BULK AT MOST 1048576: true; the input reads as it did. -/
def fnExactAsinhIUptoRow : OpenClaim := { program := "ytmkpilmlgjnadaagreat", sum := "09ece69f9270507a1348f42c974e745018d0a21ccf3ab3341e95976dae72e1e9", func := "loop.example/g00880/laws.FnExactAsinhI", spec := "fnExactAsinhI", inPlace := ["math/bits.Sub64", "math/bits.Add64"], unfollowed := true, recurses := true, named := ["math/bits.divideError", "math/bits.overflowError"], apart := false, narrowed := true }
def FnExactAsinhIUptoSaid : Prop := fnExactAsinhIUptoRow.holds Tryz.pinned (OpenSpec.upto fnExactAsinhISpec)

/-- 'laws.FnExactCosAt', WHERE WHAT IT READS IS OF BULK AT MOST 1048576: true; the input reads as it did. -/
def fnExactCosAtUptoRow : OpenClaim := { program := "ytmkpilmlgjnadaagreat", sum := "09ece69f9270507a1348f42c974e745018d0a21ccf3ab3341e95976dae72e1e9", func := "loop.example/g00880/laws.FnExactCosAt", spec := "fnExactCosAt", inPlace := ["math/bits.Sub64", "math/bits.Add64"], unfollowed := true, recurses := true, named := ["math/bits.divideError", "math/bits.overflowError"], apart := false, narrowed := true }
def FnExactCosAtUptoSaid : Prop := fnExactCosAtUptoRow.holds Tryz.pinned (OpenSpec.upto fnExactCosAtSpec)

/-- 'laws.FnExactSinAt', WHERE WHAT IT READS IS OF BULK AT MOST 1048576: true; the input reads as it did. -/
def fnExactSinAtUptoRow : OpenClaim := { program := "ytmkpilmlgjnadaagreat", sum := "09ece69f9270507a1348f42c974e745018d0a21ccf3ab3341e95976dae72e1e9", func := "loop.example/g00880/laws.FnExactSinAt", spec := "fnExactSinAt", inPlace := ["math/bits.Sub64", "math/bits.Add64"], unfollowed := true, recurses := true, named := ["math/bits.divideError", "math/bits.overflowError"], apart := false, narrowed := true }
def FnExactSinAtUptoSaid : Prop := fnExactSinAtUptoRow.holds Tryz.pinned (OpenSpec.upto fnExactSinAtSpec)

/-- 'laws.FnExactAtanAt', WHERE WHAT IT READS IS OF BULK AT MOST 1048576: true; the input reads as it did. -/
def fnExactAtanAtUptoRow : OpenClaim := { program := "ytmkpilmlgjnadaagreat", sum := "09ece69f9270507a1348f42c974e745018d0a21ccf3ab3341e95976dae72e1e9", func := "loop.example/g00880/laws.FnExactAtanAt", spec := "fnExactAtanAt", inPlace := ["math/bits.Sub64", "math/bits.Add64"], unfollowed := true, recurses := true, named := ["math/bits.divideError", "math/bits.overflowError"], apart := false, narrowed := true }
def FnExactAtanAtUptoSaid : Prop := fnExactAtanAtUptoRow.holds Tryz.pinned (OpenSpec.upto fnExactAtanAtSpec)

end Rows
end Go.Proofs.YtmkpilmlgjnadaaGreat
