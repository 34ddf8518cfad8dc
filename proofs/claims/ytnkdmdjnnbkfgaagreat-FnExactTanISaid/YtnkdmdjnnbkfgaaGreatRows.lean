/-
  No cell of these rows narrows 'for every input' (looked for: loops, veiled, ifaces, maps, wideKeys, modest, calm, conditions, laid).
  DERIVED. THE GIVEN ROWS OF THIS SEAT. 9 by the template 'for every input the law returns true; each argument reads behind the call as it read before'; 0 by the template 'total and deterministic' (their statements: YtnkdmdjnnbkfgaaGreatTotals.lean).
  GIVEN WITH THE SEED: the statements are not yours to turn. If you find one false, say at which input.
  Laid BY PROGRAM, IN A SANDBOX (cutbox-rows.mjs): the forced cells as the released guide's own fill.sh prints them over the translation e5aa664aaae1fc82… (all of the seat's roots in one cut). By AI agents, Wed Nov 11 2026. No macro, syntax, notation, axiom, sorry.
-/
import Derived.Test.YtnkdmdjnnbkfgaaGreatChecked
import GoSem.Claim
import GoSem.ClaimJoined
import GoSem.ClaimMapViews
import Derived.JoinedTies
import Derived.KernelRfl
namespace Go.Proofs.YtnkdmdjnnbkfgaaGreat
/- THE CELL 'sum', in the pinned program and in every row, IS THE sha256 OF THE DUMP (.gsa) THAT YtnkdmdjnnbkfgaaGreatProg.lean LOADS. Nothing in Lean hashes anything: it is a label: what it is worth is what the hold of that sum in a sandbox is worth. -/
noncomputable def Tryz.pinned : Pinned := { name := "ytnkdmdjnnbkfgaagreat", sum := "e5aa664aaae1fc82cc0d102bdd73bbc7beb69f3857b41d0c573d7891c89132d2", checked := Tryz.checked }
namespace Rows
def none {H : Type} : Left H := { results := [], args := [] }

/-- 'laws.FnExactAtanI': WHATEVER THE INPUT: true; the input reads as it did. -/
def fnExactAtanISpec : ChangeSpec := { name := "fnExactAtanI", fn := fun _ => fun
  | [d] => { results := [.lit (.bool true)], args := [d] }
  | _ => none }
def fnExactAtanIRow : OpenClaim := { program := "ytnkdmdjnnbkfgaagreat", sum := "e5aa664aaae1fc82cc0d102bdd73bbc7beb69f3857b41d0c573d7891c89132d2", func := "loop.example/g00880/laws.FnExactAtanI", spec := "fnExactAtanI", inPlace := ["math/bits.Sub64", "math/bits.Add64"], unfollowed := true, recurses := true, named := ["math/bits.divideError", "math/bits.overflowError"], apart := false }
def FnExactAtanISaid : Prop := fnExactAtanIRow.holds Tryz.pinned (OpenSpec.ofChange fnExactAtanISpec)

/-- ITS FALSE NEIGHBOUR: 'it returns false'. Refute it at one input. -/
def fnExactAtanIWrong : ChangeSpec := { name := "fnExactAtanI", fn := fun _ => fun
  | [d] => { results := [.lit (.bool false)], args := [d] }
  | _ => none }
def FnExactAtanIWrongFalsely : Prop := fnExactAtanIRow.holds Tryz.pinned (OpenSpec.ofChange fnExactAtanIWrong)

/-- 'laws.FnExactDirectionAt': WHATEVER THE INPUT: true; the input reads as it did. -/
def fnExactDirectionAtSpec : ChangeSpec := { name := "fnExactDirectionAt", fn := fun _ => fun
  | [d1, d2] => { results := [.lit (.bool true)], args := [d1, d2] }
  | _ => none }
def fnExactDirectionAtRow : OpenClaim := { program := "ytnkdmdjnnbkfgaagreat", sum := "e5aa664aaae1fc82cc0d102bdd73bbc7beb69f3857b41d0c573d7891c89132d2", func := "loop.example/g00880/laws.FnExactDirectionAt", spec := "fnExactDirectionAt", inPlace := ["math/bits.Sub64", "math/bits.Add64"], unfollowed := true, recurses := true, named := ["math/bits.divideError", "math/bits.overflowError"], apart := false }
def FnExactDirectionAtSaid : Prop := fnExactDirectionAtRow.holds Tryz.pinned (OpenSpec.ofChange fnExactDirectionAtSpec)

/-- ITS FALSE NEIGHBOUR: 'it returns false'. Refute it at one input. -/
def fnExactDirectionAtWrong : ChangeSpec := { name := "fnExactDirectionAt", fn := fun _ => fun
  | [d1, d2] => { results := [.lit (.bool false)], args := [d1, d2] }
  | _ => none }
def FnExactDirectionAtWrongFalsely : Prop := fnExactDirectionAtRow.holds Tryz.pinned (OpenSpec.ofChange fnExactDirectionAtWrong)

/-- 'laws.FnExactDirectionI': WHATEVER THE INPUT: true; the input reads as it did. -/
def fnExactDirectionISpec : ChangeSpec := { name := "fnExactDirectionI", fn := fun _ => fun
  | [d1, d2] => { results := [.lit (.bool true)], args := [d1, d2] }
  | _ => none }
def fnExactDirectionIRow : OpenClaim := { program := "ytnkdmdjnnbkfgaagreat", sum := "e5aa664aaae1fc82cc0d102bdd73bbc7beb69f3857b41d0c573d7891c89132d2", func := "loop.example/g00880/laws.FnExactDirectionI", spec := "fnExactDirectionI", inPlace := ["math/bits.Sub64", "math/bits.Add64"], unfollowed := true, recurses := true, named := ["math/bits.divideError", "math/bits.overflowError"], apart := false }
def FnExactDirectionISaid : Prop := fnExactDirectionIRow.holds Tryz.pinned (OpenSpec.ofChange fnExactDirectionISpec)

/-- ITS FALSE NEIGHBOUR: 'it returns false'. Refute it at one input. -/
def fnExactDirectionIWrong : ChangeSpec := { name := "fnExactDirectionI", fn := fun _ => fun
  | [d1, d2] => { results := [.lit (.bool false)], args := [d1, d2] }
  | _ => none }
def FnExactDirectionIWrongFalsely : Prop := fnExactDirectionIRow.holds Tryz.pinned (OpenSpec.ofChange fnExactDirectionIWrong)

/-- 'laws.FnExactAsinAt': WHATEVER THE INPUT: true; the input reads as it did. -/
def fnExactAsinAtSpec : ChangeSpec := { name := "fnExactAsinAt", fn := fun _ => fun
  | [d] => { results := [.lit (.bool true)], args := [d] }
  | _ => none }
def fnExactAsinAtRow : OpenClaim := { program := "ytnkdmdjnnbkfgaagreat", sum := "e5aa664aaae1fc82cc0d102bdd73bbc7beb69f3857b41d0c573d7891c89132d2", func := "loop.example/g00880/laws.FnExactAsinAt", spec := "fnExactAsinAt", inPlace := ["math/bits.Sub64", "math/bits.Add64"], unfollowed := true, recurses := true, named := ["math/bits.divideError", "math/bits.overflowError"], apart := false }
def FnExactAsinAtSaid : Prop := fnExactAsinAtRow.holds Tryz.pinned (OpenSpec.ofChange fnExactAsinAtSpec)

/-- ITS FALSE NEIGHBOUR: 'it returns false'. Refute it at one input. -/
def fnExactAsinAtWrong : ChangeSpec := { name := "fnExactAsinAt", fn := fun _ => fun
  | [d] => { results := [.lit (.bool false)], args := [d] }
  | _ => none }
def FnExactAsinAtWrongFalsely : Prop := fnExactAsinAtRow.holds Tryz.pinned (OpenSpec.ofChange fnExactAsinAtWrong)

/-- 'laws.FnExactAsinI': WHATEVER THE INPUT: true; the input reads as it did. -/
def fnExactAsinISpec : ChangeSpec := { name := "fnExactAsinI", fn := fun _ => fun
  | [d] => { results := [.lit (.bool true)], args := [d] }
  | _ => none }
def fnExactAsinIRow : OpenClaim := { program := "ytnkdmdjnnbkfgaagreat", sum := "e5aa664aaae1fc82cc0d102bdd73bbc7beb69f3857b41d0c573d7891c89132d2", func := "loop.example/g00880/laws.FnExactAsinI", spec := "fnExactAsinI", inPlace := ["math/bits.Sub64", "math/bits.Add64"], unfollowed := true, recurses := true, named := ["math/bits.divideError", "math/bits.overflowError"], apart := false }
def FnExactAsinISaid : Prop := fnExactAsinIRow.holds Tryz.pinned (OpenSpec.ofChange fnExactAsinISpec)

/-- ITS FALSE NEIGHBOUR: 'it returns false'. Refute it at one input. -/
def fnExactAsinIWrong : ChangeSpec := { name := "fnExactAsinI", fn := fun _ => fun
  | [d] => { results := [.lit (.bool false)], args := [d] }
  | _ => none }
def FnExactAsinIWrongFalsely : Prop := fnExactAsinIRow.holds Tryz.pinned (OpenSpec.ofChange fnExactAsinIWrong)

/-- 'laws.FnExactAcosI': WHATEVER THE INPUT: true; the input reads as it did. -/
def fnExactAcosISpec : ChangeSpec := { name := "fnExactAcosI", fn := fun _ => fun
  | [d] => { results := [.lit (.bool true)], args := [d] }
  | _ => none }
def fnExactAcosIRow : OpenClaim := { program := "ytnkdmdjnnbkfgaagreat", sum := "e5aa664aaae1fc82cc0d102bdd73bbc7beb69f3857b41d0c573d7891c89132d2", func := "loop.example/g00880/laws.FnExactAcosI", spec := "fnExactAcosI", inPlace := ["math/bits.Sub64", "math/bits.Add64"], unfollowed := true, recurses := true, named := ["math/bits.divideError", "math/bits.overflowError"], apart := false }
def FnExactAcosISaid : Prop := fnExactAcosIRow.holds Tryz.pinned (OpenSpec.ofChange fnExactAcosISpec)

/-- ITS FALSE NEIGHBOUR: 'it returns false'. Refute it at one input. -/
def fnExactAcosIWrong : ChangeSpec := { name := "fnExactAcosI", fn := fun _ => fun
  | [d] => { results := [.lit (.bool false)], args := [d] }
  | _ => none }
def FnExactAcosIWrongFalsely : Prop := fnExactAcosIRow.holds Tryz.pinned (OpenSpec.ofChange fnExactAcosIWrong)

/-- 'laws.FnExactSinI': WHATEVER THE INPUT: true; the input reads as it did. -/
def fnExactSinISpec : ChangeSpec := { name := "fnExactSinI", fn := fun _ => fun
  | [d] => { results := [.lit (.bool true)], args := [d] }
  | _ => none }
def fnExactSinIRow : OpenClaim := { program := "ytnkdmdjnnbkfgaagreat", sum := "e5aa664aaae1fc82cc0d102bdd73bbc7beb69f3857b41d0c573d7891c89132d2", func := "loop.example/g00880/laws.FnExactSinI", spec := "fnExactSinI", inPlace := ["math/bits.Sub64", "math/bits.Add64"], unfollowed := true, recurses := true, named := ["math/bits.divideError", "math/bits.overflowError"], apart := false }
def FnExactSinISaid : Prop := fnExactSinIRow.holds Tryz.pinned (OpenSpec.ofChange fnExactSinISpec)

/-- ITS FALSE NEIGHBOUR: 'it returns false'. Refute it at one input. -/
def fnExactSinIWrong : ChangeSpec := { name := "fnExactSinI", fn := fun _ => fun
  | [d] => { results := [.lit (.bool false)], args := [d] }
  | _ => none }
def FnExactSinIWrongFalsely : Prop := fnExactSinIRow.holds Tryz.pinned (OpenSpec.ofChange fnExactSinIWrong)

/-- 'laws.FnExactCosI': WHATEVER THE INPUT: true; the input reads as it did. -/
def fnExactCosISpec : ChangeSpec := { name := "fnExactCosI", fn := fun _ => fun
  | [d] => { results := [.lit (.bool true)], args := [d] }
  | _ => none }
def fnExactCosIRow : OpenClaim := { program := "ytnkdmdjnnbkfgaagreat", sum := "e5aa664aaae1fc82cc0d102bdd73bbc7beb69f3857b41d0c573d7891c89132d2", func := "loop.example/g00880/laws.FnExactCosI", spec := "fnExactCosI", inPlace := ["math/bits.Sub64", "math/bits.Add64"], unfollowed := true, recurses := true, named := ["math/bits.divideError", "math/bits.overflowError"], apart := false }
def FnExactCosISaid : Prop := fnExactCosIRow.holds Tryz.pinned (OpenSpec.ofChange fnExactCosISpec)

/-- ITS FALSE NEIGHBOUR: 'it returns false'. Refute it at one input. -/
def fnExactCosIWrong : ChangeSpec := { name := "fnExactCosI", fn := fun _ => fun
  | [d] => { results := [.lit (.bool false)], args := [d] }
  | _ => none }
def FnExactCosIWrongFalsely : Prop := fnExactCosIRow.holds Tryz.pinned (OpenSpec.ofChange fnExactCosIWrong)

/-- 'laws.FnExactTanI': WHATEVER THE INPUT: true; the input reads as it did. -/
def fnExactTanISpec : ChangeSpec := { name := "fnExactTanI", fn := fun _ => fun
  | [d] => { results := [.lit (.bool true)], args := [d] }
  | _ => none }
def fnExactTanIRow : OpenClaim := { program := "ytnkdmdjnnbkfgaagreat", sum := "e5aa664aaae1fc82cc0d102bdd73bbc7beb69f3857b41d0c573d7891c89132d2", func := "loop.example/g00880/laws.FnExactTanI", spec := "fnExactTanI", inPlace := ["math/bits.Sub64", "math/bits.Add64"], unfollowed := true, recurses := true, named := ["math/bits.divideError", "math/bits.overflowError"], apart := false }
def FnExactTanISaid : Prop := fnExactTanIRow.holds Tryz.pinned (OpenSpec.ofChange fnExactTanISpec)

/-- ITS FALSE NEIGHBOUR: 'it returns false'. Refute it at one input. -/
def fnExactTanIWrong : ChangeSpec := { name := "fnExactTanI", fn := fun _ => fun
  | [d] => { results := [.lit (.bool false)], args := [d] }
  | _ => none }
def FnExactTanIWrongFalsely : Prop := fnExactTanIRow.holds Tryz.pinned (OpenSpec.ofChange fnExactTanIWrong)

/- THE SECOND FORM. 'bulk': how many values and letters a reading holds, each counted each time it is reached (what is shared counts as often as it is met; a slice's spare places count too). A statement '..UptoSaid' is the law's where the arguments, and the package variables that the reading takes, are together of bulk at most 1048576: NARROWER than '..Said'. Prove '..Said' where nothing that the law and all that it calls make is longer than what came in: it says more and counts as full. Else prove '..UptoSaid'. A law counts once. -/
mutual
def uptoBulk {H : Type} : DataW H → Nat
  | .lit (.string bytes) => bytes.length + 1
  | .lit _ => 1
  | .nil => 1
  | .ptr d => uptoBulk d + 1
  | .slice elems spare => uptoBulkAll elems + uptoBulkAll spare + 1
  | .agg parts => uptoBulkAll parts + 1
  | .iface _ d => uptoBulk d + 1
  | .map entries => uptoBulkEntries entries + 1
  | .held _ => 1
def uptoBulkAll {H : Type} : List (DataW H) → Nat
  | [] => 0
  | d :: r => uptoBulk d + uptoBulkAll r
def uptoBulkEntries {H : Type} : List (Lit × DataW H) → Nat
  | [] => 0
  | x :: r => uptoBulkEntry x + uptoBulkEntries r
def uptoBulkEntry {H : Type} : Lit × DataW H → Nat
  | (.string bytes, d) => bytes.length + uptoBulk d + 1
  | (_, d) => uptoBulk d + 1
 end
def uptoSmall : (H : Type) → List (DataW H) → Bool := fun _ ds => decide (uptoBulkAll ds ≤ 1048576)
def OpenSpec.upto (s : _root_.Go.ChangeSpec) : _root_.Go.OpenSpec := { _root_.Go.OpenSpec.ofChange s with cond := some uptoSmall }

/-- 'laws.FnExactAtanI', WHERE WHAT IT READS IS OF BULK AT MOST 1048576: true; the input reads as it did. -/
def fnExactAtanIUptoRow : OpenClaim := { program := "ytnkdmdjnnbkfgaagreat", sum := "e5aa664aaae1fc82cc0d102bdd73bbc7beb69f3857b41d0c573d7891c89132d2", func := "loop.example/g00880/laws.FnExactAtanI", spec := "fnExactAtanI", inPlace := ["math/bits.Sub64", "math/bits.Add64"], unfollowed := true, recurses := true, named := ["math/bits.divideError", "math/bits.overflowError"], apart := false, narrowed := true }
def FnExactAtanIUptoSaid : Prop := fnExactAtanIUptoRow.holds Tryz.pinned (OpenSpec.upto fnExactAtanISpec)

/-- 'laws.FnExactDirectionAt', WHERE WHAT IT READS IS OF BULK AT MOST 1048576: true; the input reads as it did. -/
def fnExactDirectionAtUptoRow : OpenClaim := { program := "ytnkdmdjnnbkfgaagreat", sum := "e5aa664aaae1fc82cc0d102bdd73bbc7beb69f3857b41d0c573d7891c89132d2", func := "loop.example/g00880/laws.FnExactDirectionAt", spec := "fnExactDirectionAt", inPlace := ["math/bits.Sub64", "math/bits.Add64"], unfollowed := true, recurses := true, named := ["math/bits.divideError", "math/bits.overflowError"], apart := false, narrowed := true }
def FnExactDirectionAtUptoSaid : Prop := fnExactDirectionAtUptoRow.holds Tryz.pinned (OpenSpec.upto fnExactDirectionAtSpec)

/-- 'laws.FnExactDirectionI', WHERE WHAT IT READS IS OF BULK AT MOST 1048576: true; the input reads as it did. -/
def fnExactDirectionIUptoRow : OpenClaim := { program := "ytnkdmdjnnbkfgaagreat", sum := "e5aa664aaae1fc82cc0d102bdd73bbc7beb69f3857b41d0c573d7891c89132d2", func := "loop.example/g00880/laws.FnExactDirectionI", spec := "fnExactDirectionI", inPlace := ["math/bits.Sub64", "math/bits.Add64"], unfollowed := true, recurses := true, named := ["math/bits.divideError", "math/bits.overflowError"], apart := false, narrowed := true }
def FnExactDirectionIUptoSaid : Prop := fnExactDirectionIUptoRow.holds Tryz.pinned (OpenSpec.upto fnExactDirectionISpec)

/-- 'laws.FnExactAsinAt', WHERE WHAT IT READS IS OF BULK AT MOST 1048576: true; the input reads as it did. -/
def fnExactAsinAtUptoRow : OpenClaim := { program := "ytnkdmdjnnbkfgaagreat", sum := "e5aa664aaae1fc82cc0d102bdd73bbc7beb69f3857b41d0c573d7891c89132d2", func := "loop.example/g00880/laws.FnExactAsinAt", spec := "fnExactAsinAt", inPlace := ["math/bits.Sub64", "math/bits.Add64"], unfollowed := true, recurses := true, named := ["math/bits.divideError", "math/bits.overflowError"], apart := false, narrowed := true }
def FnExactAsinAtUptoSaid : Prop := fnExactAsinAtUptoRow.holds Tryz.pinned (OpenSpec.upto fnExactAsinAtSpec)

/-- 'laws.FnExactAsinI', WHERE WHAT IT READS IS OF BULK AT MOST 1048576: true; the input reads as it did. -/
def fnExactAsinIUptoRow : OpenClaim := { program := "ytnkdmdjnnbkfgaagreat", sum := "e5aa664aaae1fc82cc0d102bdd73bbc7beb69f3857b41d0c573d7891c89132d2", func := "loop.example/g00880/laws.FnExactAsinI", spec := "fnExactAsinI", inPlace := ["math/bits.Sub64", "math/bits.Add64"], unfollowed := true, recurses := true, named := ["math/bits.divideError", "math/bits.overflowError"], apart := false, narrowed := true }
def FnExactAsinIUptoSaid : Prop := fnExactAsinIUptoRow.holds Tryz.pinned (OpenSpec.upto fnExactAsinISpec)

/-- 'laws.FnExactAcosI', WHERE WHAT IT READS IS OF BULK AT MOST 1048576: true; the input reads as it did. -/
def fnExactAcosIUptoRow : OpenClaim := { program := "ytnkdmdjnnbkfgaagreat", sum := "e5aa664aaae1fc82cc0d102bdd73bbc7beb69f3857b41d0c573d7891c89132d2", func := "loop.example/g00880/laws.FnExactAcosI", spec := "fnExactAcosI", inPlace := ["math/bits.Sub64", "math/bits.Add64"], unfollowed := true, recurses := true, named := ["math/bits.divideError", "math/bits.overflowError"], apart := false, narrowed := true }
def FnExactAcosIUptoSaid : Prop := fnExactAcosIUptoRow.holds Tryz.pinned (OpenSpec.upto fnExactAcosISpec)

/-- 'laws.FnExactSinI', WHERE WHAT IT READS IS OF BULK AT MOST 1048576: true; the input reads as it did. -/
def fnExactSinIUptoRow : OpenClaim := { program := "ytnkdmdjnnbkfgaagreat", sum := "e5aa664aaae1fc82cc0d102bdd73bbc7beb69f3857b41d0c573d7891c89132d2", func := "loop.example/g00880/laws.FnExactSinI", spec := "fnExactSinI", inPlace := ["math/bits.Sub64", "math/bits.Add64"], unfollowed := true, recurses := true, named := ["math/bits.divideError", "math/bits.overflowError"], apart := false, narrowed := true }
def FnExactSinIUptoSaid : Prop := fnExactSinIUptoRow.holds Tryz.pinned (OpenSpec.upto fnExactSinISpec)

/-- 'laws.FnExactCosI', WHERE WHAT IT READS IS OF BULK AT MOST 1048576: true; the input reads as it did. -/
def fnExactCosIUptoRow : OpenClaim := { program := "ytnkdmdjnnbkfgaagreat", sum := "e5aa664aaae1fc82cc0d102bdd73bbc7beb69f3857b41d0c573d7891c89132d2", func := "loop.example/g00880/laws.FnExactCosI", spec := "fnExactCosI", inPlace := ["math/bits.Sub64", "math/bits.Add64"], unfollowed := true, recurses := true, named := ["math/bits.divideError", "math/bits.overflowError"], apart := false, narrowed := true }
def FnExactCosIUptoSaid : Prop := fnExactCosIUptoRow.holds Tryz.pinned (OpenSpec.upto fnExactCosISpec)

/-- 'laws.FnExactTanI', WHERE WHAT IT READS IS OF BULK AT MOST 1048576: true; the input reads as it did. -/
def fnExactTanIUptoRow : OpenClaim := { program := "ytnkdmdjnnbkfgaagreat", sum := "e5aa664aaae1fc82cc0d102bdd73bbc7beb69f3857b41d0c573d7891c89132d2", func := "loop.example/g00880/laws.FnExactTanI", spec := "fnExactTanI", inPlace := ["math/bits.Sub64", "math/bits.Add64"], unfollowed := true, recurses := true, named := ["math/bits.divideError", "math/bits.overflowError"], apart := false, narrowed := true }
def FnExactTanIUptoSaid : Prop := fnExactTanIUptoRow.holds Tryz.pinned (OpenSpec.upto fnExactTanISpec)

end Rows
end Go.Proofs.YtnkdmdjnnbkfgaaGreat
