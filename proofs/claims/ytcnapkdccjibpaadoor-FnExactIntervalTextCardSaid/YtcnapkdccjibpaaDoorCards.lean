/-
  DERIVED. GIVEN WITH THE SEED: THE CARDS: each row of YtcnapkdccjibpaaDoorRows.lean that lists a variable, with what it lists TIED to the program's text (the seventh form; the later family's looks); each row that meets fmt, with fmt's text TOLD by the authors' own Lean function (tested against real Go, not proved from fmt's source: count such statements apart). THE CARD IS WHAT COUNTS. Prove the row's statement (the work); the ties are given (YtcnapkdccjibpaaDoorTie.lean); close each card by the builder's one call (the guide's Derived/Test/ToyasCard.lean, 'card_holds'). Laid BY PROGRAM, IN A SANDBOX (cutbox-door.mjs). By AI agents, Wed Nov 11 2026. No macro, syntax, notation, axiom, sorry.
-/
import Derived.Test.YtcnapkdccjibpaaDoorRows
import GoSem.ClaimSeven
namespace Go.Proofs.YtcnapkdccjibpaaDoor
namespace Rows

/-- THE TIED CARD OF 'laws.FnExactIntervalText'. -/
def fnExactIntervalTextCard : Claim7 := { stood := { row := fnExactIntervalTextRow, standIns := [], harness := (true, "88eff889c9871d85993b746d6704bf45a33c51e55fb8380a7512305769acd070"), looks := false }, kinds := [], alts := [], laidByText := true, laidKinds := [.data, .data, .data], laidTests := true, laidLooks := .later }
def FnExactIntervalTextCardSaid : Prop := Claim7.holds Tryd.pinned (.plain (OpenSpec.ofChange fnExactIntervalTextSpec)) fnExactIntervalTextCard

/-- THE SECOND FORM's CARD OF 'laws.FnExactIntervalText'. -/
def fnExactIntervalTextUptoCard : Claim7 := { stood := { row := fnExactIntervalTextUptoRow, standIns := [], harness := (true, "88eff889c9871d85993b746d6704bf45a33c51e55fb8380a7512305769acd070"), looks := false }, kinds := [], alts := [], laidByText := true, laidKinds := [.data, .data, .data], laidTests := true, laidLooks := .later }
def FnExactIntervalTextUptoCardSaid : Prop := Claim7.holds Tryd.pinned (.plain (OpenSpec.upto fnExactIntervalTextSpec)) fnExactIntervalTextUptoCard
end Rows
end Go.Proofs.YtcnapkdccjibpaaDoor
