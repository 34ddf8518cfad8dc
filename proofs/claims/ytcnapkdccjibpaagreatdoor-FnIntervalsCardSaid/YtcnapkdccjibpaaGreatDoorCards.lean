/-
  DERIVED. GIVEN WITH THE SEED: THE CARDS: each row of YtcnapkdccjibpaaGreatDoorRows.lean that lists a variable, with what it lists TIED to the program's text (the seventh form; the later family's looks); each row that meets fmt, with fmt's text TOLD by the authors' own Lean function (tested against real Go, not proved from fmt's source: count such statements apart). THE CARD IS WHAT COUNTS. Prove the row's statement (the work); the ties are given (YtcnapkdccjibpaaGreatDoorTie.lean); close each card by the builder's one call (the guide's Derived/Test/ToyasCard.lean, 'card_holds'). Laid BY PROGRAM, IN A SANDBOX (cutbox-door.mjs). By AI agents, Wed Nov 11 2026. No macro, syntax, notation, axiom, sorry.
-/
import Derived.Test.YtcnapkdccjibpaaGreatDoorRows
import GoSem.ClaimSeven
namespace Go.Proofs.YtcnapkdccjibpaaGreatDoor
namespace Rows

/-- THE TIED CARD OF 'laws.FnExactReadInterval'. -/
def fnExactReadIntervalCard : Claim7 := { stood := { row := fnExactReadIntervalRow, standIns := [], harness := (true, "09d2448001f7357b50435952216706f691c95c51de6f5fbfc757faa6f3ab8e9c"), looks := false }, kinds := [], alts := [], laidByText := true, laidKinds := [.data, .data, .data, .data, .pinned], laidTests := true, laidLooks := .later }
def FnExactReadIntervalCardSaid : Prop := Claim7.holds Tryz.pinned (.plain (OpenSpec.ofChange fnExactReadIntervalSpec)) fnExactReadIntervalCard

/-- THE TIED CARD OF 'laws.FnIntervals'. -/
def fnIntervalsCard : Claim7 := { stood := { row := fnIntervalsRow, standIns := [], harness := (true, "09d2448001f7357b50435952216706f691c95c51de6f5fbfc757faa6f3ab8e9c"), looks := false }, kinds := [], alts := [], laidByText := true, laidKinds := [.data, .data, .data, .data, .pinned], laidTests := true, laidLooks := .later }
def FnIntervalsCardSaid : Prop := Claim7.holds Tryz.pinned (.plain (OpenSpec.ofChange fnIntervalsSpec)) fnIntervalsCard

/-- THE SECOND FORM's CARD OF 'laws.FnExactReadInterval'. -/
def fnExactReadIntervalUptoCard : Claim7 := { stood := { row := fnExactReadIntervalUptoRow, standIns := [], harness := (true, "09d2448001f7357b50435952216706f691c95c51de6f5fbfc757faa6f3ab8e9c"), looks := false }, kinds := [], alts := [], laidByText := true, laidKinds := [.data, .data, .data, .data, .pinned], laidTests := true, laidLooks := .later }
def FnExactReadIntervalUptoCardSaid : Prop := Claim7.holds Tryz.pinned (.plain (OpenSpec.upto fnExactReadIntervalSpec)) fnExactReadIntervalUptoCard

/-- THE SECOND FORM's CARD OF 'laws.FnIntervals'. -/
def fnIntervalsUptoCard : Claim7 := { stood := { row := fnIntervalsUptoRow, standIns := [], harness := (true, "09d2448001f7357b50435952216706f691c95c51de6f5fbfc757faa6f3ab8e9c"), looks := false }, kinds := [], alts := [], laidByText := true, laidKinds := [.data, .data, .data, .data, .pinned], laidTests := true, laidLooks := .later }
def FnIntervalsUptoCardSaid : Prop := Claim7.holds Tryz.pinned (.plain (OpenSpec.upto fnIntervalsSpec)) fnIntervalsUptoCard
end Rows
end Go.Proofs.YtcnapkdccjibpaaGreatDoor
