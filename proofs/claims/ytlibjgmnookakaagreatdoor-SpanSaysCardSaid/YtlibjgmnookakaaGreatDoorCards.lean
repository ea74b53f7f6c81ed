/-
  DERIVED. GIVEN WITH THE SEED: THE CARDS: each row of YtlibjgmnookakaaGreatDoorRows.lean that lists a variable, with what it lists TIED to the program's text (the seventh form; the later family's looks); each row that meets fmt, with fmt's text TOLD by the authors' own Lean function (tested against real Go, not proved from fmt's source: count such statements apart). THE CARD IS WHAT COUNTS. Prove the row's statement (the work); the ties are given (YtlibjgmnookakaaGreatDoorTie.lean); close each card by the builder's one call (the guide's Derived/Test/ToyasCard.lean, 'card_holds'). Laid BY PROGRAM, IN A SANDBOX (cutbox-door.mjs). By AI agents, Wed Nov 11 2026. No macro, syntax, notation, axiom, sorry.
-/
import Derived.Test.YtlibjgmnookakaaGreatDoorRows
import GoSem.ClaimSeven
namespace Go.Proofs.YtlibjgmnookakaaGreatDoor
namespace Rows

/-- THE TIED CARD OF 'serinettelaw03.SpanSays'. -/
def spanSaysCard : Claim7 := { stood := { row := spanSaysRow, standIns := [], harness := (true, "f0a8830028d3ec743604bba4511e5f570e7514612839f2e2e46844ce62e372f2"), looks := false }, kinds := [], alts := [], laidByText := true, laidKinds := [.data, .data, .data], laidTests := true, laidLooks := .later }
def SpanSaysCardSaid : Prop := Claim7.holds Tryz.pinned (.plain (OpenSpec.ofChange spanSaysSpec)) spanSaysCard

/-- THE SECOND FORM's CARD OF 'serinettelaw03.SpanSays'. -/
def spanSaysUptoCard : Claim7 := { stood := { row := spanSaysUptoRow, standIns := [], harness := (true, "f0a8830028d3ec743604bba4511e5f570e7514612839f2e2e46844ce62e372f2"), looks := false }, kinds := [], alts := [], laidByText := true, laidKinds := [.data, .data, .data], laidTests := true, laidLooks := .later }
def SpanSaysUptoCardSaid : Prop := Claim7.holds Tryz.pinned (.plain (OpenSpec.upto spanSaysSpec)) spanSaysUptoCard
end Rows
end Go.Proofs.YtlibjgmnookakaaGreatDoor
