/-
  DERIVED. GIVEN WITH THE SEED: THE CARDS: each row of YtlibjgmnookakaaDoorRows.lean that lists a variable, with what it lists TIED to the program's text (the seventh form; the later family's looks); each row that meets fmt, with fmt's text TOLD by the authors' own Lean function (tested against real Go, not proved from fmt's source: count such statements apart). THE CARD IS WHAT COUNTS. Prove the row's statement (the work); the ties are given (YtlibjgmnookakaaDoorTie.lean); close each card by the builder's one call (the guide's Derived/Test/ToyasCard.lean, 'card_holds'). Laid BY PROGRAM, IN A SANDBOX (cutbox-door.mjs). By AI agents, Wed Nov 11 2026. No macro, syntax, notation, axiom, sorry.
-/
import Derived.Test.YtlibjgmnookakaaDoorRows
import GoSem.ClaimSeven
namespace Go.Proofs.YtlibjgmnookakaaDoor
namespace Rows

/-- THE TIED CARD OF 'serinettelaw03.SpanMakes'. -/
def spanMakesCard : Claim7 := { stood := { row := spanMakesRow, standIns := [], harness := (true, "39d92dfa0e01ec721d953abcfc7b921217b963de041d0b5859f19abf7b72d8d7"), looks := false }, kinds := [], alts := [], laidByText := true, laidKinds := [.data, .data, .data], laidTests := true, laidLooks := .later }
def SpanMakesCardSaid : Prop := Claim7.holds Tryd.pinned (.plain (OpenSpec.ofChange spanMakesSpec)) spanMakesCard

/-- THE TIED CARD OF 'serinettelaw03.SpanNests'. -/
def spanNestsCard : Claim7 := { stood := { row := spanNestsRow, standIns := [], harness := (true, "39d92dfa0e01ec721d953abcfc7b921217b963de041d0b5859f19abf7b72d8d7"), looks := false }, kinds := [], alts := [], laidByText := true, laidKinds := [.data, .data, .data], laidTests := true, laidLooks := .later }
def SpanNestsCardSaid : Prop := Claim7.holds Tryd.pinned (.plain (OpenSpec.ofChange spanNestsSpec)) spanNestsCard

/-- THE SECOND FORM's CARD OF 'serinettelaw03.SpanMakes'. -/
def spanMakesUptoCard : Claim7 := { stood := { row := spanMakesUptoRow, standIns := [], harness := (true, "39d92dfa0e01ec721d953abcfc7b921217b963de041d0b5859f19abf7b72d8d7"), looks := false }, kinds := [], alts := [], laidByText := true, laidKinds := [.data, .data, .data], laidTests := true, laidLooks := .later }
def SpanMakesUptoCardSaid : Prop := Claim7.holds Tryd.pinned (.plain (OpenSpec.upto spanMakesSpec)) spanMakesUptoCard

/-- THE SECOND FORM's CARD OF 'serinettelaw03.SpanNests'. -/
def spanNestsUptoCard : Claim7 := { stood := { row := spanNestsUptoRow, standIns := [], harness := (true, "39d92dfa0e01ec721d953abcfc7b921217b963de041d0b5859f19abf7b72d8d7"), looks := false }, kinds := [], alts := [], laidByText := true, laidKinds := [.data, .data, .data], laidTests := true, laidLooks := .later }
def SpanNestsUptoCardSaid : Prop := Claim7.holds Tryd.pinned (.plain (OpenSpec.upto spanNestsSpec)) spanNestsUptoCard
end Rows
end Go.Proofs.YtlibjgmnookakaaDoor
