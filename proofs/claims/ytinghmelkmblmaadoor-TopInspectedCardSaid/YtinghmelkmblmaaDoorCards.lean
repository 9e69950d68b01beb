/-
  DERIVED. GIVEN WITH THE SEED: THE CARDS: each row of YtinghmelkmblmaaDoorRows.lean that lists a variable, with what it lists TIED to the program's text (the seventh form; the later family's looks); each row that meets fmt, with fmt's text TOLD by the authors' own Lean function (tested against real Go, not proved from fmt's source: count such statements apart). THE CARD IS WHAT COUNTS. Prove the row's statement (the work); the ties are given (YtinghmelkmblmaaDoorTie.lean); close each card by the builder's one call (the guide's Derived/Test/ToyasCard.lean, 'card_holds'). Laid BY PROGRAM, IN A SANDBOX (cutbox-door.mjs). By AI agents, Wed Nov 11 2026. No macro, syntax, notation, axiom, sorry.
-/
import Derived.Test.YtinghmelkmblmaaDoorRows
import GoSem.ClaimSeven
namespace Go.Proofs.YtinghmelkmblmaaDoor
namespace Rows

/-- THE TIED CARD OF 'neweltop.TopInspected'. -/
def topInspectedCard : Claim7 := { stood := { row := topInspectedRow, standIns := [], harness := (true, "b568dc1e75d86105b7337d9eba6a919c7899850cd48bd504ddeaab7f5e74df37"), looks := false }, kinds := [], alts := [], laidByText := true, laidKinds := [.data, .data], laidTests := true, laidLooks := .later }
def TopInspectedCardSaid : Prop := Claim7.holds Tryd.pinned (.plain (OpenSpec.ofChange topInspectedSpec)) topInspectedCard

/-- THE SECOND FORM's CARD OF 'neweltop.TopInspected'. -/
def topInspectedUptoCard : Claim7 := { stood := { row := topInspectedUptoRow, standIns := [], harness := (true, "b568dc1e75d86105b7337d9eba6a919c7899850cd48bd504ddeaab7f5e74df37"), looks := false }, kinds := [], alts := [], laidByText := true, laidKinds := [.data, .data], laidTests := true, laidLooks := .later }
def TopInspectedUptoCardSaid : Prop := Claim7.holds Tryd.pinned (.plain (OpenSpec.upto topInspectedSpec)) topInspectedUptoCard
end Rows
end Go.Proofs.YtinghmelkmblmaaDoor
