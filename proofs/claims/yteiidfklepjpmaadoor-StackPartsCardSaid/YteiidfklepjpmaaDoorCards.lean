/-
  DERIVED. GIVEN WITH THE SEED: THE CARDS: each row of YteiidfklepjpmaaDoorRows.lean that lists a variable, with what it lists TIED to the program's text (the seventh form; the later family's looks); each row that meets fmt, with fmt's text TOLD by the authors' own Lean function (tested against real Go, not proved from fmt's source: count such statements apart). THE CARD IS WHAT COUNTS. Prove the row's statement (the work); the ties are given (YteiidfklepjpmaaDoorTie.lean); close each card by the builder's one call (the guide's Derived/Test/ToyasCard.lean, 'card_holds'). Laid BY PROGRAM, IN A SANDBOX (cutbox-door.mjs). By AI agents, Wed Nov 11 2026. No macro, syntax, notation, axiom, sorry.
-/
import Derived.Test.YteiidfklepjpmaaDoorRows
import GoSem.ClaimSeven
namespace Go.Proofs.YteiidfklepjpmaaDoor
namespace Rows

/-- THE TIED CARD OF 'gleaninglaw15.StackParts'. -/
def stackPartsCard : Claim7 := { stood := { row := stackPartsRow, standIns := [], harness := (true, "1757ca19b214c831fa367e26c9b518d4da5635f2e743d980dc27a352d80c7fc1"), looks := false }, kinds := [], alts := [], laidByText := true, laidKinds := [.listed, .data], laidTests := true, laidLooks := .later }
def StackPartsCardSaid : Prop := Claim7.holds Tryd.pinned (.plain (OpenSpec.ofChange stackPartsSpec)) stackPartsCard

/-- THE SECOND FORM's CARD OF 'gleaninglaw15.StackParts'. -/
def stackPartsUptoCard : Claim7 := { stood := { row := stackPartsUptoRow, standIns := [], harness := (true, "1757ca19b214c831fa367e26c9b518d4da5635f2e743d980dc27a352d80c7fc1"), looks := false }, kinds := [], alts := [], laidByText := true, laidKinds := [.listed, .data], laidTests := true, laidLooks := .later }
def StackPartsUptoCardSaid : Prop := Claim7.holds Tryd.pinned (.plain (OpenSpec.upto stackPartsSpec)) stackPartsUptoCard
end Rows
end Go.Proofs.YteiidfklepjpmaaDoor
