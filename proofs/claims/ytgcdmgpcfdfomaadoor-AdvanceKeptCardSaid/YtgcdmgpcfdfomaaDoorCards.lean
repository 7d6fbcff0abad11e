/-
  DERIVED. GIVEN WITH THE SEED: THE CARDS: each row of YtgcdmgpcfdfomaaDoorRows.lean that lists a variable, with what it lists TIED to the program's text (the seventh form; the later family's looks); each row that meets fmt, with fmt's text TOLD by the authors' own Lean function (tested against real Go, not proved from fmt's source: count such statements apart). THE CARD IS WHAT COUNTS. Prove the row's statement (the work); the ties are given (YtgcdmgpcfdfomaaDoorTie.lean); close each card by the builder's one call (the guide's Derived/Test/ToyasCard.lean, 'card_holds'). Laid BY PROGRAM, IN A SANDBOX (cutbox-door.mjs). By AI agents, Wed Nov 11 2026. No macro, syntax, notation, axiom, sorry.
-/
import Derived.Test.YtgcdmgpcfdfomaaDoorRows
import GoSem.ClaimSeven
namespace Go.Proofs.YtgcdmgpcfdfomaaDoor
namespace Rows

/-- THE TIED CARD OF 'gleaninglaw18.AdvanceKept'. -/
def advanceKeptCard : Claim7 := { stood := { row := advanceKeptRow, standIns := [], harness := (true, "8683916ce48efd1bf677e104eee5fde34e9befb13fec8035b367fcee60095407"), looks := false }, kinds := [], alts := [], laidByText := true, laidKinds := [.listed, .data], laidTests := true, laidLooks := .later }
def AdvanceKeptCardSaid : Prop := Claim7.holds Tryd.pinned (.plain (OpenSpec.ofChange advanceKeptSpec)) advanceKeptCard

/-- THE SECOND FORM's CARD OF 'gleaninglaw18.AdvanceKept'. -/
def advanceKeptUptoCard : Claim7 := { stood := { row := advanceKeptUptoRow, standIns := [], harness := (true, "8683916ce48efd1bf677e104eee5fde34e9befb13fec8035b367fcee60095407"), looks := false }, kinds := [], alts := [], laidByText := true, laidKinds := [.listed, .data], laidTests := true, laidLooks := .later }
def AdvanceKeptUptoCardSaid : Prop := Claim7.holds Tryd.pinned (.plain (OpenSpec.upto advanceKeptSpec)) advanceKeptUptoCard
end Rows
end Go.Proofs.YtgcdmgpcfdfomaaDoor
