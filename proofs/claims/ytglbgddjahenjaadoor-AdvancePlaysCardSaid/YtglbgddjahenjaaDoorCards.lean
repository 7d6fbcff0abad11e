/-
  DERIVED. GIVEN WITH THE SEED: THE CARDS: each row of YtglbgddjahenjaaDoorRows.lean that lists a variable, with what it lists TIED to the program's text (the seventh form; the later family's looks); each row that meets fmt, with fmt's text TOLD by the authors' own Lean function (tested against real Go, not proved from fmt's source: count such statements apart). THE CARD IS WHAT COUNTS. Prove the row's statement (the work); the ties are given (YtglbgddjahenjaaDoorTie.lean); close each card by the builder's one call (the guide's Derived/Test/ToyasCard.lean, 'card_holds'). Laid BY PROGRAM, IN A SANDBOX (cutbox-door.mjs). By AI agents, Wed Nov 11 2026. No macro, syntax, notation, axiom, sorry.
-/
import Derived.Test.YtglbgddjahenjaaDoorRows
import GoSem.ClaimSeven
namespace Go.Proofs.YtglbgddjahenjaaDoor
namespace Rows

/-- THE TIED CARD OF 'gleaninglaw18.AdvanceValues'. -/
def advanceValuesCard : Claim7 := { stood := { row := advanceValuesRow, standIns := [], harness := (true, "14d5bdbaf12b87185563b67e85bcdfe02ad53cb2aa00a0d78dcb0d69d8af3bd1"), looks := false }, kinds := [], alts := [], laidByText := true, laidKinds := [.listed, .data], laidTests := true, laidLooks := .later }
def AdvanceValuesCardSaid : Prop := Claim7.holds Tryd.pinned (.plain (OpenSpec.ofChange advanceValuesSpec)) advanceValuesCard

/-- THE TIED CARD OF 'gleaninglaw18.AdvancePlays'. -/
def advancePlaysCard : Claim7 := { stood := { row := advancePlaysRow, standIns := [], harness := (true, "14d5bdbaf12b87185563b67e85bcdfe02ad53cb2aa00a0d78dcb0d69d8af3bd1"), looks := false }, kinds := [], alts := [], laidByText := true, laidKinds := [.listed, .data], laidTests := true, laidLooks := .later }
def AdvancePlaysCardSaid : Prop := Claim7.holds Tryd.pinned (.plain (OpenSpec.ofChange advancePlaysSpec)) advancePlaysCard

/-- THE SECOND FORM's CARD OF 'gleaninglaw18.AdvanceValues'. -/
def advanceValuesUptoCard : Claim7 := { stood := { row := advanceValuesUptoRow, standIns := [], harness := (true, "14d5bdbaf12b87185563b67e85bcdfe02ad53cb2aa00a0d78dcb0d69d8af3bd1"), looks := false }, kinds := [], alts := [], laidByText := true, laidKinds := [.listed, .data], laidTests := true, laidLooks := .later }
def AdvanceValuesUptoCardSaid : Prop := Claim7.holds Tryd.pinned (.plain (OpenSpec.upto advanceValuesSpec)) advanceValuesUptoCard

/-- THE SECOND FORM's CARD OF 'gleaninglaw18.AdvancePlays'. -/
def advancePlaysUptoCard : Claim7 := { stood := { row := advancePlaysUptoRow, standIns := [], harness := (true, "14d5bdbaf12b87185563b67e85bcdfe02ad53cb2aa00a0d78dcb0d69d8af3bd1"), looks := false }, kinds := [], alts := [], laidByText := true, laidKinds := [.listed, .data], laidTests := true, laidLooks := .later }
def AdvancePlaysUptoCardSaid : Prop := Claim7.holds Tryd.pinned (.plain (OpenSpec.upto advancePlaysSpec)) advancePlaysUptoCard
end Rows
end Go.Proofs.YtglbgddjahenjaaDoor
