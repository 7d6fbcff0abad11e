/-
  DERIVED. GIVEN WITH THE SEED: THE CARDS: each row of YtpkocgcagemnbaaDoorRows.lean that lists a variable, with what it lists TIED to the program's text (the seventh form; the later family's looks); each row that meets fmt, with fmt's text TOLD by the authors' own Lean function (tested against real Go, not proved from fmt's source: count such statements apart). THE CARD IS WHAT COUNTS. Prove the row's statement (the work); the ties are given (YtpkocgcagemnbaaDoorTie.lean); close each card by the builder's one call (the guide's Derived/Test/ToyasCard.lean, 'card_holds'). Laid BY PROGRAM, IN A SANDBOX (cutbox-door.mjs). By AI agents, Wed Nov 11 2026. No macro, syntax, notation, axiom, sorry.
-/
import Derived.Test.YtpkocgcagemnbaaDoorRows
import GoSem.ClaimSeven
namespace Go.Proofs.YtpkocgcagemnbaaDoor
namespace Rows

/-- THE TIED CARD OF 'gleaninglaw08.LayoutAsks'. -/
def layoutAsksCard : Claim7 := { stood := { row := layoutAsksRow, standIns := [], harness := (true, "7247f68ff246bb958156d7faf330e1a1d7f063ea91ff0682e07646f7101dde4e"), looks := false }, kinds := [], alts := [], laidByText := true, laidKinds := [.listed, .data], laidTests := true, laidLooks := .later }
def LayoutAsksCardSaid : Prop := Claim7.holds Tryd.pinned (.plain (OpenSpec.ofChange layoutAsksSpec)) layoutAsksCard

/-- THE TIED CARD OF 'gleaninglaw08.LayoutNames'. -/
def layoutNamesCard : Claim7 := { stood := { row := layoutNamesRow, standIns := [], harness := (true, "7247f68ff246bb958156d7faf330e1a1d7f063ea91ff0682e07646f7101dde4e"), looks := false }, kinds := [], alts := [], laidByText := true, laidKinds := [.listed, .data], laidTests := true, laidLooks := .later }
def LayoutNamesCardSaid : Prop := Claim7.holds Tryd.pinned (.plain (OpenSpec.ofChange layoutNamesSpec)) layoutNamesCard

/-- THE TIED CARD OF 'gleaninglaw09.MemoryPlays'. -/
def memoryPlaysCard : Claim7 := { stood := { row := memoryPlaysRow, standIns := [], harness := (true, "7247f68ff246bb958156d7faf330e1a1d7f063ea91ff0682e07646f7101dde4e"), looks := false }, kinds := [], alts := [], laidByText := true, laidKinds := [.listed, .data], laidTests := true, laidLooks := .later }
def MemoryPlaysCardSaid : Prop := Claim7.holds Tryd.pinned (.plain (OpenSpec.ofChange memoryPlaysSpec)) memoryPlaysCard

/-- THE TIED CARD OF 'gleaninglaw09.MemoryOne'. -/
def memoryOneCard : Claim7 := { stood := { row := memoryOneRow, standIns := [], harness := (true, "7247f68ff246bb958156d7faf330e1a1d7f063ea91ff0682e07646f7101dde4e"), looks := false }, kinds := [], alts := [], laidByText := true, laidKinds := [.listed, .data], laidTests := true, laidLooks := .later }
def MemoryOneCardSaid : Prop := Claim7.holds Tryd.pinned (.plain (OpenSpec.ofChange memoryOneSpec)) memoryOneCard

/-- THE TIED CARD OF 'gleaninglaw08.LayoutTells'. -/
def layoutTellsCard : Claim7 := { stood := { row := layoutTellsRow, standIns := [], harness := (true, "7247f68ff246bb958156d7faf330e1a1d7f063ea91ff0682e07646f7101dde4e"), looks := false }, kinds := [], alts := [], laidByText := true, laidKinds := [.listed, .data], laidTests := true, laidLooks := .later }
def LayoutTellsCardSaid : Prop := Claim7.holds Tryd.pinned (.plain (OpenSpec.ofChange layoutTellsSpec)) layoutTellsCard

/-- THE TIED CARD OF 'gleaninglaw09.MemoryNobody'. -/
def memoryNobodyCard : Claim7 := { stood := { row := memoryNobodyRow, standIns := [], harness := (true, "7247f68ff246bb958156d7faf330e1a1d7f063ea91ff0682e07646f7101dde4e"), looks := false }, kinds := [], alts := [], laidByText := true, laidKinds := [.listed, .data], laidTests := true, laidLooks := .later }
def MemoryNobodyCardSaid : Prop := Claim7.holds Tryd.pinned (.plain (OpenSpec.ofChange memoryNobodySpec)) memoryNobodyCard

/-- THE TIED CARD OF 'gleaninglaw09.MemoryCuts'. -/
def memoryCutsCard : Claim7 := { stood := { row := memoryCutsRow, standIns := [], harness := (true, "7247f68ff246bb958156d7faf330e1a1d7f063ea91ff0682e07646f7101dde4e"), looks := false }, kinds := [], alts := [], laidByText := true, laidKinds := [.listed, .data], laidTests := true, laidLooks := .later }
def MemoryCutsCardSaid : Prop := Claim7.holds Tryd.pinned (.plain (OpenSpec.ofChange memoryCutsSpec)) memoryCutsCard

/-- THE TIED CARD OF 'gleaninglaw08.LayoutShapes'. -/
def layoutShapesCard : Claim7 := { stood := { row := layoutShapesRow, standIns := [], harness := (true, "7247f68ff246bb958156d7faf330e1a1d7f063ea91ff0682e07646f7101dde4e"), looks := false }, kinds := [], alts := [], laidByText := true, laidKinds := [.listed, .data], laidTests := true, laidLooks := .later }
def LayoutShapesCardSaid : Prop := Claim7.holds Tryd.pinned (.plain (OpenSpec.ofChange layoutShapesSpec)) layoutShapesCard

/-- THE SECOND FORM's CARD OF 'gleaninglaw08.LayoutAsks'. -/
def layoutAsksUptoCard : Claim7 := { stood := { row := layoutAsksUptoRow, standIns := [], harness := (true, "7247f68ff246bb958156d7faf330e1a1d7f063ea91ff0682e07646f7101dde4e"), looks := false }, kinds := [], alts := [], laidByText := true, laidKinds := [.listed, .data], laidTests := true, laidLooks := .later }
def LayoutAsksUptoCardSaid : Prop := Claim7.holds Tryd.pinned (.plain (OpenSpec.upto layoutAsksSpec)) layoutAsksUptoCard

/-- THE SECOND FORM's CARD OF 'gleaninglaw08.LayoutNames'. -/
def layoutNamesUptoCard : Claim7 := { stood := { row := layoutNamesUptoRow, standIns := [], harness := (true, "7247f68ff246bb958156d7faf330e1a1d7f063ea91ff0682e07646f7101dde4e"), looks := false }, kinds := [], alts := [], laidByText := true, laidKinds := [.listed, .data], laidTests := true, laidLooks := .later }
def LayoutNamesUptoCardSaid : Prop := Claim7.holds Tryd.pinned (.plain (OpenSpec.upto layoutNamesSpec)) layoutNamesUptoCard

/-- THE SECOND FORM's CARD OF 'gleaninglaw09.MemoryPlays'. -/
def memoryPlaysUptoCard : Claim7 := { stood := { row := memoryPlaysUptoRow, standIns := [], harness := (true, "7247f68ff246bb958156d7faf330e1a1d7f063ea91ff0682e07646f7101dde4e"), looks := false }, kinds := [], alts := [], laidByText := true, laidKinds := [.listed, .data], laidTests := true, laidLooks := .later }
def MemoryPlaysUptoCardSaid : Prop := Claim7.holds Tryd.pinned (.plain (OpenSpec.upto memoryPlaysSpec)) memoryPlaysUptoCard

/-- THE SECOND FORM's CARD OF 'gleaninglaw09.MemoryOne'. -/
def memoryOneUptoCard : Claim7 := { stood := { row := memoryOneUptoRow, standIns := [], harness := (true, "7247f68ff246bb958156d7faf330e1a1d7f063ea91ff0682e07646f7101dde4e"), looks := false }, kinds := [], alts := [], laidByText := true, laidKinds := [.listed, .data], laidTests := true, laidLooks := .later }
def MemoryOneUptoCardSaid : Prop := Claim7.holds Tryd.pinned (.plain (OpenSpec.upto memoryOneSpec)) memoryOneUptoCard

/-- THE SECOND FORM's CARD OF 'gleaninglaw08.LayoutTells'. -/
def layoutTellsUptoCard : Claim7 := { stood := { row := layoutTellsUptoRow, standIns := [], harness := (true, "7247f68ff246bb958156d7faf330e1a1d7f063ea91ff0682e07646f7101dde4e"), looks := false }, kinds := [], alts := [], laidByText := true, laidKinds := [.listed, .data], laidTests := true, laidLooks := .later }
def LayoutTellsUptoCardSaid : Prop := Claim7.holds Tryd.pinned (.plain (OpenSpec.upto layoutTellsSpec)) layoutTellsUptoCard

/-- THE SECOND FORM's CARD OF 'gleaninglaw09.MemoryNobody'. -/
def memoryNobodyUptoCard : Claim7 := { stood := { row := memoryNobodyUptoRow, standIns := [], harness := (true, "7247f68ff246bb958156d7faf330e1a1d7f063ea91ff0682e07646f7101dde4e"), looks := false }, kinds := [], alts := [], laidByText := true, laidKinds := [.listed, .data], laidTests := true, laidLooks := .later }
def MemoryNobodyUptoCardSaid : Prop := Claim7.holds Tryd.pinned (.plain (OpenSpec.upto memoryNobodySpec)) memoryNobodyUptoCard

/-- THE SECOND FORM's CARD OF 'gleaninglaw09.MemoryCuts'. -/
def memoryCutsUptoCard : Claim7 := { stood := { row := memoryCutsUptoRow, standIns := [], harness := (true, "7247f68ff246bb958156d7faf330e1a1d7f063ea91ff0682e07646f7101dde4e"), looks := false }, kinds := [], alts := [], laidByText := true, laidKinds := [.listed, .data], laidTests := true, laidLooks := .later }
def MemoryCutsUptoCardSaid : Prop := Claim7.holds Tryd.pinned (.plain (OpenSpec.upto memoryCutsSpec)) memoryCutsUptoCard

/-- THE SECOND FORM's CARD OF 'gleaninglaw08.LayoutShapes'. -/
def layoutShapesUptoCard : Claim7 := { stood := { row := layoutShapesUptoRow, standIns := [], harness := (true, "7247f68ff246bb958156d7faf330e1a1d7f063ea91ff0682e07646f7101dde4e"), looks := false }, kinds := [], alts := [], laidByText := true, laidKinds := [.listed, .data], laidTests := true, laidLooks := .later }
def LayoutShapesUptoCardSaid : Prop := Claim7.holds Tryd.pinned (.plain (OpenSpec.upto layoutShapesSpec)) layoutShapesUptoCard
end Rows
end Go.Proofs.YtpkocgcagemnbaaDoor
