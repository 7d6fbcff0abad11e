/-
  DERIVED. GIVEN WITH THE SEED: THE CARDS: each row of YtlnckjemfabckaaGreatDoorRows.lean that lists a variable, with what it lists TIED to the program's text (the seventh form; the later family's looks); each row that meets fmt, with fmt's text TOLD by the authors' own Lean function (tested against real Go, not proved from fmt's source: count such statements apart). THE CARD IS WHAT COUNTS. Prove the row's statement (the work); the ties are given (YtlnckjemfabckaaGreatDoorTie.lean); close each card by the builder's one call (the guide's Derived/Test/ToyasCard.lean, 'card_holds'). Laid BY PROGRAM, IN A SANDBOX (cutbox-door.mjs). By AI agents, Wed Nov 11 2026. No macro, syntax, notation, axiom, sorry.
-/
import Derived.Test.YtlnckjemfabckaaGreatDoorRows
import GoSem.ClaimSeven
namespace Go.Proofs.YtlnckjemfabckaaGreatDoor
namespace Rows

/-- THE TIED CARD OF 'gleaninglaw38.DumpTrees'. -/
def dumpTreesCard : Claim7 := { stood := { row := dumpTreesRow, standIns := [], harness := (true, "ae3be12fd465b5ee3fc0ca21789498ff86763d0b37df71781c7a77961325fc57"), looks := false }, kinds := [], alts := [], laidByText := true, laidKinds := [.listed, .data], laidTests := true, laidLooks := .later }
def DumpTreesCardSaid : Prop := Claim7.holds Tryz.pinned (.plain (OpenSpec.ofChange dumpTreesSpec)) dumpTreesCard

/-- THE TIED CARD OF 'gleaninglaw38.DumpEvents'. -/
def dumpEventsCard : Claim7 := { stood := { row := dumpEventsRow, standIns := [], harness := (true, "ae3be12fd465b5ee3fc0ca21789498ff86763d0b37df71781c7a77961325fc57"), looks := false }, kinds := [], alts := [], laidByText := true, laidKinds := [.listed, .data], laidTests := true, laidLooks := .later }
def DumpEventsCardSaid : Prop := Claim7.holds Tryz.pinned (.plain (OpenSpec.ofChange dumpEventsSpec)) dumpEventsCard

/-- THE SECOND FORM's CARD OF 'gleaninglaw38.DumpTrees'. -/
def dumpTreesUptoCard : Claim7 := { stood := { row := dumpTreesUptoRow, standIns := [], harness := (true, "ae3be12fd465b5ee3fc0ca21789498ff86763d0b37df71781c7a77961325fc57"), looks := false }, kinds := [], alts := [], laidByText := true, laidKinds := [.listed, .data], laidTests := true, laidLooks := .later }
def DumpTreesUptoCardSaid : Prop := Claim7.holds Tryz.pinned (.plain (OpenSpec.upto dumpTreesSpec)) dumpTreesUptoCard

/-- THE SECOND FORM's CARD OF 'gleaninglaw38.DumpEvents'. -/
def dumpEventsUptoCard : Claim7 := { stood := { row := dumpEventsUptoRow, standIns := [], harness := (true, "ae3be12fd465b5ee3fc0ca21789498ff86763d0b37df71781c7a77961325fc57"), looks := false }, kinds := [], alts := [], laidByText := true, laidKinds := [.listed, .data], laidTests := true, laidLooks := .later }
def DumpEventsUptoCardSaid : Prop := Claim7.holds Tryz.pinned (.plain (OpenSpec.upto dumpEventsSpec)) dumpEventsUptoCard
end Rows
end Go.Proofs.YtlnckjemfabckaaGreatDoor
