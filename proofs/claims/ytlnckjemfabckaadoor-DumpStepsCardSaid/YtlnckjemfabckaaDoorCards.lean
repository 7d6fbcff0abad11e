/-
  DERIVED. GIVEN WITH THE SEED: THE CARDS: each row of YtlnckjemfabckaaDoorRows.lean that lists a variable, with what it lists TIED to the program's text (the seventh form; the later family's looks); each row that meets fmt, with fmt's text TOLD by the authors' own Lean function (tested against real Go, not proved from fmt's source: count such statements apart). THE CARD IS WHAT COUNTS. Prove the row's statement (the work); the ties are given (YtlnckjemfabckaaDoorTie.lean); close each card by the builder's one call (the guide's Derived/Test/ToyasCard.lean, 'card_holds'). Laid BY PROGRAM, IN A SANDBOX (cutbox-door.mjs). By AI agents, Wed Nov 11 2026. No macro, syntax, notation, axiom, sorry.
-/
import Derived.Test.YtlnckjemfabckaaDoorRows
import GoSem.ClaimSeven
namespace Go.Proofs.YtlnckjemfabckaaDoor
namespace Rows

/-- THE TIED CARD OF 'gleaninglaw38.DumpSteps'. -/
def dumpStepsCard : Claim7 := { stood := { row := dumpStepsRow, standIns := [], harness := (true, "38f05106a439d6c00ba6078980ef33bfab24a5f9afdd48f4005dc2392260dc08"), looks := false }, kinds := [], alts := [], laidByText := true, laidKinds := [.listed, .data], laidTests := true, laidLooks := .later }
def DumpStepsCardSaid : Prop := Claim7.holds Tryd.pinned (.plain (OpenSpec.ofChange dumpStepsSpec)) dumpStepsCard

/-- THE SECOND FORM's CARD OF 'gleaninglaw38.DumpSteps'. -/
def dumpStepsUptoCard : Claim7 := { stood := { row := dumpStepsUptoRow, standIns := [], harness := (true, "38f05106a439d6c00ba6078980ef33bfab24a5f9afdd48f4005dc2392260dc08"), looks := false }, kinds := [], alts := [], laidByText := true, laidKinds := [.listed, .data], laidTests := true, laidLooks := .later }
def DumpStepsUptoCardSaid : Prop := Claim7.holds Tryd.pinned (.plain (OpenSpec.upto dumpStepsSpec)) dumpStepsUptoCard
end Rows
end Go.Proofs.YtlnckjemfabckaaDoor
