/-
  DERIVED. GIVEN WITH THE SEED: THE CARDS: each row of YtokcbipmocpllaaDoorRows.lean that lists a variable, with what it lists TIED to the program's text (the seventh form; the later family's looks); each row that meets fmt, with fmt's text TOLD by the authors' own Lean function (tested against real Go, not proved from fmt's source: count such statements apart). THE CARD IS WHAT COUNTS. Prove the row's statement (the work); the ties are given (YtokcbipmocpllaaDoorTie.lean); close each card by the builder's one call (the guide's Derived/Test/ToyasCard.lean, 'card_holds'). Laid BY PROGRAM, IN A SANDBOX (cutbox-door.mjs). By AI agents, Wed Nov 11 2026. No macro, syntax, notation, axiom, sorry.
-/
import Derived.Test.YtokcbipmocpllaaDoorRows
import GoSem.ClaimSeven
namespace Go.Proofs.YtokcbipmocpllaaDoor
namespace Rows

/-- THE TIED CARD OF 'gleaninglaw19.SweepSlots'. -/
def sweepSlotsCard : Claim7 := { stood := { row := sweepSlotsRow, standIns := [], harness := (true, "d3f66542c820ab97af0467eea43bf2fb5cfa7b493b4fd860e36a17b9b0fdb59d"), looks := false }, kinds := [], alts := [], laidByText := true, laidKinds := [.listed, .data], laidTests := true, laidLooks := .later }
def SweepSlotsCardSaid : Prop := Claim7.holds Tryd.pinned (.plain (OpenSpec.ofChange sweepSlotsSpec)) sweepSlotsCard

/-- THE TIED CARD OF 'gleaninglaw19.SweepFrees'. -/
def sweepFreesCard : Claim7 := { stood := { row := sweepFreesRow, standIns := [], harness := (true, "d3f66542c820ab97af0467eea43bf2fb5cfa7b493b4fd860e36a17b9b0fdb59d"), looks := false }, kinds := [], alts := [], laidByText := true, laidKinds := [.listed, .data], laidTests := true, laidLooks := .later }
def SweepFreesCardSaid : Prop := Claim7.holds Tryd.pinned (.plain (OpenSpec.ofChange sweepFreesSpec)) sweepFreesCard

/-- THE TIED CARD OF 'gleaninglaw19.SweepNobody'. -/
def sweepNobodyCard : Claim7 := { stood := { row := sweepNobodyRow, standIns := [], harness := (true, "d3f66542c820ab97af0467eea43bf2fb5cfa7b493b4fd860e36a17b9b0fdb59d"), looks := false }, kinds := [], alts := [], laidByText := true, laidKinds := [.listed, .data], laidTests := true, laidLooks := .later }
def SweepNobodyCardSaid : Prop := Claim7.holds Tryd.pinned (.plain (OpenSpec.ofChange sweepNobodySpec)) sweepNobodyCard

/-- THE SECOND FORM's CARD OF 'gleaninglaw19.SweepSlots'. -/
def sweepSlotsUptoCard : Claim7 := { stood := { row := sweepSlotsUptoRow, standIns := [], harness := (true, "d3f66542c820ab97af0467eea43bf2fb5cfa7b493b4fd860e36a17b9b0fdb59d"), looks := false }, kinds := [], alts := [], laidByText := true, laidKinds := [.listed, .data], laidTests := true, laidLooks := .later }
def SweepSlotsUptoCardSaid : Prop := Claim7.holds Tryd.pinned (.plain (OpenSpec.upto sweepSlotsSpec)) sweepSlotsUptoCard

/-- THE SECOND FORM's CARD OF 'gleaninglaw19.SweepFrees'. -/
def sweepFreesUptoCard : Claim7 := { stood := { row := sweepFreesUptoRow, standIns := [], harness := (true, "d3f66542c820ab97af0467eea43bf2fb5cfa7b493b4fd860e36a17b9b0fdb59d"), looks := false }, kinds := [], alts := [], laidByText := true, laidKinds := [.listed, .data], laidTests := true, laidLooks := .later }
def SweepFreesUptoCardSaid : Prop := Claim7.holds Tryd.pinned (.plain (OpenSpec.upto sweepFreesSpec)) sweepFreesUptoCard

/-- THE SECOND FORM's CARD OF 'gleaninglaw19.SweepNobody'. -/
def sweepNobodyUptoCard : Claim7 := { stood := { row := sweepNobodyUptoRow, standIns := [], harness := (true, "d3f66542c820ab97af0467eea43bf2fb5cfa7b493b4fd860e36a17b9b0fdb59d"), looks := false }, kinds := [], alts := [], laidByText := true, laidKinds := [.listed, .data], laidTests := true, laidLooks := .later }
def SweepNobodyUptoCardSaid : Prop := Claim7.holds Tryd.pinned (.plain (OpenSpec.upto sweepNobodySpec)) sweepNobodyUptoCard
end Rows
end Go.Proofs.YtokcbipmocpllaaDoor
