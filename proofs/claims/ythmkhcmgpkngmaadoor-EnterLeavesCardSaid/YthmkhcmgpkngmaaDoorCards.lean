/-
  DERIVED. GIVEN WITH THE SEED: THE CARDS: each row of YthmkhcmgpkngmaaDoorRows.lean that lists a variable, with what it lists TIED to the program's text (the seventh form; the later family's looks); each row that meets fmt, with fmt's text TOLD by the authors' own Lean function (tested against real Go, not proved from fmt's source: count such statements apart). THE CARD IS WHAT COUNTS. Prove the row's statement (the work); the ties are given (YthmkhcmgpkngmaaDoorTie.lean); close each card by the builder's one call (the guide's Derived/Test/ToyasCard.lean, 'card_holds'). Laid BY PROGRAM, IN A SANDBOX (cutbox-door.mjs). By AI agents, Wed Nov 11 2026. No macro, syntax, notation, axiom, sorry.
-/
import Derived.Test.YthmkhcmgpkngmaaDoorRows
import GoSem.ClaimSeven
namespace Go.Proofs.YthmkhcmgpkngmaaDoor
namespace Rows

/-- THE TIED CARD OF 'gleaninglaw17.EnterPlays'. -/
def enterPlaysCard : Claim7 := { stood := { row := enterPlaysRow, standIns := [], harness := (true, "e16667519d4dff9976f618c9c24749a928e3283bd8b335c9e6da8950aaaa87f4"), looks := false }, kinds := [], alts := [], laidByText := true, laidKinds := [.listed, .data], laidTests := true, laidLooks := .later }
def EnterPlaysCardSaid : Prop := Claim7.holds Tryd.pinned (.plain (OpenSpec.ofChange enterPlaysSpec)) enterPlaysCard

/-- THE TIED CARD OF 'gleaninglaw17.EnterValues'. -/
def enterValuesCard : Claim7 := { stood := { row := enterValuesRow, standIns := [], harness := (true, "e16667519d4dff9976f618c9c24749a928e3283bd8b335c9e6da8950aaaa87f4"), looks := false }, kinds := [], alts := [], laidByText := true, laidKinds := [.listed, .data], laidTests := true, laidLooks := .later }
def EnterValuesCardSaid : Prop := Claim7.holds Tryd.pinned (.plain (OpenSpec.ofChange enterValuesSpec)) enterValuesCard

/-- THE TIED CARD OF 'gleaninglaw15.StackPops'. -/
def stackPopsCard : Claim7 := { stood := { row := stackPopsRow, standIns := [], harness := (true, "e16667519d4dff9976f618c9c24749a928e3283bd8b335c9e6da8950aaaa87f4"), looks := false }, kinds := [], alts := [], laidByText := true, laidKinds := [.listed, .data], laidTests := true, laidLooks := .later }
def StackPopsCardSaid : Prop := Claim7.holds Tryd.pinned (.plain (OpenSpec.ofChange stackPopsSpec)) stackPopsCard

/-- THE TIED CARD OF 'gleaninglaw17.EnterLeaves'. -/
def enterLeavesCard : Claim7 := { stood := { row := enterLeavesRow, standIns := [], harness := (true, "e16667519d4dff9976f618c9c24749a928e3283bd8b335c9e6da8950aaaa87f4"), looks := false }, kinds := [], alts := [], laidByText := true, laidKinds := [.listed, .data], laidTests := true, laidLooks := .later }
def EnterLeavesCardSaid : Prop := Claim7.holds Tryd.pinned (.plain (OpenSpec.ofChange enterLeavesSpec)) enterLeavesCard

/-- THE TIED CARD OF 'gleaninglaw15.StackValues'. -/
def stackValuesCard : Claim7 := { stood := { row := stackValuesRow, standIns := [], harness := (true, "e16667519d4dff9976f618c9c24749a928e3283bd8b335c9e6da8950aaaa87f4"), looks := false }, kinds := [], alts := [], laidByText := true, laidKinds := [.listed, .data], laidTests := true, laidLooks := .later }
def StackValuesCardSaid : Prop := Claim7.holds Tryd.pinned (.plain (OpenSpec.ofChange stackValuesSpec)) stackValuesCard

/-- THE TIED CARD OF 'gleaninglaw15.StackPushes'. -/
def stackPushesCard : Claim7 := { stood := { row := stackPushesRow, standIns := [], harness := (true, "e16667519d4dff9976f618c9c24749a928e3283bd8b335c9e6da8950aaaa87f4"), looks := false }, kinds := [], alts := [], laidByText := true, laidKinds := [.listed, .data], laidTests := true, laidLooks := .later }
def StackPushesCardSaid : Prop := Claim7.holds Tryd.pinned (.plain (OpenSpec.ofChange stackPushesSpec)) stackPushesCard

/-- THE SECOND FORM's CARD OF 'gleaninglaw17.EnterPlays'. -/
def enterPlaysUptoCard : Claim7 := { stood := { row := enterPlaysUptoRow, standIns := [], harness := (true, "e16667519d4dff9976f618c9c24749a928e3283bd8b335c9e6da8950aaaa87f4"), looks := false }, kinds := [], alts := [], laidByText := true, laidKinds := [.listed, .data], laidTests := true, laidLooks := .later }
def EnterPlaysUptoCardSaid : Prop := Claim7.holds Tryd.pinned (.plain (OpenSpec.upto enterPlaysSpec)) enterPlaysUptoCard

/-- THE SECOND FORM's CARD OF 'gleaninglaw17.EnterValues'. -/
def enterValuesUptoCard : Claim7 := { stood := { row := enterValuesUptoRow, standIns := [], harness := (true, "e16667519d4dff9976f618c9c24749a928e3283bd8b335c9e6da8950aaaa87f4"), looks := false }, kinds := [], alts := [], laidByText := true, laidKinds := [.listed, .data], laidTests := true, laidLooks := .later }
def EnterValuesUptoCardSaid : Prop := Claim7.holds Tryd.pinned (.plain (OpenSpec.upto enterValuesSpec)) enterValuesUptoCard

/-- THE SECOND FORM's CARD OF 'gleaninglaw15.StackPops'. -/
def stackPopsUptoCard : Claim7 := { stood := { row := stackPopsUptoRow, standIns := [], harness := (true, "e16667519d4dff9976f618c9c24749a928e3283bd8b335c9e6da8950aaaa87f4"), looks := false }, kinds := [], alts := [], laidByText := true, laidKinds := [.listed, .data], laidTests := true, laidLooks := .later }
def StackPopsUptoCardSaid : Prop := Claim7.holds Tryd.pinned (.plain (OpenSpec.upto stackPopsSpec)) stackPopsUptoCard

/-- THE SECOND FORM's CARD OF 'gleaninglaw17.EnterLeaves'. -/
def enterLeavesUptoCard : Claim7 := { stood := { row := enterLeavesUptoRow, standIns := [], harness := (true, "e16667519d4dff9976f618c9c24749a928e3283bd8b335c9e6da8950aaaa87f4"), looks := false }, kinds := [], alts := [], laidByText := true, laidKinds := [.listed, .data], laidTests := true, laidLooks := .later }
def EnterLeavesUptoCardSaid : Prop := Claim7.holds Tryd.pinned (.plain (OpenSpec.upto enterLeavesSpec)) enterLeavesUptoCard

/-- THE SECOND FORM's CARD OF 'gleaninglaw15.StackValues'. -/
def stackValuesUptoCard : Claim7 := { stood := { row := stackValuesUptoRow, standIns := [], harness := (true, "e16667519d4dff9976f618c9c24749a928e3283bd8b335c9e6da8950aaaa87f4"), looks := false }, kinds := [], alts := [], laidByText := true, laidKinds := [.listed, .data], laidTests := true, laidLooks := .later }
def StackValuesUptoCardSaid : Prop := Claim7.holds Tryd.pinned (.plain (OpenSpec.upto stackValuesSpec)) stackValuesUptoCard

/-- THE SECOND FORM's CARD OF 'gleaninglaw15.StackPushes'. -/
def stackPushesUptoCard : Claim7 := { stood := { row := stackPushesUptoRow, standIns := [], harness := (true, "e16667519d4dff9976f618c9c24749a928e3283bd8b335c9e6da8950aaaa87f4"), looks := false }, kinds := [], alts := [], laidByText := true, laidKinds := [.listed, .data], laidTests := true, laidLooks := .later }
def StackPushesUptoCardSaid : Prop := Claim7.holds Tryd.pinned (.plain (OpenSpec.upto stackPushesSpec)) stackPushesUptoCard
end Rows
end Go.Proofs.YthmkhcmgpkngmaaDoor
