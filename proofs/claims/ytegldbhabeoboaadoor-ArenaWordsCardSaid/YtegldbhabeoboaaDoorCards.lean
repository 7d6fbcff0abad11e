/-
  DERIVED. GIVEN WITH THE SEED: THE CARDS: each row of YtegldbhabeoboaaDoorRows.lean that lists a variable, with what it lists TIED to the program's text (the seventh form; the later family's looks); each row that meets fmt, with fmt's text TOLD by the authors' own Lean function (tested against real Go, not proved from fmt's source: count such statements apart). THE CARD IS WHAT COUNTS. Prove the row's statement (the work); the ties are given (YtegldbhabeoboaaDoorTie.lean); close each card by the builder's one call (the guide's Derived/Test/ToyasCard.lean, 'card_holds'). Laid BY PROGRAM, IN A SANDBOX (cutbox-door.mjs). By AI agents, Wed Nov 11 2026. No macro, syntax, notation, axiom, sorry.
-/
import Derived.Test.YtegldbhabeoboaaDoorRows
import GoSem.ClaimSeven
namespace Go.Proofs.YtegldbhabeoboaaDoor
namespace Rows

/-- THE TIED CARD OF 'gleaninglaw10.ArenaTells'. -/
def arenaTellsCard : Claim7 := { stood := { row := arenaTellsRow, standIns := [], harness := (true, "c18f533a5d3b2f704935f83bc6f759a4fb9f5eb82668bc03114aedf0afb0d6ee"), looks := false }, kinds := [], alts := [], laidByText := true, laidKinds := [.listed, .data], laidTests := true, laidLooks := .later }
def ArenaTellsCardSaid : Prop := Claim7.holds Tryd.pinned (.plain (OpenSpec.ofChange arenaTellsSpec)) arenaTellsCard

/-- THE TIED CARD OF 'gleaninglaw10.ArenaBegins'. -/
def arenaBeginsCard : Claim7 := { stood := { row := arenaBeginsRow, standIns := [], harness := (true, "c18f533a5d3b2f704935f83bc6f759a4fb9f5eb82668bc03114aedf0afb0d6ee"), looks := false }, kinds := [], alts := [], laidByText := true, laidKinds := [.listed, .data], laidTests := true, laidLooks := .later }
def ArenaBeginsCardSaid : Prop := Claim7.holds Tryd.pinned (.plain (OpenSpec.ofChange arenaBeginsSpec)) arenaBeginsCard

/-- THE TIED CARD OF 'gleaninglaw10.ArenaNobody'. -/
def arenaNobodyCard : Claim7 := { stood := { row := arenaNobodyRow, standIns := [], harness := (true, "c18f533a5d3b2f704935f83bc6f759a4fb9f5eb82668bc03114aedf0afb0d6ee"), looks := false }, kinds := [], alts := [], laidByText := true, laidKinds := [.listed, .data], laidTests := true, laidLooks := .later }
def ArenaNobodyCardSaid : Prop := Claim7.holds Tryd.pinned (.plain (OpenSpec.ofChange arenaNobodySpec)) arenaNobodyCard

/-- THE TIED CARD OF 'gleaninglaw10.ArenaWords'. -/
def arenaWordsCard : Claim7 := { stood := { row := arenaWordsRow, standIns := [], harness := (true, "c18f533a5d3b2f704935f83bc6f759a4fb9f5eb82668bc03114aedf0afb0d6ee"), looks := false }, kinds := [], alts := [], laidByText := true, laidKinds := [.listed, .data], laidTests := true, laidLooks := .later }
def ArenaWordsCardSaid : Prop := Claim7.holds Tryd.pinned (.plain (OpenSpec.ofChange arenaWordsSpec)) arenaWordsCard

/-- THE TIED CARD OF 'gleaninglaw10.ArenaFits'. -/
def arenaFitsCard : Claim7 := { stood := { row := arenaFitsRow, standIns := [], harness := (true, "c18f533a5d3b2f704935f83bc6f759a4fb9f5eb82668bc03114aedf0afb0d6ee"), looks := false }, kinds := [], alts := [], laidByText := true, laidKinds := [.listed, .data], laidTests := true, laidLooks := .later }
def ArenaFitsCardSaid : Prop := Claim7.holds Tryd.pinned (.plain (OpenSpec.ofChange arenaFitsSpec)) arenaFitsCard

/-- THE SECOND FORM's CARD OF 'gleaninglaw10.ArenaTells'. -/
def arenaTellsUptoCard : Claim7 := { stood := { row := arenaTellsUptoRow, standIns := [], harness := (true, "c18f533a5d3b2f704935f83bc6f759a4fb9f5eb82668bc03114aedf0afb0d6ee"), looks := false }, kinds := [], alts := [], laidByText := true, laidKinds := [.listed, .data], laidTests := true, laidLooks := .later }
def ArenaTellsUptoCardSaid : Prop := Claim7.holds Tryd.pinned (.plain (OpenSpec.upto arenaTellsSpec)) arenaTellsUptoCard

/-- THE SECOND FORM's CARD OF 'gleaninglaw10.ArenaBegins'. -/
def arenaBeginsUptoCard : Claim7 := { stood := { row := arenaBeginsUptoRow, standIns := [], harness := (true, "c18f533a5d3b2f704935f83bc6f759a4fb9f5eb82668bc03114aedf0afb0d6ee"), looks := false }, kinds := [], alts := [], laidByText := true, laidKinds := [.listed, .data], laidTests := true, laidLooks := .later }
def ArenaBeginsUptoCardSaid : Prop := Claim7.holds Tryd.pinned (.plain (OpenSpec.upto arenaBeginsSpec)) arenaBeginsUptoCard

/-- THE SECOND FORM's CARD OF 'gleaninglaw10.ArenaNobody'. -/
def arenaNobodyUptoCard : Claim7 := { stood := { row := arenaNobodyUptoRow, standIns := [], harness := (true, "c18f533a5d3b2f704935f83bc6f759a4fb9f5eb82668bc03114aedf0afb0d6ee"), looks := false }, kinds := [], alts := [], laidByText := true, laidKinds := [.listed, .data], laidTests := true, laidLooks := .later }
def ArenaNobodyUptoCardSaid : Prop := Claim7.holds Tryd.pinned (.plain (OpenSpec.upto arenaNobodySpec)) arenaNobodyUptoCard

/-- THE SECOND FORM's CARD OF 'gleaninglaw10.ArenaWords'. -/
def arenaWordsUptoCard : Claim7 := { stood := { row := arenaWordsUptoRow, standIns := [], harness := (true, "c18f533a5d3b2f704935f83bc6f759a4fb9f5eb82668bc03114aedf0afb0d6ee"), looks := false }, kinds := [], alts := [], laidByText := true, laidKinds := [.listed, .data], laidTests := true, laidLooks := .later }
def ArenaWordsUptoCardSaid : Prop := Claim7.holds Tryd.pinned (.plain (OpenSpec.upto arenaWordsSpec)) arenaWordsUptoCard

/-- THE SECOND FORM's CARD OF 'gleaninglaw10.ArenaFits'. -/
def arenaFitsUptoCard : Claim7 := { stood := { row := arenaFitsUptoRow, standIns := [], harness := (true, "c18f533a5d3b2f704935f83bc6f759a4fb9f5eb82668bc03114aedf0afb0d6ee"), looks := false }, kinds := [], alts := [], laidByText := true, laidKinds := [.listed, .data], laidTests := true, laidLooks := .later }
def ArenaFitsUptoCardSaid : Prop := Claim7.holds Tryd.pinned (.plain (OpenSpec.upto arenaFitsSpec)) arenaFitsUptoCard
end Rows
end Go.Proofs.YtegldbhabeoboaaDoor
