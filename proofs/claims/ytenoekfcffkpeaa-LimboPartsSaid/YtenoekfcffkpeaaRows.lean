/-
  No cell of these rows narrows 'for every input' (looked for: loops, veiled, ifaces, maps, wideKeys, modest, calm, conditions, laid).
  DERIVED. THE GIVEN ROWS OF THIS SEAT. 4 by the template 'for every input the law returns true; each argument reads behind the call as it read before'; 0 by the template 'total and deterministic' (their statements: YtenoekfcffkpeaaTotals.lean).
  GIVEN WITH THE SEED: the statements are not yours to turn. If you find one false, say at which input.
  Laid BY PROGRAM, IN A SANDBOX (cutbox-rows.mjs): the forced cells as the released guide's own fill.sh prints them over the translation f57394508bd88b92… (all of the seat's roots in one cut). By AI agents, Wed Nov 11 2026. No macro, syntax, notation, axiom, sorry.
-/
import Derived.Test.YtenoekfcffkpeaaChecked
import GoSem.Claim
import GoSem.ClaimJoined
import GoSem.ClaimMapViews
import Derived.JoinedTies
import Derived.KernelRfl
namespace Go.Proofs.Ytenoekfcffkpeaa
/- THE CELL 'sum', in the pinned program and in every row, IS THE sha256 OF THE DUMP (.gsa) THAT YtenoekfcffkpeaaProg.lean LOADS. Nothing in Lean hashes anything: it is a label: what it is worth is what the hold of that sum in a sandbox is worth. -/
noncomputable def Try.pinned : Pinned := { name := "ytenoekfcffkpeaa", sum := "f57394508bd88b923e12200e21c921bb26ee879d2d6f23a7b4f349f7a999ea98", checked := Try.checked }
namespace Rows
def none {H : Type} : Left H := { results := [], args := [] }

/-- 'gleaninglaw16.LimboBags': WHATEVER THE INPUT: true; the input reads as it did. -/
def limboBagsSpec : ChangeSpec := { name := "limboBags", fn := fun _ => fun
  | [d] => { results := [.lit (.bool true)], args := [d] }
  | _ => none }
def limboBagsRow : OpenClaim := { program := "ytenoekfcffkpeaa", sum := "f57394508bd88b923e12200e21c921bb26ee879d2d6f23a7b4f349f7a999ea98", func := "gleaning/gleaninglaw16.LimboBags", spec := "limboBags", apart := false }
def LimboBagsSaid : Prop := limboBagsRow.holds Try.pinned (OpenSpec.ofChange limboBagsSpec)

/-- ITS FALSE NEIGHBOUR: 'it returns false'. Refute it at one input. -/
def limboBagsWrong : ChangeSpec := { name := "limboBags", fn := fun _ => fun
  | [d] => { results := [.lit (.bool false)], args := [d] }
  | _ => none }
def LimboBagsWrongFalsely : Prop := limboBagsRow.holds Try.pinned (OpenSpec.ofChange limboBagsWrong)

/-- 'gleaninglaw16.LimboStays': WHATEVER THE INPUT: true; the input reads as it did. -/
def limboStaysSpec : ChangeSpec := { name := "limboStays", fn := fun _ => fun
  | [d1, d2, d3] => { results := [.lit (.bool true)], args := [d1, d2, d3] }
  | _ => none }
def limboStaysRow : OpenClaim := { program := "ytenoekfcffkpeaa", sum := "f57394508bd88b923e12200e21c921bb26ee879d2d6f23a7b4f349f7a999ea98", func := "gleaning/gleaninglaw16.LimboStays", spec := "limboStays", apart := false }
def LimboStaysSaid : Prop := limboStaysRow.holds Try.pinned (OpenSpec.ofChange limboStaysSpec)

/-- ITS FALSE NEIGHBOUR: 'it returns false'. Refute it at one input. -/
def limboStaysWrong : ChangeSpec := { name := "limboStays", fn := fun _ => fun
  | [d1, d2, d3] => { results := [.lit (.bool false)], args := [d1, d2, d3] }
  | _ => none }
def LimboStaysWrongFalsely : Prop := limboStaysRow.holds Try.pinned (OpenSpec.ofChange limboStaysWrong)

/-- 'gleaninglaw16.LimboCovers': WHATEVER THE INPUT: true; the input reads as it did. -/
def limboCoversSpec : ChangeSpec := { name := "limboCovers", fn := fun _ => fun
  | [d1, d2] => { results := [.lit (.bool true)], args := [d1, d2] }
  | _ => none }
def limboCoversRow : OpenClaim := { program := "ytenoekfcffkpeaa", sum := "f57394508bd88b923e12200e21c921bb26ee879d2d6f23a7b4f349f7a999ea98", func := "gleaning/gleaninglaw16.LimboCovers", spec := "limboCovers", unfollowed := true, recurses := true, apart := false }
def LimboCoversSaid : Prop := limboCoversRow.holds Try.pinned (OpenSpec.ofChange limboCoversSpec)

/-- ITS FALSE NEIGHBOUR: 'it returns false'. Refute it at one input. -/
def limboCoversWrong : ChangeSpec := { name := "limboCovers", fn := fun _ => fun
  | [d1, d2] => { results := [.lit (.bool false)], args := [d1, d2] }
  | _ => none }
def LimboCoversWrongFalsely : Prop := limboCoversRow.holds Try.pinned (OpenSpec.ofChange limboCoversWrong)

/-- 'gleaninglaw16.LimboParts': WHATEVER THE INPUT: true; the input reads as it did. -/
def limboPartsSpec : ChangeSpec := { name := "limboParts", fn := fun _ => fun
  | [d1, d2, d3, d4] => { results := [.lit (.bool true)], args := [d1, d2, d3, d4] }
  | _ => none }
def limboPartsRow : OpenClaim := { program := "ytenoekfcffkpeaa", sum := "f57394508bd88b923e12200e21c921bb26ee879d2d6f23a7b4f349f7a999ea98", func := "gleaning/gleaninglaw16.LimboParts", spec := "limboParts", unfollowed := true, recurses := true, apart := false }
def LimboPartsSaid : Prop := limboPartsRow.holds Try.pinned (OpenSpec.ofChange limboPartsSpec)

/-- ITS FALSE NEIGHBOUR: 'it returns false'. Refute it at one input. -/
def limboPartsWrong : ChangeSpec := { name := "limboParts", fn := fun _ => fun
  | [d1, d2, d3, d4] => { results := [.lit (.bool false)], args := [d1, d2, d3, d4] }
  | _ => none }
def LimboPartsWrongFalsely : Prop := limboPartsRow.holds Try.pinned (OpenSpec.ofChange limboPartsWrong)

/- THE SECOND FORM. 'bulk': how many values and letters a reading holds, each counted each time it is reached (what is shared counts as often as it is met; a slice's spare places count too). A statement '..UptoSaid' is the law's where the arguments, and the package variables that the reading takes, are together of bulk at most 1048576: NARROWER than '..Said'. Prove '..Said' where nothing that the law and all that it calls make is longer than what came in: it says more and counts as full. Else prove '..UptoSaid'. A law counts once. -/
mutual
def uptoBulk {H : Type} : DataW H → Nat
  | .lit (.string bytes) => bytes.length + 1
  | .lit _ => 1
  | .nil => 1
  | .ptr d => uptoBulk d + 1
  | .slice elems spare => uptoBulkAll elems + uptoBulkAll spare + 1
  | .agg parts => uptoBulkAll parts + 1
  | .iface _ d => uptoBulk d + 1
  | .map entries => uptoBulkEntries entries + 1
  | .held _ => 1
def uptoBulkAll {H : Type} : List (DataW H) → Nat
  | [] => 0
  | d :: r => uptoBulk d + uptoBulkAll r
def uptoBulkEntries {H : Type} : List (Lit × DataW H) → Nat
  | [] => 0
  | x :: r => uptoBulkEntry x + uptoBulkEntries r
def uptoBulkEntry {H : Type} : Lit × DataW H → Nat
  | (.string bytes, d) => bytes.length + uptoBulk d + 1
  | (_, d) => uptoBulk d + 1
 end
def uptoSmall : (H : Type) → List (DataW H) → Bool := fun _ ds => decide (uptoBulkAll ds ≤ 1048576)
def OpenSpec.upto (s : _root_.Go.ChangeSpec) : _root_.Go.OpenSpec := { _root_.Go.OpenSpec.ofChange s with cond := some uptoSmall }

/-- 'gleaninglaw16.LimboBags', WHERE WHAT IT READS IS OF BULK AT MOST 1048576: true; the input reads as it did. -/
def limboBagsUptoRow : OpenClaim := { program := "ytenoekfcffkpeaa", sum := "f57394508bd88b923e12200e21c921bb26ee879d2d6f23a7b4f349f7a999ea98", func := "gleaning/gleaninglaw16.LimboBags", spec := "limboBags", apart := false, narrowed := true }
def LimboBagsUptoSaid : Prop := limboBagsUptoRow.holds Try.pinned (OpenSpec.upto limboBagsSpec)

/-- 'gleaninglaw16.LimboStays', WHERE WHAT IT READS IS OF BULK AT MOST 1048576: true; the input reads as it did. -/
def limboStaysUptoRow : OpenClaim := { program := "ytenoekfcffkpeaa", sum := "f57394508bd88b923e12200e21c921bb26ee879d2d6f23a7b4f349f7a999ea98", func := "gleaning/gleaninglaw16.LimboStays", spec := "limboStays", apart := false, narrowed := true }
def LimboStaysUptoSaid : Prop := limboStaysUptoRow.holds Try.pinned (OpenSpec.upto limboStaysSpec)

/-- 'gleaninglaw16.LimboCovers', WHERE WHAT IT READS IS OF BULK AT MOST 1048576: true; the input reads as it did. -/
def limboCoversUptoRow : OpenClaim := { program := "ytenoekfcffkpeaa", sum := "f57394508bd88b923e12200e21c921bb26ee879d2d6f23a7b4f349f7a999ea98", func := "gleaning/gleaninglaw16.LimboCovers", spec := "limboCovers", unfollowed := true, recurses := true, apart := false, narrowed := true }
def LimboCoversUptoSaid : Prop := limboCoversUptoRow.holds Try.pinned (OpenSpec.upto limboCoversSpec)

/-- 'gleaninglaw16.LimboParts', WHERE WHAT IT READS IS OF BULK AT MOST 1048576: true; the input reads as it did. -/
def limboPartsUptoRow : OpenClaim := { program := "ytenoekfcffkpeaa", sum := "f57394508bd88b923e12200e21c921bb26ee879d2d6f23a7b4f349f7a999ea98", func := "gleaning/gleaninglaw16.LimboParts", spec := "limboParts", unfollowed := true, recurses := true, apart := false, narrowed := true }
def LimboPartsUptoSaid : Prop := limboPartsUptoRow.holds Try.pinned (OpenSpec.upto limboPartsSpec)

end Rows
end Go.Proofs.Ytenoekfcffkpeaa
