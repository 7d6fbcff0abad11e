/-
  No cell of these rows narrows 'for every input' (looked for: loops, veiled, ifaces, maps, wideKeys, modest, calm, conditions, laid).
  DERIVED. THE GIVEN ROWS OF THIS SEAT. 3 by the template 'for every input the law returns true; each argument reads behind the call as it read before'; 0 by the template 'total and deterministic' (their statements: YtigjnnedkdmahaaTotals.lean).
  GIVEN WITH THE SEED: the statements are not yours to turn. If you find one false, say at which input.
  Laid BY PROGRAM, IN A SANDBOX (cutbox-rows.mjs): the forced cells as the released guide's own fill.sh prints them over the translation d0ab8093b88b422f… (all of the seat's roots in one cut). By AI agents, Wed Nov 11 2026. No macro, syntax, notation, axiom, sorry.
-/
import Derived.Test.YtigjnnedkdmahaaChecked
import GoSem.Claim
import GoSem.ClaimJoined
import GoSem.ClaimMapViews
import Derived.JoinedTies
import Derived.KernelRfl
namespace Go.Proofs.Ytigjnnedkdmahaa
/- THE CELL 'sum', in the pinned program and in every row, IS THE sha256 OF THE DUMP (.gsa) THAT YtigjnnedkdmahaaProg.lean LOADS. Nothing in Lean hashes anything: it is a label: what it is worth is what the hold of that sum in a sandbox is worth. -/
noncomputable def Try.pinned : Pinned := { name := "ytigjnnedkdmahaa", sum := "d0ab8093b88b422fc838a37238907a33452ac1dbffed0386cb5e8a250c390e7c", checked := Try.checked }
namespace Rows
def none {H : Type} : Left H := { results := [], args := [] }

/-- 'gleaninglaw04.VwordMakes': WHATEVER THE INPUT: true; the input reads as it did. -/
def vwordMakesSpec : ChangeSpec := { name := "vwordMakes", fn := fun _ => fun
  | [d1, d2, d3, d4] => { results := [.lit (.bool true)], args := [d1, d2, d3, d4] }
  | _ => none }
def vwordMakesRow : OpenClaim := { program := "ytigjnnedkdmahaa", sum := "d0ab8093b88b422fc838a37238907a33452ac1dbffed0386cb5e8a250c390e7c", func := "gleaning/gleaninglaw04.VwordMakes", spec := "vwordMakes", unfollowed := true, recurses := true, apart := false }
def VwordMakesSaid : Prop := vwordMakesRow.holds Try.pinned (OpenSpec.ofChange vwordMakesSpec)

/-- ITS FALSE NEIGHBOUR: 'it returns false'. Refute it at one input. -/
def vwordMakesWrong : ChangeSpec := { name := "vwordMakes", fn := fun _ => fun
  | [d1, d2, d3, d4] => { results := [.lit (.bool false)], args := [d1, d2, d3, d4] }
  | _ => none }
def VwordMakesWrongFalsely : Prop := vwordMakesRow.holds Try.pinned (OpenSpec.ofChange vwordMakesWrong)

/-- 'gleaninglaw04.VwordTurns': WHATEVER THE INPUT: true; the input reads as it did. -/
def vwordTurnsSpec : ChangeSpec := { name := "vwordTurns", fn := fun _ => fun
  | [d1, d2] => { results := [.lit (.bool true)], args := [d1, d2] }
  | _ => none }
def vwordTurnsRow : OpenClaim := { program := "ytigjnnedkdmahaa", sum := "d0ab8093b88b422fc838a37238907a33452ac1dbffed0386cb5e8a250c390e7c", func := "gleaning/gleaninglaw04.VwordTurns", spec := "vwordTurns", unfollowed := true, recurses := true, apart := false }
def VwordTurnsSaid : Prop := vwordTurnsRow.holds Try.pinned (OpenSpec.ofChange vwordTurnsSpec)

/-- ITS FALSE NEIGHBOUR: 'it returns false'. Refute it at one input. -/
def vwordTurnsWrong : ChangeSpec := { name := "vwordTurns", fn := fun _ => fun
  | [d1, d2] => { results := [.lit (.bool false)], args := [d1, d2] }
  | _ => none }
def VwordTurnsWrongFalsely : Prop := vwordTurnsRow.holds Try.pinned (OpenSpec.ofChange vwordTurnsWrong)

/-- 'gleaninglaw04.VwordAfter': WHATEVER THE INPUT: true; the input reads as it did. -/
def vwordAfterSpec : ChangeSpec := { name := "vwordAfter", fn := fun _ => fun
  | [d1, d2] => { results := [.lit (.bool true)], args := [d1, d2] }
  | _ => none }
def vwordAfterRow : OpenClaim := { program := "ytigjnnedkdmahaa", sum := "d0ab8093b88b422fc838a37238907a33452ac1dbffed0386cb5e8a250c390e7c", func := "gleaning/gleaninglaw04.VwordAfter", spec := "vwordAfter", unfollowed := true, recurses := true, apart := false }
def VwordAfterSaid : Prop := vwordAfterRow.holds Try.pinned (OpenSpec.ofChange vwordAfterSpec)

/-- ITS FALSE NEIGHBOUR: 'it returns false'. Refute it at one input. -/
def vwordAfterWrong : ChangeSpec := { name := "vwordAfter", fn := fun _ => fun
  | [d1, d2] => { results := [.lit (.bool false)], args := [d1, d2] }
  | _ => none }
def VwordAfterWrongFalsely : Prop := vwordAfterRow.holds Try.pinned (OpenSpec.ofChange vwordAfterWrong)

/- THE SECOND FORM. 'bulk': how many values and letters a reading holds, each counted each time it is reached (what is shared counts as often as it is met; a slice's spare places count too). A statement '..UptoSaid' is the law's where the arguments, and the package variables that the reading takes, are together of bulk at most 1048576: NARROWER than '..Said'. Prove '..Said' where nothing that the law and all that it calls make is longer than what came in: it says more and counts as full. Else prove '..UptoSaid'. A law counts once. -/
mutual
def uptoBulk {H : Type} : DataW H → Nat
  | .lit (.string bytes) => bytes.length + 1
  | .lit _ => 1
  | .nil => 1
  | .ptr d => uptoBulk d + 1
  | .slice elems spare => uptoBulkAll elems + uptoBulkAll spare + 1
  | .agg parts => uptoBulkAll parts + 1
  | .iface _ d => uptoBulk d + 1
  | .map entries => uptoBulkEntries entries + 1
  | .held _ => 1
def uptoBulkAll {H : Type} : List (DataW H) → Nat
  | [] => 0
  | d :: r => uptoBulk d + uptoBulkAll r
def uptoBulkEntries {H : Type} : List (Lit × DataW H) → Nat
  | [] => 0
  | x :: r => uptoBulkEntry x + uptoBulkEntries r
def uptoBulkEntry {H : Type} : Lit × DataW H → Nat
  | (.string bytes, d) => bytes.length + uptoBulk d + 1
  | (_, d) => uptoBulk d + 1
 end
def uptoSmall : (H : Type) → List (DataW H) → Bool := fun _ ds => decide (uptoBulkAll ds ≤ 1048576)
def OpenSpec.upto (s : _root_.Go.ChangeSpec) : _root_.Go.OpenSpec := { _root_.Go.OpenSpec.ofChange s with cond := some uptoSmall }

/-- 'gleaninglaw04.VwordMakes', WHERE WHAT IT READS IS OF BULK AT MOST 1048576: true; the input reads as it did. -/
def vwordMakesUptoRow : OpenClaim := { program := "ytigjnnedkdmahaa", sum := "d0ab8093b88b422fc838a37238907a33452ac1dbffed0386cb5e8a250c390e7c", func := "gleaning/gleaninglaw04.VwordMakes", spec := "vwordMakes", unfollowed := true, recurses := true, apart := false, narrowed := true }
def VwordMakesUptoSaid : Prop := vwordMakesUptoRow.holds Try.pinned (OpenSpec.upto vwordMakesSpec)

/-- 'gleaninglaw04.VwordTurns', WHERE WHAT IT READS IS OF BULK AT MOST 1048576: true; the input reads as it did. -/
def vwordTurnsUptoRow : OpenClaim := { program := "ytigjnnedkdmahaa", sum := "d0ab8093b88b422fc838a37238907a33452ac1dbffed0386cb5e8a250c390e7c", func := "gleaning/gleaninglaw04.VwordTurns", spec := "vwordTurns", unfollowed := true, recurses := true, apart := false, narrowed := true }
def VwordTurnsUptoSaid : Prop := vwordTurnsUptoRow.holds Try.pinned (OpenSpec.upto vwordTurnsSpec)

/-- 'gleaninglaw04.VwordAfter', WHERE WHAT IT READS IS OF BULK AT MOST 1048576: true; the input reads as it did. -/
def vwordAfterUptoRow : OpenClaim := { program := "ytigjnnedkdmahaa", sum := "d0ab8093b88b422fc838a37238907a33452ac1dbffed0386cb5e8a250c390e7c", func := "gleaning/gleaninglaw04.VwordAfter", spec := "vwordAfter", unfollowed := true, recurses := true, apart := false, narrowed := true }
def VwordAfterUptoSaid : Prop := vwordAfterUptoRow.holds Try.pinned (OpenSpec.upto vwordAfterSpec)

end Rows
end Go.Proofs.Ytigjnnedkdmahaa
