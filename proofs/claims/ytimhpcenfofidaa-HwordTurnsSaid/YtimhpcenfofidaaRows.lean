/-
  No cell of these rows narrows 'for every input' (looked for: loops, veiled, ifaces, maps, wideKeys, modest, calm, conditions, laid).
  DERIVED. THE GIVEN ROWS OF THIS SEAT. 2 by the template 'for every input the law returns true; each argument reads behind the call as it read before'; 0 by the template 'total and deterministic' (their statements: YtimhpcenfofidaaTotals.lean).
  GIVEN WITH THE SEED: the statements are not yours to turn. If you find one false, say at which input.
  Laid BY PROGRAM, IN A SANDBOX (cutbox-rows.mjs): the forced cells as the released guide's own fill.sh prints them over the translation 1deb6d90364b0137… (all of the seat's roots in one cut). By AI agents, Wed Nov 11 2026. No macro, syntax, notation, axiom, sorry.
-/
import Derived.Test.YtimhpcenfofidaaChecked
import GoSem.Claim
import GoSem.ClaimJoined
import GoSem.ClaimMapViews
import Derived.JoinedTies
import Derived.KernelRfl
namespace Go.Proofs.Ytimhpcenfofidaa
/- THE CELL 'sum', in the pinned program and in every row, IS THE sha256 OF THE DUMP (.gsa) THAT YtimhpcenfofidaaProg.lean LOADS. Nothing in Lean hashes anything: it is a label: what it is worth is what the hold of that sum in a sandbox is worth. -/
noncomputable def Try.pinned : Pinned := { name := "ytimhpcenfofidaa", sum := "1deb6d90364b013720664707d3c5e7eee19b44fecf0725ce2fe9942c476d5b7d", checked := Try.checked }
namespace Rows
def none {H : Type} : Left H := { results := [], args := [] }

/-- 'gleaninglaw06.HwordMakes': WHATEVER THE INPUT: true; the input reads as it did. -/
def hwordMakesSpec : ChangeSpec := { name := "hwordMakes", fn := fun _ => fun
  | [d1, d2, d3] => { results := [.lit (.bool true)], args := [d1, d2, d3] }
  | _ => none }
def hwordMakesRow : OpenClaim := { program := "ytimhpcenfofidaa", sum := "1deb6d90364b013720664707d3c5e7eee19b44fecf0725ce2fe9942c476d5b7d", func := "gleaning/gleaninglaw06.HwordMakes", spec := "hwordMakes", apart := false }
def HwordMakesSaid : Prop := hwordMakesRow.holds Try.pinned (OpenSpec.ofChange hwordMakesSpec)

/-- ITS FALSE NEIGHBOUR: 'it returns false'. Refute it at one input. -/
def hwordMakesWrong : ChangeSpec := { name := "hwordMakes", fn := fun _ => fun
  | [d1, d2, d3] => { results := [.lit (.bool false)], args := [d1, d2, d3] }
  | _ => none }
def HwordMakesWrongFalsely : Prop := hwordMakesRow.holds Try.pinned (OpenSpec.ofChange hwordMakesWrong)

/-- 'gleaninglaw06.HwordTurns': WHATEVER THE INPUT: true; the input reads as it did. -/
def hwordTurnsSpec : ChangeSpec := { name := "hwordTurns", fn := fun _ => fun
  | [d1, d2] => { results := [.lit (.bool true)], args := [d1, d2] }
  | _ => none }
def hwordTurnsRow : OpenClaim := { program := "ytimhpcenfofidaa", sum := "1deb6d90364b013720664707d3c5e7eee19b44fecf0725ce2fe9942c476d5b7d", func := "gleaning/gleaninglaw06.HwordTurns", spec := "hwordTurns", unfollowed := true, recurses := true, apart := false }
def HwordTurnsSaid : Prop := hwordTurnsRow.holds Try.pinned (OpenSpec.ofChange hwordTurnsSpec)

/-- ITS FALSE NEIGHBOUR: 'it returns false'. Refute it at one input. -/
def hwordTurnsWrong : ChangeSpec := { name := "hwordTurns", fn := fun _ => fun
  | [d1, d2] => { results := [.lit (.bool false)], args := [d1, d2] }
  | _ => none }
def HwordTurnsWrongFalsely : Prop := hwordTurnsRow.holds Try.pinned (OpenSpec.ofChange hwordTurnsWrong)

/- THE SECOND FORM. 'bulk': how many values and letters a reading holds, each counted each time it is reached (what is shared counts as often as it is met; a slice's spare places count too). A statement '..UptoSaid' is the law's where the arguments, and the package variables that the reading takes, are together of bulk at most 1048576: NARROWER than '..Said'. Prove '..Said' where nothing that the law and all that it calls make is longer than what came in: it says more and counts as full. Else prove '..UptoSaid'. A law counts once. -/
mutual
def uptoBulk {H : Type} : DataW H → Nat
  | .lit (.string bytes) => bytes.length + 1
  | .lit _ => 1
  | .nil => 1
  | .ptr d => uptoBulk d + 1
  | .slice elems spare => uptoBulkAll elems + uptoBulkAll spare + 1
  | .agg parts => uptoBulkAll parts + 1
  | .iface _ d => uptoBulk d + 1
  | .map entries => uptoBulkEntries entries + 1
  | .held _ => 1
def uptoBulkAll {H : Type} : List (DataW H) → Nat
  | [] => 0
  | d :: r => uptoBulk d + uptoBulkAll r
def uptoBulkEntries {H : Type} : List (Lit × DataW H) → Nat
  | [] => 0
  | x :: r => uptoBulkEntry x + uptoBulkEntries r
def uptoBulkEntry {H : Type} : Lit × DataW H → Nat
  | (.string bytes, d) => bytes.length + uptoBulk d + 1
  | (_, d) => uptoBulk d + 1
 end
def uptoSmall : (H : Type) → List (DataW H) → Bool := fun _ ds => decide (uptoBulkAll ds ≤ 1048576)
def OpenSpec.upto (s : _root_.Go.ChangeSpec) : _root_.Go.OpenSpec := { _root_.Go.OpenSpec.ofChange s with cond := some uptoSmall }

/-- 'gleaninglaw06.HwordMakes', WHERE WHAT IT READS IS OF BULK AT MOST 1048576: true; the input reads as it did. -/
def hwordMakesUptoRow : OpenClaim := { program := "ytimhpcenfofidaa", sum := "1deb6d90364b013720664707d3c5e7eee19b44fecf0725ce2fe9942c476d5b7d", func := "gleaning/gleaninglaw06.HwordMakes", spec := "hwordMakes", apart := false, narrowed := true }
def HwordMakesUptoSaid : Prop := hwordMakesUptoRow.holds Try.pinned (OpenSpec.upto hwordMakesSpec)

/-- 'gleaninglaw06.HwordTurns', WHERE WHAT IT READS IS OF BULK AT MOST 1048576: true; the input reads as it did. -/
def hwordTurnsUptoRow : OpenClaim := { program := "ytimhpcenfofidaa", sum := "1deb6d90364b013720664707d3c5e7eee19b44fecf0725ce2fe9942c476d5b7d", func := "gleaning/gleaninglaw06.HwordTurns", spec := "hwordTurns", unfollowed := true, recurses := true, apart := false, narrowed := true }
def HwordTurnsUptoSaid : Prop := hwordTurnsUptoRow.holds Try.pinned (OpenSpec.upto hwordTurnsSpec)

end Rows
end Go.Proofs.Ytimhpcenfofidaa
