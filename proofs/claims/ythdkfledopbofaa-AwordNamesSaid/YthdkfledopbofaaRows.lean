/-
  No cell of these rows narrows 'for every input' (looked for: loops, veiled, ifaces, maps, wideKeys, modest, calm, conditions, laid).
  DERIVED. THE GIVEN ROWS OF THIS SEAT. 4 by the template 'for every input the law returns true; each argument reads behind the call as it read before'; 0 by the template 'total and deterministic' (their statements: YthdkfledopbofaaTotals.lean).
  GIVEN WITH THE SEED: the statements are not yours to turn. If you find one false, say at which input.
  Laid BY PROGRAM, IN A SANDBOX (cutbox-rows.mjs): the forced cells as the released guide's own fill.sh prints them over the translation 2fd4f7c2c8261aa3… (all of the seat's roots in one cut). By AI agents, Wed Nov 11 2026. No macro, syntax, notation, axiom, sorry.
-/
import Derived.Test.YthdkfledopbofaaChecked
import GoSem.Claim
import GoSem.ClaimJoined
import GoSem.ClaimMapViews
import Derived.JoinedTies
import Derived.KernelRfl
namespace Go.Proofs.Ythdkfledopbofaa
/- THE CELL 'sum', in the pinned program and in every row, IS THE sha256 OF THE DUMP (.gsa) THAT YthdkfledopbofaaProg.lean LOADS. Nothing in Lean hashes anything: it is a label: what it is worth is what the hold of that sum in a sandbox is worth. -/
noncomputable def Try.pinned : Pinned := { name := "ythdkfledopbofaa", sum := "2fd4f7c2c8261aa3c701bf40f6292331c3aba76d07043465c6e22942e3259e44", checked := Try.checked }
namespace Rows
def none {H : Type} : Left H := { results := [], args := [] }

/-- 'gleaninglaw05.AwordStalls': WHATEVER THE INPUT: true; the input reads as it did. -/
def awordStallsSpec : ChangeSpec := { name := "awordStalls", fn := fun _ => fun
  | [d1, d2, d3] => { results := [.lit (.bool true)], args := [d1, d2, d3] }
  | _ => none }
def awordStallsRow : OpenClaim := { program := "ythdkfledopbofaa", sum := "2fd4f7c2c8261aa3c701bf40f6292331c3aba76d07043465c6e22942e3259e44", func := "gleaning/gleaninglaw05.AwordStalls", spec := "awordStalls", apart := false }
def AwordStallsSaid : Prop := awordStallsRow.holds Try.pinned (OpenSpec.ofChange awordStallsSpec)

/-- ITS FALSE NEIGHBOUR: 'it returns false'. Refute it at one input. -/
def awordStallsWrong : ChangeSpec := { name := "awordStalls", fn := fun _ => fun
  | [d1, d2, d3] => { results := [.lit (.bool false)], args := [d1, d2, d3] }
  | _ => none }
def AwordStallsWrongFalsely : Prop := awordStallsRow.holds Try.pinned (OpenSpec.ofChange awordStallsWrong)

/-- 'gleaninglaw05.AwordNames': WHATEVER THE INPUT: true; the input reads as it did. -/
def awordNamesSpec : ChangeSpec := { name := "awordNames", fn := fun _ => fun
  | [d] => { results := [.lit (.bool true)], args := [d] }
  | _ => none }
def awordNamesRow : OpenClaim := { program := "ythdkfledopbofaa", sum := "2fd4f7c2c8261aa3c701bf40f6292331c3aba76d07043465c6e22942e3259e44", func := "gleaning/gleaninglaw05.AwordNames", spec := "awordNames", apart := false }
def AwordNamesSaid : Prop := awordNamesRow.holds Try.pinned (OpenSpec.ofChange awordNamesSpec)

/-- ITS FALSE NEIGHBOUR: 'it returns false'. Refute it at one input. -/
def awordNamesWrong : ChangeSpec := { name := "awordNames", fn := fun _ => fun
  | [d] => { results := [.lit (.bool false)], args := [d] }
  | _ => none }
def AwordNamesWrongFalsely : Prop := awordNamesRow.holds Try.pinned (OpenSpec.ofChange awordNamesWrong)

/-- 'gleaninglaw05.AwordMakes': WHATEVER THE INPUT: true; the input reads as it did. -/
def awordMakesSpec : ChangeSpec := { name := "awordMakes", fn := fun _ => fun
  | [d1, d2, d3, d4] => { results := [.lit (.bool true)], args := [d1, d2, d3, d4] }
  | _ => none }
def awordMakesRow : OpenClaim := { program := "ythdkfledopbofaa", sum := "2fd4f7c2c8261aa3c701bf40f6292331c3aba76d07043465c6e22942e3259e44", func := "gleaning/gleaninglaw05.AwordMakes", spec := "awordMakes", apart := false }
def AwordMakesSaid : Prop := awordMakesRow.holds Try.pinned (OpenSpec.ofChange awordMakesSpec)

/-- ITS FALSE NEIGHBOUR: 'it returns false'. Refute it at one input. -/
def awordMakesWrong : ChangeSpec := { name := "awordMakes", fn := fun _ => fun
  | [d1, d2, d3, d4] => { results := [.lit (.bool false)], args := [d1, d2, d3, d4] }
  | _ => none }
def AwordMakesWrongFalsely : Prop := awordMakesRow.holds Try.pinned (OpenSpec.ofChange awordMakesWrong)

/-- 'gleaninglaw05.AwordBlocks': WHATEVER THE INPUT: true; the input reads as it did. -/
def awordBlocksSpec : ChangeSpec := { name := "awordBlocks", fn := fun _ => fun
  | [d1, d2] => { results := [.lit (.bool true)], args := [d1, d2] }
  | _ => none }
def awordBlocksRow : OpenClaim := { program := "ythdkfledopbofaa", sum := "2fd4f7c2c8261aa3c701bf40f6292331c3aba76d07043465c6e22942e3259e44", func := "gleaning/gleaninglaw05.AwordBlocks", spec := "awordBlocks", apart := false }
def AwordBlocksSaid : Prop := awordBlocksRow.holds Try.pinned (OpenSpec.ofChange awordBlocksSpec)

/-- ITS FALSE NEIGHBOUR: 'it returns false'. Refute it at one input. -/
def awordBlocksWrong : ChangeSpec := { name := "awordBlocks", fn := fun _ => fun
  | [d1, d2] => { results := [.lit (.bool false)], args := [d1, d2] }
  | _ => none }
def AwordBlocksWrongFalsely : Prop := awordBlocksRow.holds Try.pinned (OpenSpec.ofChange awordBlocksWrong)

/- THE SECOND FORM. 'bulk': how many values and letters a reading holds, each counted each time it is reached (what is shared counts as often as it is met; a slice's spare places count too). A statement '..UptoSaid' is the law's where the arguments, and the package variables that the reading takes, are together of bulk at most 1048576: NARROWER than '..Said'. Prove '..Said' where nothing that the law and all that it calls make is longer than what came in: it says more and counts as full. Else prove '..UptoSaid'. A law counts once. -/
mutual
def uptoBulk {H : Type} : DataW H → Nat
  | .lit (.string bytes) => bytes.length + 1
  | .lit _ => 1
  | .nil => 1
  | .ptr d => uptoBulk d + 1
  | .slice elems spare => uptoBulkAll elems + uptoBulkAll spare + 1
  | .agg parts => uptoBulkAll parts + 1
  | .iface _ d => uptoBulk d + 1
  | .map entries => uptoBulkEntries entries + 1
  | .held _ => 1
def uptoBulkAll {H : Type} : List (DataW H) → Nat
  | [] => 0
  | d :: r => uptoBulk d + uptoBulkAll r
def uptoBulkEntries {H : Type} : List (Lit × DataW H) → Nat
  | [] => 0
  | x :: r => uptoBulkEntry x + uptoBulkEntries r
def uptoBulkEntry {H : Type} : Lit × DataW H → Nat
  | (.string bytes, d) => bytes.length + uptoBulk d + 1
  | (_, d) => uptoBulk d + 1
 end
def uptoSmall : (H : Type) → List (DataW H) → Bool := fun _ ds => decide (uptoBulkAll ds ≤ 1048576)
def OpenSpec.upto (s : _root_.Go.ChangeSpec) : _root_.Go.OpenSpec := { _root_.Go.OpenSpec.ofChange s with cond := some uptoSmall }

/-- 'gleaninglaw05.AwordStalls', WHERE WHAT IT READS IS OF BULK AT MOST 1048576: true; the input reads as it did. -/
def awordStallsUptoRow : OpenClaim := { program := "ythdkfledopbofaa", sum := "2fd4f7c2c8261aa3c701bf40f6292331c3aba76d07043465c6e22942e3259e44", func := "gleaning/gleaninglaw05.AwordStalls", spec := "awordStalls", apart := false, narrowed := true }
def AwordStallsUptoSaid : Prop := awordStallsUptoRow.holds Try.pinned (OpenSpec.upto awordStallsSpec)

/-- 'gleaninglaw05.AwordNames', WHERE WHAT IT READS IS OF BULK AT MOST 1048576: true; the input reads as it did. -/
def awordNamesUptoRow : OpenClaim := { program := "ythdkfledopbofaa", sum := "2fd4f7c2c8261aa3c701bf40f6292331c3aba76d07043465c6e22942e3259e44", func := "gleaning/gleaninglaw05.AwordNames", spec := "awordNames", apart := false, narrowed := true }
def AwordNamesUptoSaid : Prop := awordNamesUptoRow.holds Try.pinned (OpenSpec.upto awordNamesSpec)

/-- 'gleaninglaw05.AwordMakes', WHERE WHAT IT READS IS OF BULK AT MOST 1048576: true; the input reads as it did. -/
def awordMakesUptoRow : OpenClaim := { program := "ythdkfledopbofaa", sum := "2fd4f7c2c8261aa3c701bf40f6292331c3aba76d07043465c6e22942e3259e44", func := "gleaning/gleaninglaw05.AwordMakes", spec := "awordMakes", apart := false, narrowed := true }
def AwordMakesUptoSaid : Prop := awordMakesUptoRow.holds Try.pinned (OpenSpec.upto awordMakesSpec)

/-- 'gleaninglaw05.AwordBlocks', WHERE WHAT IT READS IS OF BULK AT MOST 1048576: true; the input reads as it did. -/
def awordBlocksUptoRow : OpenClaim := { program := "ythdkfledopbofaa", sum := "2fd4f7c2c8261aa3c701bf40f6292331c3aba76d07043465c6e22942e3259e44", func := "gleaning/gleaninglaw05.AwordBlocks", spec := "awordBlocks", apart := false, narrowed := true }
def AwordBlocksUptoSaid : Prop := awordBlocksUptoRow.holds Try.pinned (OpenSpec.upto awordBlocksSpec)

end Rows
end Go.Proofs.Ythdkfledopbofaa
