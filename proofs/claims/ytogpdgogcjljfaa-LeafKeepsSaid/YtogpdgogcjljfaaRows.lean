/-
  No cell of these rows narrows 'for every input' (looked for: loops, veiled, ifaces, maps, wideKeys, modest, calm, conditions, laid).
  DERIVED. THE GIVEN ROWS OF THIS SEAT. 5 by the template 'for every input the law returns true; each argument reads behind the call as it read before'; 0 by the template 'total and deterministic' (their statements: YtogpdgogcjljfaaTotals.lean).
  GIVEN WITH THE SEED: the statements are not yours to turn. If you find one false, say at which input.
  Laid BY PROGRAM, IN A SANDBOX (cutbox-rows.mjs): the forced cells as the released guide's own fill.sh prints them over the translation 868973be6dda9591… (all of the seat's roots in one cut). By AI agents, Wed Nov 11 2026. No macro, syntax, notation, axiom, sorry.
-/
import Derived.Test.YtogpdgogcjljfaaChecked
import GoSem.Claim
import GoSem.ClaimJoined
import GoSem.ClaimMapViews
import Derived.JoinedTies
import Derived.KernelRfl
namespace Go.Proofs.Ytogpdgogcjljfaa
/- THE CELL 'sum', in the pinned program and in every row, IS THE sha256 OF THE DUMP (.gsa) THAT YtogpdgogcjljfaaProg.lean LOADS. Nothing in Lean hashes anything: it is a label: what it is worth is what the hold of that sum in a sandbox is worth. -/
noncomputable def Try.pinned : Pinned := { name := "ytogpdgogcjljfaa", sum := "868973be6dda9591c887a40d3cebf8400e231eb2dbdb76beb18ea5d434df465b", checked := Try.checked }
namespace Rows
def none {H : Type} : Left H := { results := [], args := [] }

/-- 'gleaninglaw12.LeafOf': WHATEVER THE INPUT: true; the input reads as it did. -/
def leafOfSpec : ChangeSpec := { name := "leafOf", fn := fun _ => fun
  | [d1, d2] => { results := [.lit (.bool true)], args := [d1, d2] }
  | _ => none }
def leafOfRow : OpenClaim := { program := "ytogpdgogcjljfaa", sum := "868973be6dda9591c887a40d3cebf8400e231eb2dbdb76beb18ea5d434df465b", func := "gleaning/gleaninglaw12.LeafOf", spec := "leafOf", apart := false }
def LeafOfSaid : Prop := leafOfRow.holds Try.pinned (OpenSpec.ofChange leafOfSpec)

/-- ITS FALSE NEIGHBOUR: 'it returns false'. Refute it at one input. -/
def leafOfWrong : ChangeSpec := { name := "leafOf", fn := fun _ => fun
  | [d1, d2] => { results := [.lit (.bool false)], args := [d1, d2] }
  | _ => none }
def LeafOfWrongFalsely : Prop := leafOfRow.holds Try.pinned (OpenSpec.ofChange leafOfWrong)

/-- 'gleaninglaw12.LeafSplits': WHATEVER THE INPUT: true; the input reads as it did. -/
def leafSplitsSpec : ChangeSpec := { name := "leafSplits", fn := fun _ => fun
  | [d] => { results := [.lit (.bool true)], args := [d] }
  | _ => none }
def leafSplitsRow : OpenClaim := { program := "ytogpdgogcjljfaa", sum := "868973be6dda9591c887a40d3cebf8400e231eb2dbdb76beb18ea5d434df465b", func := "gleaning/gleaninglaw12.LeafSplits", spec := "leafSplits", apart := false }
def LeafSplitsSaid : Prop := leafSplitsRow.holds Try.pinned (OpenSpec.ofChange leafSplitsSpec)

/-- ITS FALSE NEIGHBOUR: 'it returns false'. Refute it at one input. -/
def leafSplitsWrong : ChangeSpec := { name := "leafSplits", fn := fun _ => fun
  | [d] => { results := [.lit (.bool false)], args := [d] }
  | _ => none }
def LeafSplitsWrongFalsely : Prop := leafSplitsRow.holds Try.pinned (OpenSpec.ofChange leafSplitsWrong)

/-- 'gleaninglaw12.LeafMerges': WHATEVER THE INPUT: true; the input reads as it did. -/
def leafMergesSpec : ChangeSpec := { name := "leafMerges", fn := fun _ => fun
  | [d1, d2] => { results := [.lit (.bool true)], args := [d1, d2] }
  | _ => none }
def leafMergesRow : OpenClaim := { program := "ytogpdgogcjljfaa", sum := "868973be6dda9591c887a40d3cebf8400e231eb2dbdb76beb18ea5d434df465b", func := "gleaning/gleaninglaw12.LeafMerges", spec := "leafMerges", apart := false }
def LeafMergesSaid : Prop := leafMergesRow.holds Try.pinned (OpenSpec.ofChange leafMergesSpec)

/-- ITS FALSE NEIGHBOUR: 'it returns false'. Refute it at one input. -/
def leafMergesWrong : ChangeSpec := { name := "leafMerges", fn := fun _ => fun
  | [d1, d2] => { results := [.lit (.bool false)], args := [d1, d2] }
  | _ => none }
def LeafMergesWrongFalsely : Prop := leafMergesRow.holds Try.pinned (OpenSpec.ofChange leafMergesWrong)

/-- 'gleaninglaw12.LeafPuts': WHATEVER THE INPUT: true; the input reads as it did. -/
def leafPutsSpec : ChangeSpec := { name := "leafPuts", fn := fun _ => fun
  | [d1, d2, d3] => { results := [.lit (.bool true)], args := [d1, d2, d3] }
  | _ => none }
def leafPutsRow : OpenClaim := { program := "ytogpdgogcjljfaa", sum := "868973be6dda9591c887a40d3cebf8400e231eb2dbdb76beb18ea5d434df465b", func := "gleaning/gleaninglaw12.LeafPuts", spec := "leafPuts", unfollowed := true, recurses := true, apart := false }
def LeafPutsSaid : Prop := leafPutsRow.holds Try.pinned (OpenSpec.ofChange leafPutsSpec)

/-- ITS FALSE NEIGHBOUR: 'it returns false'. Refute it at one input. -/
def leafPutsWrong : ChangeSpec := { name := "leafPuts", fn := fun _ => fun
  | [d1, d2, d3] => { results := [.lit (.bool false)], args := [d1, d2, d3] }
  | _ => none }
def LeafPutsWrongFalsely : Prop := leafPutsRow.holds Try.pinned (OpenSpec.ofChange leafPutsWrong)

/-- 'gleaninglaw12.LeafKeeps': WHATEVER THE INPUT: true; the input reads as it did. -/
def leafKeepsSpec : ChangeSpec := { name := "leafKeeps", fn := fun _ => fun
  | [d] => { results := [.lit (.bool true)], args := [d] }
  | _ => none }
def leafKeepsRow : OpenClaim := { program := "ytogpdgogcjljfaa", sum := "868973be6dda9591c887a40d3cebf8400e231eb2dbdb76beb18ea5d434df465b", func := "gleaning/gleaninglaw12.LeafKeeps", spec := "leafKeeps", unfollowed := true, recurses := true, apart := false }
def LeafKeepsSaid : Prop := leafKeepsRow.holds Try.pinned (OpenSpec.ofChange leafKeepsSpec)

/-- ITS FALSE NEIGHBOUR: 'it returns false'. Refute it at one input. -/
def leafKeepsWrong : ChangeSpec := { name := "leafKeeps", fn := fun _ => fun
  | [d] => { results := [.lit (.bool false)], args := [d] }
  | _ => none }
def LeafKeepsWrongFalsely : Prop := leafKeepsRow.holds Try.pinned (OpenSpec.ofChange leafKeepsWrong)

/- THE SECOND FORM. 'bulk': how many values and letters a reading holds, each counted each time it is reached (what is shared counts as often as it is met; a slice's spare places count too). A statement '..UptoSaid' is the law's where the arguments, and the package variables that the reading takes, are together of bulk at most 1048576: NARROWER than '..Said'. Prove '..Said' where nothing that the law and all that it calls make is longer than what came in: it says more and counts as full. Else prove '..UptoSaid'. A law counts once. -/
mutual
def uptoBulk {H : Type} : DataW H → Nat
  | .lit (.string bytes) => bytes.length + 1
  | .lit _ => 1
  | .nil => 1
  | .ptr d => uptoBulk d + 1
  | .slice elems spare => uptoBulkAll elems + uptoBulkAll spare + 1
  | .agg parts => uptoBulkAll parts + 1
  | .iface _ d => uptoBulk d + 1
  | .map entries => uptoBulkEntries entries + 1
  | .held _ => 1
def uptoBulkAll {H : Type} : List (DataW H) → Nat
  | [] => 0
  | d :: r => uptoBulk d + uptoBulkAll r
def uptoBulkEntries {H : Type} : List (Lit × DataW H) → Nat
  | [] => 0
  | x :: r => uptoBulkEntry x + uptoBulkEntries r
def uptoBulkEntry {H : Type} : Lit × DataW H → Nat
  | (.string bytes, d) => bytes.length + uptoBulk d + 1
  | (_, d) => uptoBulk d + 1
 end
def uptoSmall : (H : Type) → List (DataW H) → Bool := fun _ ds => decide (uptoBulkAll ds ≤ 1048576)
def OpenSpec.upto (s : _root_.Go.ChangeSpec) : _root_.Go.OpenSpec := { _root_.Go.OpenSpec.ofChange s with cond := some uptoSmall }

/-- 'gleaninglaw12.LeafOf', WHERE WHAT IT READS IS OF BULK AT MOST 1048576: true; the input reads as it did. -/
def leafOfUptoRow : OpenClaim := { program := "ytogpdgogcjljfaa", sum := "868973be6dda9591c887a40d3cebf8400e231eb2dbdb76beb18ea5d434df465b", func := "gleaning/gleaninglaw12.LeafOf", spec := "leafOf", apart := false, narrowed := true }
def LeafOfUptoSaid : Prop := leafOfUptoRow.holds Try.pinned (OpenSpec.upto leafOfSpec)

/-- 'gleaninglaw12.LeafSplits', WHERE WHAT IT READS IS OF BULK AT MOST 1048576: true; the input reads as it did. -/
def leafSplitsUptoRow : OpenClaim := { program := "ytogpdgogcjljfaa", sum := "868973be6dda9591c887a40d3cebf8400e231eb2dbdb76beb18ea5d434df465b", func := "gleaning/gleaninglaw12.LeafSplits", spec := "leafSplits", apart := false, narrowed := true }
def LeafSplitsUptoSaid : Prop := leafSplitsUptoRow.holds Try.pinned (OpenSpec.upto leafSplitsSpec)

/-- 'gleaninglaw12.LeafMerges', WHERE WHAT IT READS IS OF BULK AT MOST 1048576: true; the input reads as it did. -/
def leafMergesUptoRow : OpenClaim := { program := "ytogpdgogcjljfaa", sum := "868973be6dda9591c887a40d3cebf8400e231eb2dbdb76beb18ea5d434df465b", func := "gleaning/gleaninglaw12.LeafMerges", spec := "leafMerges", apart := false, narrowed := true }
def LeafMergesUptoSaid : Prop := leafMergesUptoRow.holds Try.pinned (OpenSpec.upto leafMergesSpec)

/-- 'gleaninglaw12.LeafPuts', WHERE WHAT IT READS IS OF BULK AT MOST 1048576: true; the input reads as it did. -/
def leafPutsUptoRow : OpenClaim := { program := "ytogpdgogcjljfaa", sum := "868973be6dda9591c887a40d3cebf8400e231eb2dbdb76beb18ea5d434df465b", func := "gleaning/gleaninglaw12.LeafPuts", spec := "leafPuts", unfollowed := true, recurses := true, apart := false, narrowed := true }
def LeafPutsUptoSaid : Prop := leafPutsUptoRow.holds Try.pinned (OpenSpec.upto leafPutsSpec)

/-- 'gleaninglaw12.LeafKeeps', WHERE WHAT IT READS IS OF BULK AT MOST 1048576: true; the input reads as it did. -/
def leafKeepsUptoRow : OpenClaim := { program := "ytogpdgogcjljfaa", sum := "868973be6dda9591c887a40d3cebf8400e231eb2dbdb76beb18ea5d434df465b", func := "gleaning/gleaninglaw12.LeafKeeps", spec := "leafKeeps", unfollowed := true, recurses := true, apart := false, narrowed := true }
def LeafKeepsUptoSaid : Prop := leafKeepsUptoRow.holds Try.pinned (OpenSpec.upto leafKeepsSpec)

end Rows
end Go.Proofs.Ytogpdgogcjljfaa
