/-
  No cell of these rows narrows 'for every input' (looked for: loops, veiled, ifaces, maps, wideKeys, modest, calm, conditions, laid).
  DERIVED. THE GIVEN ROWS OF THIS SEAT. 4 by the template 'for every input the law returns true; each argument reads behind the call as it read before'; 0 by the template 'total and deterministic' (their statements: YtegephdgboaedaaTotals.lean).
  GIVEN WITH THE SEED: the statements are not yours to turn. If you find one false, say at which input.
  Laid BY PROGRAM, IN A SANDBOX (cutbox-rows.mjs): the forced cells as the released guide's own fill.sh prints them over the translation 4a6990b2bb361c70… (all of the seat's roots in one cut). By AI agents, Wed Nov 11 2026. No macro, syntax, notation, axiom, sorry.
-/
import Derived.Test.YtegephdgboaedaaChecked
import GoSem.Claim
import GoSem.ClaimJoined
import GoSem.ClaimMapViews
import Derived.JoinedTies
import Derived.KernelRfl
namespace Go.Proofs.Ytegephdgboaedaa
/- THE CELL 'sum', in the pinned program and in every row, IS THE sha256 OF THE DUMP (.gsa) THAT YtegephdgboaedaaProg.lean LOADS. Nothing in Lean hashes anything: it is a label: what it is worth is what the hold of that sum in a sandbox is worth. -/
noncomputable def Try.pinned : Pinned := { name := "ytegephdgboaedaa", sum := "4a6990b2bb361c707d7d7536eed6f376d192700389fb0af6222240cda87bbeec", checked := Try.checked }
namespace Rows
def none {H : Type} : Left H := { results := [], args := [] }

/-- 'gleaninglaw11.SeekPlays': WHATEVER THE INPUT: true; the input reads as it did. -/
def seekPlaysSpec : ChangeSpec := { name := "seekPlays", fn := fun _ => fun
  | [d1, d2, d3, d4] => { results := [.lit (.bool true)], args := [d1, d2, d3, d4] }
  | _ => none }
def seekPlaysRow : OpenClaim := { program := "ytegephdgboaedaa", sum := "4a6990b2bb361c707d7d7536eed6f376d192700389fb0af6222240cda87bbeec", func := "gleaning/gleaninglaw11.SeekPlays", spec := "seekPlays", unfollowed := true, recurses := true, apart := false }
def SeekPlaysSaid : Prop := seekPlaysRow.holds Try.pinned (OpenSpec.ofChange seekPlaysSpec)

/-- ITS FALSE NEIGHBOUR: 'it returns false'. Refute it at one input. -/
def seekPlaysWrong : ChangeSpec := { name := "seekPlays", fn := fun _ => fun
  | [d1, d2, d3, d4] => { results := [.lit (.bool false)], args := [d1, d2, d3, d4] }
  | _ => none }
def SeekPlaysWrongFalsely : Prop := seekPlaysRow.holds Try.pinned (OpenSpec.ofChange seekPlaysWrong)

/-- 'gleaninglaw11.SeekComes': WHATEVER THE INPUT: true; the input reads as it did. -/
def seekComesSpec : ChangeSpec := { name := "seekComes", fn := fun _ => fun
  | [d1, d2, d3] => { results := [.lit (.bool true)], args := [d1, d2, d3] }
  | _ => none }
def seekComesRow : OpenClaim := { program := "ytegephdgboaedaa", sum := "4a6990b2bb361c707d7d7536eed6f376d192700389fb0af6222240cda87bbeec", func := "gleaning/gleaninglaw11.SeekComes", spec := "seekComes", unfollowed := true, recurses := true, apart := false }
def SeekComesSaid : Prop := seekComesRow.holds Try.pinned (OpenSpec.ofChange seekComesSpec)

/-- ITS FALSE NEIGHBOUR: 'it returns false'. Refute it at one input. -/
def seekComesWrong : ChangeSpec := { name := "seekComes", fn := fun _ => fun
  | [d1, d2, d3] => { results := [.lit (.bool false)], args := [d1, d2, d3] }
  | _ => none }
def SeekComesWrongFalsely : Prop := seekComesRow.holds Try.pinned (OpenSpec.ofChange seekComesWrong)

/-- 'gleaninglaw11.SeekSteps': WHATEVER THE INPUT: true; the input reads as it did. -/
def seekStepsSpec : ChangeSpec := { name := "seekSteps", fn := fun _ => fun
  | [d] => { results := [.lit (.bool true)], args := [d] }
  | _ => none }
def seekStepsRow : OpenClaim := { program := "ytegephdgboaedaa", sum := "4a6990b2bb361c707d7d7536eed6f376d192700389fb0af6222240cda87bbeec", func := "gleaning/gleaninglaw11.SeekSteps", spec := "seekSteps", unfollowed := true, recurses := true, apart := false }
def SeekStepsSaid : Prop := seekStepsRow.holds Try.pinned (OpenSpec.ofChange seekStepsSpec)

/-- ITS FALSE NEIGHBOUR: 'it returns false'. Refute it at one input. -/
def seekStepsWrong : ChangeSpec := { name := "seekSteps", fn := fun _ => fun
  | [d] => { results := [.lit (.bool false)], args := [d] }
  | _ => none }
def SeekStepsWrongFalsely : Prop := seekStepsRow.holds Try.pinned (OpenSpec.ofChange seekStepsWrong)

/-- 'gleaninglaw11.SeekValues': WHATEVER THE INPUT: true; the input reads as it did. -/
def seekValuesSpec : ChangeSpec := { name := "seekValues", fn := fun _ => fun
  | [d1, d2, d3, d4] => { results := [.lit (.bool true)], args := [d1, d2, d3, d4] }
  | _ => none }
def seekValuesRow : OpenClaim := { program := "ytegephdgboaedaa", sum := "4a6990b2bb361c707d7d7536eed6f376d192700389fb0af6222240cda87bbeec", func := "gleaning/gleaninglaw11.SeekValues", spec := "seekValues", unfollowed := true, recurses := true, apart := false }
def SeekValuesSaid : Prop := seekValuesRow.holds Try.pinned (OpenSpec.ofChange seekValuesSpec)

/-- ITS FALSE NEIGHBOUR: 'it returns false'. Refute it at one input. -/
def seekValuesWrong : ChangeSpec := { name := "seekValues", fn := fun _ => fun
  | [d1, d2, d3, d4] => { results := [.lit (.bool false)], args := [d1, d2, d3, d4] }
  | _ => none }
def SeekValuesWrongFalsely : Prop := seekValuesRow.holds Try.pinned (OpenSpec.ofChange seekValuesWrong)

/- THE SECOND FORM. 'bulk': how many values and letters a reading holds, each counted each time it is reached (what is shared counts as often as it is met; a slice's spare places count too). A statement '..UptoSaid' is the law's where the arguments, and the package variables that the reading takes, are together of bulk at most 1048576: NARROWER than '..Said'. Prove '..Said' where nothing that the law and all that it calls make is longer than what came in: it says more and counts as full. Else prove '..UptoSaid'. A law counts once. -/
mutual
def uptoBulk {H : Type} : DataW H → Nat
  | .lit (.string bytes) => bytes.length + 1
  | .lit _ => 1
  | .nil => 1
  | .ptr d => uptoBulk d + 1
  | .slice elems spare => uptoBulkAll elems + uptoBulkAll spare + 1
  | .agg parts => uptoBulkAll parts + 1
  | .iface _ d => uptoBulk d + 1
  | .map entries => uptoBulkEntries entries + 1
  | .held _ => 1
def uptoBulkAll {H : Type} : List (DataW H) → Nat
  | [] => 0
  | d :: r => uptoBulk d + uptoBulkAll r
def uptoBulkEntries {H : Type} : List (Lit × DataW H) → Nat
  | [] => 0
  | x :: r => uptoBulkEntry x + uptoBulkEntries r
def uptoBulkEntry {H : Type} : Lit × DataW H → Nat
  | (.string bytes, d) => bytes.length + uptoBulk d + 1
  | (_, d) => uptoBulk d + 1
 end
def uptoSmall : (H : Type) → List (DataW H) → Bool := fun _ ds => decide (uptoBulkAll ds ≤ 1048576)
def OpenSpec.upto (s : _root_.Go.ChangeSpec) : _root_.Go.OpenSpec := { _root_.Go.OpenSpec.ofChange s with cond := some uptoSmall }

/-- 'gleaninglaw11.SeekPlays', WHERE WHAT IT READS IS OF BULK AT MOST 1048576: true; the input reads as it did. -/
def seekPlaysUptoRow : OpenClaim := { program := "ytegephdgboaedaa", sum := "4a6990b2bb361c707d7d7536eed6f376d192700389fb0af6222240cda87bbeec", func := "gleaning/gleaninglaw11.SeekPlays", spec := "seekPlays", unfollowed := true, recurses := true, apart := false, narrowed := true }
def SeekPlaysUptoSaid : Prop := seekPlaysUptoRow.holds Try.pinned (OpenSpec.upto seekPlaysSpec)

/-- 'gleaninglaw11.SeekComes', WHERE WHAT IT READS IS OF BULK AT MOST 1048576: true; the input reads as it did. -/
def seekComesUptoRow : OpenClaim := { program := "ytegephdgboaedaa", sum := "4a6990b2bb361c707d7d7536eed6f376d192700389fb0af6222240cda87bbeec", func := "gleaning/gleaninglaw11.SeekComes", spec := "seekComes", unfollowed := true, recurses := true, apart := false, narrowed := true }
def SeekComesUptoSaid : Prop := seekComesUptoRow.holds Try.pinned (OpenSpec.upto seekComesSpec)

/-- 'gleaninglaw11.SeekSteps', WHERE WHAT IT READS IS OF BULK AT MOST 1048576: true; the input reads as it did. -/
def seekStepsUptoRow : OpenClaim := { program := "ytegephdgboaedaa", sum := "4a6990b2bb361c707d7d7536eed6f376d192700389fb0af6222240cda87bbeec", func := "gleaning/gleaninglaw11.SeekSteps", spec := "seekSteps", unfollowed := true, recurses := true, apart := false, narrowed := true }
def SeekStepsUptoSaid : Prop := seekStepsUptoRow.holds Try.pinned (OpenSpec.upto seekStepsSpec)

/-- 'gleaninglaw11.SeekValues', WHERE WHAT IT READS IS OF BULK AT MOST 1048576: true; the input reads as it did. -/
def seekValuesUptoRow : OpenClaim := { program := "ytegephdgboaedaa", sum := "4a6990b2bb361c707d7d7536eed6f376d192700389fb0af6222240cda87bbeec", func := "gleaning/gleaninglaw11.SeekValues", spec := "seekValues", unfollowed := true, recurses := true, apart := false, narrowed := true }
def SeekValuesUptoSaid : Prop := seekValuesUptoRow.holds Try.pinned (OpenSpec.upto seekValuesSpec)

end Rows
end Go.Proofs.Ytegephdgboaedaa
