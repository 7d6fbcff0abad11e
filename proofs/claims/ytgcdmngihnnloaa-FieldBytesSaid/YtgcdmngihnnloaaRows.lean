/-
  No cell of these rows narrows 'for every input' (looked for: loops, veiled, ifaces, maps, wideKeys, modest, calm, conditions, laid).
  DERIVED. THE GIVEN ROWS OF THIS SEAT. 6 by the template 'for every input the law returns true; each argument reads behind the call as it read before'; 0 by the template 'total and deterministic' (their statements: YtgcdmngihnnloaaTotals.lean).
  GIVEN WITH THE SEED: the statements are not yours to turn. If you find one false, say at which input.
  Laid BY PROGRAM, IN A SANDBOX (cutbox-rows.mjs): the forced cells as the released guide's own fill.sh prints them over the translation 36d762c673abedf2… (all of the seat's roots in one cut). By AI agents, Wed Nov 11 2026. No macro, syntax, notation, axiom, sorry.
-/
import Derived.Test.YtgcdmngihnnloaaChecked
import GoSem.Claim
import GoSem.ClaimJoined
import GoSem.ClaimMapViews
import Derived.JoinedTies
import Derived.KernelRfl
namespace Go.Proofs.Ytgcdmngihnnloaa
/- THE CELL 'sum', in the pinned program and in every row, IS THE sha256 OF THE DUMP (.gsa) THAT YtgcdmngihnnloaaProg.lean LOADS. Nothing in Lean hashes anything: it is a label: what it is worth is what the hold of that sum in a sandbox is worth. -/
noncomputable def Try.pinned : Pinned := { name := "ytgcdmngihnnloaa", sum := "36d762c673abedf2afcf5f648f7df05407df3dc4bc5a7e6b20ed64cc0303bc05", checked := Try.checked }
namespace Rows
def none {H : Type} : Left H := { results := [], args := [] }

/-- 'gleaninglaw01.FieldGets': WHATEVER THE INPUT: true; the input reads as it did. -/
def fieldGetsSpec : ChangeSpec := { name := "fieldGets", fn := fun _ => fun
  | [d1, d2, d3] => { results := [.lit (.bool true)], args := [d1, d2, d3] }
  | _ => none }
def fieldGetsRow : OpenClaim := { program := "ytgcdmngihnnloaa", sum := "36d762c673abedf2afcf5f648f7df05407df3dc4bc5a7e6b20ed64cc0303bc05", func := "gleaning/gleaninglaw01.FieldGets", spec := "fieldGets", apart := false }
def FieldGetsSaid : Prop := fieldGetsRow.holds Try.pinned (OpenSpec.ofChange fieldGetsSpec)

/-- ITS FALSE NEIGHBOUR: 'it returns false'. Refute it at one input. -/
def fieldGetsWrong : ChangeSpec := { name := "fieldGets", fn := fun _ => fun
  | [d1, d2, d3] => { results := [.lit (.bool false)], args := [d1, d2, d3] }
  | _ => none }
def FieldGetsWrongFalsely : Prop := fieldGetsRow.holds Try.pinned (OpenSpec.ofChange fieldGetsWrong)

/-- 'gleaninglaw01.FieldPuts': WHATEVER THE INPUT: true; the input reads as it did. -/
def fieldPutsSpec : ChangeSpec := { name := "fieldPuts", fn := fun _ => fun
  | [d1, d2, d3, d4] => { results := [.lit (.bool true)], args := [d1, d2, d3, d4] }
  | _ => none }
def fieldPutsRow : OpenClaim := { program := "ytgcdmngihnnloaa", sum := "36d762c673abedf2afcf5f648f7df05407df3dc4bc5a7e6b20ed64cc0303bc05", func := "gleaning/gleaninglaw01.FieldPuts", spec := "fieldPuts", apart := false }
def FieldPutsSaid : Prop := fieldPutsRow.holds Try.pinned (OpenSpec.ofChange fieldPutsSpec)

/-- ITS FALSE NEIGHBOUR: 'it returns false'. Refute it at one input. -/
def fieldPutsWrong : ChangeSpec := { name := "fieldPuts", fn := fun _ => fun
  | [d1, d2, d3, d4] => { results := [.lit (.bool false)], args := [d1, d2, d3, d4] }
  | _ => none }
def FieldPutsWrongFalsely : Prop := fieldPutsRow.holds Try.pinned (OpenSpec.ofChange fieldPutsWrong)

/-- 'gleaninglaw01.FieldMasks': WHATEVER THE INPUT: true; the input reads as it did. -/
def fieldMasksSpec : ChangeSpec := { name := "fieldMasks", fn := fun _ => fun
  | [d] => { results := [.lit (.bool true)], args := [d] }
  | _ => none }
def fieldMasksRow : OpenClaim := { program := "ytgcdmngihnnloaa", sum := "36d762c673abedf2afcf5f648f7df05407df3dc4bc5a7e6b20ed64cc0303bc05", func := "gleaning/gleaninglaw01.FieldMasks", spec := "fieldMasks", apart := false }
def FieldMasksSaid : Prop := fieldMasksRow.holds Try.pinned (OpenSpec.ofChange fieldMasksSpec)

/-- ITS FALSE NEIGHBOUR: 'it returns false'. Refute it at one input. -/
def fieldMasksWrong : ChangeSpec := { name := "fieldMasks", fn := fun _ => fun
  | [d] => { results := [.lit (.bool false)], args := [d] }
  | _ => none }
def FieldMasksWrongFalsely : Prop := fieldMasksRow.holds Try.pinned (OpenSpec.ofChange fieldMasksWrong)

/-- 'gleaninglaw01.FieldSigned': WHATEVER THE INPUT: true; the input reads as it did. -/
def fieldSignedSpec : ChangeSpec := { name := "fieldSigned", fn := fun _ => fun
  | [d1, d2] => { results := [.lit (.bool true)], args := [d1, d2] }
  | _ => none }
def fieldSignedRow : OpenClaim := { program := "ytgcdmngihnnloaa", sum := "36d762c673abedf2afcf5f648f7df05407df3dc4bc5a7e6b20ed64cc0303bc05", func := "gleaning/gleaninglaw01.FieldSigned", spec := "fieldSigned", apart := false }
def FieldSignedSaid : Prop := fieldSignedRow.holds Try.pinned (OpenSpec.ofChange fieldSignedSpec)

/-- ITS FALSE NEIGHBOUR: 'it returns false'. Refute it at one input. -/
def fieldSignedWrong : ChangeSpec := { name := "fieldSigned", fn := fun _ => fun
  | [d1, d2] => { results := [.lit (.bool false)], args := [d1, d2] }
  | _ => none }
def FieldSignedWrongFalsely : Prop := fieldSignedRow.holds Try.pinned (OpenSpec.ofChange fieldSignedWrong)

/-- 'gleaninglaw01.FieldKeeps': WHATEVER THE INPUT: true; the input reads as it did. -/
def fieldKeepsSpec : ChangeSpec := { name := "fieldKeeps", fn := fun _ => fun
  | [d1, d2, d3, d4, d5, d6] => { results := [.lit (.bool true)], args := [d1, d2, d3, d4, d5, d6] }
  | _ => none }
def fieldKeepsRow : OpenClaim := { program := "ytgcdmngihnnloaa", sum := "36d762c673abedf2afcf5f648f7df05407df3dc4bc5a7e6b20ed64cc0303bc05", func := "gleaning/gleaninglaw01.FieldKeeps", spec := "fieldKeeps", apart := false }
def FieldKeepsSaid : Prop := fieldKeepsRow.holds Try.pinned (OpenSpec.ofChange fieldKeepsSpec)

/-- ITS FALSE NEIGHBOUR: 'it returns false'. Refute it at one input. -/
def fieldKeepsWrong : ChangeSpec := { name := "fieldKeeps", fn := fun _ => fun
  | [d1, d2, d3, d4, d5, d6] => { results := [.lit (.bool false)], args := [d1, d2, d3, d4, d5, d6] }
  | _ => none }
def FieldKeepsWrongFalsely : Prop := fieldKeepsRow.holds Try.pinned (OpenSpec.ofChange fieldKeepsWrong)

/-- 'gleaninglaw01.FieldBytes': WHATEVER THE INPUT: true; the input reads as it did. -/
def fieldBytesSpec : ChangeSpec := { name := "fieldBytes", fn := fun _ => fun
  | [d1, d2] => { results := [.lit (.bool true)], args := [d1, d2] }
  | _ => none }
def fieldBytesRow : OpenClaim := { program := "ytgcdmngihnnloaa", sum := "36d762c673abedf2afcf5f648f7df05407df3dc4bc5a7e6b20ed64cc0303bc05", func := "gleaning/gleaninglaw01.FieldBytes", spec := "fieldBytes", apart := false }
def FieldBytesSaid : Prop := fieldBytesRow.holds Try.pinned (OpenSpec.ofChange fieldBytesSpec)

/-- ITS FALSE NEIGHBOUR: 'it returns false'. Refute it at one input. -/
def fieldBytesWrong : ChangeSpec := { name := "fieldBytes", fn := fun _ => fun
  | [d1, d2] => { results := [.lit (.bool false)], args := [d1, d2] }
  | _ => none }
def FieldBytesWrongFalsely : Prop := fieldBytesRow.holds Try.pinned (OpenSpec.ofChange fieldBytesWrong)

/- THE SECOND FORM. 'bulk': how many values and letters a reading holds, each counted each time it is reached (what is shared counts as often as it is met; a slice's spare places count too). A statement '..UptoSaid' is the law's where the arguments, and the package variables that the reading takes, are together of bulk at most 1048576: NARROWER than '..Said'. Prove '..Said' where nothing that the law and all that it calls make is longer than what came in: it says more and counts as full. Else prove '..UptoSaid'. A law counts once. -/
mutual
def uptoBulk {H : Type} : DataW H → Nat
  | .lit (.string bytes) => bytes.length + 1
  | .lit _ => 1
  | .nil => 1
  | .ptr d => uptoBulk d + 1
  | .slice elems spare => uptoBulkAll elems + uptoBulkAll spare + 1
  | .agg parts => uptoBulkAll parts + 1
  | .iface _ d => uptoBulk d + 1
  | .map entries => uptoBulkEntries entries + 1
  | .held _ => 1
def uptoBulkAll {H : Type} : List (DataW H) → Nat
  | [] => 0
  | d :: r => uptoBulk d + uptoBulkAll r
def uptoBulkEntries {H : Type} : List (Lit × DataW H) → Nat
  | [] => 0
  | x :: r => uptoBulkEntry x + uptoBulkEntries r
def uptoBulkEntry {H : Type} : Lit × DataW H → Nat
  | (.string bytes, d) => bytes.length + uptoBulk d + 1
  | (_, d) => uptoBulk d + 1
 end
def uptoSmall : (H : Type) → List (DataW H) → Bool := fun _ ds => decide (uptoBulkAll ds ≤ 1048576)
def OpenSpec.upto (s : _root_.Go.ChangeSpec) : _root_.Go.OpenSpec := { _root_.Go.OpenSpec.ofChange s with cond := some uptoSmall }

/-- 'gleaninglaw01.FieldGets', WHERE WHAT IT READS IS OF BULK AT MOST 1048576: true; the input reads as it did. -/
def fieldGetsUptoRow : OpenClaim := { program := "ytgcdmngihnnloaa", sum := "36d762c673abedf2afcf5f648f7df05407df3dc4bc5a7e6b20ed64cc0303bc05", func := "gleaning/gleaninglaw01.FieldGets", spec := "fieldGets", apart := false, narrowed := true }
def FieldGetsUptoSaid : Prop := fieldGetsUptoRow.holds Try.pinned (OpenSpec.upto fieldGetsSpec)

/-- 'gleaninglaw01.FieldPuts', WHERE WHAT IT READS IS OF BULK AT MOST 1048576: true; the input reads as it did. -/
def fieldPutsUptoRow : OpenClaim := { program := "ytgcdmngihnnloaa", sum := "36d762c673abedf2afcf5f648f7df05407df3dc4bc5a7e6b20ed64cc0303bc05", func := "gleaning/gleaninglaw01.FieldPuts", spec := "fieldPuts", apart := false, narrowed := true }
def FieldPutsUptoSaid : Prop := fieldPutsUptoRow.holds Try.pinned (OpenSpec.upto fieldPutsSpec)

/-- 'gleaninglaw01.FieldMasks', WHERE WHAT IT READS IS OF BULK AT MOST 1048576: true; the input reads as it did. -/
def fieldMasksUptoRow : OpenClaim := { program := "ytgcdmngihnnloaa", sum := "36d762c673abedf2afcf5f648f7df05407df3dc4bc5a7e6b20ed64cc0303bc05", func := "gleaning/gleaninglaw01.FieldMasks", spec := "fieldMasks", apart := false, narrowed := true }
def FieldMasksUptoSaid : Prop := fieldMasksUptoRow.holds Try.pinned (OpenSpec.upto fieldMasksSpec)

/-- 'gleaninglaw01.FieldSigned', WHERE WHAT IT READS IS OF BULK AT MOST 1048576: true; the input reads as it did. -/
def fieldSignedUptoRow : OpenClaim := { program := "ytgcdmngihnnloaa", sum := "36d762c673abedf2afcf5f648f7df05407df3dc4bc5a7e6b20ed64cc0303bc05", func := "gleaning/gleaninglaw01.FieldSigned", spec := "fieldSigned", apart := false, narrowed := true }
def FieldSignedUptoSaid : Prop := fieldSignedUptoRow.holds Try.pinned (OpenSpec.upto fieldSignedSpec)

/-- 'gleaninglaw01.FieldKeeps', WHERE WHAT IT READS IS OF BULK AT MOST 1048576: true; the input reads as it did. -/
def fieldKeepsUptoRow : OpenClaim := { program := "ytgcdmngihnnloaa", sum := "36d762c673abedf2afcf5f648f7df05407df3dc4bc5a7e6b20ed64cc0303bc05", func := "gleaning/gleaninglaw01.FieldKeeps", spec := "fieldKeeps", apart := false, narrowed := true }
def FieldKeepsUptoSaid : Prop := fieldKeepsUptoRow.holds Try.pinned (OpenSpec.upto fieldKeepsSpec)

/-- 'gleaninglaw01.FieldBytes', WHERE WHAT IT READS IS OF BULK AT MOST 1048576: true; the input reads as it did. -/
def fieldBytesUptoRow : OpenClaim := { program := "ytgcdmngihnnloaa", sum := "36d762c673abedf2afcf5f648f7df05407df3dc4bc5a7e6b20ed64cc0303bc05", func := "gleaning/gleaninglaw01.FieldBytes", spec := "fieldBytes", apart := false, narrowed := true }
def FieldBytesUptoSaid : Prop := fieldBytesUptoRow.holds Try.pinned (OpenSpec.upto fieldBytesSpec)

end Rows
end Go.Proofs.Ytgcdmngihnnloaa
