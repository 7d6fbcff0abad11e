/-
  No cell of these rows narrows 'for every input' (looked for: loops, veiled, ifaces, maps, wideKeys, modest, calm, conditions, laid).
  DERIVED. THE GIVEN ROWS OF THIS SEAT. 5 by the template 'for every input the law returns true; each argument reads behind the call as it read before'; 0 by the template 'total and deterministic' (their statements: YtcmoblibjhaegaaTotals.lean).
  GIVEN WITH THE SEED: the statements are not yours to turn. If you find one false, say at which input.
  Laid BY PROGRAM, IN A SANDBOX (cutbox-rows.mjs): the forced cells as the released guide's own fill.sh prints them over the translation e179d387245ed28c… (all of the seat's roots in one cut). By AI agents, Wed Nov 11 2026. No macro, syntax, notation, axiom, sorry.
-/
import Derived.Test.YtcmoblibjhaegaaChecked
import GoSem.Claim
import GoSem.ClaimJoined
import GoSem.ClaimMapViews
import Derived.JoinedTies
import Derived.KernelRfl
namespace Go.Proofs.Ytcmoblibjhaegaa
/- THE CELL 'sum', in the pinned program and in every row, IS THE sha256 OF THE DUMP (.gsa) THAT YtcmoblibjhaegaaProg.lean LOADS. Nothing in Lean hashes anything: it is a label: what it is worth is what the hold of that sum in a sandbox is worth. -/
noncomputable def Try.pinned : Pinned := { name := "ytcmoblibjhaegaa", sum := "e179d387245ed28c3716c6ce4d9c2811a242869d3a5a9de038b1fdc52869cdaf", checked := Try.checked }
namespace Rows
def none {H : Type} : Left H := { results := [], args := [] }

/-- 'gleaninglaw13.InnerOf': WHATEVER THE INPUT: true; the input reads as it did. -/
def innerOfSpec : ChangeSpec := { name := "innerOf", fn := fun _ => fun
  | [d1, d2] => { results := [.lit (.bool true)], args := [d1, d2] }
  | _ => none }
def innerOfRow : OpenClaim := { program := "ytcmoblibjhaegaa", sum := "e179d387245ed28c3716c6ce4d9c2811a242869d3a5a9de038b1fdc52869cdaf", func := "gleaning/gleaninglaw13.InnerOf", spec := "innerOf", unfollowed := true, recurses := true, apart := false }
def InnerOfSaid : Prop := innerOfRow.holds Try.pinned (OpenSpec.ofChange innerOfSpec)

/-- ITS FALSE NEIGHBOUR: 'it returns false'. Refute it at one input. -/
def innerOfWrong : ChangeSpec := { name := "innerOf", fn := fun _ => fun
  | [d1, d2] => { results := [.lit (.bool false)], args := [d1, d2] }
  | _ => none }
def InnerOfWrongFalsely : Prop := innerOfRow.holds Try.pinned (OpenSpec.ofChange innerOfWrong)

/-- 'gleaninglaw13.InnerSplits': WHATEVER THE INPUT: true; the input reads as it did. -/
def innerSplitsSpec : ChangeSpec := { name := "innerSplits", fn := fun _ => fun
  | [d] => { results := [.lit (.bool true)], args := [d] }
  | _ => none }
def innerSplitsRow : OpenClaim := { program := "ytcmoblibjhaegaa", sum := "e179d387245ed28c3716c6ce4d9c2811a242869d3a5a9de038b1fdc52869cdaf", func := "gleaning/gleaninglaw13.InnerSplits", spec := "innerSplits", unfollowed := true, recurses := true, apart := false }
def InnerSplitsSaid : Prop := innerSplitsRow.holds Try.pinned (OpenSpec.ofChange innerSplitsSpec)

/-- ITS FALSE NEIGHBOUR: 'it returns false'. Refute it at one input. -/
def innerSplitsWrong : ChangeSpec := { name := "innerSplits", fn := fun _ => fun
  | [d] => { results := [.lit (.bool false)], args := [d] }
  | _ => none }
def InnerSplitsWrongFalsely : Prop := innerSplitsRow.holds Try.pinned (OpenSpec.ofChange innerSplitsWrong)

/-- 'gleaninglaw13.InnerTurns': WHATEVER THE INPUT: true; the input reads as it did. -/
def innerTurnsSpec : ChangeSpec := { name := "innerTurns", fn := fun _ => fun
  | [d1, d2, d3, d4] => { results := [.lit (.bool true)], args := [d1, d2, d3, d4] }
  | _ => none }
def innerTurnsRow : OpenClaim := { program := "ytcmoblibjhaegaa", sum := "e179d387245ed28c3716c6ce4d9c2811a242869d3a5a9de038b1fdc52869cdaf", func := "gleaning/gleaninglaw13.InnerTurns", spec := "innerTurns", unfollowed := true, recurses := true, apart := false }
def InnerTurnsSaid : Prop := innerTurnsRow.holds Try.pinned (OpenSpec.ofChange innerTurnsSpec)

/-- ITS FALSE NEIGHBOUR: 'it returns false'. Refute it at one input. -/
def innerTurnsWrong : ChangeSpec := { name := "innerTurns", fn := fun _ => fun
  | [d1, d2, d3, d4] => { results := [.lit (.bool false)], args := [d1, d2, d3, d4] }
  | _ => none }
def InnerTurnsWrongFalsely : Prop := innerTurnsRow.holds Try.pinned (OpenSpec.ofChange innerTurnsWrong)

/-- 'gleaninglaw13.InnerLooks': WHATEVER THE INPUT: true; the input reads as it did. -/
def innerLooksSpec : ChangeSpec := { name := "innerLooks", fn := fun _ => fun
  | [d1, d2, d3, d4] => { results := [.lit (.bool true)], args := [d1, d2, d3, d4] }
  | _ => none }
def innerLooksRow : OpenClaim := { program := "ytcmoblibjhaegaa", sum := "e179d387245ed28c3716c6ce4d9c2811a242869d3a5a9de038b1fdc52869cdaf", func := "gleaning/gleaninglaw13.InnerLooks", spec := "innerLooks", unfollowed := true, recurses := true, apart := false }
def InnerLooksSaid : Prop := innerLooksRow.holds Try.pinned (OpenSpec.ofChange innerLooksSpec)

/-- ITS FALSE NEIGHBOUR: 'it returns false'. Refute it at one input. -/
def innerLooksWrong : ChangeSpec := { name := "innerLooks", fn := fun _ => fun
  | [d1, d2, d3, d4] => { results := [.lit (.bool false)], args := [d1, d2, d3, d4] }
  | _ => none }
def InnerLooksWrongFalsely : Prop := innerLooksRow.holds Try.pinned (OpenSpec.ofChange innerLooksWrong)

/-- 'gleaninglaw13.InnerMerges': WHATEVER THE INPUT: true; the input reads as it did. -/
def innerMergesSpec : ChangeSpec := { name := "innerMerges", fn := fun _ => fun
  | [d1, d2, d3] => { results := [.lit (.bool true)], args := [d1, d2, d3] }
  | _ => none }
def innerMergesRow : OpenClaim := { program := "ytcmoblibjhaegaa", sum := "e179d387245ed28c3716c6ce4d9c2811a242869d3a5a9de038b1fdc52869cdaf", func := "gleaning/gleaninglaw13.InnerMerges", spec := "innerMerges", unfollowed := true, recurses := true, apart := false }
def InnerMergesSaid : Prop := innerMergesRow.holds Try.pinned (OpenSpec.ofChange innerMergesSpec)

/-- ITS FALSE NEIGHBOUR: 'it returns false'. Refute it at one input. -/
def innerMergesWrong : ChangeSpec := { name := "innerMerges", fn := fun _ => fun
  | [d1, d2, d3] => { results := [.lit (.bool false)], args := [d1, d2, d3] }
  | _ => none }
def InnerMergesWrongFalsely : Prop := innerMergesRow.holds Try.pinned (OpenSpec.ofChange innerMergesWrong)

/- THE SECOND FORM. 'bulk': how many values and letters a reading holds, each counted each time it is reached (what is shared counts as often as it is met; a slice's spare places count too). A statement '..UptoSaid' is the law's where the arguments, and the package variables that the reading takes, are together of bulk at most 1048576: NARROWER than '..Said'. Prove '..Said' where nothing that the law and all that it calls make is longer than what came in: it says more and counts as full. Else prove '..UptoSaid'. A law counts once. -/
mutual
def uptoBulk {H : Type} : DataW H → Nat
  | .lit (.string bytes) => bytes.length + 1
  | .lit _ => 1
  | .nil => 1
  | .ptr d => uptoBulk d + 1
  | .slice elems spare => uptoBulkAll elems + uptoBulkAll spare + 1
  | .agg parts => uptoBulkAll parts + 1
  | .iface _ d => uptoBulk d + 1
  | .map entries => uptoBulkEntries entries + 1
  | .held _ => 1
def uptoBulkAll {H : Type} : List (DataW H) → Nat
  | [] => 0
  | d :: r => uptoBulk d + uptoBulkAll r
def uptoBulkEntries {H : Type} : List (Lit × DataW H) → Nat
  | [] => 0
  | x :: r => uptoBulkEntry x + uptoBulkEntries r
def uptoBulkEntry {H : Type} : Lit × DataW H → Nat
  | (.string bytes, d) => bytes.length + uptoBulk d + 1
  | (_, d) => uptoBulk d + 1
 end
def uptoSmall : (H : Type) → List (DataW H) → Bool := fun _ ds => decide (uptoBulkAll ds ≤ 1048576)
def OpenSpec.upto (s : _root_.Go.ChangeSpec) : _root_.Go.OpenSpec := { _root_.Go.OpenSpec.ofChange s with cond := some uptoSmall }

/-- 'gleaninglaw13.InnerOf', WHERE WHAT IT READS IS OF BULK AT MOST 1048576: true; the input reads as it did. -/
def innerOfUptoRow : OpenClaim := { program := "ytcmoblibjhaegaa", sum := "e179d387245ed28c3716c6ce4d9c2811a242869d3a5a9de038b1fdc52869cdaf", func := "gleaning/gleaninglaw13.InnerOf", spec := "innerOf", unfollowed := true, recurses := true, apart := false, narrowed := true }
def InnerOfUptoSaid : Prop := innerOfUptoRow.holds Try.pinned (OpenSpec.upto innerOfSpec)

/-- 'gleaninglaw13.InnerSplits', WHERE WHAT IT READS IS OF BULK AT MOST 1048576: true; the input reads as it did. -/
def innerSplitsUptoRow : OpenClaim := { program := "ytcmoblibjhaegaa", sum := "e179d387245ed28c3716c6ce4d9c2811a242869d3a5a9de038b1fdc52869cdaf", func := "gleaning/gleaninglaw13.InnerSplits", spec := "innerSplits", unfollowed := true, recurses := true, apart := false, narrowed := true }
def InnerSplitsUptoSaid : Prop := innerSplitsUptoRow.holds Try.pinned (OpenSpec.upto innerSplitsSpec)

/-- 'gleaninglaw13.InnerTurns', WHERE WHAT IT READS IS OF BULK AT MOST 1048576: true; the input reads as it did. -/
def innerTurnsUptoRow : OpenClaim := { program := "ytcmoblibjhaegaa", sum := "e179d387245ed28c3716c6ce4d9c2811a242869d3a5a9de038b1fdc52869cdaf", func := "gleaning/gleaninglaw13.InnerTurns", spec := "innerTurns", unfollowed := true, recurses := true, apart := false, narrowed := true }
def InnerTurnsUptoSaid : Prop := innerTurnsUptoRow.holds Try.pinned (OpenSpec.upto innerTurnsSpec)

/-- 'gleaninglaw13.InnerLooks', WHERE WHAT IT READS IS OF BULK AT MOST 1048576: true; the input reads as it did. -/
def innerLooksUptoRow : OpenClaim := { program := "ytcmoblibjhaegaa", sum := "e179d387245ed28c3716c6ce4d9c2811a242869d3a5a9de038b1fdc52869cdaf", func := "gleaning/gleaninglaw13.InnerLooks", spec := "innerLooks", unfollowed := true, recurses := true, apart := false, narrowed := true }
def InnerLooksUptoSaid : Prop := innerLooksUptoRow.holds Try.pinned (OpenSpec.upto innerLooksSpec)

/-- 'gleaninglaw13.InnerMerges', WHERE WHAT IT READS IS OF BULK AT MOST 1048576: true; the input reads as it did. -/
def innerMergesUptoRow : OpenClaim := { program := "ytcmoblibjhaegaa", sum := "e179d387245ed28c3716c6ce4d9c2811a242869d3a5a9de038b1fdc52869cdaf", func := "gleaning/gleaninglaw13.InnerMerges", spec := "innerMerges", unfollowed := true, recurses := true, apart := false, narrowed := true }
def InnerMergesUptoSaid : Prop := innerMergesUptoRow.holds Try.pinned (OpenSpec.upto innerMergesSpec)

end Rows
end Go.Proofs.Ytcmoblibjhaegaa
