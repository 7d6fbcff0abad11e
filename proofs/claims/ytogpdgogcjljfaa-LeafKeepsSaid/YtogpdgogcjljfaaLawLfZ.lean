/-
  LeafKeeps holds: for every input its Go function returns true and leaves its arguments as they were. No condition.
-/
import Derived.Test.YtogpdgogcjljfaaLift
import Derived.Test.YtogpdgogcjljfaaLfZ
import Derived.Test.YtogpdgogcjljfaaOpen
namespace Go.Proofs.Ytogpdgogcjljfaa
open Go.ChangeShapes Go.WideShapes Go.ChangeAt Go.RowKit

set_option maxRecDepth 100000 in
theorem leafKeeps_lifted (os : Os) (started : os.Started) (H : Type) (enc : TypeId × Value → H) :
    ReturnsInHanded {} Try.checked os 7 .any (Rows.leafKeepsSpec.pre6 enc Try.prog Try.f7 Rows.leafKeepsRow.domain false) (Rows.leafKeepsSpec.post enc Try.prog Try.f7 false true false false) := by
  refine lift started 1 (by kernel_rfl) Try.func7 rfl rfl (fun ds hl => ?_) (by kernel_rfl) rfl #[.slice none 0 0] (by kernel_rfl) (by kernel_rfl) (by kernel_rfl) (by kernel_rfl) (by kernel_rfl) ?_
  · match ds, hl with
    | [_], _ => rfl
  intro W base args ds ps hval0 hA0 hlt
  have hval : ∀ (j : Nat) t v, Try.f7.params[j]? = some t → args[j]? = some v → Value.okWide Try.prog W .any base t v := hval0
  have hA : DataW.TrodAll enc Try.prog W 0 (fun _ => true) true Try.f7.params.toList args.toList ds ps := hA0
  rw [Try.params7] at hA hval
  clear hA0 hval0
  obtain ⟨v0, d0, rfl, rfl, h0⟩ := trodAll_one hA
  obtain ⟨A, n, c, l, rfl, hnc, hcm, hl, hr, hw⟩ := open_pairs (B := W.heap.size) Try.underlying23 Try.underlying29 (by kernel_rfl) Try.underlying22 Try.underlying22 (by kernel_rfl) (hval 0 _ _ rfl rfl) h0 hlt (fun _ => rfl)
  by_cases hn : n ≤ 60
  · exact keeps_small A n c l W hn hr hnc hw
  · exact keeps_big A n c l W (by omega) hr hnc hw
theorem leafKeeps_holds : Rows.LeafKeepsSaid :=
  OpenClaim.holds_of_wide 7 Try.f7 rfl rfl rfl rfl rfl rfl rfl ⟨rfl, rfl, rfl, rfl, rfl⟩ rfl rfl rfl rfl rfl (by kernel_rfl) Try.func7 (by kernel_rfl)
    (of_decide_eq_true (by kernel_rfl)) (by unfold Func.isWrapper; first | (rw [if_pos (by decide +kernel)]; kernel_rfl) | (rw [if_neg (by decide +kernel)]; exact ⟨rfl, rfl⟩))
    (fun os started H enc _ => leafKeeps_lifted os started H enc)
#print axioms leafKeeps_holds
end Go.Proofs.Ytogpdgogcjljfaa
