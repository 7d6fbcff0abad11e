/-
  LeafPuts holds: for every input its Go function returns true and leaves its arguments as they were. No condition.
-/
import Derived.Test.YtogpdgogcjljfaaLift
import Derived.Test.YtogpdgogcjljfaaLfQc
import Derived.Test.YtogpdgogcjljfaaOpenN
namespace Go.Proofs.Ytogpdgogcjljfaa
open Go.ChangeShapes Go.WideShapes Go.ChangeAt Go.RowKit

set_option maxRecDepth 100000 in
theorem leafPuts_lifted (os : Os) (started : os.Started) (H : Type) (enc : TypeId × Value → H) :
    ReturnsInHanded {} Try.checked os 6 .any (Rows.leafPutsSpec.pre6 enc Try.prog Try.f6 Rows.leafPutsRow.domain false) (Rows.leafPutsSpec.post enc Try.prog Try.f6 false true false false) := by
  refine lift started 3 (by kernel_rfl) Try.func6 rfl rfl (fun ds hl => ?_) (by kernel_rfl) rfl #[.agg #[.bool false, .slice none 0 0, .slice none 0 0, .int .u64 0], .int .u64 0, .int .u64 0] (by kernel_rfl) (by kernel_rfl) (by kernel_rfl) (by kernel_rfl) (by kernel_rfl) ?_
  · match ds, hl with
    | [_, _, _], _ => rfl
  intro W base args ds ps hval0 hA0 hlt
  have hval : ∀ (j : Nat) t v, Try.f6.params[j]? = some t → args[j]? = some v → Value.okWide Try.prog W .any base t v := hval0
  have hA : DataW.TrodAll enc Try.prog W 0 (fun _ => true) true Try.f6.params.toList args.toList ds ps := hA0
  rw [Try.params6] at hA hval
  clear hA0 hval0
  obtain ⟨v0, v1, v2, d0, d1, d2, p0, p1, p2, rfl, rfl, rfl, h0, h1, h2⟩ := trodAll_three hA
  obtain ⟨b, ks, vs, l, hN, _, _, _⟩ := open_node (B := W.heap.size) (hval 0 _ _ rfl rfl) h0 (fun p hp => hlt p (by simp [hp])) (fun _ => rfl)
  obtain ⟨x, rfl, rfl, rfl, w0⟩ := open_int Try.underlying22 (hval 1 _ _ rfl rfl) h1
  obtain ⟨y, rfl, rfl, rfl, w1⟩ := open_int Try.underlying22 (hval 2 _ _ rfl rfl) h2
  exact LeafPuts_calls v0 b ks vs l x y W hN
theorem leafPuts_holds : Rows.LeafPutsSaid :=
  OpenClaim.holds_of_wide 6 Try.f6 rfl rfl rfl rfl rfl rfl rfl ⟨rfl, rfl, rfl, rfl, rfl⟩ rfl rfl rfl rfl rfl (by kernel_rfl) Try.func6 (by kernel_rfl)
    (of_decide_eq_true (by kernel_rfl)) (by unfold Func.isWrapper; first | (rw [if_pos (by decide +kernel)]; kernel_rfl) | (rw [if_neg (by decide +kernel)]; exact ⟨rfl, rfl⟩))
    (fun os started H enc _ => leafPuts_lifted os started H enc)
#print axioms leafPuts_holds
end Go.Proofs.Ytogpdgogcjljfaa
