/-
  HandleMakes holds: for every input its Go function returns true and leaves its arguments as they were. No condition.
-/
import Derived.Test.YthpgoglhccoeeaaLift
import Derived.Test.YthpgoglhccoeeaaHdlC
namespace Go.Proofs.Ythpgoglhccoeeaa
open Go.ChangeShapes Go.WideShapes Go.ChangeAt Go.RowKit

set_option maxRecDepth 100000 in
theorem handleMakes_lifted (os : Os) (started : os.Started) (H : Type) (enc : TypeId × Value → H) :
    ReturnsInHanded {} Try.checked os 3 .any (Rows.handleMakesSpec.pre6 enc Try.prog Try.f3 Rows.handleMakesRow.domain false) (Rows.handleMakesSpec.post enc Try.prog Try.f3 false true false false) := by
  refine lift started 4 (by kernel_rfl) Try.func3 rfl rfl (fun ds hl => ?_) (by kernel_rfl) rfl #[.int .u64 0, .int .i64 0, .int .u64 0, .int .i64 0] (by kernel_rfl) (by kernel_rfl) (by kernel_rfl) (by kernel_rfl) (by kernel_rfl) ?_
  · match ds, hl with
    | [_, _, _, _], _ => rfl
  intro W base args ds ps hval0 hA0 hlt
  have hval : ∀ (j : Nat) t v, Try.f3.params[j]? = some t → args[j]? = some v → Value.okWide Try.prog W .any base t v := hval0
  have hA : DataW.TrodAll enc Try.prog W 0 (fun _ => true) true Try.f3.params.toList args.toList ds ps := hA0
  rw [Try.params3] at hA hval
  clear hA0 hval0
  obtain ⟨v0, v1, v2, v3, d0, d1, d2, d3, p0, p1, p2, p3, rfl, rfl, rfl, h0, h1, h2, h3⟩ := trodAll_four hA
  obtain ⟨a, rfl, rfl, rfl, w0⟩ := open_int Try.underlying22 (hval 0 _ _ rfl rfl) h0
  obtain ⟨b, rfl, rfl, rfl, w1⟩ := open_int Try.underlying3 (hval 1 _ _ rfl rfl) h1
  obtain ⟨c, rfl, rfl, rfl, w2⟩ := open_int Try.underlying22 (hval 2 _ _ rfl rfl) h2
  obtain ⟨d, rfl, rfl, rfl, w3⟩ := open_int Try.underlying3 (hval 3 _ _ rfl rfl) h3
  exact HandleMakes_calls a b c d W (W64.of_wf w0) (I64.of_wf w1) (W64.of_wf w2)
theorem handleMakes_holds : Rows.HandleMakesSaid :=
  OpenClaim.holds_of_wide 3 Try.f3 rfl rfl rfl rfl rfl rfl rfl ⟨rfl, rfl, rfl, rfl, rfl⟩ rfl rfl rfl rfl rfl (by kernel_rfl) Try.func3 (by kernel_rfl)
    (of_decide_eq_true (by kernel_rfl)) (by unfold Func.isWrapper; first | (rw [if_pos (by decide +kernel)]; kernel_rfl) | (rw [if_neg (by decide +kernel)]; exact ⟨rfl, rfl⟩))
    (fun os started H enc _ => handleMakes_lifted os started H enc)
#print axioms handleMakes_holds
end Go.Proofs.Ythpgoglhccoeeaa
