/-
  HandleOnce holds: for every input its Go function returns true and leaves its arguments as they were. No condition.
-/
import Derived.Test.YthpgoglhccoeeaaLift
import Derived.Test.YthpgoglhccoeeaaOnceR
import Derived.Test.YthpgoglhccoeeaaOpen
namespace Go.Proofs.Ythpgoglhccoeeaa
open Go.ChangeShapes Go.WideShapes Go.ChangeAt Go.RowKit

set_option maxRecDepth 100000 in
theorem handleOnce_lifted (os : Os) (started : os.Started) (H : Type) (enc : TypeId × Value → H) :
    ReturnsInHanded {} Try.checked os 6 .any (Rows.handleOnceSpec.pre6 enc Try.prog Try.f6 Rows.handleOnceRow.domain false) (Rows.handleOnceSpec.post enc Try.prog Try.f6 false true false false) := by
  refine lift started 1 (by kernel_rfl) Try.func6 rfl rfl (fun ds hl => ?_) (by kernel_rfl) rfl #[.slice none 0 0] (by kernel_rfl) (by kernel_rfl) (by kernel_rfl) (by kernel_rfl) (by kernel_rfl) ?_
  · match ds, hl with
    | [_], _ => rfl
  intro W base args ds ps hval0 hA0 hlt
  have hval : ∀ (j : Nat) t v, Try.f6.params[j]? = some t → args[j]? = some v → Value.okWide Try.prog W .any base t v := hval0
  have hA : DataW.TrodAll enc Try.prog W 0 (fun _ => true) true Try.f6.params.toList args.toList ds ps := hA0
  rw [Try.params6] at hA hval
  clear hA0 hval0
  obtain ⟨v0, d0, rfl, rfl, h0⟩ := trodAll_one hA
  obtain ⟨A, n, c, l, rfl, hnc, hcm, hl, hr, hw⟩ := open_words (B := W.heap.size) Try.underlying36 Try.underlying22 (by kernel_rfl) (hval 0 _ _ rfl rfl) h0 hlt (fun _ => rfl)
  exact HandleOnce_calls A n c l W (Nat.le_trans hnc hcm) hl hr (fun x hx => W64.of_wf (hw x hx))
theorem handleOnce_holds : Rows.HandleOnceSaid :=
  OpenClaim.holds_of_wide 6 Try.f6 rfl rfl rfl rfl rfl rfl rfl ⟨rfl, rfl, rfl, rfl, rfl⟩ rfl rfl rfl rfl rfl (by kernel_rfl) Try.func6 (by kernel_rfl)
    (of_decide_eq_true (by kernel_rfl)) (by unfold Func.isWrapper; first | (rw [if_pos (by decide +kernel)]; kernel_rfl) | (rw [if_neg (by decide +kernel)]; exact ⟨rfl, rfl⟩))
    (fun os started H enc _ => handleOnce_lifted os started H enc)
#print axioms handleOnce_holds
end Go.Proofs.Ythpgoglhccoeeaa
