/-
  LimboBags holds: for every input its Go function returns true and leaves its arguments as they were. No condition.
-/
import Derived.Test.YtenoekfcffkpeaaLift
import Derived.Test.YtenoekfcffkpeaaOpen
import Derived.Test.YtenoekfcffkpeaaLimboB
namespace Go.Proofs.Ytenoekfcffkpeaa
open Go.ChangeShapes Go.WideShapes Go.ChangeAt Go.RowKit

set_option maxRecDepth 100000 in
theorem limboBags_lifted (os : Os) (started : os.Started) (H : Type) (enc : TypeId × Value → H) :
    ReturnsInHanded {} Try.checked os 3 .any (Rows.limboBagsSpec.pre6 enc Try.prog Try.f3 Rows.limboBagsRow.domain false) (Rows.limboBagsSpec.post enc Try.prog Try.f3 false true false false) := by
  refine lift started 1 (by kernel_rfl) Try.func3 rfl rfl (fun ds hl => ?_) (by kernel_rfl) rfl #[.slice none 0 0] (by kernel_rfl) (by kernel_rfl) (by kernel_rfl) (by kernel_rfl) (by kernel_rfl) ?_
  · match ds, hl with
    | [_], _ => rfl
  intro W base args ds ps hval0 hA0 hlt
  have hval : ∀ (j : Nat) t v, Try.f3.params[j]? = some t → args[j]? = some v → Value.okWide Try.prog W .any base t v := hval0
  have hA : DataW.TrodAll enc Try.prog W 0 (fun _ => true) true Try.f3.params.toList args.toList ds ps := hA0
  rw [Try.params3] at hA hval
  obtain ⟨v0, d0, rfl, rfl, h0⟩ := trodAll_one hA
  obtain ⟨A, n, c, l, rfl, hnc, hcm, hl, hr, hw⟩ := open_pairs Try.underlying22 Try.underlying28 (by kernel_rfl) Try.underlying26 Try.underlying26 (by kernel_rfl) (hval 0 _ _ rfl rfl) h0 hlt (fun _ => rfl)
  exact LimboBags_calls A n c l W hl (Nat.le_trans hnc hcm) hr (fun r h => (hw r h).2)

theorem limboBags_holds : Rows.LimboBagsSaid :=
  OpenClaim.holds_of_wide 3 Try.f3 rfl rfl rfl rfl rfl rfl rfl ⟨rfl, rfl, rfl, rfl, rfl⟩ rfl rfl rfl rfl rfl (by kernel_rfl) Try.func3 (by kernel_rfl)
    (of_decide_eq_true (by kernel_rfl)) (by unfold Func.isWrapper; first | (rw [if_pos (by decide +kernel)]; kernel_rfl) | (rw [if_neg (by decide +kernel)]; exact ⟨rfl, rfl⟩))
    (fun os started H enc _ => limboBags_lifted os started H enc)
#print axioms limboBags_holds
end Go.Proofs.Ytenoekfcffkpeaa
