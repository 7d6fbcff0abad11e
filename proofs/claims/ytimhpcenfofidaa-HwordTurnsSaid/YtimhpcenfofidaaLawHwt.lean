/-
  HwordTurns holds: for every input its Go function returns true and leaves its arguments as they were. No condition.
-/
import Derived.Test.YtimhpcenfofidaaLift
import Derived.Test.YtimhpcenfofidaaHwtC
import Derived.Test.YtimhpcenfofidaaOpen
namespace Go.Proofs.Ytimhpcenfofidaa
open Go.ChangeShapes Go.WideShapes Go.ChangeAt Go.RowKit

set_option maxRecDepth 100000 in
theorem hwordTurns_lifted (os : Os) (started : os.Started) (H : Type) (enc : TypeId × Value → H) :
    ReturnsInHanded {} Try.checked os 4 .any (Rows.hwordTurnsSpec.pre6 enc Try.prog Try.f4 Rows.hwordTurnsRow.domain false) (Rows.hwordTurnsSpec.post enc Try.prog Try.f4 false true false false) := by
  refine lift started 2 (by kernel_rfl) Try.func4 rfl rfl (fun ds hl => ?_) (by kernel_rfl) rfl #[.int .u64 0, .slice none 0 0] (by kernel_rfl) (by kernel_rfl) (by kernel_rfl) (by kernel_rfl) (by kernel_rfl) ?_
  · match ds, hl with
    | [_, _], _ => rfl
  intro W base args ds ps hval0 hA0 hlt
  have hval : ∀ (j : Nat) t v, Try.f4.params[j]? = some t → args[j]? = some v → Value.okWide Try.prog W .any base t v := hval0
  have hA : DataW.TrodAll enc Try.prog W 0 (fun _ => true) true Try.f4.params.toList args.toList ds ps := hA0
  rw [Try.params4] at hA hval
  clear hA0 hval0
  obtain ⟨v0, v1, d0, d1, p0, p1, rfl, rfl, rfl, h0, h1⟩ := trodAll_two hA
  obtain ⟨x, rfl, rfl, rfl, w0⟩ := open_int Try.underlying22 (hval 0 _ _ rfl rfl) h0
  obtain ⟨A, m, c, l, rfl, hnc, hcm, hl, hr, hw⟩ := open_words Try.underlying31 Try.underlying3 (by kernel_rfl) (hval 1 _ _ rfl rfl) h1 (fun p hp => hlt p (by simp [hp])) (fun _ => rfl)
  exact HwordTurns_calls x A m c l W (W64.of_wf w0) (fun y hy => I64.of_wf (hw y hy)) hr
theorem hwordTurns_holds : Rows.HwordTurnsSaid :=
  OpenClaim.holds_of_wide 4 Try.f4 rfl rfl rfl rfl rfl rfl rfl ⟨rfl, rfl, rfl, rfl, rfl⟩ rfl rfl rfl rfl rfl (by kernel_rfl) Try.func4 (by kernel_rfl)
    (of_decide_eq_true (by kernel_rfl)) (by unfold Func.isWrapper; first | (rw [if_pos (by decide +kernel)]; kernel_rfl) | (rw [if_neg (by decide +kernel)]; exact ⟨rfl, rfl⟩))
    (fun os started H enc _ => hwordTurns_lifted os started H enc)
#print axioms hwordTurns_holds
end Go.Proofs.Ytimhpcenfofidaa
