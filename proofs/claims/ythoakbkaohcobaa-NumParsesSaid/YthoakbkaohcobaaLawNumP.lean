/-
  NumParses holds: for every input its Go function returns true and leaves its arguments as they were. No condition.
-/
import Derived.Test.YthoakbkaohcobaaLift
import Derived.Test.YthoakbkaohcobaaNumS
import Derived.ChangeMaps5
namespace Go.Proofs.Ythoakbkaohcobaa
open Go.ChangeShapes Go.WideShapes Go.ChangeAt Go.RowKit

set_option maxRecDepth 100000 in
theorem numParses_lifted (os : Os) (started : os.Started) (H : Type) (enc : TypeId × Value → H) :
    ReturnsInHanded {} Try.checked os 5 .any (Rows.numParsesSpec.pre6 enc Try.prog Try.f5 Rows.numParsesRow.domain false) (Rows.numParsesSpec.post enc Try.prog Try.f5 false true false false) := by
  refine lift started 1 (by kernel_rfl) Try.func5 rfl rfl (fun ds hl => ?_) (by kernel_rfl) rfl #[.string ⟨#[]⟩] (by kernel_rfl) (by kernel_rfl) (by kernel_rfl) (by kernel_rfl) (by kernel_rfl) ?_
  · match ds, hl with
    | [_], _ => rfl
  intro W base args ds ps hval0 hA0 hlt
  have hval : ∀ (j : Nat) t v, Try.f5.params[j]? = some t → args[j]? = some v → Value.okWide Try.prog W .any base t v := hval0
  have hA : DataW.TrodAll enc Try.prog W 0 (fun _ => true) true Try.f5.params.toList args.toList ds ps := hA0
  rw [Try.params5] at hA hval
  clear hA0 hval0
  obtain ⟨v0, d0, rfl, rfl, h0⟩ := trodAll_one hA
  obtain ⟨s, rfl, rfl, rfl, hs⟩ := Go.ChangeMaps.open_string Try.underlying9 (hval 0 _ _ rfl rfl) h0
  exact NumParses_calls s W (by unfold maxLen at hs; omega)
theorem numParses_holds : Rows.NumParsesSaid :=
  OpenClaim.holds_of_wide 5 Try.f5 rfl rfl rfl rfl rfl rfl rfl ⟨rfl, rfl, rfl, rfl, rfl⟩ rfl rfl rfl rfl rfl (by kernel_rfl) Try.func5 (by kernel_rfl)
    (of_decide_eq_true (by kernel_rfl)) (by unfold Func.isWrapper; first | (rw [if_pos (by decide +kernel)]; kernel_rfl) | (rw [if_neg (by decide +kernel)]; exact ⟨rfl, rfl⟩))
    (fun os started H enc _ => numParses_lifted os started H enc)
#print axioms numParses_holds
end Go.Proofs.Ythoakbkaohcobaa
