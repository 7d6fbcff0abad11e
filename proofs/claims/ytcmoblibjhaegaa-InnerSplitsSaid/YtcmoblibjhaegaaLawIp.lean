/-
  InnerSplits holds: for every input its Go function returns true and leaves its arguments as they were. No condition.
-/
import Derived.Test.YtcmoblibjhaegaaLift
import Derived.Test.YtcmoblibjhaegaaIp
import Derived.Test.YtcmoblibjhaegaaOpenN
namespace Go.Proofs.Ytcmoblibjhaegaa
open Go.ChangeShapes Go.WideShapes Go.ChangeAt Go.RowKit

theorem InnerSplits_calls (v : Value) (b : Bool) (ks vs : List Int) (l : Int) (w : World) (h : Nd w w.heap.size v b ks vs l) :
    Calls Try.prog 4 #[v] w fun e w' => e = .returned (.bool true) ∧ Below w.heap.size w w' := by
  by_cases hsm : ks.length ≤ 80 ∧ vs.length ≤ 80
  · by_cases h2 : vs.length < 2
    · exact splits_no v b ks vs l w h hsm.1 hsm.2 (.inr h2)
    · cases hs : rightI b ks vs with
      | false => exact splits_no v b ks vs l w h hsm.1 hsm.2 (.inl hs)
      | true => exact splits_yes v b ks vs l w h hsm.1 hsm.2 hs (by omega)
  · exact splits_big v b ks vs l w h hsm
set_option maxRecDepth 100000 in
theorem innerSplits_lifted (os : Os) (started : os.Started) (H : Type) (enc : TypeId × Value → H) :
    ReturnsInHanded {} Try.checked os 4 .any (Rows.innerSplitsSpec.pre6 enc Try.prog Try.f4 Rows.innerSplitsRow.domain false) (Rows.innerSplitsSpec.post enc Try.prog Try.f4 false true false false) := by
  refine lift started 1 (by kernel_rfl) Try.func4 rfl rfl (fun ds hl => ?_) (by kernel_rfl) rfl #[.agg #[.bool false, .slice none 0 0, .slice none 0 0, .int .u64 0]] (by kernel_rfl) (by kernel_rfl) (by kernel_rfl) (by kernel_rfl) (by kernel_rfl) ?_
  · match ds, hl with
    | [_], _ => rfl
  intro W base args ds ps hval0 hA0 hlt
  have hval : ∀ (j : Nat) t v, Try.f4.params[j]? = some t → args[j]? = some v → Value.okWide Try.prog W .any base t v := hval0
  have hA : DataW.TrodAll enc Try.prog W 0 (fun _ => true) true Try.f4.params.toList args.toList ds ps := hA0
  rw [Try.params4] at hA hval
  clear hA0 hval0
  obtain ⟨v0, d0, rfl, rfl, h0⟩ := trodAll_one hA
  obtain ⟨b, ks, vs, l, hN, _, _, _⟩ := open_node (B := W.heap.size) (hval 0 _ _ rfl rfl) h0 hlt (fun _ => rfl)
  exact InnerSplits_calls v0 b ks vs l W hN
theorem innerSplits_holds : Rows.InnerSplitsSaid :=
  OpenClaim.holds_of_wide 4 Try.f4 rfl rfl rfl rfl rfl rfl rfl ⟨rfl, rfl, rfl, rfl, rfl⟩ rfl rfl rfl rfl rfl (by kernel_rfl) Try.func4 (by kernel_rfl)
    (of_decide_eq_true (by kernel_rfl)) (by unfold Func.isWrapper; first | (rw [if_pos (by decide +kernel)]; kernel_rfl) | (rw [if_neg (by decide +kernel)]; exact ⟨rfl, rfl⟩))
    (fun os started H enc _ => innerSplits_lifted os started H enc)
#print axioms innerSplits_holds
end Go.Proofs.Ytcmoblibjhaegaa
