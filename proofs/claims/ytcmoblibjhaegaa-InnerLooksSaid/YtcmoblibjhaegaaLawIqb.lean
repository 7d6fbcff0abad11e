/-
  InnerLooks holds: for every input its Go function returns true and leaves its arguments as they were. No condition.
-/
import Derived.Test.YtcmoblibjhaegaaLift
import Derived.Test.YtcmoblibjhaegaaIqb
import Derived.Test.YtcmoblibjhaegaaOpenN
namespace Go.Proofs.Ytcmoblibjhaegaa
open Go.ChangeShapes Go.WideShapes Go.ChangeAt Go.RowKit

theorem InnerLooks_calls (v : Value) (b : Bool) (ks vs : List Int) (l i key probe : Int) (w : World) (h : Nd w w.heap.size v b ks vs l) :
    Calls Try.prog 6 #[v, .int .i64 i, .int .u64 key, .int .u64 probe] w fun e w' => e = .returned (.bool true) ∧ Below w.heap.size w w' := by
  by_cases hsm : ks.length ≤ 80 ∧ vs.length ≤ 80
  · cases hs : rightI b ks vs with
    | false => exact looks_no v b ks vs l i key probe w h (.inr ⟨hsm, hs⟩)
    | true =>
      obtain ⟨rfl, _, _⟩ := rightI_parts hs
      exact looks_yes v ks vs l i key probe w h hsm.1 hsm.2 hs
  · exact looks_no v b ks vs l i key probe w h (.inl hsm)
set_option maxRecDepth 100000 in
theorem innerLooks_lifted (os : Os) (started : os.Started) (H : Type) (enc : TypeId × Value → H) :
    ReturnsInHanded {} Try.checked os 6 .any (Rows.innerLooksSpec.pre6 enc Try.prog Try.f6 Rows.innerLooksRow.domain false) (Rows.innerLooksSpec.post enc Try.prog Try.f6 false true false false) := by
  refine lift started 4 (by kernel_rfl) Try.func6 rfl rfl (fun ds hl => ?_) (by kernel_rfl) rfl #[.agg #[.bool false, .slice none 0 0, .slice none 0 0, .int .u64 0], .int .i64 0, .int .u64 0, .int .u64 0] (by kernel_rfl) (by kernel_rfl) (by kernel_rfl) (by kernel_rfl) (by kernel_rfl) ?_
  · match ds, hl with
    | [_, _, _, _], _ => rfl
  intro W base args ds ps hval0 hA0 hlt
  have hval : ∀ (j : Nat) t v, Try.f6.params[j]? = some t → args[j]? = some v → Value.okWide Try.prog W .any base t v := hval0
  have hA : DataW.TrodAll enc Try.prog W 0 (fun _ => true) true Try.f6.params.toList args.toList ds ps := hA0
  rw [Try.params6] at hA hval
  clear hA0 hval0
  obtain ⟨v0, v1, v2, v3, d0, d1, d2, d3, p0, p1, p2, p3, rfl, rfl, rfl, h0, h1, h2, h3⟩ := trodAll_four hA
  obtain ⟨b, ks, vs, l, hN, _, _, _⟩ := open_node (B := W.heap.size) (hval 0 _ _ rfl rfl) h0 (fun p hp => hlt p (by simp [hp])) (fun _ => rfl)
  obtain ⟨x, rfl, rfl, rfl, w0⟩ := open_int Try.underlying3 (hval 1 _ _ rfl rfl) h1
  obtain ⟨y, rfl, rfl, rfl, w1⟩ := open_int Try.underlying22 (hval 2 _ _ rfl rfl) h2
  obtain ⟨z, rfl, rfl, rfl, w2⟩ := open_int Try.underlying22 (hval 3 _ _ rfl rfl) h3
  exact InnerLooks_calls v0 b ks vs l x y z W hN
theorem innerLooks_holds : Rows.InnerLooksSaid :=
  OpenClaim.holds_of_wide 6 Try.f6 rfl rfl rfl rfl rfl rfl rfl ⟨rfl, rfl, rfl, rfl, rfl⟩ rfl rfl rfl rfl rfl (by kernel_rfl) Try.func6 (by kernel_rfl)
    (of_decide_eq_true (by kernel_rfl)) (by unfold Func.isWrapper; first | (rw [if_pos (by decide +kernel)]; kernel_rfl) | (rw [if_neg (by decide +kernel)]; exact ⟨rfl, rfl⟩))
    (fun os started H enc _ => innerLooks_lifted os started H enc)
#print axioms innerLooks_holds
end Go.Proofs.Ytcmoblibjhaegaa
