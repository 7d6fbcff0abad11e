/-
  InnerOf holds: for every input its Go function returns true and leaves its arguments as they were. No condition.
-/
import Derived.Test.YtcmoblibjhaegaaLift
import Derived.Test.YtcmoblibjhaegaaIl
import Derived.Test.YtcmoblibjhaegaaOpenN
namespace Go.Proofs.Ytcmoblibjhaegaa
open Go.ChangeShapes Go.WideShapes Go.ChangeAt Go.RowKit

set_option maxHeartbeats 1000000 in
theorem InnerOf_big (first : Int) (A : Option Addr) (n c : Nat) (w : World) (h : (60 : Int) < n) :
    Calls Try.prog 3 #[.int .u64 first, .slice A n c] w fun e w' => e = .returned (.bool true) ∧ Below w.heap.size w w' := by
  go_enter Try.func3, Try.ntmps3
  go_wp2_with fail
  refine (awake13 _).mono ?_
  rintro e w1 ⟨rfl, hb1⟩
  go_wp2_with fail
  go_ret
  exact ⟨rfl, hb1⟩
theorem InnerOf_calls (first : Int) (A : Option Addr) (n c : Nat) (l : List (Int × Int)) (w : World) (hr : Reads w w.heap.size 2 A n (rec2 l)) :
    Calls Try.prog 3 #[.int .u64 first, .slice A n c] w fun e w' => e = .returned (.bool true) ∧ Below w.heap.size w w' := by
  by_cases h : n ≤ 60
  · exact InnerOf_small first A n c l w h hr
  · exact InnerOf_big first A n c w (by omega)
set_option maxRecDepth 100000 in
theorem innerOf_lifted (os : Os) (started : os.Started) (H : Type) (enc : TypeId × Value → H) :
    ReturnsInHanded {} Try.checked os 3 .any (Rows.innerOfSpec.pre6 enc Try.prog Try.f3 Rows.innerOfRow.domain false) (Rows.innerOfSpec.post enc Try.prog Try.f3 false true false false) := by
  refine lift started 2 (by kernel_rfl) Try.func3 rfl rfl (fun ds hl => ?_) (by kernel_rfl) rfl #[.int .u64 0, .slice none 0 0] (by kernel_rfl) (by kernel_rfl) (by kernel_rfl) (by kernel_rfl) (by kernel_rfl) ?_
  · match ds, hl with
    | [_, _], _ => rfl
  intro W base args ds ps hval0 hA0 hlt
  have hval : ∀ (j : Nat) t v, Try.f3.params[j]? = some t → args[j]? = some v → Value.okWide Try.prog W .any base t v := hval0
  have hA : DataW.TrodAll enc Try.prog W 0 (fun _ => true) true Try.f3.params.toList args.toList ds ps := hA0
  rw [Try.params3] at hA hval
  clear hA0 hval0
  obtain ⟨v0, v1, d0, d1, p0, p1, rfl, rfl, rfl, h0, h1⟩ := trodAll_two hA
  obtain ⟨x, rfl, rfl, rfl, w0⟩ := open_int Try.underlying22 (hval 0 _ _ rfl rfl) h0
  obtain ⟨A, n, c, l, rfl, hnc, hcm, hl, hr, hw⟩ := open_pairs (B := W.heap.size) Try.underlying23 Try.underlying29 (by kernel_rfl) Try.underlying22 Try.underlying22 (by kernel_rfl) (hval 1 _ _ rfl rfl) h1 (fun p hp => hlt p (by simp [hp])) (fun _ => rfl)
  exact InnerOf_calls x A n c l W hr
theorem innerOf_holds : Rows.InnerOfSaid :=
  OpenClaim.holds_of_wide 3 Try.f3 rfl rfl rfl rfl rfl rfl rfl ⟨rfl, rfl, rfl, rfl, rfl⟩ rfl rfl rfl rfl rfl (by kernel_rfl) Try.func3 (by kernel_rfl)
    (of_decide_eq_true (by kernel_rfl)) (by unfold Func.isWrapper; first | (rw [if_pos (by decide +kernel)]; kernel_rfl) | (rw [if_neg (by decide +kernel)]; exact ⟨rfl, rfl⟩))
    (fun os started H enc _ => innerOf_lifted os started H enc)
#print axioms innerOf_holds
end Go.Proofs.Ytcmoblibjhaegaa
