/-
  FieldBytes holds: for every input its Go function returns true and leaves its arguments as they were. No condition.
-/
import Derived.Test.YtgcdmngihnnloaaLift
import Derived.Test.YtgcdmngihnnloaaByt
import Derived.Test.YtgcdmngihnnloaaOpen
namespace Go.Proofs.Ytgcdmngihnnloaa
open Go.ChangeShapes Go.WideShapes Go.ChangeAt Go.RowKit

set_option maxRecDepth 100000 in
theorem fieldBytes_lifted (os : Os) (started : os.Started) (H : Type) (enc : TypeId × Value → H) :
    ReturnsInHanded {} Try.checked os 8 .any (Rows.fieldBytesSpec.pre6 enc Try.prog Try.f8 Rows.fieldBytesRow.domain false) (Rows.fieldBytesSpec.post enc Try.prog Try.f8 false true false false) := by
  refine lift started 2 (by kernel_rfl) Try.func8 rfl rfl (fun ds hl => ?_) (by kernel_rfl) rfl #[.int .u64 0, .slice none 0 0] (by kernel_rfl) (by kernel_rfl) (by kernel_rfl) (by kernel_rfl) (by kernel_rfl) ?_
  · match ds, hl with
    | [_, _], _ => rfl
  intro W base args ds ps hval0 hA0 hlt
  have hval : ∀ (j : Nat) t v, Try.f8.params[j]? = some t → args[j]? = some v → Value.okWide Try.prog W .any base t v := hval0
  have hA : DataW.TrodAll enc Try.prog W 0 (fun _ => true) true Try.f8.params.toList args.toList ds ps := hA0
  rw [Try.params8] at hA hval
  clear hA0 hval0
  obtain ⟨v0, v1, d0, d1, p0, p1, rfl, rfl, rfl, h0, h1⟩ := trodAll_two hA
  obtain ⟨x, rfl, rfl, rfl, w0⟩ := open_int Try.underlying22 (hval 0 _ _ rfl rfl) h0
  obtain ⟨A, n, c, l, rfl, hnc, hc, hl, hr, hw⟩ := open_words (B := W.heap.size) Try.underlying35 Try.underlying5 (by kernel_rfl) (hval 1 _ _ rfl rfl) h1 (fun p hp => hlt p (by simp [hp])) (fun _ => rfl)
  refine FieldBytes_calls x A n c l W (W64.of_wf w0) (by unfold maxLen at hc; omega) hr (fun k => ?_)
  by_cases hk : k < l.length
  · rw [List.getD_eq_getElem?_getD, List.getElem?_eq_getElem hk]
    have := hw l[k] (List.getElem_mem hk)
    simp [Lit.wf, IntKind.min, IntKind.max, IntKind.signed, IntKind.bits] at this
    exact ⟨this.1, this.2⟩
  · rw [List.getD_eq_getElem?_getD, List.getElem?_eq_none (by omega)]
    exact ⟨Int.le_refl _, by decide⟩
theorem fieldBytes_holds : Rows.FieldBytesSaid :=
  OpenClaim.holds_of_wide 8 Try.f8 rfl rfl rfl rfl rfl rfl rfl ⟨rfl, rfl, rfl, rfl, rfl⟩ rfl rfl rfl rfl rfl (by kernel_rfl) Try.func8 (by kernel_rfl)
    (of_decide_eq_true (by kernel_rfl)) (by unfold Func.isWrapper; first | (rw [if_pos (by decide +kernel)]; kernel_rfl) | (rw [if_neg (by decide +kernel)]; exact ⟨rfl, rfl⟩))
    (fun os started H enc _ => fieldBytes_lifted os started H enc)
#print axioms fieldBytes_holds
end Go.Proofs.Ytgcdmngihnnloaa
