/-
  FieldGets, FieldPuts, FieldMasks, FieldSigned hold: for every input each law's Go function returns true and leaves its arguments as they were. No condition.
-/
import Derived.Test.YtgcdmngihnnloaaLift
import Derived.Test.YtgcdmngihnnloaaFieldLaws
import Derived.ProofKit
namespace Go.Proofs.Ytgcdmngihnnloaa
open Go.ChangeShapes Go.WideShapes Go.ChangeAt Go.RowKit

set_option maxRecDepth 100000 in
theorem fieldPuts_lifted (os : Os) (started : os.Started) (H : Type) (enc : TypeId × Value → H) :
    ReturnsInHanded {} Try.checked os 4 .any (Rows.fieldPutsSpec.pre6 enc Try.prog Try.f4 Rows.fieldPutsRow.domain false) (Rows.fieldPutsSpec.post enc Try.prog Try.f4 false true false false) := by
  refine lift started 4 (by kernel_rfl) Try.func4 rfl rfl (fun ds hl => ?_) (by kernel_rfl) rfl #[.int .u64 0, .int .i64 0, .int .i64 0, .int .u64 0] (by kernel_rfl) (by kernel_rfl) (by kernel_rfl) (by kernel_rfl) (by kernel_rfl) ?_
  · match ds, hl with
    | [_, _, _, _], _ => rfl
  intro W base args ds ps hval0 hA0 hlt
  have hval : ∀ (j : Nat) t v, Try.f4.params[j]? = some t → args[j]? = some v → Value.okWide Try.prog W .any base t v := hval0
  have hA : DataW.TrodAll enc Try.prog W 0 (fun _ => true) true Try.f4.params.toList args.toList ds ps := hA0
  rw [Try.params4] at hA hval
  clear hA0 hval0
  obtain ⟨v0, v1, v2, v3, d0, d1, d2, d3, p0, p1, p2, p3, rfl, rfl, rfl, h0, h1, h2, h3⟩ := trodAll_four hA
  obtain ⟨x, rfl, rfl, rfl, w0⟩ := open_int Try.underlying22 (hval 0 _ _ rfl rfl) h0
  obtain ⟨at_, rfl, rfl, rfl, w1⟩ := open_int Try.underlying3 (hval 1 _ _ rfl rfl) h1
  obtain ⟨size, rfl, rfl, rfl, w2⟩ := open_int Try.underlying3 (hval 2 _ _ rfl rfl) h2
  obtain ⟨v, rfl, rfl, rfl, w3⟩ := open_int Try.underlying22 (hval 3 _ _ rfl rfl) h3
  exact FieldPuts_calls x at_ size v W (W64.of_wf w0) (I64.of_wf w1) (I64.of_wf w2) (W64.of_wf w3)
theorem fieldPuts_holds : Rows.FieldPutsSaid :=
  OpenClaim.holds_of_wide 4 Try.f4 rfl rfl rfl rfl rfl rfl rfl ⟨rfl, rfl, rfl, rfl, rfl⟩ rfl rfl rfl rfl rfl (by kernel_rfl) Try.func4 (by kernel_rfl)
    (of_decide_eq_true (by kernel_rfl)) (by unfold Func.isWrapper; first | (rw [if_pos (by decide +kernel)]; kernel_rfl) | (rw [if_neg (by decide +kernel)]; exact ⟨rfl, rfl⟩))
    (fun os started H enc _ => fieldPuts_lifted os started H enc)
#print axioms fieldPuts_holds

set_option maxRecDepth 100000 in
theorem fieldMasks_lifted (os : Os) (started : os.Started) (H : Type) (enc : TypeId × Value → H) :
    ReturnsInHanded {} Try.checked os 5 .any (Rows.fieldMasksSpec.pre6 enc Try.prog Try.f5 Rows.fieldMasksRow.domain false) (Rows.fieldMasksSpec.post enc Try.prog Try.f5 false true false false) := by
  refine lift started 1 (by kernel_rfl) Try.func5 rfl rfl (fun ds hl => ?_) (by kernel_rfl) rfl #[.int .i64 0] (by kernel_rfl) (by kernel_rfl) (by kernel_rfl) (by kernel_rfl) (by kernel_rfl) ?_
  · match ds, hl with
    | [_], _ => rfl
  intro W base args ds ps hval0 hA0 hlt
  have hval : ∀ (j : Nat) t v, Try.f5.params[j]? = some t → args[j]? = some v → Value.okWide Try.prog W .any base t v := hval0
  have hA : DataW.TrodAll enc Try.prog W 0 (fun _ => true) true Try.f5.params.toList args.toList ds ps := hA0
  rw [Try.params5] at hA hval
  clear hA0 hval0
  obtain ⟨v0, d0, rfl, rfl, h0⟩ := trodAll_one hA
  obtain ⟨size, rfl, rfl, rfl, w0⟩ := open_int Try.underlying3 (hval 0 _ _ rfl rfl) h0
  exact FieldMasks_calls size W (I64.of_wf w0)
theorem fieldMasks_holds : Rows.FieldMasksSaid :=
  OpenClaim.holds_of_wide 5 Try.f5 rfl rfl rfl rfl rfl rfl rfl ⟨rfl, rfl, rfl, rfl, rfl⟩ rfl rfl rfl rfl rfl (by kernel_rfl) Try.func5 (by kernel_rfl)
    (of_decide_eq_true (by kernel_rfl)) (by unfold Func.isWrapper; first | (rw [if_pos (by decide +kernel)]; kernel_rfl) | (rw [if_neg (by decide +kernel)]; exact ⟨rfl, rfl⟩))
    (fun os started H enc _ => fieldMasks_lifted os started H enc)
#print axioms fieldMasks_holds

set_option maxRecDepth 100000 in
theorem fieldSigned_lifted (os : Os) (started : os.Started) (H : Type) (enc : TypeId × Value → H) :
    ReturnsInHanded {} Try.checked os 6 .any (Rows.fieldSignedSpec.pre6 enc Try.prog Try.f6 Rows.fieldSignedRow.domain false) (Rows.fieldSignedSpec.post enc Try.prog Try.f6 false true false false) := by
  refine lift started 2 (by kernel_rfl) Try.func6 rfl rfl (fun ds hl => ?_) (by kernel_rfl) rfl #[.int .u64 0, .int .i64 0] (by kernel_rfl) (by kernel_rfl) (by kernel_rfl) (by kernel_rfl) (by kernel_rfl) ?_
  · match ds, hl with
    | [_, _], _ => rfl
  intro W base args ds ps hval0 hA0 hlt
  have hval : ∀ (j : Nat) t v, Try.f6.params[j]? = some t → args[j]? = some v → Value.okWide Try.prog W .any base t v := hval0
  have hA : DataW.TrodAll enc Try.prog W 0 (fun _ => true) true Try.f6.params.toList args.toList ds ps := hA0
  rw [Try.params6] at hA hval
  clear hA0 hval0
  obtain ⟨v0, v1, d0, d1, p0, p1, rfl, rfl, rfl, h0, h1⟩ := trodAll_two hA
  obtain ⟨x, rfl, rfl, rfl, w0⟩ := open_int Try.underlying22 (hval 0 _ _ rfl rfl) h0
  obtain ⟨size, rfl, rfl, rfl, w1⟩ := open_int Try.underlying3 (hval 1 _ _ rfl rfl) h1
  exact FieldSigned_calls x size W (W64.of_wf w0) (I64.of_wf w1)
theorem fieldSigned_holds : Rows.FieldSignedSaid :=
  OpenClaim.holds_of_wide 6 Try.f6 rfl rfl rfl rfl rfl rfl rfl ⟨rfl, rfl, rfl, rfl, rfl⟩ rfl rfl rfl rfl rfl (by kernel_rfl) Try.func6 (by kernel_rfl)
    (of_decide_eq_true (by kernel_rfl)) (by unfold Func.isWrapper; first | (rw [if_pos (by decide +kernel)]; kernel_rfl) | (rw [if_neg (by decide +kernel)]; exact ⟨rfl, rfl⟩))
    (fun os started H enc _ => fieldSigned_lifted os started H enc)
#print axioms fieldSigned_holds

set_option maxRecDepth 100000 in
theorem fieldGets_lifted (os : Os) (started : os.Started) (H : Type) (enc : TypeId × Value → H) :
    ReturnsInHanded {} Try.checked os 3 .any (Rows.fieldGetsSpec.pre6 enc Try.prog Try.f3 Rows.fieldGetsRow.domain false) (Rows.fieldGetsSpec.post enc Try.prog Try.f3 false true false false) := by
  refine lift started 3 (by kernel_rfl) Try.func3 rfl rfl (fun ds hl => ?_) (by kernel_rfl) rfl #[.int .u64 0, .int .i64 0, .int .i64 0] (by kernel_rfl) (by kernel_rfl) (by kernel_rfl) (by kernel_rfl) (by kernel_rfl) ?_
  · match ds, hl with
    | [_, _, _], _ => rfl
  intro W base args ds ps hval0 hA0 hlt
  have hval : ∀ (j : Nat) t v, Try.f3.params[j]? = some t → args[j]? = some v → Value.okWide Try.prog W .any base t v := hval0
  have hA : DataW.TrodAll enc Try.prog W 0 (fun _ => true) true Try.f3.params.toList args.toList ds ps := hA0
  rw [Try.params3] at hA hval
  clear hA0 hval0
  obtain ⟨v0, v1, v2, d0, d1, d2, p0, p1, p2, rfl, rfl, rfl, h0, h1, h2⟩ := trodAll_three hA
  obtain ⟨x, rfl, rfl, rfl, w0⟩ := open_int Try.underlying22 (hval 0 _ _ rfl rfl) h0
  obtain ⟨at_, rfl, rfl, rfl, w1⟩ := open_int Try.underlying3 (hval 1 _ _ rfl rfl) h1
  obtain ⟨size, rfl, rfl, rfl, w2⟩ := open_int Try.underlying3 (hval 2 _ _ rfl rfl) h2
  exact FieldGets_calls x at_ size W (W64.of_wf w0) (I64.of_wf w1) (I64.of_wf w2)
theorem fieldGets_holds : Rows.FieldGetsSaid :=
  OpenClaim.holds_of_wide 3 Try.f3 rfl rfl rfl rfl rfl rfl rfl ⟨rfl, rfl, rfl, rfl, rfl⟩ rfl rfl rfl rfl rfl (by kernel_rfl) Try.func3 (by kernel_rfl)
    (of_decide_eq_true (by kernel_rfl)) (by unfold Func.isWrapper; first | (rw [if_pos (by decide +kernel)]; kernel_rfl) | (rw [if_neg (by decide +kernel)]; exact ⟨rfl, rfl⟩))
    (fun os started H enc _ => fieldGets_lifted os started H enc)
#print axioms fieldGets_holds

set_option maxRecDepth 100000 in
theorem fieldKeeps_lifted (os : Os) (started : os.Started) (H : Type) (enc : TypeId × Value → H) :
    ReturnsInHanded {} Try.checked os 7 .any (Rows.fieldKeepsSpec.pre6 enc Try.prog Try.f7 Rows.fieldKeepsRow.domain false) (Rows.fieldKeepsSpec.post enc Try.prog Try.f7 false true false false) := by
  refine lift started 6 (by kernel_rfl) Try.func7 rfl rfl (fun ds hl => ?_) (by kernel_rfl) rfl #[.int .u64 0, .int .i64 0, .int .i64 0, .int .u64 0, .int .i64 0, .int .i64 0] (by kernel_rfl) (by kernel_rfl) (by kernel_rfl) (by kernel_rfl) (by kernel_rfl) ?_
  · match ds, hl with
    | [_, _, _, _, _, _], _ => rfl
  intro W base args ds ps hval0 hA0 hlt
  have hval : ∀ (j : Nat) t v, Try.f7.params[j]? = some t → args[j]? = some v → Value.okWide Try.prog W .any base t v := hval0
  have hA : DataW.TrodAll enc Try.prog W 0 (fun _ => true) true Try.f7.params.toList args.toList ds ps := hA0
  rw [Try.params7] at hA hval
  clear hA0 hval0
  obtain ⟨v0, v1, v2, v3, v4, v5, d0, d1, d2, d3, d4, d5, p0, p1, p2, p3, p4, p5, rfl, rfl, rfl, h0, h1, h2, h3, h4, h5⟩ := trodAll_six hA
  obtain ⟨x, rfl, rfl, rfl, w0⟩ := open_int Try.underlying22 (hval 0 _ _ rfl rfl) h0
  obtain ⟨at_, rfl, rfl, rfl, w1⟩ := open_int Try.underlying3 (hval 1 _ _ rfl rfl) h1
  obtain ⟨size, rfl, rfl, rfl, w2⟩ := open_int Try.underlying3 (hval 2 _ _ rfl rfl) h2
  obtain ⟨v, rfl, rfl, rfl, w3⟩ := open_int Try.underlying22 (hval 3 _ _ rfl rfl) h3
  obtain ⟨other, rfl, rfl, rfl, w4⟩ := open_int Try.underlying3 (hval 4 _ _ rfl rfl) h4
  obtain ⟨many, rfl, rfl, rfl, w5⟩ := open_int Try.underlying3 (hval 5 _ _ rfl rfl) h5
  exact FieldKeeps_calls x at_ size v other many W (W64.of_wf w0) (I64.of_wf w1) (I64.of_wf w2) (W64.of_wf w3) (I64.of_wf w4) (I64.of_wf w5)
theorem fieldKeeps_holds : Rows.FieldKeepsSaid :=
  OpenClaim.holds_of_wide 7 Try.f7 rfl rfl rfl rfl rfl rfl rfl ⟨rfl, rfl, rfl, rfl, rfl⟩ rfl rfl rfl rfl rfl (by kernel_rfl) Try.func7 (by kernel_rfl)
    (of_decide_eq_true (by kernel_rfl)) (by unfold Func.isWrapper; first | (rw [if_pos (by decide +kernel)]; kernel_rfl) | (rw [if_neg (by decide +kernel)]; exact ⟨rfl, rfl⟩))
    (fun os started H enc _ => fieldKeeps_lifted os started H enc)
#print axioms fieldKeeps_holds
end Go.Proofs.Ytgcdmngihnnloaa
