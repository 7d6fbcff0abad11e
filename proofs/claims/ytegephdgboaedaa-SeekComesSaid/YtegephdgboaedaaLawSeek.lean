/-
  SeekSteps and SeekComes hold: for every input each law's Go function returns true and leaves its arguments as they were. No condition.
-/
import Derived.Test.YtegephdgboaedaaLift
import Derived.Test.YtegephdgboaedaaOpen
import Derived.Test.YtegephdgboaedaaSeekD
import Derived.Test.YtegephdgboaedaaSeekE
import Derived.ProofKit
namespace Go.Proofs.Ytegephdgboaedaa
open Go.ChangeShapes Go.WideShapes Go.ChangeAt Go.RowKit

set_option maxRecDepth 100000 in
theorem seekSteps_lifted (os : Os) (started : os.Started) (H : Type) (enc : TypeId × Value → H) :
    ReturnsInHanded {} Try.checked os 5 .any (Rows.seekStepsSpec.pre6 enc Try.prog Try.f5 Rows.seekStepsRow.domain false) (Rows.seekStepsSpec.post enc Try.prog Try.f5 false true false false) := by
  refine lift started 1 (by kernel_rfl) Try.func5 rfl rfl (fun ds hl => ?_) (by kernel_rfl) rfl #[.int .i64 0] (by kernel_rfl) (by kernel_rfl) (by kernel_rfl) (by kernel_rfl) (by kernel_rfl) ?_
  · match ds, hl with
    | [_], _ => rfl
  intro W base args ds ps hval0 hA0 hlt
  have hval : ∀ (j : Nat) t v, Try.f5.params[j]? = some t → args[j]? = some v → Value.okWide Try.prog W .any base t v := hval0
  have hA : DataW.TrodAll enc Try.prog W 0 (fun _ => true) true Try.f5.params.toList args.toList ds ps := hA0
  rw [Try.params5] at hA hval
  clear hA0 hval0
  obtain ⟨v0, d0, rfl, rfl, h0⟩ := trodAll_one hA
  obtain ⟨n, rfl, rfl, rfl, w0⟩ := open_int Try.underlying3 (hval 0 _ _ rfl rfl) h0
  exact SeekSteps_calls n W (I64.of_wf w0)
theorem seekSteps_holds : Rows.SeekStepsSaid :=
  OpenClaim.holds_of_wide 5 Try.f5 rfl rfl rfl rfl rfl rfl rfl ⟨rfl, rfl, rfl, rfl, rfl⟩ rfl rfl rfl rfl rfl (by kernel_rfl) Try.func5 (by kernel_rfl)
    (of_decide_eq_true (by kernel_rfl)) (by unfold Func.isWrapper; first | (rw [if_pos (by decide +kernel)]; kernel_rfl) | (rw [if_neg (by decide +kernel)]; exact ⟨rfl, rfl⟩))
    (fun os started H enc _ => seekSteps_lifted os started H enc)
#print axioms seekSteps_holds

set_option maxRecDepth 100000 in
theorem seekComes_lifted (os : Os) (started : os.Started) (H : Type) (enc : TypeId × Value → H) :
    ReturnsInHanded {} Try.checked os 4 .any (Rows.seekComesSpec.pre6 enc Try.prog Try.f4 Rows.seekComesRow.domain false) (Rows.seekComesSpec.post enc Try.prog Try.f4 false true false false) := by
  refine lift started 3 (by kernel_rfl) Try.func4 rfl rfl (fun ds hl => ?_) (by kernel_rfl) rfl #[.int .i64 0, .slice none 0 0, .int .u64 0] (by kernel_rfl) (by kernel_rfl) (by kernel_rfl) (by kernel_rfl) (by kernel_rfl) ?_
  · match ds, hl with
    | [_, _, _], _ => rfl
  intro W base args ds ps hval0 hA0 hlt
  have hval : ∀ (j : Nat) t v, Try.f4.params[j]? = some t → args[j]? = some v → Value.okWide Try.prog W .any base t v := hval0
  have hA : DataW.TrodAll enc Try.prog W 0 (fun _ => true) true Try.f4.params.toList args.toList ds ps := hA0
  rw [Try.params4] at hA hval
  clear hA0 hval0
  obtain ⟨v0, v1, v2, d0, d1, d2, p0, p1, p2, rfl, rfl, rfl, h0, h1, h2⟩ := trodAll_three hA
  obtain ⟨kind, rfl, rfl, rfl, w0⟩ := open_int Try.underlying3 (hval 0 _ _ rfl rfl) h0
  obtain ⟨A, n, c, l, rfl, hnc, hcm, hl, hr, hw⟩ := open_words Try.underlying23 Try.underlying22 (by kernel_rfl) (hval 1 _ _ rfl rfl) h1 (fun p hp => hlt p (by simp [hp])) (fun _ => rfl)
  obtain ⟨key, rfl, rfl, rfl, w2⟩ := open_int Try.underlying22 (hval 2 _ _ rfl rfl) h2
  exact SeekComes_calls kind key A n c l W hr hnc hcm
theorem seekComes_holds : Rows.SeekComesSaid :=
  OpenClaim.holds_of_wide 4 Try.f4 rfl rfl rfl rfl rfl rfl rfl ⟨rfl, rfl, rfl, rfl, rfl⟩ rfl rfl rfl rfl rfl (by kernel_rfl) Try.func4 (by kernel_rfl)
    (of_decide_eq_true (by kernel_rfl)) (by unfold Func.isWrapper; first | (rw [if_pos (by decide +kernel)]; kernel_rfl) | (rw [if_neg (by decide +kernel)]; exact ⟨rfl, rfl⟩))
    (fun os started H enc _ => seekComes_lifted os started H enc)
#print axioms seekComes_holds
end Go.Proofs.Ytegephdgboaedaa
