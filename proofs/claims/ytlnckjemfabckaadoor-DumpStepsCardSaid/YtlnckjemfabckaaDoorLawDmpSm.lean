/-
  DumpSteps holds, as a card: wherever the two listed variables start as the program's text lays them, its Go function returns true for every input and leaves its arguments as they were.
-/
import Derived.Test.YtlnckjemfabckaaDoorZ5
namespace Go.Proofs.YtlnckjemfabckaaDoor
open Go.ChangeShapes Go.WideShapes Go.ChangeAt Go.RowKit

set_option maxRecDepth 100000 in
theorem dumpSteps_lifted (os : Os) (started : os.Started) (H : Type) (enc : TypeId × Value → H) :
    ReturnsInHanded {} Tryd.checked os 3 .any (fun w args => (Rows.dumpStepsSpec.pre enc Tryd.prog Tryd.f3 [] false w args ∧ laidMetH Tryd.prog laid2 w) ∧ sizedMet enc Tryd.prog Tryd.f3 (OpenSpec.ofChange Rows.dumpStepsSpec) false w args) (Rows.dumpStepsSpec.post enc Tryd.prog Tryd.f3 false true false false) := by
  refine lift started 1 (by kernel_rfl) Tryd.func3 rfl rfl (fun ds hl => ?_) (by kernel_rfl) rfl #[.slice none 0 0] (by kernel_rfl) (by kernel_rfl) (by kernel_rfl) ?_
  · match ds, hl with
    | [_], _ => rfl
  intro W base args ds ps hT hval0 hA0 hlt
  have hval : ∀ (j : Nat) t v, Tryd.f3.params[j]? = some t → args[j]? = some v → Value.okWide Tryd.prog W .any base t v := hval0
  have hA : DataW.TrodAll enc Tryd.prog W 0 (fun _ => true) true Tryd.f3.params.toList args.toList ds ps := hA0
  rw [Tryd.params3] at hA hval
  clear hA0 hval0
  obtain ⟨v0, d0, rfl, rfl, h0⟩ := trodAll_one hA
  obtain ⟨A, n, c, l, rfl, hnc, hcm, hl, hr, hok⟩ := open_steps (hval 0 _ _ rfl rfl) h0 (fun p hp => hlt p (by simp [hp])) (fun _ => rfl)
  by_cases h1 : (60 : Int) < n
  · exact steps_far A n c W hT h1
  · exact steps_yes A n c l W hT h1 hr hok
theorem dumpSteps_row : Rows.DumpStepsSaid :=
  OpenClaim.holds_of_wide 3 Tryd.f3 rfl rfl rfl rfl rfl rfl rfl ⟨rfl, rfl, rfl, rfl, rfl⟩ rfl rfl rfl rfl rfl (by kernel_rfl) Tryd.func3 (by kernel_rfl)
    (of_decide_eq_true (by kernel_rfl)) (by unfold Func.isWrapper; first | (rw [if_pos (by decide +kernel)]; kernel_rfl) | (rw [if_neg (by decide +kernel)]; exact ⟨rfl, rfl⟩))
    (fun os started H enc _ => dumpSteps_lifted os started H enc)
theorem dumpSteps_holds : Rows.DumpStepsCardSaid :=
  Claim7.holds_tied_plain_at .later [] [.listed, .data] true Rows.dumpStepsCard.stood.harness false
    dumpSteps_row (fun _ h => by cases h) (by kernel_rfl) (fun _ h => by cases h) dumpSteps_row_tie rfl ⟨rfl, rfl⟩ (by kernel_rfl) rfl
    (fun f fn hf hfn => by
      obtain rfl : f = 3 := Option.some.inj ((show Tryd.prog.funcNamed "gleaning/gleaninglaw38.DumpSteps" = some 3 by kernel_rfl).symm.trans hf) |>.symm
      obtain rfl : fn = Tryd.f3 := (Option.some.inj (Tryd.func3.symm.trans hfn)).symm
      exact ⟨by kernel_rfl, fun j t ht => by
        rw [Tryd.params3] at ht
        exact no_stand_in (by kernel_rfl) j t ht⟩)
    (by kernel_rfl)
#print axioms dumpSteps_holds
end Go.Proofs.YtlnckjemfabckaaDoor
