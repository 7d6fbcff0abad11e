/-
  DumpEvents holds, as a card: wherever the two listed variables start as the program's text lays them, its Go function returns true for every input and leaves its arguments as they were.
-/
import Derived.Test.YtlnckjemfabckaaGreatDoorE2
namespace Go.Proofs.YtlnckjemfabckaaGreatDoor
open Go.ChangeShapes Go.WideShapes Go.ChangeAt Go.RowKit

set_option maxRecDepth 100000 in
theorem dumpEvents_lifted (os : Os) (started : os.Started) (H : Type) (enc : TypeId × Value → H) :
    ReturnsInHanded {} Tryz.checked os 4 .any (fun w args => (Rows.dumpEventsSpec.pre enc Tryz.prog Tryz.f4 [] false w args ∧ laidMetH Tryz.prog laid2 w) ∧ sizedMet enc Tryz.prog Tryz.f4 (OpenSpec.ofChange Rows.dumpEventsSpec) false w args) (Rows.dumpEventsSpec.post enc Tryz.prog Tryz.f4 false true false false) := by
  refine lift started 1 (by kernel_rfl) Tryz.func4 rfl rfl (fun ds hl => ?_) (by kernel_rfl) rfl #[.slice none 0 0] (by kernel_rfl) (by kernel_rfl) (by kernel_rfl) ?_
  · match ds, hl with
    | [_], _ => rfl
  intro W base args ds ps hT hval0 hA0 hlt
  have hval : ∀ (j : Nat) t v, Tryz.f4.params[j]? = some t → args[j]? = some v → Value.okWide Tryz.prog W .any base t v := hval0
  have hA : DataW.TrodAll enc Tryz.prog W 0 (fun _ => true) true Tryz.f4.params.toList args.toList ds ps := hA0
  rw [Tryz.params4] at hA hval
  clear hA0 hval0
  obtain ⟨v0, d0, rfl, rfl, h0⟩ := trodAll_one hA
  obtain ⟨A, n, c, l, rfl, hnc, hcm, hl, hr, hok⟩ := open_events (hval 0 _ _ rfl rfl) h0 (fun p hp => hlt p (by simp [hp])) (fun _ => rfl)
  by_cases h1 : (60 : Int) < n
  · exact events_far A n c W hT h1
  · exact events_yes A n c l W hT h1 hr hok
theorem dumpEvents_row : Rows.DumpEventsSaid :=
  OpenClaim.holds_of_wide 4 Tryz.f4 rfl rfl rfl rfl rfl rfl rfl ⟨rfl, rfl, rfl, rfl, rfl⟩ rfl rfl rfl rfl rfl (by kernel_rfl) Tryz.func4 (by kernel_rfl)
    (of_decide_eq_true (by kernel_rfl)) (by unfold Func.isWrapper; first | (rw [if_pos (by decide +kernel)]; kernel_rfl) | (rw [if_neg (by decide +kernel)]; exact ⟨rfl, rfl⟩))
    (fun os started H enc _ => dumpEvents_lifted os started H enc)
theorem dumpEvents_holds : Rows.DumpEventsCardSaid :=
  Claim7.holds_tied_plain_at .later [] [.listed, .data] true Rows.dumpEventsCard.stood.harness false
    dumpEvents_row (fun _ h => by cases h) (by kernel_rfl) (fun _ h => by cases h) dumpEvents_row_tie rfl ⟨rfl, rfl⟩ (by kernel_rfl) rfl
    (fun f fn hf hfn => by
      obtain rfl : f = 4 := Option.some.inj ((show Tryz.prog.funcNamed "gleaning/gleaninglaw38.DumpEvents" = some 4 by kernel_rfl).symm.trans hf) |>.symm
      obtain rfl : fn = Tryz.f4 := (Option.some.inj (Tryz.func4.symm.trans hfn)).symm
      exact ⟨by kernel_rfl, fun j t ht => by
        rw [Tryz.params4] at ht
        exact no_stand_in (by kernel_rfl) j t ht⟩)
    (by kernel_rfl)
#print axioms dumpEvents_holds
end Go.Proofs.YtlnckjemfabckaaGreatDoor
