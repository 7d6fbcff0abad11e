/-
  StackParts holds, as a card: wherever the two listed variables start as the program's text lays them, its Go function returns true for every input and leaves its arguments as they were.
-/
import Derived.Test.YteiidfklepjpmaaDoorZ6
namespace Go.Proofs.YteiidfklepjpmaaDoor
open Go.ChangeShapes Go.WideShapes Go.ChangeAt Go.RowKit

set_option maxRecDepth 100000 in
theorem stackParts_lifted (os : Os) (started : os.Started) (H : Type) (enc : TypeId × Value → H) :
    ReturnsInHanded {} Tryd.checked os 3 .any (fun w args => (Rows.stackPartsSpec.pre enc Tryd.prog Tryd.f3 [] false w args ∧ laidMetH Tryd.prog laid2 w) ∧ sizedMet enc Tryd.prog Tryd.f3 (OpenSpec.ofChange Rows.stackPartsSpec) false w args) (Rows.stackPartsSpec.post enc Tryd.prog Tryd.f3 false true false false) := by
  refine lift started 2 (by kernel_rfl) Tryd.func3 rfl rfl (fun ds hl => ?_) (by kernel_rfl) rfl #[.agg #[.int .i64 0, .int .i64 0, .int .i64 0, .int .i64 0, .int .i64 0], .slice none 0 0] (by kernel_rfl) (by kernel_rfl) (by kernel_rfl) ?_
  · match ds, hl with
    | [_, _], _ => rfl
  intro W base args ds ps hT hval0 hA0 hlt
  have hval : ∀ (j : Nat) t v, Tryd.f3.params[j]? = some t → args[j]? = some v → Value.okWide Tryd.prog W .any base t v := hval0
  have hA : DataW.TrodAll enc Tryd.prog W 0 (fun _ => true) true Tryd.f3.params.toList args.toList ds ps := hA0
  rw [Tryd.params3] at hA hval
  clear hA0 hval0
  obtain ⟨v0, v1, d0, d1, p0, p1, rfl, rfl, rfl, h0, h1⟩ := trodAll_two hA
  obtain ⟨s, t, f, l, p, rfl, _⟩ := open_five Tryd.underlying23 (by kernel_rfl) (by kernel_rfl) Tryd.underlying3 Tryd.underlying3 Tryd.underlying3 Tryd.underlying3 Tryd.underlying3 (hval 0 _ _ rfl rfl) h0
  obtain ⟨A, n, c, l0, rfl, hnc, hcm, hl, hr, hw⟩ := open_words (B := W.heap.size) Tryd.underlying24 Tryd.underlying3 (by kernel_rfl) (hval 1 _ _ rfl rfl) h1 (fun p hp => hlt p (by simp [hp])) (fun _ => rfl)
  exact StackParts_calls s t f l p A n c l0 W hT hr (fun y hy => I64.of_wf (hw y hy))
theorem stackParts_row : Rows.StackPartsSaid :=
  OpenClaim.holds_of_wide 3 Tryd.f3 rfl rfl rfl rfl rfl rfl rfl ⟨rfl, rfl, rfl, rfl, rfl⟩ rfl rfl rfl rfl rfl (by kernel_rfl) Tryd.func3 (by kernel_rfl)
    (of_decide_eq_true (by kernel_rfl)) (by unfold Func.isWrapper; first | (rw [if_pos (by decide +kernel)]; kernel_rfl) | (rw [if_neg (by decide +kernel)]; exact ⟨rfl, rfl⟩))
    (fun os started H enc _ => stackParts_lifted os started H enc)
theorem stackParts_holds : Rows.StackPartsCardSaid :=
  Claim7.holds_tied_plain_at .later [] [.listed, .data] true Rows.stackPartsCard.stood.harness false
    stackParts_row (fun _ h => by cases h) (by kernel_rfl) (fun _ h => by cases h) stackParts_row_tie rfl ⟨rfl, rfl⟩ (by kernel_rfl) rfl
    (fun f fn hf hfn => by
      obtain rfl : f = 3 := Option.some.inj ((show Tryd.prog.funcNamed "gleaning/gleaninglaw15.StackParts" = some 3 by kernel_rfl).symm.trans hf) |>.symm
      obtain rfl : fn = Tryd.f3 := (Option.some.inj (Tryd.func3.symm.trans hfn)).symm
      exact ⟨by kernel_rfl, fun j t ht => by
        rw [Tryd.params3] at ht
        exact no_stand_in (by kernel_rfl) j t ht⟩)
    (by kernel_rfl)
#print axioms stackParts_holds
end Go.Proofs.YteiidfklepjpmaaDoor
