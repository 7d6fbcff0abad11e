/-
  LayoutShapes holds, as a card: wherever the two listed variables start as the program's text lays them, its Go function returns true for every input and leaves its arguments as they were.
-/
import Derived.Test.YtpkocgcagemnbaaDoorLiftD
import Derived.Test.YtpkocgcagemnbaaDoorLayS
import Derived.Test.YtpkocgcagemnbaaDoorOpen
namespace Go.Proofs.YtpkocgcagemnbaaDoor
open Go.ChangeShapes Go.WideShapes Go.ChangeAt Go.RowKit

set_option maxRecDepth 100000 in
theorem layoutShapes_lifted (os : Os) (started : os.Started) (H : Type) (enc : TypeId × Value → H) :
    ReturnsInHanded {} Tryd.checked os 10 .any (fun w args => (Rows.layoutShapesSpec.pre enc Tryd.prog Tryd.f10 [] false w args ∧ laidMetH Tryd.prog laid2 w) ∧ sizedMet enc Tryd.prog Tryd.f10 (OpenSpec.ofChange Rows.layoutShapesSpec) false w args) (Rows.layoutShapesSpec.post enc Tryd.prog Tryd.f10 false true false false) := by
  refine lift started 4 (by kernel_rfl) Tryd.func10 rfl rfl (fun ds hl => ?_) (by kernel_rfl) rfl #[.bool false, .int .i64 0, .int .u64 0, .int .i64 0] (by kernel_rfl) (by kernel_rfl) (by kernel_rfl) ?_
  · match ds, hl with
    | [_, _, _, _], _ => rfl
  intro W base args ds ps hT hval0 hA0 hlt
  have hval : ∀ (j : Nat) t v, Tryd.f10.params[j]? = some t → args[j]? = some v → Value.okWide Tryd.prog W .any base t v := hval0
  have hA : DataW.TrodAll enc Tryd.prog W 0 (fun _ => true) true Tryd.f10.params.toList args.toList ds ps := hA0
  rw [Tryd.params10] at hA hval
  clear hA0 hval0
  obtain ⟨v0, v1, v2, v3, d0, d1, d2, d3, p0, p1, p2, p3, rfl, rfl, rfl, h0, h1, h2, h3⟩ := trodAll_four hA
  obtain ⟨b, rfl, rfl, rfl⟩ := open_bool Tryd.underlying4 (hval 0 _ _ rfl rfl) h0
  obtain ⟨n, rfl, rfl, rfl, w1⟩ := open_int Tryd.underlying3 (hval 1 _ _ rfl rfl) h1
  obtain ⟨x, rfl, rfl, rfl, w2⟩ := open_int Tryd.underlying43 (hval 2 _ _ rfl rfl) h2
  obtain ⟨f, rfl, rfl, rfl, w3⟩ := open_int Tryd.underlying3 (hval 3 _ _ rfl rfl) h3
  exact LayoutShapes_calls b n x f W hT (I64.of_wf w1) (W64.of_wf w2) (I64.of_wf w3)
theorem layoutShapes_row : Rows.LayoutShapesSaid :=
  OpenClaim.holds_of_wide 10 Tryd.f10 rfl rfl rfl rfl rfl rfl rfl ⟨rfl, rfl, rfl, rfl, rfl⟩ rfl rfl rfl rfl rfl (by kernel_rfl) Tryd.func10 (by kernel_rfl)
    (of_decide_eq_true (by kernel_rfl)) (by unfold Func.isWrapper; first | (rw [if_pos (by decide +kernel)]; kernel_rfl) | (rw [if_neg (by decide +kernel)]; exact ⟨rfl, rfl⟩))
    (fun os started H enc _ => layoutShapes_lifted os started H enc)
theorem layoutShapes_holds : Rows.LayoutShapesCardSaid :=
  Claim7.holds_tied_plain_at .later [] [.listed, .data] true Rows.layoutShapesCard.stood.harness false
    layoutShapes_row (fun _ h => by cases h) (by kernel_rfl) (fun _ h => by cases h) layoutShapes_row_tie rfl ⟨rfl, rfl⟩ (by kernel_rfl) rfl
    (fun f fn hf hfn => by
      obtain rfl : f = 10 := Option.some.inj ((show Tryd.prog.funcNamed "gleaning/gleaninglaw08.LayoutShapes" = some 10 by kernel_rfl).symm.trans hf) |>.symm
      obtain rfl : fn = Tryd.f10 := (Option.some.inj (Tryd.func10.symm.trans hfn)).symm
      exact ⟨by kernel_rfl, fun j t ht => by
        rw [Tryd.params10] at ht
        exact no_stand_in (by kernel_rfl) j t ht⟩)
    (by kernel_rfl)
#print axioms layoutShapes_holds
end Go.Proofs.YtpkocgcagemnbaaDoor
