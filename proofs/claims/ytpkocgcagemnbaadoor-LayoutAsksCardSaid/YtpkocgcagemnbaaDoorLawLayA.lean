/-
  LayoutAsks holds, as a card: wherever the two listed variables start as the program's text lays them, its Go function returns true for every input and leaves its arguments as they were.
-/
import Derived.Test.YtpkocgcagemnbaaDoorLiftD
import Derived.Test.YtpkocgcagemnbaaDoorLayR2
import Derived.Test.YtpkocgcagemnbaaDoorOpen
namespace Go.Proofs.YtpkocgcagemnbaaDoor
open Go.ChangeShapes Go.WideShapes Go.ChangeAt Go.RowKit

set_option maxRecDepth 100000 in
theorem layoutAsks_lifted (os : Os) (started : os.Started) (H : Type) (enc : TypeId × Value → H) :
    ReturnsInHanded {} Tryd.checked os 3 .any (fun w args => (Rows.layoutAsksSpec.pre enc Tryd.prog Tryd.f3 [] false w args ∧ laidMetH Tryd.prog laid2 w) ∧ sizedMet enc Tryd.prog Tryd.f3 (OpenSpec.ofChange Rows.layoutAsksSpec) false w args) (Rows.layoutAsksSpec.post enc Tryd.prog Tryd.f3 false true false false) := by
  refine lift started 2 (by kernel_rfl) Tryd.func3 rfl rfl (fun ds hl => ?_) (by kernel_rfl) rfl #[.agg #[.int .i64 0, .int .i64 0, .int .i64 0, .int .i64 0, .int .i64 0], .agg #[.int .i64 0, .int .i64 0, .int .i64 0]] (by kernel_rfl) (by kernel_rfl) (by kernel_rfl) ?_
  · match ds, hl with
    | [_, _], _ => rfl
  intro W base args ds ps hT hval0 hA0 hlt
  have hval : ∀ (j : Nat) t v, Tryd.f3.params[j]? = some t → args[j]? = some v → Value.okWide Tryd.prog W .any base t v := hval0
  have hA : DataW.TrodAll enc Tryd.prog W 0 (fun _ => true) true Tryd.f3.params.toList args.toList ds ps := hA0
  rw [Tryd.params3] at hA hval
  clear hA0 hval0
  obtain ⟨v0, v1, d0, d1, p0, p1, rfl, rfl, rfl, h0, h1⟩ := trodAll_two hA
  obtain ⟨s, t, f, l, p, rfl, _⟩ := open_five Tryd.underlying23 (by kernel_rfl) (by kernel_rfl) Tryd.underlying3 Tryd.underlying3 Tryd.underlying3 Tryd.underlying3 Tryd.underlying3 (hval 0 _ _ rfl rfl) h0
  obtain ⟨xs, rfl, hxl, hf⟩ := open_flat Tryd.underlying25 (by kernel_rfl) (by kernel_rfl) (hval 1 _ _ rfl rfl) h1
  match xs, hxl with
  | [x0, x1, x2], _ =>
    obtain ⟨y0, n0, z0, e0, g0, _⟩ := hf 0 _ rfl
    obtain ⟨y1, n1, z1, e1, g1, _⟩ := hf 1 _ rfl
    obtain ⟨y2, n2, z2, e2, g2, _⟩ := hf 2 _ rfl
    obtain ⟨k, h0', _, _⟩ := DataW.trod_int Tryd.underlying3 g0
    obtain ⟨o, h1', _, _⟩ := DataW.trod_int Tryd.underlying3 g1
    obtain ⟨i, h2', _, _⟩ := DataW.trod_int Tryd.underlying3 g2
    simp at e0 e1 e2 h0' h1' h2'
    rw [e0, e1, e2, h0', h1', h2']
    exact LayoutAsks_calls s t f l p k o i W hT
theorem layoutAsks_row : Rows.LayoutAsksSaid :=
  OpenClaim.holds_of_wide 3 Tryd.f3 rfl rfl rfl rfl rfl rfl rfl ⟨rfl, rfl, rfl, rfl, rfl⟩ rfl rfl rfl rfl rfl (by kernel_rfl) Tryd.func3 (by kernel_rfl)
    (of_decide_eq_true (by kernel_rfl)) (by unfold Func.isWrapper; first | (rw [if_pos (by decide +kernel)]; kernel_rfl) | (rw [if_neg (by decide +kernel)]; exact ⟨rfl, rfl⟩))
    (fun os started H enc _ => layoutAsks_lifted os started H enc)
theorem layoutAsks_holds : Rows.LayoutAsksCardSaid :=
  Claim7.holds_tied_plain_at .later [] [.listed, .data] true Rows.layoutAsksCard.stood.harness false
    layoutAsks_row (fun _ h => by cases h) (by kernel_rfl) (fun _ h => by cases h) layoutAsks_row_tie rfl ⟨rfl, rfl⟩ (by kernel_rfl) rfl
    (fun f fn hf hfn => by
      obtain rfl : f = 3 := Option.some.inj ((show Tryd.prog.funcNamed "gleaning/gleaninglaw08.LayoutAsks" = some 3 by kernel_rfl).symm.trans hf) |>.symm
      obtain rfl : fn = Tryd.f3 := (Option.some.inj (Tryd.func3.symm.trans hfn)).symm
      exact ⟨by kernel_rfl, fun j t ht => by
        rw [Tryd.params3] at ht
        exact no_stand_in (by kernel_rfl) j t ht⟩)
    (by kernel_rfl)
#print axioms layoutAsks_holds
end Go.Proofs.YtpkocgcagemnbaaDoor
