/-
  SweepNobody holds, as a card: wherever the two listed variables start as the program's text lays them, its Go function returns true for every input and leaves its arguments as they were.
-/
import Derived.Test.YtokcbipmocpllaaDoorB1
namespace Go.Proofs.YtokcbipmocpllaaDoor
open Go.ChangeShapes Go.WideShapes Go.ChangeAt Go.RowKit

theorem swo_any (A : Option Addr) (n c : Nat) (r : List (Int × Int)) (v : Value) (ks : List Int) (w : World) (hT : Tab w) (hr : Reads w w.heap.size 2 A n (rec2 r)) (hs : Sl w w.heap.size v ks) :
    Calls Tryd.prog 5 #[.agg #[.slice A n c, v]] w fun e w' => e = .returned (.bool true) ∧ Below w.heap.size w w' := by
  have AW := fun (w2 : World) (hb : Below w.heap.size w w2) => awake19 w2 (hT.below hb)
  have hl : r.length = n := by have := hr.lenPair; omega
  subst hl
  by_cases h1 : 100 < r.length
  · exact snobody_far A r.length c v ks w AW hs (.inl h1)
  · by_cases h2 : 100 < ks.length
    · exact snobody_far A r.length c v ks w AW hs (.inr ⟨h1, h2⟩)
    · exact snobody_yes A c r v ks w AW (by omega) (by omega) hr hs
set_option maxRecDepth 100000 in
theorem sweepNobody_lifted (os : Os) (started : os.Started) (H : Type) (enc : TypeId × Value → H) :
    ReturnsInHanded {} Tryd.checked os 5 .any (fun w args => (Rows.sweepNobodySpec.pre enc Tryd.prog Tryd.f5 [] false w args ∧ laidMetH Tryd.prog laid2 w) ∧ sizedMet enc Tryd.prog Tryd.f5 (OpenSpec.ofChange Rows.sweepNobodySpec) false w args) (Rows.sweepNobodySpec.post enc Tryd.prog Tryd.f5 false true false false) := by
  refine lift started 1 (by kernel_rfl) Tryd.func5 rfl rfl (fun ds hl => ?_) (by kernel_rfl) rfl #[.agg #[.slice none 0 0, .slice none 0 0]] (by kernel_rfl) (by kernel_rfl) (by kernel_rfl) ?_
  · match ds, hl with
    | [_], _ => rfl
  intro W base args ds ps hT hval0 hA0 hlt
  have hval : ∀ (j : Nat) t v, Tryd.f5.params[j]? = some t → args[j]? = some v → Value.okWide Tryd.prog W .any base t v := hval0
  have hA : DataW.TrodAll enc Tryd.prog W 0 (fun _ => true) true Tryd.f5.params.toList args.toList ds ps := hA0
  rw [Tryd.params5] at hA hval
  clear hA0 hval0
  obtain ⟨v0, d0, rfl, rfl, h0⟩ := trodAll_one hA
  obtain ⟨A, n, c, r, u, ks, rfl, _, _, _, hr, _, hs, _⟩ := open_lists (B := W.heap.size) (hval 0 _ _ rfl rfl) h0 (fun p hp => hlt p (by simp [hp])) (fun _ => rfl)
  exact swo_any A n c r u ks W hT hr hs
theorem sweepNobody_row : Rows.SweepNobodySaid :=
  OpenClaim.holds_of_wide 5 Tryd.f5 rfl rfl rfl rfl rfl rfl rfl ⟨rfl, rfl, rfl, rfl, rfl⟩ rfl rfl rfl rfl rfl (by kernel_rfl) Tryd.func5 (by kernel_rfl)
    (of_decide_eq_true (by kernel_rfl)) (by unfold Func.isWrapper; first | (rw [if_pos (by decide +kernel)]; kernel_rfl) | (rw [if_neg (by decide +kernel)]; exact ⟨rfl, rfl⟩))
    (fun os started H enc _ => sweepNobody_lifted os started H enc)
theorem sweepNobody_holds : Rows.SweepNobodyCardSaid :=
  Claim7.holds_tied_plain_at .later [] [.listed, .data] true Rows.sweepNobodyCard.stood.harness false
    sweepNobody_row (fun _ h => by cases h) (by kernel_rfl) (fun _ h => by cases h) sweepNobody_row_tie rfl ⟨rfl, rfl⟩ (by kernel_rfl) rfl
    (fun f fn hf hfn => by
      obtain rfl : f = 5 := Option.some.inj ((show Tryd.prog.funcNamed "gleaning/gleaninglaw19.SweepNobody" = some 5 by kernel_rfl).symm.trans hf) |>.symm
      obtain rfl : fn = Tryd.f5 := (Option.some.inj (Tryd.func5.symm.trans hfn)).symm
      exact ⟨by kernel_rfl, fun j t ht => by
        rw [Tryd.params5] at ht
        exact no_stand_in (by kernel_rfl) j t ht⟩)
    (by kernel_rfl)
#print axioms sweepNobody_holds
end Go.Proofs.YtokcbipmocpllaaDoor
