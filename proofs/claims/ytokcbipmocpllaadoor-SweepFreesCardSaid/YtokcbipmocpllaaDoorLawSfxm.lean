/-
  SweepFrees holds, as a card: wherever the two listed variables start as the program's text lays them, its Go function returns true for every input and leaves its arguments as they were.
-/
import Derived.Test.YtokcbipmocpllaaDoorD1
namespace Go.Proofs.YtokcbipmocpllaaDoor
open Go.ChangeShapes Go.WideShapes Go.ChangeAt Go.RowKit

theorem sfx_any (s t f l p kept ep : Int) (AS AE AH : Option Addr) (nS cS nE cE nH cH : Nat) (S E hz : List Int) (w : World) (hT : Tab w)
    (rS : Reads w w.heap.size 1 AS nS (ints .i64 S)) (wS : ∀ x ∈ S, I64 x) (rE : Reads w w.heap.size 1 AE nE (ints .u64 E)) (wE : ∀ x ∈ E, W64 x) (rH : Reads w w.heap.size 1 AH nH (ints .i64 hz)) (wH : ∀ x ∈ hz, I64 x) (hep : W64 ep) :
    Calls Tryd.prog 4 #[.agg #[.int .i64 s, .int .i64 t, .int .i64 f, .int .i64 l, .int .i64 p], .slice AS nS cS, .slice AE nE cE, .int .i64 kept, .slice AH nH cH, .int .u64 ep] w fun e w' => e = .returned (.bool true) ∧ Below w.heap.size w w' := by
  have AW := fun (w2 : World) (hb : Below w.heap.size w w2) => awake19 w2 (hT.below hb)
  by_cases h1 : 30 < nS
  · exact sf_far s t f l p kept ep AS AE AH nS cS nE cE nH cH w AW (.inl h1)
  by_cases h2 : 200 < nH
  · exact sf_far s t f l p kept ep AS AE AH nS cS nE cE nH cH w AW (.inr ⟨h1, .inl h2⟩)
  by_cases h3 : 0 ≤ wrg s t f l p
  · exact sf_far s t f l p kept ep AS AE AH nS cS nE cE nH cH w AW (.inr ⟨h1, .inr ⟨h2, .inl h3⟩⟩)
  by_cases h4 : 5000 < rSize s t f l p
  · exact sf_far s t f l p kept ep AS AE AH nS cS nE cE nH cH w AW (.inr ⟨h1, .inr ⟨h2, .inr ⟨h3, .inl h4⟩⟩⟩)
  by_cases h5 : nE < nS
  · exact sf_far s t f l p kept ep AS AE AH nS cS nE cE nH cH w AW (.inr ⟨h1, .inr ⟨h2, .inr ⟨h3, .inr ⟨h4, h5⟩⟩⟩⟩)
  have hc : cfgOk s t f l p = true := by rw [wrg_ok, decide_eq_true_eq]; omega
  have hb := cfgOk_iff.1 hc
  have hsp := size_pos (s := s) (t := t) (f := f) (by omega) (by omega) (by omega)
  obtain ⟨N, hN⟩ : ∃ N : Nat, laySize s t f = N := Int.eq_ofNat_of_zero_le (by omega)
  have hr : rSize s t f l p = N := by unfold rSize; rw [if_pos hc]; exact hN
  exact sf_yes s t f l p kept ep AS AE AH nS cS nE cE nH cH S E hz N w AW hT hc hN (by omega) (by omega) (by omega) (by omega) rS wS rE wE rH wH hep
set_option maxRecDepth 100000 in
theorem sweepFrees_lifted (os : Os) (started : os.Started) (H : Type) (enc : TypeId × Value → H) :
    ReturnsInHanded {} Tryd.checked os 4 .any (fun w args => (Rows.sweepFreesSpec.pre enc Tryd.prog Tryd.f4 [] false w args ∧ laidMetH Tryd.prog laid2 w) ∧ sizedMet enc Tryd.prog Tryd.f4 (OpenSpec.ofChange Rows.sweepFreesSpec) false w args) (Rows.sweepFreesSpec.post enc Tryd.prog Tryd.f4 false true false false) := by
  refine lift started 6 (by kernel_rfl) Tryd.func4 rfl rfl (fun ds hl => ?_) (by kernel_rfl) rfl #[.agg #[.int .i64 0, .int .i64 0, .int .i64 0, .int .i64 0, .int .i64 0], .slice none 0 0, .slice none 0 0, .int .i64 0, .slice none 0 0, .int .u64 0] (by kernel_rfl) (by kernel_rfl) (by kernel_rfl) ?_
  · match ds, hl with
    | [_, _, _, _, _, _], _ => rfl
  intro W base args ds ps hT hval0 hA0 hlt
  have hval : ∀ (j : Nat) t v, Tryd.f4.params[j]? = some t → args[j]? = some v → Value.okWide Tryd.prog W .any base t v := hval0
  have hA : DataW.TrodAll enc Tryd.prog W 0 (fun _ => true) true Tryd.f4.params.toList args.toList ds ps := hA0
  rw [Tryd.params4] at hA hval
  clear hA0 hval0
  obtain ⟨v0, v1, v2, v3, v4, v5, d0, d1, d2, d3, d4, d5, p0, p1, p2, p3, p4, p5, rfl, rfl, rfl, h0, h1, h2, h3, h4, h5⟩ := trodAll_six hA
  obtain ⟨s, t, f, l, p, rfl, _⟩ := open_five Tryd.underlying36 (by kernel_rfl) (by kernel_rfl) Tryd.underlying3 Tryd.underlying3 Tryd.underlying3 Tryd.underlying3 Tryd.underlying3 (hval 0 _ _ rfl rfl) h0
  obtain ⟨AS, nS, cS, S, rfl, _, _, _, rS, wS⟩ := open_words (B := W.heap.size) Tryd.underlying27 Tryd.underlying3 (by kernel_rfl) (hval 1 _ _ rfl rfl) h1 (fun p hp => hlt p (by simp [hp])) (fun _ => rfl)
  obtain ⟨AE, nE, cE, E, rfl, _, _, _, rE, wE⟩ := open_words (B := W.heap.size) Tryd.underlying23 Tryd.underlying29 (by kernel_rfl) (hval 2 _ _ rfl rfl) h2 (fun p hp => hlt p (by simp [hp])) (fun _ => rfl)
  obtain ⟨kept, rfl, rfl, rfl, _⟩ := open_int Tryd.underlying3 (hval 3 _ _ rfl rfl) h3
  obtain ⟨AH, nH, cH, hz, rfl, _, _, _, rH, wH⟩ := open_words (B := W.heap.size) Tryd.underlying27 Tryd.underlying3 (by kernel_rfl) (hval 4 _ _ rfl rfl) h4 (fun p hp => hlt p (by simp [hp])) (fun _ => rfl)
  obtain ⟨ep, rfl, rfl, rfl, w5⟩ := open_int Tryd.underlying29 (hval 5 _ _ rfl rfl) h5
  exact sfx_any s t f l p kept ep AS AE AH nS cS nE cE nH cH S E hz W hT rS (fun x hx => I64.of_wf (wS x hx)) rE (fun x hx => W64.of_wf (wE x hx)) rH (fun x hx => I64.of_wf (wH x hx)) (W64.of_wf w5)
theorem sweepFrees_row : Rows.SweepFreesSaid :=
  OpenClaim.holds_of_wide 4 Tryd.f4 rfl rfl rfl rfl rfl rfl rfl ⟨rfl, rfl, rfl, rfl, rfl⟩ rfl rfl rfl rfl rfl (by kernel_rfl) Tryd.func4 (by kernel_rfl)
    (of_decide_eq_true (by kernel_rfl)) (by unfold Func.isWrapper; first | (rw [if_pos (by decide +kernel)]; kernel_rfl) | (rw [if_neg (by decide +kernel)]; exact ⟨rfl, rfl⟩))
    (fun os started H enc _ => sweepFrees_lifted os started H enc)
theorem sweepFrees_holds : Rows.SweepFreesCardSaid :=
  Claim7.holds_tied_plain_at .later [] [.listed, .data] true Rows.sweepFreesCard.stood.harness false
    sweepFrees_row (fun _ h => by cases h) (by kernel_rfl) (fun _ h => by cases h) sweepFrees_row_tie rfl ⟨rfl, rfl⟩ (by kernel_rfl) rfl
    (fun f fn hf hfn => by
      obtain rfl : f = 4 := Option.some.inj ((show Tryd.prog.funcNamed "gleaning/gleaninglaw19.SweepFrees" = some 4 by kernel_rfl).symm.trans hf) |>.symm
      obtain rfl : fn = Tryd.f4 := (Option.some.inj (Tryd.func4.symm.trans hfn)).symm
      exact ⟨by kernel_rfl, fun j t ht => by
        rw [Tryd.params4] at ht
        exact no_stand_in (by kernel_rfl) j t ht⟩)
    (by kernel_rfl)
#print axioms sweepFrees_holds
end Go.Proofs.YtokcbipmocpllaaDoor
