/-
  AdvancePlays holds, as a card: wherever the two listed variables start as the program's text lays them, its Go function returns true for every input and leaves its arguments as they were.
-/
import Derived.Test.YtglbgddjahenjaaDoorLiftD
import Derived.Test.YtglbgddjahenjaaDoorAdvF
import Derived.Test.YtglbgddjahenjaaDoorOpen
namespace Go.Proofs.YtglbgddjahenjaaDoor
open Go.ChangeShapes Go.WideShapes Go.ChangeAt Go.RowKit

set_option maxRecDepth 100000 in
set_option maxHeartbeats 1000000 in
theorem AdvancePlays_big (s t f l p o : Int) (A : Option Addr) (n c : Nat) (w : World) (hT : Tab w) (h1 : (300 : Int) < n) :
    Calls Tryd.prog 4 #[.agg #[.int .i64 s, .int .i64 t, .int .i64 f, .int .i64 l, .int .i64 p], .int .i64 o, .slice A n c] w fun e w' => e = .returned (.bool true) ∧ Below w.heap.size w w' := by
  have B0 := (Below.refl w.heap.size w).alloc (Nat.le_refl _) (.cells #[.int .i64 s, .int .i64 t, .int .i64 f, .int .i64 l, .int .i64 p] 23)
  have Aw := hide (awake18 _ (hT.below B0))
  go_enter Tryd.func4, Tryd.ntmps4
  go_wp2_with fail
  refine (Aw.out).mono ?_
  rintro e w1 ⟨rfl, hb1⟩
  go_wp2_with fail
  go_ret
  exact ⟨rfl, B0.trans (hb1.mono B0.size)⟩
theorem AdvancePlays_calls (s t f l p o : Int) (A : Option Addr) (n c : Nat) (l0 : List Int) (w : World) (hT : Tab w) (hr : Reads w w.heap.size 1 A n (ints .u64 l0)) (hw : ∀ y ∈ l0, W64 y) :
    Calls Tryd.prog 4 #[.agg #[.int .i64 s, .int .i64 t, .int .i64 f, .int .i64 l, .int .i64 p], .int .i64 o, .slice A n c] w fun e w' => e = .returned (.bool true) ∧ Below w.heap.size w w' := by
  by_cases h1 : (300 : Int) < n
  · exact AdvancePlays_big s t f l p o A n c w hT h1
  have w0 : W64 0 := ⟨by omega, by omega⟩
  have i0 : I64 0 := ⟨by omega, by omega⟩
  cases hc : cfgOk s t f l p with
  | false =>
    exact plays18 s t f l p o 0 0 0 0 0 0 0 0 0 0 0 0 1 A n c l0 w False hT (by omega) hr hw (fun h => h.elim) (fun h => h.elim) i0 ⟨.inl rfl, w0, w0, by simp, by simp, by simp, .inl rfl, by simp, by simp⟩ rfl (fun w2 hb => new_no s t f l p w2 (hT.below hb) hc) (fun w2 => anew_zero o w2) (fun w2 => arnew_no s t f l p o w2 (.inl hc))
  | true =>
    have hb := cfgOk_iff.1 hc
    have ip : I64 p := ⟨by omega, by omega⟩
    by_cases hth : 0 ≤ o ∧ o < t
    · exact plays18 s t f l p o s t f l p o s t f l p 1 0 A n c l0 w True hT (by omega) hr hw (fun _ => ⟨rfl, rfl, rfl, rfl, rfl⟩) (fun _ => ⟨by omega, by omega⟩) ip ⟨.inr (.inl rfl), w0, w0, by simp, by simp, by simp, .inr ⟨trivial, by omega, hth, by simp only; omega, by simp⟩, by simp, by simp⟩ rfl (fun w2 hb => new_yes s t f l p w2 (hT.below hb) hc) (fun w2 => anew_yes s t f l p o w2 (by omega) (by omega) (by omega) hth) (fun w2 => arnew_yes s t f l p o w2 hc hth)
    · exact plays18 s t f l p o 0 0 0 0 0 0 s t f l p 0 1 A n c l0 w False hT (by omega) hr hw (fun h => h.elim) (fun h => h.elim) i0 ⟨.inl rfl, w0, w0, by simp, by simp, by simp, .inl rfl, by simp, by simp⟩ rfl (fun w2 hb => new_yes s t f l p w2 (hT.below hb) hc) (fun w2 => anew_no s t f l p o w2 (by omega) (by omega) (by omega) (by omega)) (fun w2 => arnew_no s t f l p o w2 (.inr (by omega)))
set_option maxRecDepth 100000 in
theorem advancePlays_lifted (os : Os) (started : os.Started) (H : Type) (enc : TypeId × Value → H) :
    ReturnsInHanded {} Tryd.checked os 4 .any (fun w args => (Rows.advancePlaysSpec.pre enc Tryd.prog Tryd.f4 [] false w args ∧ laidMetH Tryd.prog laid2 w) ∧ sizedMet enc Tryd.prog Tryd.f4 (OpenSpec.ofChange Rows.advancePlaysSpec) false w args) (Rows.advancePlaysSpec.post enc Tryd.prog Tryd.f4 false true false false) := by
  refine lift started 3 (by kernel_rfl) Tryd.func4 rfl rfl (fun ds hl => ?_) (by kernel_rfl) rfl #[.agg #[.int .i64 0, .int .i64 0, .int .i64 0, .int .i64 0, .int .i64 0], .int .i64 0, .slice none 0 0] (by kernel_rfl) (by kernel_rfl) (by kernel_rfl) ?_
  · match ds, hl with
    | [_, _, _], _ => rfl
  intro W base args ds ps hT hval0 hA0 hlt
  have hval : ∀ (j : Nat) t v, Tryd.f4.params[j]? = some t → args[j]? = some v → Value.okWide Tryd.prog W .any base t v := hval0
  have hA : DataW.TrodAll enc Tryd.prog W 0 (fun _ => true) true Tryd.f4.params.toList args.toList ds ps := hA0
  rw [Tryd.params4] at hA hval
  clear hA0 hval0
  obtain ⟨v0, v1, v2, d0, d1, d2, p0, p1, p2, rfl, rfl, rfl, h0, h1, h2⟩ := trodAll_three hA
  obtain ⟨s, t, f, l, p, rfl, _⟩ := open_five Tryd.underlying23 (by kernel_rfl) (by kernel_rfl) Tryd.underlying3 Tryd.underlying3 Tryd.underlying3 Tryd.underlying3 Tryd.underlying3 (hval 0 _ _ rfl rfl) h0
  obtain ⟨a, rfl, rfl, rfl, w1⟩ := open_int Tryd.underlying3 (hval 1 _ _ rfl rfl) h1
  obtain ⟨A, n, c, l0, rfl, hnc, hcm, hl, hr, hw⟩ := open_words (B := W.heap.size) Tryd.underlying24 Tryd.underlying28 (by kernel_rfl) (hval 2 _ _ rfl rfl) h2 (fun p hp => hlt p (by simp [hp])) (fun _ => rfl)
  exact AdvancePlays_calls s t f l p a A n c l0 W hT hr (fun y hy => W64.of_wf (hw y hy))
theorem advancePlays_row : Rows.AdvancePlaysSaid :=
  OpenClaim.holds_of_wide 4 Tryd.f4 rfl rfl rfl rfl rfl rfl rfl ⟨rfl, rfl, rfl, rfl, rfl⟩ rfl rfl rfl rfl rfl (by kernel_rfl) Tryd.func4 (by kernel_rfl)
    (of_decide_eq_true (by kernel_rfl)) (by unfold Func.isWrapper; first | (rw [if_pos (by decide +kernel)]; kernel_rfl) | (rw [if_neg (by decide +kernel)]; exact ⟨rfl, rfl⟩))
    (fun os started H enc _ => advancePlays_lifted os started H enc)
theorem advancePlays_holds : Rows.AdvancePlaysCardSaid :=
  Claim7.holds_tied_plain_at .later [] [.listed, .data] true Rows.advancePlaysCard.stood.harness false
    advancePlays_row (fun _ h => by cases h) (by kernel_rfl) (fun _ h => by cases h) advancePlays_row_tie rfl ⟨rfl, rfl⟩ (by kernel_rfl) rfl
    (fun f fn hf hfn => by
      obtain rfl : f = 4 := Option.some.inj ((show Tryd.prog.funcNamed "gleaning/gleaninglaw18.AdvancePlays" = some 4 by kernel_rfl).symm.trans hf) |>.symm
      obtain rfl : fn = Tryd.f4 := (Option.some.inj (Tryd.func4.symm.trans hfn)).symm
      exact ⟨by kernel_rfl, fun j t ht => by
        rw [Tryd.params4] at ht
        exact no_stand_in (by kernel_rfl) j t ht⟩)
    (by kernel_rfl)
#print axioms advancePlays_holds
end Go.Proofs.YtglbgddjahenjaaDoor
