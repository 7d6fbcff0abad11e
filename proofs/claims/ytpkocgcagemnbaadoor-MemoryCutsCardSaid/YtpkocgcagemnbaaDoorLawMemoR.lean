/-
  MemoryCuts holds, as a card: wherever the two listed variables start as the program's text lays them, its Go function returns true for every input and leaves its arguments as they were.
-/
import Derived.Test.YtpkocgcagemnbaaDoorLiftD
import Derived.Test.YtpkocgcagemnbaaDoorMemoR
import Derived.Test.YtpkocgcagemnbaaDoorOpenAsk
namespace Go.Proofs.YtpkocgcagemnbaaDoor
open Go.ChangeShapes Go.WideShapes Go.ChangeAt Go.RowKit

theorem MemoryCuts_calls (s t f c0 p a b : Int) (A : Option Addr) (n c : Nat) (l : List (Int × Int)) (w : World) (hT : Tab w) (hr : Reads w w.heap.size 2 A n (recW l)) :
    Calls Tryd.prog 9 #[.agg #[.int .i64 s, .int .i64 t, .int .i64 f, .int .i64 c0, .int .i64 p], .slice A n c, .int .i64 a, .int .i64 b] w fun e w' => e = .returned (.bool true) ∧ Below w.heap.size w w' := by
  by_cases h1 : (200 : Int) < n
  · exact cuts_big s t f c0 p a b A n c w hT (.inl h1)
  by_cases h2 : 5000 < rSize s t f c0 p
  · exact cuts_big s t f c0 p a b A n c w hT (.inr ⟨by omega, h2⟩)
  cases hc : cfgOk s t f c0 p with
  | false => exact cuts_no s t f c0 p a b A n c w hT hc (by omega)
  | true =>
    have hb := cfgOk_iff.1 hc
    have hz := size_pos (s := s) (t := t) (f := f) (by omega) (by omega) (by omega)
    unfold rSize at h2
    rw [hc] at h2
    simp only [if_true] at h2
    exact cuts_yes s t f c0 p a b A n c (laySize s t f).toNat l w hT hc (by omega) (by omega) (by omega) (by omega) hr
set_option maxRecDepth 100000 in
theorem memoryCuts_lifted (os : Os) (started : os.Started) (H : Type) (enc : TypeId × Value → H) :
    ReturnsInHanded {} Tryd.checked os 9 .any (fun w args => (Rows.memoryCutsSpec.pre enc Tryd.prog Tryd.f9 [] false w args ∧ laidMetH Tryd.prog laid2 w) ∧ sizedMet enc Tryd.prog Tryd.f9 (OpenSpec.ofChange Rows.memoryCutsSpec) false w args) (Rows.memoryCutsSpec.post enc Tryd.prog Tryd.f9 false true false false) := by
  refine lift started 4 (by kernel_rfl) Tryd.func9 rfl rfl (fun ds hl => ?_) (by kernel_rfl) rfl #[.agg #[.int .i64 0, .int .i64 0, .int .i64 0, .int .i64 0, .int .i64 0], .slice none 0 0, .int .i64 0, .int .i64 0] (by kernel_rfl) (by kernel_rfl) (by kernel_rfl) ?_
  · match ds, hl with
    | [_, _, _, _], _ => rfl
  intro W base args ds ps hT hval0 hA0 hlt
  have hval : ∀ (j : Nat) t v, Tryd.f9.params[j]? = some t → args[j]? = some v → Value.okWide Tryd.prog W .any base t v := hval0
  have hA : DataW.TrodAll enc Tryd.prog W 0 (fun _ => true) true Tryd.f9.params.toList args.toList ds ps := hA0
  rw [Tryd.params9] at hA hval
  clear hA0 hval0
  obtain ⟨v0, v1, v2, v3, d0, d1, d2, d3, p0, p1, p2, p3, rfl, rfl, rfl, h0, h1, h2, h3⟩ := trodAll_four hA
  obtain ⟨s, t, f, l, p, rfl, _⟩ := open_five Tryd.underlying23 (by kernel_rfl) (by kernel_rfl) Tryd.underlying3 Tryd.underlying3 Tryd.underlying3 Tryd.underlying3 Tryd.underlying3 (hval 0 _ _ rfl rfl) h0
  obtain ⟨A, n, c, xs, rfl, hnc, hc, hl, hr⟩ := open_wris (hval 1 _ _ rfl rfl) h1 (fun p hp => hlt p (by simp [hp])) (fun _ => rfl)
  obtain ⟨a, rfl, ea, ha⟩ := open_int Tryd.underlying3 (hval 2 _ _ rfl rfl) h2
  obtain ⟨b, rfl, eb, hb⟩ := open_int Tryd.underlying3 (hval 3 _ _ rfl rfl) h3
  exact MemoryCuts_calls s t f l p a b A n c xs W hT hr
theorem memoryCuts_row : Rows.MemoryCutsSaid :=
  OpenClaim.holds_of_wide 9 Tryd.f9 rfl rfl rfl rfl rfl rfl rfl ⟨rfl, rfl, rfl, rfl, rfl⟩ rfl rfl rfl rfl rfl (by kernel_rfl) Tryd.func9 (by kernel_rfl)
    (of_decide_eq_true (by kernel_rfl)) (by unfold Func.isWrapper; first | (rw [if_pos (by decide +kernel)]; kernel_rfl) | (rw [if_neg (by decide +kernel)]; exact ⟨rfl, rfl⟩))
    (fun os started H enc _ => memoryCuts_lifted os started H enc)
theorem memoryCuts_holds : Rows.MemoryCutsCardSaid :=
  Claim7.holds_tied_plain_at .later [] [.listed, .data] true Rows.memoryCutsCard.stood.harness false
    memoryCuts_row (fun _ h => by cases h) (by kernel_rfl) (fun _ h => by cases h) memoryCuts_row_tie rfl ⟨rfl, rfl⟩ (by kernel_rfl) rfl
    (fun f fn hf hfn => by
      obtain rfl : f = 9 := Option.some.inj ((show Tryd.prog.funcNamed "gleaning/gleaninglaw09.MemoryCuts" = some 9 by kernel_rfl).symm.trans hf) |>.symm
      obtain rfl : fn = Tryd.f9 := (Option.some.inj (Tryd.func9.symm.trans hfn)).symm
      exact ⟨by kernel_rfl, fun j t ht => by
        rw [Tryd.params9] at ht
        exact no_stand_in (by kernel_rfl) j t ht⟩)
    (by kernel_rfl)
#print axioms memoryCuts_holds
end Go.Proofs.YtpkocgcagemnbaaDoor
