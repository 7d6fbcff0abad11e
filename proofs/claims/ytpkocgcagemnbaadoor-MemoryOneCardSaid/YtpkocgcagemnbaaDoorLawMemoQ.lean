/-
  MemoryOne holds, as a card: wherever the two listed variables start as the program's text lays them, its Go function returns true for every input and leaves its arguments as they were.
-/
import Derived.Test.YtpkocgcagemnbaaDoorLiftD
import Derived.Test.YtpkocgcagemnbaaDoorMemoQ
import Derived.Test.YtpkocgcagemnbaaDoorOpenAsk
namespace Go.Proofs.YtpkocgcagemnbaaDoor
open Go.ChangeShapes Go.WideShapes Go.ChangeAt Go.RowKit

theorem MemoryOne_calls (s t f c0 p k a o v : Int) (A : Option Addr) (n c : Nat) (l : List (Int × Int)) (w : World) (hT : Tab w) (hr : Reads w w.heap.size 2 A n (recW l)) :
    Calls Tryd.prog 6 #[.agg #[.int .i64 s, .int .i64 t, .int .i64 f, .int .i64 c0, .int .i64 p], .slice A n c, .agg #[.int .i64 k, .int .i64 a, .int .u64 o, .int .u64 v]] w fun e w' => e = .returned (.bool true) ∧ Below w.heap.size w w' := by
  by_cases h1 : (100 : Int) < n
  · exact one_big s t f c0 p k a o v A n c w hT (.inl h1)
  by_cases h2 : 5000 < rSize s t f c0 p
  · exact one_big s t f c0 p k a o v A n c w hT (.inr (.inl ⟨by omega, h2⟩))
  cases hc : cfgOk s t f c0 p with
  | false => exact one_big s t f c0 p k a o v A n c w hT (.inr (.inr ⟨by omega, by unfold rSize; rw [hc]; rfl⟩))
  | true =>
    have hb := cfgOk_iff.1 hc
    have hz := size_pos (s := s) (t := t) (f := f) (by omega) (by omega) (by omega)
    unfold rSize at h2
    rw [hc] at h2
    simp only [if_true] at h2
    exact one_yes s t f c0 p k a o v A n c (laySize s t f).toNat l w hT hc (by omega) (by omega) (by omega) (by omega) hr
set_option maxRecDepth 100000 in
theorem memoryOne_lifted (os : Os) (started : os.Started) (H : Type) (enc : TypeId × Value → H) :
    ReturnsInHanded {} Tryd.checked os 6 .any (fun w args => (Rows.memoryOneSpec.pre enc Tryd.prog Tryd.f6 [] false w args ∧ laidMetH Tryd.prog laid2 w) ∧ sizedMet enc Tryd.prog Tryd.f6 (OpenSpec.ofChange Rows.memoryOneSpec) false w args) (Rows.memoryOneSpec.post enc Tryd.prog Tryd.f6 false true false false) := by
  refine lift started 3 (by kernel_rfl) Tryd.func6 rfl rfl (fun ds hl => ?_) (by kernel_rfl) rfl #[.agg #[.int .i64 0, .int .i64 0, .int .i64 0, .int .i64 0, .int .i64 0], .slice none 0 0, .agg #[.int .i64 0, .int .i64 0, .int .u64 0, .int .u64 0]] (by kernel_rfl) (by kernel_rfl) (by kernel_rfl) ?_
  · match ds, hl with
    | [_, _, _], _ => rfl
  intro W base args ds ps hT hval0 hA0 hlt
  have hval : ∀ (j : Nat) t v, Tryd.f6.params[j]? = some t → args[j]? = some v → Value.okWide Tryd.prog W .any base t v := hval0
  have hA : DataW.TrodAll enc Tryd.prog W 0 (fun _ => true) true Tryd.f6.params.toList args.toList ds ps := hA0
  rw [Tryd.params6] at hA hval
  clear hA0 hval0
  obtain ⟨v0, v1, v2, d0, d1, d2, p0, p1, p2, rfl, rfl, rfl, h0, h1, h2⟩ := trodAll_three hA
  obtain ⟨s, t, f, l, p, rfl, _⟩ := open_five Tryd.underlying23 (by kernel_rfl) (by kernel_rfl) Tryd.underlying3 Tryd.underlying3 Tryd.underlying3 Tryd.underlying3 Tryd.underlying3 (hval 0 _ _ rfl rfl) h0
  obtain ⟨A, n, c, xs, rfl, hnc, hc, hl, hr⟩ := open_wris (hval 1 _ _ rfl rfl) h1 (fun p hp => hlt p (by simp [hp])) (fun _ => rfl)
  obtain ⟨k, a, o, v, rfl, _⟩ := open_ask (hval 2 _ _ rfl rfl) h2
  exact MemoryOne_calls s t f l p k a o v A n c xs W hT hr
theorem memoryOne_row : Rows.MemoryOneSaid :=
  OpenClaim.holds_of_wide 6 Tryd.f6 rfl rfl rfl rfl rfl rfl rfl ⟨rfl, rfl, rfl, rfl, rfl⟩ rfl rfl rfl rfl rfl (by kernel_rfl) Tryd.func6 (by kernel_rfl)
    (of_decide_eq_true (by kernel_rfl)) (by unfold Func.isWrapper; first | (rw [if_pos (by decide +kernel)]; kernel_rfl) | (rw [if_neg (by decide +kernel)]; exact ⟨rfl, rfl⟩))
    (fun os started H enc _ => memoryOne_lifted os started H enc)
theorem memoryOne_holds : Rows.MemoryOneCardSaid :=
  Claim7.holds_tied_plain_at .later [] [.listed, .data] true Rows.memoryOneCard.stood.harness false
    memoryOne_row (fun _ h => by cases h) (by kernel_rfl) (fun _ h => by cases h) memoryOne_row_tie rfl ⟨rfl, rfl⟩ (by kernel_rfl) rfl
    (fun f fn hf hfn => by
      obtain rfl : f = 6 := Option.some.inj ((show Tryd.prog.funcNamed "gleaning/gleaninglaw09.MemoryOne" = some 6 by kernel_rfl).symm.trans hf) |>.symm
      obtain rfl : fn = Tryd.f6 := (Option.some.inj (Tryd.func6.symm.trans hfn)).symm
      exact ⟨by kernel_rfl, fun j t ht => by
        rw [Tryd.params6] at ht
        exact no_stand_in (by kernel_rfl) j t ht⟩)
    (by kernel_rfl)
#print axioms memoryOne_holds
end Go.Proofs.YtpkocgcagemnbaaDoor
