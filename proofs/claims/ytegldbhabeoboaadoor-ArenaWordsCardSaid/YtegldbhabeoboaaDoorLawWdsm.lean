/-
  ArenaWords holds, as a card: wherever the two listed variables start as the program's text lays them, its Go function returns true for every input and leaves its arguments as they were.
-/
import Derived.Test.YtegldbhabeoboaaDoorV2
namespace Go.Proofs.YtegldbhabeoboaaDoor
open Go.ChangeShapes Go.WideShapes Go.ChangeAt Go.RowKit

theorem wds_any (s t f l p k : Int) (v : Value) (b : Bool) (ks vs : List Int) (lk : Int) (w : World) (hT : Tab w) (h : Nd w w.heap.size v b ks vs lk) (h64l : W64 lk) (h64k : ∀ z ∈ ks, W64 z) (h64v : ∀ z ∈ vs, W64 z) :
    Calls Tryd.prog 6 #[.agg #[.int .i64 s, .int .i64 t, .int .i64 f, .int .i64 l, .int .i64 p], .int .i64 k, v] w fun e w' => e = .returned (.bool true) ∧ Below w.heap.size w w' := by
  cases hs : smallB ks vs with
  | false => exact wds_far s t f l p k v b ks vs lk w hT h hs
  | true =>
    have hl80 : ks.length ≤ 80 ∧ vs.length ≤ 80 := by unfold smallB at hs; simpa using hs
    by_cases h2 : 5000 < rSize s t f l p
    · exact wds_big s t f l p k v b ks vs lk w hT h hs h2
    cases hc : cfgOk s t f l p with
    | false =>
      exact wds_none s t f l p k 0 0 0 0 0 v b ks vs lk w hT h hs h2 (fun w2 hb => new_no s t f l p w2 (hT.below hb) hc)
        (fun w2 hb => words_none10 0 0 0 0 0 k v b ks vs lk w2 ((h.below hb).more hb.size) (by omega) (by omega) (fun w3 => (lver_zero k w3).mono fun e w4 ⟨he, hb4⟩ => ⟨⟨-1, he, .inl (by decide)⟩, hb4⟩)) (.inl hc)
    | true =>
      have hb := cfgOk_iff.1 hc
      have h1s : 1 ≤ s ∧ s ≤ 1000 := by omega
      have h1t : 1 ≤ t ∧ t ≤ 64 := by omega
      have h1f : 4 ≤ f ∧ f ≤ 64 := by omega
      have LN := fun (w2 : World) (hb : Below w.heap.size w w2) => new_yes s t f l p w2 (hT.below hb) hc
      by_cases hk : k < 0 ∨ s < k
      · refine wds_none s t f l p k s t f l p v b ks vs lk w hT h hs h2 LN (fun w2 hb => words_none10 s t f l p k v b ks vs lk w2 ((h.below hb).more hb.size) (by omega) (by omega) (fun w3 => ?_)) (by
          by_cases hk2 : k < 0
          · exact .inr (.inl ⟨hc, hk2⟩)
          · exact .inr (.inr (.inl ⟨hc, hk2, by omega⟩)))
        have h9 := lver_any s t f l p k w3 h1s h1t h1f
        rw [atpB_6no hk] at h9
        exact h9.mono fun e w4 ⟨he, hb4⟩ => ⟨⟨-1, he, .inl (by decide)⟩, hb4⟩
      · have hkk : 0 ≤ k ∧ k ≤ s := by omega
        cases hfit : fitsB b ks vs f with
        | false =>
          refine wds_none s t f l p k s t f l p v b ks vs lk w hT h hs h2 LN (fun w2 hb => words_none10 s t f l p k v b ks vs lk w2 ((h.below hb).more hb.size) (by omega) (by omega) (fun w3 => ?_)) (.inr (.inr (.inr ⟨hc, by omega, by omega, hfit⟩)))
          have h9 := lver_any s t f l p k w3 h1s h1t h1f
          rw [atpB_6 hkk] at h9
          have hbd := nB_bd h1s h1t h1f hkk
          exact h9.mono fun e w4 ⟨he, hb4⟩ => ⟨⟨nB t f k, he, .inr ⟨by rw [decide_eq_false_iff_not]; omega, hfit⟩⟩, hb4⟩
        | true =>
          exact wds_yes s t f l p k v b ks vs lk w hT h hs hc (by unfold rSize at h2; rw [if_pos hc] at h2; omega) hkk hfit h64l h64k h64v
set_option maxRecDepth 100000 in
theorem arenaWords_lifted (os : Os) (started : os.Started) (H : Type) (enc : TypeId × Value → H) :
    ReturnsInHanded {} Tryd.checked os 6 .any (fun w args => (Rows.arenaWordsSpec.pre enc Tryd.prog Tryd.f6 [] false w args ∧ laidMetH Tryd.prog laid2 w) ∧ sizedMet enc Tryd.prog Tryd.f6 (OpenSpec.ofChange Rows.arenaWordsSpec) false w args) (Rows.arenaWordsSpec.post enc Tryd.prog Tryd.f6 false true false false) := by
  refine lift started 3 (by kernel_rfl) Tryd.func6 rfl rfl (fun ds hl => ?_) (by kernel_rfl) rfl #[.agg #[.int .i64 0, .int .i64 0, .int .i64 0, .int .i64 0, .int .i64 0], .int .i64 0, .agg #[.bool false, .slice none 0 0, .slice none 0 0, .int .u64 0]] (by kernel_rfl) (by kernel_rfl) (by kernel_rfl) ?_
  · match ds, hl with
    | [_, _, _], _ => rfl
  intro W base args ds ps hT hval0 hA0 hlt
  have hval : ∀ (j : Nat) t v, Tryd.f6.params[j]? = some t → args[j]? = some v → Value.okWide Tryd.prog W .any base t v := hval0
  have hA : DataW.TrodAll enc Tryd.prog W 0 (fun _ => true) true Tryd.f6.params.toList args.toList ds ps := hA0
  rw [Tryd.params6] at hA hval
  clear hA0 hval0
  obtain ⟨v0, v1, v2, d0, d1, d2, p0, p1, p2, rfl, rfl, rfl, h0, h1, h2⟩ := trodAll_three hA
  obtain ⟨s, t, f, l, p, rfl, _⟩ := open_five Tryd.underlying23 (by kernel_rfl) (by kernel_rfl) Tryd.underlying3 Tryd.underlying3 Tryd.underlying3 Tryd.underlying3 Tryd.underlying3 (hval 0 _ _ rfl rfl) h0
  obtain ⟨a, rfl, rfl, rfl, w1⟩ := open_int Tryd.underlying3 (hval 1 _ _ rfl rfl) h1
  obtain ⟨b, ks, vs, lk, hn, e1, e2, e3⟩ := open_node (B := W.heap.size) (hval 2 _ _ rfl rfl) h2 (fun p hp => hlt p (by simp [hp])) (fun _ => rfl)
  exact wds_any s t f l p a v2 b ks vs lk W hT hn e1 e2 e3
theorem arenaWords_row : Rows.ArenaWordsSaid :=
  OpenClaim.holds_of_wide 6 Tryd.f6 rfl rfl rfl rfl rfl rfl rfl ⟨rfl, rfl, rfl, rfl, rfl⟩ rfl rfl rfl rfl rfl (by kernel_rfl) Tryd.func6 (by kernel_rfl)
    (of_decide_eq_true (by kernel_rfl)) (by unfold Func.isWrapper; first | (rw [if_pos (by decide +kernel)]; kernel_rfl) | (rw [if_neg (by decide +kernel)]; exact ⟨rfl, rfl⟩))
    (fun os started H enc _ => arenaWords_lifted os started H enc)
theorem arenaWords_holds : Rows.ArenaWordsCardSaid :=
  Claim7.holds_tied_plain_at .later [] [.listed, .data] true Rows.arenaWordsCard.stood.harness false
    arenaWords_row (fun _ h => by cases h) (by kernel_rfl) (fun _ h => by cases h) arenaWords_row_tie rfl ⟨rfl, rfl⟩ (by kernel_rfl) rfl
    (fun f fn hf hfn => by
      obtain rfl : f = 6 := Option.some.inj ((show Tryd.prog.funcNamed "gleaning/gleaninglaw10.ArenaWords" = some 6 by kernel_rfl).symm.trans hf) |>.symm
      obtain rfl : fn = Tryd.f6 := (Option.some.inj (Tryd.func6.symm.trans hfn)).symm
      exact ⟨by kernel_rfl, fun j t ht => by
        rw [Tryd.params6] at ht
        exact no_stand_in (by kernel_rfl) j t ht⟩)
    (by kernel_rfl)
#print axioms arenaWords_holds
end Go.Proofs.YtegldbhabeoboaaDoor
