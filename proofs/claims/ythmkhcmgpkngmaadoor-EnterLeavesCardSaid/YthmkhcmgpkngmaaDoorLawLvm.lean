/-
  EnterLeaves holds, as a card: wherever the two listed variables start as the program's text lays them, its Go function returns true for every input and leaves its arguments as they were.
-/
import Derived.Test.YthmkhcmgpkngmaaDoorLiftD
import Derived.Test.YthmkhcmgpkngmaaDoorLvm
import Derived.Test.YthmkhcmgpkngmaaDoorOpen
namespace Go.Proofs.YthmkhcmgpkngmaaDoor
open Go.ChangeShapes Go.WideShapes Go.ChangeAt Go.RowKit Go.Shelf

section
attribute [local go_sem] Oper.semAt_some
set_option maxRecDepth 100000 in
set_option maxHeartbeats 2000000 in
theorem EnterLeaves_big (s t f l p th : Int) (sl : Bool) (A : Option Addr) (n c : Nat) (w : World) (hT : Tab w) (h1 : (20 : Int) < n) :
    CallsIn Fence.wide 5 Tryd.prog 6 #[.agg #[.int .i64 s, .int .i64 t, .int .i64 f, .int .i64 l, .int .i64 p], .int .i64 th, .bool sl, .slice A n c] w fun e W' => e = .returned (.bool true) ∧ Below w.heap.size w W' := by
  have B0 := ((Below.refl w.heap.size w).alloc (Nat.le_refl _) (.cells #[.int .i64 s, .int .i64 t, .int .i64 f, .int .i64 l, .int .i64 p] 23)).alloc (by simp) (.cells #[.bool false] 4)
  have bb := Blk.new (w.alloc (.cells #[.int .i64 s, .int .i64 t, .int .i64 f, .int .i64 l, .int .i64 p] 23)) 4 #[.bool false]
  rw [World.size_alloc] at bb
  have Aw := hide (awake17 _ (hT.below B0))
  clear hT
  refine callsIn_of_wp_marks Tryd.func6 rfl trivial ?_ rfl
  simp only [Tryd.ntmps6, List.size_toArray, List.length_cons, List.length_nil, Nat.reduceAdd, Nat.reduceSub, Array.replicate_succ, Array.replicate_zero, List.push_toArray, List.append_toArray, List.nil_append, List.cons_append]
  gi_wp2
  refine ⟨trivial, ?_⟩
  refine (callsIn_wide.2 Aw.out).mono ?_
  rintro e w3 ⟨rfl, hb3⟩
  replace bb := bb.below hb3 bb.lt
  replace B0 := B0.trans (hb3.mono B0.size)
  clear hb3 Aw
  have mb := fun i => bb.cell i
  have fb := fun i => bb.frozen i
  gi_wp2
  have hc5 := World.cell?_setCell_same' w3 ⟨w.heap.size + 1, 0, none⟩ (.bool true) (by rw [bb.cell 0]; rfl)
  refine ⟨.bool true, ?_, rfl, B0.setCell (p := ⟨w.heap.size + 1, 0, none⟩) (Nat.le_succ _) _⟩
  simp [results, Tryd.results6, go_sem, hc5]
end
theorem EnterLeaves_calls (s t f l p th : Int) (sl : Bool) (A : Option Addr) (n c : Nat) (l0 : List Int) (w : World) (hT : Tab w) (hr : Reads w w.heap.size 1 A n (ints .u64 l0)) :
    Calls Tryd.prog 6 #[.agg #[.int .i64 s, .int .i64 t, .int .i64 f, .int .i64 l, .int .i64 p], .int .i64 th, .bool sl, .slice A n c] w fun e w' => e = .returned (.bool true) ∧ Below w.heap.size w w' := by
  refine (callsIn_wide (n := 5)).1 ?_
  by_cases h1 : (20 : Int) < n
  · exact EnterLeaves_big s t f l p th sl A n c w hT h1
  have hn : n ≤ 20 := by omega
  have zW := lwant_0 0 0 0 0 0 0 ((0 : Nat) : Int)
  have zT := fun g w2 => ltook_0 0 0 0 0 0 0 ((0 : Nat) : Int) g w2
  cases hc : cfgOk s t f l p with
  | false =>
    exact leaves17 s t f l p th 0 0 0 0 0 0 0 0 0 0 0 sl A n c 0 (aAt t th) l0 w hT hn hr (spec_zero 0 0 0 0 0 th sl (fun w2 => lvnew_zero th sl w2) _) (fun w2 hb => new_no s t f l p w2 (hT.below hb) hc) (fun w2 => rleaves_none s t f l p th sl w2 (.inl hc)) zW zT
  | true =>
    have hb := cfgOk_iff.1 hc
    by_cases hth : 0 ≤ th ∧ th < t
    · cases sl with
      | true => exact leaves17 s t f l p th s t f l p s t f l p th true A n c 3 (aAt t th) l0 w hT hn hr (spec_three s t f l p th (by omega) (by omega) (by omega) hth) (fun w2 hb => new_yes s t f l p w2 (hT.below hb) hc) (fun w2 => rleaves_three s t f l p th w2 hc hth) (lwant_0 s t f l p th _) (fun g w2 => ltook_0 s t f l p th _ g w2)
      | false => exact leaves17 s t f l p th s t f l p s t f l p th false A n c 1 (aAt t th) l0 w hT hn hr (spec_one s t f l p th (by omega) (by omega) (by omega) hth) (fun w2 hb => new_yes s t f l p w2 (hT.below hb) hc) (fun w2 => rleaves_one s t f l p th w2 hc hth) (lwant_0 s t f l p th _) (fun g w2 => ltook_0 s t f l p th _ g w2)
    · exact leaves17 s t f l p th s t f l p 0 0 0 0 0 0 sl A n c 0 (aAt t th) l0 w hT hn hr (spec_zero s t f l p th sl (fun w2 => lvnew_no s t f l p th sl w2 (by omega) (by omega) (by omega) (by omega)) _) (fun w2 hb => new_yes s t f l p w2 (hT.below hb) hc) (fun w2 => rleaves_none s t f l p th sl w2 (.inr (by omega))) zW zT
set_option maxRecDepth 100000 in
theorem enterLeaves_lifted (os : Os) (started : os.Started) (H : Type) (enc : TypeId × Value → H) :
    ReturnsInHanded {} Tryd.checked os 6 .any (fun w args => (Rows.enterLeavesSpec.pre enc Tryd.prog Tryd.f6 [] false w args ∧ laidMetH Tryd.prog laid2 w) ∧ sizedMet enc Tryd.prog Tryd.f6 (OpenSpec.ofChange Rows.enterLeavesSpec) false w args) (Rows.enterLeavesSpec.post enc Tryd.prog Tryd.f6 false true false false) := by
  refine lift started 4 (by kernel_rfl) Tryd.func6 rfl rfl (fun ds hl => ?_) (by kernel_rfl) rfl #[.agg #[.int .i64 0, .int .i64 0, .int .i64 0, .int .i64 0, .int .i64 0], .int .i64 0, .bool false, .slice none 0 0] (by kernel_rfl) (by kernel_rfl) (by kernel_rfl) ?_
  · match ds, hl with
    | [_, _, _, _], _ => rfl
  intro W base args ds ps hT hval0 hA0 hlt
  have hval : ∀ (j : Nat) t v, Tryd.f6.params[j]? = some t → args[j]? = some v → Value.okWide Tryd.prog W .any base t v := hval0
  have hA : DataW.TrodAll enc Tryd.prog W 0 (fun _ => true) true Tryd.f6.params.toList args.toList ds ps := hA0
  rw [Tryd.params6] at hA hval
  clear hA0 hval0
  obtain ⟨v0, v1, v2, v3, d0, d1, d2, d3, p0, p1, p2, p3, rfl, rfl, rfl, h0, h1, h2, h3⟩ := trodAll_four hA
  obtain ⟨s, t, f, l, p, rfl, _⟩ := open_five Tryd.underlying23 (by kernel_rfl) (by kernel_rfl) Tryd.underlying3 Tryd.underlying3 Tryd.underlying3 Tryd.underlying3 Tryd.underlying3 (hval 0 _ _ rfl rfl) h0
  obtain ⟨a, rfl, rfl, rfl, w1⟩ := open_int Tryd.underlying3 (hval 1 _ _ rfl rfl) h1
  obtain ⟨b, rfl, rfl, rfl⟩ := open_bool Tryd.underlying4 (hval 2 _ _ rfl rfl) h2
  obtain ⟨A, n, c, l0, rfl, hnc, hcm, hl, hr, hw⟩ := open_words (B := W.heap.size) Tryd.underlying24 Tryd.underlying28 (by kernel_rfl) (hval 3 _ _ rfl rfl) h3 (fun p hp => hlt p (by simp [hp])) (fun _ => rfl)
  exact EnterLeaves_calls s t f l p a b A n c l0 W hT hr
theorem enterLeaves_row : Rows.EnterLeavesSaid :=
  OpenClaim.holds_of_wide 6 Tryd.f6 rfl rfl rfl rfl rfl rfl rfl ⟨rfl, rfl, rfl, rfl, rfl⟩ rfl rfl rfl rfl rfl (by kernel_rfl) Tryd.func6 (by kernel_rfl)
    (of_decide_eq_true (by kernel_rfl)) (by unfold Func.isWrapper; first | (rw [if_pos (by decide +kernel)]; kernel_rfl) | (rw [if_neg (by decide +kernel)]; exact ⟨rfl, rfl⟩))
    (fun os started H enc _ => enterLeaves_lifted os started H enc)
theorem enterLeaves_holds : Rows.EnterLeavesCardSaid :=
  Claim7.holds_tied_plain_at .later [] [.listed, .data] true Rows.enterLeavesCard.stood.harness false
    enterLeaves_row (fun _ h => by cases h) (by kernel_rfl) (fun _ h => by cases h) enterLeaves_row_tie rfl ⟨rfl, rfl⟩ (by kernel_rfl) rfl
    (fun f fn hf hfn => by
      obtain rfl : f = 6 := Option.some.inj ((show Tryd.prog.funcNamed "gleaning/gleaninglaw17.EnterLeaves" = some 6 by kernel_rfl).symm.trans hf) |>.symm
      obtain rfl : fn = Tryd.f6 := (Option.some.inj (Tryd.func6.symm.trans hfn)).symm
      exact ⟨by kernel_rfl, fun j t ht => by
        rw [Tryd.params6] at ht
        exact no_stand_in (by kernel_rfl) j t ht⟩)
    (by kernel_rfl)
#print axioms enterLeaves_holds
end Go.Proofs.YthmkhcmgpkngmaaDoor
