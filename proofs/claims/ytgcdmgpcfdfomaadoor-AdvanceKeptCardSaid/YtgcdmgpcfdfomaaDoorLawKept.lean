/-
  AdvanceKept holds, as a card: wherever the two listed variables start as the program's text lays them, its Go function returns true for every input and leaves its arguments as they were.
-/
import Derived.Test.YtgcdmgpcfdfomaaDoorKept
import Derived.Test.YtgcdmgpcfdfomaaDoorOpenAsk
namespace Go.Proofs.YtgcdmgpcfdfomaaDoor
open Go.ChangeShapes Go.WideShapes Go.ChangeAt Go.RowKit Go.Deep

section
variable {H : Type} {enc : TypeId × Value → H} {w : World} {spare : Nat → Bool} {held : Bool} {base : Nat}
set_option maxRecDepth 100000 in
/-- A slice of writes. -/
theorem open_wris64 {B b0 : Nat} {v : Value} {d : DataW H} {ps : List MemPlace}
    (hv : Value.okWide Tryd.prog w .any b0 24 v) (h : DataW.Trod enc Tryd.prog w base spare held 24 v d ps) (hlt : ∀ p ∈ ps, p.block < B) (hsp : ∀ a, spare a = true) :
    ∃ A len cap l, v = .slice A len cap ∧ len ≤ cap ∧ cap ≤ maxLen ∧ l.length = len ∧ Reads w B 2 A len (recW l) ∧ ∀ r ∈ l, W64 r.2 := by
  obtain ⟨A, len, cap, rows, hv, h1, h2, h3, h4, h5⟩ := open_rows (s := 2) Tryd.underlying24 (by kernel_rfl) (by omega) hv h hlt hsp (fun cs => cs.length = 2 → ∃ a n, cs = [.int .i64 a, .int .u64 n] ∧ W64 n) (fun n cs' z hy _ hl => by
    match cs', hl with
    | [x0, x1], _ =>
      obtain ⟨y0, n0, z0, e0, g0⟩ := fld Tryd.underlying32 (by kernel_rfl) rfl hy 0 _ rfl
      obtain ⟨y1, n1, z1, e1, g1⟩ := fld Tryd.underlying32 (by kernel_rfl) rfl hy 1 _ rfl
      obtain ⟨a, h1', _, w1⟩ := DataW.trod_int Tryd.underlying3 g0
      obtain ⟨o, h2', _, w2⟩ := DataW.trod_int Tryd.underlying29 g1
      simp at e0 e1 h1' h2'
      exact ⟨a, o, by rw [e0, e1, h1', h2'], W64.of_wf w2⟩)
  have key : ∀ rows : List (List Value), (∀ r ∈ rows, r.length = 2 ∧ (r.length = 2 → ∃ a n, r = [Value.int .i64 a, .int .u64 n] ∧ W64 n)) → ∃ l : List (Int × Int), l.length = rows.length ∧ recW l = rows.flatten ∧ ∀ r ∈ l, W64 r.2 := by
    intro rows
    induction rows with
    | nil => intro _; exact ⟨[], rfl, rfl, by simp⟩
    | cons r rows ih =>
      intro h
      obtain ⟨l, e1, e2, e3⟩ := ih (fun r hr => h r (by simp [hr]))
      obtain ⟨h1, h2⟩ := h r (by simp)
      obtain ⟨k, a, rfl, h3⟩ := h2 h1
      exact ⟨(k, a) :: l, by simp [e1], by simp [← e2, recW], fun r hr => by
        rcases List.mem_cons.1 hr with rfl | hr
        · exact h3
        · exact e3 r hr⟩
  obtain ⟨l, e1, e2, e3⟩ := key rows h5
  exact ⟨A, len, cap, l, hv, h1, h2, by omega, by rw [e2]; exact h4, e3⟩
end
set_option maxRecDepth 100000 in
set_option maxHeartbeats 2000000 in
theorem kept_big (s t f l p own : Int) (A : Option Addr) (n c : Nat) (w : World) (hT : Tab w) (h1 : (100 : Int) < n) :
    Calls Tryd.prog 3 #[.agg #[.int .i64 s, .int .i64 t, .int .i64 f, .int .i64 l, .int .i64 p], .int .i64 own, .slice A n c] w fun e w' => e = .returned (.bool true) ∧ Below w.heap.size w w' := by
  have B0 := (Below.refl w.heap.size w).alloc (Nat.le_refl _) (.cells #[.int .i64 s, .int .i64 t, .int .i64 f, .int .i64 l, .int .i64 p] 23)
  have bc := Blk.new w 23 #[.int .i64 s, .int .i64 t, .int .i64 f, .int .i64 l, .int .i64 p]
  have AW := hide (fun w2 (hB : Below w.heap.size w w2) => awake18 w2 (hT.below hB))
  have HT := hide hT
  clear hT
  have d0 : decide ((100 : Int) < (n : Int)) = true := (by rw [decide_eq_true_iff]; omega)
  clear h1
  have mc := fun i => bc.cell i
  go_enter Tryd.func3, Tryd.ntmps3
  go_wp2_with fail
  refine (AW.out _ B0).mono ?_
  rintro e wz ⟨rfl, hb1⟩
  go_wp2_with fail
  go_ret
  exact ⟨rfl, B0.trans (hb1.mono B0.size)⟩
set_option maxRecDepth 100000 in
set_option maxHeartbeats 2000000 in
theorem kept_wrong (s t f l p own : Int) (A : Option Addr) (n c : Nat) (w : World) (hT : Tab w) (h1 : ¬ (100 : Int) < n) (hw0 : 0 ≤ wrg s t f l p) :
    Calls Tryd.prog 3 #[.agg #[.int .i64 s, .int .i64 t, .int .i64 f, .int .i64 l, .int .i64 p], .int .i64 own, .slice A n c] w fun e w' => e = .returned (.bool true) ∧ Below w.heap.size w w' := by
  have B0 := (Below.refl w.heap.size w).alloc (Nat.le_refl _) (.cells #[.int .i64 s, .int .i64 t, .int .i64 f, .int .i64 l, .int .i64 p] 23)
  have bc := Blk.new w 23 #[.int .i64 s, .int .i64 t, .int .i64 f, .int .i64 l, .int .i64 p]
  have AW := hide (fun w2 (hB : Below w.heap.size w w2) => awake18 w2 (hT.below hB))
  have HT := hide hT
  clear hT
  have WR := hide (fun w2 => wrong_any s t f l p w2)
  generalize wrg s t f l p = wr0 at *
  have d0 : decide ((100 : Int) < (n : Int)) = false := (by rw [decide_eq_false_iff_not]; omega)
  have d1 : decide ((0 : Int) ≤ wr0) = true := (by rw [decide_eq_true_iff]; omega)
  clear h1 hw0
  have mc := fun i => bc.cell i
  go_enter Tryd.func3, Tryd.ntmps3
  go_wp2_with fail
  refine (WR.out _).mono ?_
  rintro e w1 ⟨rfl, hb1⟩
  clear mc
  replace bc := bc.below hb1 bc.lt
  replace B0 := B0.trans (hb1.mono B0.size)
  clear hb1
  have mc := fun i => bc.cell i
  go_wp2_with fail
  refine (AW.out _ B0).mono ?_
  rintro e wz ⟨rfl, hb1⟩
  go_wp2_with fail
  go_ret
  exact ⟨rfl, B0.trans (hb1.mono B0.size)⟩
set_option maxRecDepth 100000 in
set_option maxHeartbeats 2000000 in
theorem kept_size (s t f l p own : Int) (A : Option Addr) (n c : Nat) (w : World) (hT : Tab w) (hc : cfgOk s t f l p = true) (h1 : ¬ (100 : Int) < n) (h2 : (5000 : Int) < laySize s t f) :
    Calls Tryd.prog 3 #[.agg #[.int .i64 s, .int .i64 t, .int .i64 f, .int .i64 l, .int .i64 p], .int .i64 own, .slice A n c] w fun e w' => e = .returned (.bool true) ∧ Below w.heap.size w w' := by
  have B0 := (Below.refl w.heap.size w).alloc (Nat.le_refl _) (.cells #[.int .i64 s, .int .i64 t, .int .i64 f, .int .i64 l, .int .i64 p] 23)
  have bc := Blk.new w 23 #[.int .i64 s, .int .i64 t, .int .i64 f, .int .i64 l, .int .i64 p]
  have AW := hide (fun w2 (hB : Below w.heap.size w w2) => awake18 w2 (hT.below hB))
  have HT := hide hT
  clear hT
  have hwr : wrg s t f l p < 0 := by have := wrg_ok (s := s) (t := t) (f := f) (l := l) (p := p); rw [hc] at this; simpa using this.symm
  have WR := hide (fun w2 => wrong_any s t f l p w2)
  have RS := hide (fun w2 => rsize_any s t f l p w2)
  rw [show rSize s t f l p = laySize s t f by unfold rSize; rw [if_pos hc]] at RS
  clear hc
  generalize wrg s t f l p = wr0 at *
  generalize laySize s t f = N at *
  have d0 : decide ((100 : Int) < (n : Int)) = false := (by rw [decide_eq_false_iff_not]; omega)
  have d1 : decide ((0 : Int) ≤ wr0) = false := (by rw [decide_eq_false_iff_not]; omega)
  have d2 : decide ((5000 : Int) < N) = true := (by rw [decide_eq_true_iff]; omega)
  clear hwr h1 h2 
  have mc := fun i => bc.cell i
  go_enter Tryd.func3, Tryd.ntmps3
  go_wp2_with fail
  refine (WR.out _).mono ?_
  rintro e w1 ⟨rfl, hb1⟩
  clear mc
  replace bc := bc.below hb1 bc.lt
  replace B0 := B0.trans (hb1.mono B0.size)
  clear hb1
  have mc := fun i => bc.cell i
  go_wp2_with fail
  refine (RS.out _).mono ?_
  rintro e w2 ⟨rfl, hb1⟩
  clear mc
  replace bc := bc.below hb1 bc.lt
  replace B0 := B0.trans (hb1.mono B0.size)
  clear hb1
  have mc := fun i => bc.cell i
  go_wp2_with fail
  refine (AW.out _ B0).mono ?_
  rintro e wz ⟨rfl, hb1⟩
  go_wp2_with fail
  go_ret
  exact ⟨rfl, B0.trans (hb1.mono B0.size)⟩
set_option maxRecDepth 100000 in
set_option maxHeartbeats 2000000 in
theorem kept_neg (s t f l p own : Int) (A : Option Addr) (n c : Nat) (w : World) (hT : Tab w) (hc : cfgOk s t f l p = true) (h1 : ¬ (100 : Int) < n) (h2 : ¬ (5000 : Int) < laySize s t f) (h3 : own < 0) :
    Calls Tryd.prog 3 #[.agg #[.int .i64 s, .int .i64 t, .int .i64 f, .int .i64 l, .int .i64 p], .int .i64 own, .slice A n c] w fun e w' => e = .returned (.bool true) ∧ Below w.heap.size w w' := by
  have B0 := (Below.refl w.heap.size w).alloc (Nat.le_refl _) (.cells #[.int .i64 s, .int .i64 t, .int .i64 f, .int .i64 l, .int .i64 p] 23)
  have bc := Blk.new w 23 #[.int .i64 s, .int .i64 t, .int .i64 f, .int .i64 l, .int .i64 p]
  have AW := hide (fun w2 (hB : Below w.heap.size w w2) => awake18 w2 (hT.below hB))
  have HT := hide hT
  clear hT
  have hwr : wrg s t f l p < 0 := by have := wrg_ok (s := s) (t := t) (f := f) (l := l) (p := p); rw [hc] at this; simpa using this.symm
  have WR := hide (fun w2 => wrong_any s t f l p w2)
  have RS := hide (fun w2 => rsize_any s t f l p w2)
  rw [show rSize s t f l p = laySize s t f by unfold rSize; rw [if_pos hc]] at RS
  clear hc
  generalize wrg s t f l p = wr0 at *
  generalize laySize s t f = N at *
  have d0 : decide ((100 : Int) < (n : Int)) = false := (by rw [decide_eq_false_iff_not]; omega)
  have d1 : decide ((0 : Int) ≤ wr0) = false := (by rw [decide_eq_false_iff_not]; omega)
  have d2 : decide ((5000 : Int) < N) = false := (by rw [decide_eq_false_iff_not]; omega)
  have d3 : decide (own < 0) = true := (by rw [decide_eq_true_iff]; omega)
  clear hwr h1 h2 h3 
  have mc := fun i => bc.cell i
  go_enter Tryd.func3, Tryd.ntmps3
  go_wp2_with fail
  refine (WR.out _).mono ?_
  rintro e w1 ⟨rfl, hb1⟩
  clear mc
  replace bc := bc.below hb1 bc.lt
  replace B0 := B0.trans (hb1.mono B0.size)
  clear hb1
  have mc := fun i => bc.cell i
  go_wp2_with fail
  refine (RS.out _).mono ?_
  rintro e w2 ⟨rfl, hb1⟩
  clear mc
  replace bc := bc.below hb1 bc.lt
  replace B0 := B0.trans (hb1.mono B0.size)
  clear hb1
  have mc := fun i => bc.cell i
  go_wp2_with fail
  refine (AW.out _ B0).mono ?_
  rintro e wz ⟨rfl, hb1⟩
  go_wp2_with fail
  go_ret
  exact ⟨rfl, B0.trans (hb1.mono B0.size)⟩
set_option maxRecDepth 100000 in
set_option maxHeartbeats 2000000 in
theorem kept_far (s t f l p own : Int) (A : Option Addr) (n c : Nat) (w : World) (hT : Tab w) (hc : cfgOk s t f l p = true) (h1 : ¬ (100 : Int) < n) (h2 : ¬ (5000 : Int) < laySize s t f) (h3 : ¬ own < 0) (h4 : t ≤ own) :
    Calls Tryd.prog 3 #[.agg #[.int .i64 s, .int .i64 t, .int .i64 f, .int .i64 l, .int .i64 p], .int .i64 own, .slice A n c] w fun e w' => e = .returned (.bool true) ∧ Below w.heap.size w w' := by
  have B0 := (Below.refl w.heap.size w).alloc (Nat.le_refl _) (.cells #[.int .i64 s, .int .i64 t, .int .i64 f, .int .i64 l, .int .i64 p] 23)
  have bc := Blk.new w 23 #[.int .i64 s, .int .i64 t, .int .i64 f, .int .i64 l, .int .i64 p]
  have AW := hide (fun w2 (hB : Below w.heap.size w w2) => awake18 w2 (hT.below hB))
  have HT := hide hT
  clear hT
  have hwr : wrg s t f l p < 0 := by have := wrg_ok (s := s) (t := t) (f := f) (l := l) (p := p); rw [hc] at this; simpa using this.symm
  have WR := hide (fun w2 => wrong_any s t f l p w2)
  have RS := hide (fun w2 => rsize_any s t f l p w2)
  rw [show rSize s t f l p = laySize s t f by unfold rSize; rw [if_pos hc]] at RS
  clear hc
  generalize wrg s t f l p = wr0 at *
  generalize laySize s t f = N at *
  have d0 : decide ((100 : Int) < (n : Int)) = false := (by rw [decide_eq_false_iff_not]; omega)
  have d1 : decide ((0 : Int) ≤ wr0) = false := (by rw [decide_eq_false_iff_not]; omega)
  have d2 : decide ((5000 : Int) < N) = false := (by rw [decide_eq_false_iff_not]; omega)
  have d3 : decide (own < 0) = false := (by rw [decide_eq_false_iff_not]; omega)
  have d4 : decide (t ≤ own) = true := (by rw [decide_eq_true_iff]; omega)
  clear hwr h1 h2 h3 h4
  have mc := fun i => bc.cell i
  go_enter Tryd.func3, Tryd.ntmps3
  go_wp2_with fail
  refine (WR.out _).mono ?_
  rintro e w1 ⟨rfl, hb1⟩
  clear mc
  replace bc := bc.below hb1 bc.lt
  replace B0 := B0.trans (hb1.mono B0.size)
  clear hb1
  have mc := fun i => bc.cell i
  go_wp2_with fail
  refine (RS.out _).mono ?_
  rintro e w2 ⟨rfl, hb1⟩
  clear mc
  replace bc := bc.below hb1 bc.lt
  replace B0 := B0.trans (hb1.mono B0.size)
  clear hb1
  have mc := fun i => bc.cell i
  go_wp2_with fail
  refine (AW.out _ B0).mono ?_
  rintro e wz ⟨rfl, hb1⟩
  go_wp2_with fail
  go_ret
  exact ⟨rfl, B0.trans (hb1.mono B0.size)⟩
theorem AdvanceKept_calls (s t f l p own : Int) (A : Option Addr) (n c : Nat) (l0 : List (Int × Int)) (w : World) (hT : Tab w) (hr : Reads w w.heap.size 2 A n (recW l0)) (hw : ∀ r ∈ l0, W64 r.2) :
    Calls Tryd.prog 3 #[.agg #[.int .i64 s, .int .i64 t, .int .i64 f, .int .i64 l, .int .i64 p], .int .i64 own, .slice A n c] w fun e w' => e = .returned (.bool true) ∧ Below w.heap.size w w' := by
  by_cases h1 : (100 : Int) < n
  · exact kept_big s t f l p own A n c w hT h1
  cases hc : cfgOk s t f l p with
  | false =>
    exact kept_wrong s t f l p own A n c w hT h1 (by have := wrg_ok (s := s) (t := t) (f := f) (l := l) (p := p); rw [hc] at this; simpa using this.symm)
  | true =>
    by_cases h2 : (5000 : Int) < laySize s t f
    · exact kept_size s t f l p own A n c w hT hc h1 h2
    by_cases h3 : own < 0
    · exact kept_neg s t f l p own A n c w hT hc h1 h2 h3
    by_cases h4 : t ≤ own
    · exact kept_far s t f l p own A n c w hT hc h1 h2 h3 h4
    exact kept_yes s t f l p own A n c l0 w hT hc (by omega) (by omega) (by omega) hr hw
set_option maxRecDepth 100000 in
theorem advanceKept_lifted (os : Os) (started : os.Started) (H : Type) (enc : TypeId × Value → H) :
    ReturnsInHanded {} Tryd.checked os 3 .any (fun w args => (Rows.advanceKeptSpec.pre enc Tryd.prog Tryd.f3 [] false w args ∧ laidMetH Tryd.prog laid2 w) ∧ sizedMet enc Tryd.prog Tryd.f3 (OpenSpec.ofChange Rows.advanceKeptSpec) false w args) (Rows.advanceKeptSpec.post enc Tryd.prog Tryd.f3 false true false false) := by
  refine lift started 3 (by kernel_rfl) Tryd.func3 rfl rfl (fun ds hl => ?_) (by kernel_rfl) rfl #[.agg #[.int .i64 0, .int .i64 0, .int .i64 0, .int .i64 0, .int .i64 0], .int .i64 0, .slice none 0 0] (by kernel_rfl) (by kernel_rfl) (by kernel_rfl) ?_
  · match ds, hl with
    | [_, _, _], _ => rfl
  intro W base args ds ps hT hval0 hA0 hlt
  have hval : ∀ (j : Nat) t v, Tryd.f3.params[j]? = some t → args[j]? = some v → Value.okWide Tryd.prog W .any base t v := hval0
  have hA : DataW.TrodAll enc Tryd.prog W 0 (fun _ => true) true Tryd.f3.params.toList args.toList ds ps := hA0
  rw [Tryd.params3] at hA hval
  clear hA0 hval0
  obtain ⟨v0, v1, v2, d0, d1, d2, p0, p1, p2, rfl, rfl, rfl, h0, h1, h2⟩ := trodAll_three hA
  obtain ⟨s, t, f, l, p, rfl, _⟩ := open_five Tryd.underlying23 (by kernel_rfl) (by kernel_rfl) Tryd.underlying3 Tryd.underlying3 Tryd.underlying3 Tryd.underlying3 Tryd.underlying3 (hval 0 _ _ rfl rfl) h0
  obtain ⟨a, rfl, rfl, rfl, w1⟩ := open_int Tryd.underlying3 (hval 1 _ _ rfl rfl) h1
  obtain ⟨A, n, c, l0, rfl, hnc, hcm, hl, hr, hw⟩ := open_wris64 (B := W.heap.size) (hval 2 _ _ rfl rfl) h2 (fun p hp => hlt p (by simp [hp])) (fun _ => rfl)
  exact AdvanceKept_calls s t f l p a A n c l0 W hT hr hw
theorem advanceKept_row : Rows.AdvanceKeptSaid :=
  OpenClaim.holds_of_wide 3 Tryd.f3 rfl rfl rfl rfl rfl rfl rfl ⟨rfl, rfl, rfl, rfl, rfl⟩ rfl rfl rfl rfl rfl (by kernel_rfl) Tryd.func3 (by kernel_rfl)
    (of_decide_eq_true (by kernel_rfl)) (by unfold Func.isWrapper; first | (rw [if_pos (by decide +kernel)]; kernel_rfl) | (rw [if_neg (by decide +kernel)]; exact ⟨rfl, rfl⟩))
    (fun os started H enc _ => advanceKept_lifted os started H enc)
theorem advanceKept_holds : Rows.AdvanceKeptCardSaid :=
  Claim7.holds_tied_plain_at .later [] [.listed, .data] true Rows.advanceKeptCard.stood.harness false
    advanceKept_row (fun _ h => by cases h) (by kernel_rfl) (fun _ h => by cases h) advanceKept_row_tie rfl ⟨rfl, rfl⟩ (by kernel_rfl) rfl
    (fun f fn hf hfn => by
      obtain rfl : f = 3 := Option.some.inj ((show Tryd.prog.funcNamed "gleaning/gleaninglaw18.AdvanceKept" = some 3 by kernel_rfl).symm.trans hf) |>.symm
      obtain rfl : fn = Tryd.f3 := (Option.some.inj (Tryd.func3.symm.trans hfn)).symm
      exact ⟨by kernel_rfl, fun j t ht => by
        rw [Tryd.params3] at ht
        exact no_stand_in (by kernel_rfl) j t ht⟩)
    (by kernel_rfl)
#print axioms advanceKept_holds
end Go.Proofs.YtgcdmgpcfdfomaaDoor
