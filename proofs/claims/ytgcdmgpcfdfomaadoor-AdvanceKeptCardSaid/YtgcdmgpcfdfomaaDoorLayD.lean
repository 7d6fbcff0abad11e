/-
  gleaningref07.Numbers, Wrong; gleaningref08.Size, Place.
-/
import Derived.Test.YtgcdmgpcfdfomaaDoorLay
namespace Go.Proofs.YtgcdmgpcfdfomaaDoor
open Go.RowKit
attribute [local go_sem] past_cell past_cell_add

/-- The place of the first number that is out of its bounds; -1: there is none. -/
def wrg (s t f l p : Int) : Int := if ¬ (1 ≤ s ∧ s ≤ 1000) then 0 else if ¬ (1 ≤ t ∧ t ≤ 64) then 1 else if ¬ (4 ≤ f ∧ f ≤ 64) then 2 else if ¬ (1 ≤ l ∧ l ≤ 64) then 3 else if ¬ (1 ≤ p ∧ p ≤ 1048576) then 4 else -1
theorem wrg_ok {s t f l p : Int} : cfgOk s t f l p = decide (wrg s t f l p < 0) := by
  rw [Bool.eq_iff_iff, cfgOk_iff, decide_eq_true_eq]
  unfold wrg
  repeat' split
  all_goals omega
theorem wrg_none {s t f l p : Int} (h : ∀ k, k < 5 → cIn s t f l p k) : wrg s t f l p = -1 := by
  have h0 : 1 ≤ s ∧ s ≤ 1000 := h 0 (by omega)
  have h1 : 1 ≤ t ∧ t ≤ 64 := h 1 (by omega)
  have h2 : 4 ≤ f ∧ f ≤ 64 := h 2 (by omega)
  have h3 : 1 ≤ l ∧ l ≤ 64 := h 3 (by omega)
  have h4 : 1 ≤ p ∧ p ≤ 1048576 := h 4 (by omega)
  unfold wrg
  rw [if_neg (by omega), if_neg (by omega), if_neg (by omega), if_neg (by omega), if_neg (by omega)]
theorem wrg_at {s t f l p : Int} {k : Nat} (hk : k < 5) (h : ∀ j, j < k → cIn s t f l p j) (hn : ¬ cIn s t f l p k) : wrg s t f l p = k := by
  unfold wrg
  rcases five hk with rfl | rfl | rfl | rfl | rfl
  · have h0 : ¬ (1 ≤ s ∧ s ≤ 1000) := hn
    rw [if_pos h0]
    rfl
  · have h0 : 1 ≤ s ∧ s ≤ 1000 := h 0 (by omega)
    have h1 : ¬ (1 ≤ t ∧ t ≤ 64) := hn
    rw [if_neg (by omega), if_pos h1]
    rfl
  · have h0 : 1 ≤ s ∧ s ≤ 1000 := h 0 (by omega)
    have h1 : 1 ≤ t ∧ t ≤ 64 := h 1 (by omega)
    have h2 : ¬ (4 ≤ f ∧ f ≤ 64) := hn
    rw [if_neg (by omega), if_neg (by omega), if_pos h2]
    rfl
  · have h0 : 1 ≤ s ∧ s ≤ 1000 := h 0 (by omega)
    have h1 : 1 ≤ t ∧ t ≤ 64 := h 1 (by omega)
    have h2 : 4 ≤ f ∧ f ≤ 64 := h 2 (by omega)
    have h3 : ¬ (1 ≤ l ∧ l ≤ 64) := hn
    rw [if_neg (by omega), if_neg (by omega), if_neg (by omega), if_pos h3]
    rfl
  · have h0 : 1 ≤ s ∧ s ≤ 1000 := h 0 (by omega)
    have h1 : 1 ≤ t ∧ t ≤ 64 := h 1 (by omega)
    have h2 : 4 ≤ f ∧ f ≤ 64 := h 2 (by omega)
    have h3 : 1 ≤ l ∧ l ≤ 64 := h 3 (by omega)
    have h4 : ¬ (1 ≤ p ∧ p ≤ 1048576) := hn
    rw [if_neg (by omega), if_neg (by omega), if_neg (by omega), if_neg (by omega), if_pos h4]
    rfl

set_option maxHeartbeats 400000 in
theorem numbers_any (s t f l p : Int) (w : World) :
    Calls Tryd.prog 19 #[.agg #[.int .i64 s, .int .i64 t, .int .i64 f, .int .i64 l, .int .i64 p]] w fun e w' => (∃ g, e = .returned (.slice (some ⟨g, 0, none⟩) 5 5) ∧ Blk w' g 3 (numA s t f l p)) ∧ Below w.heap.size w w' := by
  go_enter Tryd.func19, Tryd.ntmps19
  go_wp2_with fail
  go_ret
  have h := fun o => Blk.new (w.alloc o) 3 (numA s t f l p)
  simp only [World.size_alloc] at h
  exact ⟨⟨_, rfl, h _⟩, ((Below.refl _ _).alloc (Nat.le_refl _) _).alloc (by simp only [World.size_alloc]; omega) _⟩

set_option maxHeartbeats 1000000 in
theorem wrong_any (s t f l p : Int) (w : World) :
    Calls Tryd.prog 4 #[.agg #[.int .i64 s, .int .i64 t, .int .i64 f, .int .i64 l, .int .i64 p]] w fun e w' => e = .returned (.int .i64 (wrg s t f l p)) ∧ Below w.heap.size w w' := by
  have C := hide (fun w2 => numbers_any s t f l p w2)
  have WN := hide (fun h => wrg_none (s := s) (t := t) (f := f) (l := l) (p := p) h)
  have WA := hide (fun k hk h hn => wrg_at (s := s) (t := t) (f := f) (l := l) (p := p) (k := k) hk h hn)
  generalize wrg s t f l p = R at *
  go_enter Tryd.func4, Tryd.ntmps4
  go_wp2_with fail
  have B0 := (Below.refl w.heap.size w).alloc (Nat.le_refl _) (.cells #[.int .i64 s, .int .i64 t, .int .i64 f, .int .i64 l, .int .i64 p] 23)
  refine (C.out _).mono ?_
  rintro e w1 ⟨⟨g1, rfl, b1⟩, hb1⟩
  replace B0 := B0.trans (hb1.mono B0.size)
  have H1 := hide b1
  have HB := hide B0
  clear b1 hb1 B0
  go_wp2_with fail
  have b1 := (H1.out.alloc (.cells #[.int .i64 1, .int .i64 1, .int .i64 4, .int .i64 1, .int .i64 1] 3)).alloc (.cells #[.int .i64 1000, .int .i64 64, .int .i64 64, .int .i64 64, .int .i64 1048576] 3)
  have b2 := (Blk.new w1 3 #[.int .i64 1, .int .i64 1, .int .i64 4, .int .i64 1, .int .i64 1]).alloc (.cells #[.int .i64 1000, .int .i64 64, .int .i64 64, .int .i64 64, .int .i64 1048576] 3)
  have b3 := Blk.new (w1.alloc (.cells #[.int .i64 1, .int .i64 1, .int .i64 4, .int .i64 1, .int .i64 1] 3)) 3 #[.int .i64 1000, .int .i64 64, .int .i64 64, .int .i64 64, .int .i64 1048576]
  have B0 := (HB.out.alloc HB.out.size (.cells #[.int .i64 1, .int .i64 1, .int .i64 4, .int .i64 1, .int .i64 1] 3)).alloc (by have := HB.out.size; simp only [World.size_alloc]; omega) (.cells #[.int .i64 1000, .int .i64 64, .int .i64 64, .int .i64 64, .int .i64 1048576] 3)
  rw [World.size_alloc] at b3
  generalize (w1.alloc (.cells #[.int .i64 1, .int .i64 1, .int .i64 4, .int .i64 1, .int .i64 1] 3)).alloc (.cells #[.int .i64 1000, .int .i64 64, .int .i64 64, .int .i64 64, .int .i64 1048576] 3) = w2 at *
  have b2 : Blk w2 w1.heap.size 3 (numA 1 1 4 1 1) := b2
  have b3 : Blk w2 (w1.heap.size + 1) 3 (numA 1000 64 64 64 1048576) := b3
  have H1 := hide b1
  have H2 := hide b2
  have H3 := hide b3
  have HB := hide B0
  clear b1 b2 b3 B0
  go_loopw [6] (ChkIn w2 (cIn s t f l p)) (fun i _ => 5 - (intOf i).toNat)
  case atStart => exact ⟨0, rfl, by omega, fun j h => absurd h (by omega), Below.refl _ _⟩
  case round =>
    obtain ⟨k, rfl, hk, hok, hb⟩ := hrel
    have HOK := hide hok
    clear hok
    by_cases hlt : k < 5
    · have z0 := ((H1.out.below hb H1.out.lt).cell k).trans (numA_at s t f l p hlt)
      have z1 := ((H2.out.below hb H2.out.lt).cell k).trans (lo_at hlt)
      have z2 := ((H3.out.below hb H3.out.lt).cell k).trans (hi_at hlt)
      have HI := hide (show cIn s t f l p k ↔ (cLo k ≤ cN s t f l p k ∧ cN s t f l p k ≤ cHi k) from Iff.rfl)
      have hkz : (0 : Int) ≤ (k : Int) := by omega
      have hkz5 : (k : Int) < 5 := by omega
      generalize cN s t f l p k = n at *
      generalize cLo k = lo at *
      generalize cHi k = hi at *
      by_cases c1 : n < lo
      · have E := hide (WA.out k hlt HOK.out (fun h => by have := HI.out.1 h; omega))
        have d1 : decide (n < lo) = true := by simpa using c1
        go_wp2_with fail
        go_quiet (fail)
        go_wp2_with fail
        go_ret
        exact ⟨by rw [E.out]; rfl, HB.out.trans ((below_drewN hb _).mono HB.out.size)⟩
      have d1 : decide (n < lo) = false := by simpa using c1
      by_cases c2 : hi < n
      · have E := hide (WA.out k hlt HOK.out (fun h => by have := HI.out.1 h; omega))
        have d2 : decide (hi < n) = true := by simpa using c2
        go_wp2_with fail
        go_quiet (fail)
        go_wp2_with fail
        go_ret
        exact ⟨by rw [E.out]; rfl, HB.out.trans ((below_drewN hb _).mono HB.out.size)⟩
      · have E := hide (HI.out.2 ⟨by omega, by omega⟩)
        have d2 : decide (hi < n) = false := by simpa using c2
        go_wp2_with fail
        go_quiet (fail)
        go_wp2_with fail
        go_roundw
        case rel => exact ⟨k + 1, by go_num, by omega, fun j hj => by
          by_cases e : j = k
          · subst e
            exact E.out
          · exact HOK.out j (by omega), below_drewN hb _⟩
        case measure => simp [intOf]; omega
    · obtain rfl : k = 5 := by omega
      have E := hide (WN.out HOK.out)
      go_wp2_with fail
      go_ret
      exact ⟨by rw [E.out]; rfl, HB.out.trans (hb.mono HB.out.size)⟩

/-- How many words there are; none where the configuration may not be. -/
def rSize (s t f l p : Int) : Int := if cfgOk s t f l p = true then laySize s t f else 0
set_option maxHeartbeats 1000000 in
theorem rsize_any (s t f l p : Int) (w : World) :
    Calls Tryd.prog 5 #[.agg #[.int .i64 s, .int .i64 t, .int .i64 f, .int .i64 l, .int .i64 p]] w fun e w' => e = .returned (.int .i64 (rSize s t f l p)) ∧ Below w.heap.size w w' := by
  have C := hide (fun w2 => wrong_any s t f l p w2)
  have hok := wrg_ok (s := s) (t := t) (f := f) (l := l) (p := p)
  have bx := Blk.new w 23 #[.int .i64 s, .int .i64 t, .int .i64 f, .int .i64 l, .int .i64 p]
  have B0 := (Below.refl w.heap.size w).alloc (Nat.le_refl _) (.cells #[.int .i64 s, .int .i64 t, .int .i64 f, .int .i64 l, .int .i64 p] 23)
  cases hc : cfgOk s t f l p with
  | false =>
    have E := hide (show rSize s t f l p = 0 by unfold rSize; rw [hc]; rfl)
    rw [hc] at hok
    have hw : 0 ≤ wrg s t f l p := by
      have : ¬ wrg s t f l p < 0 := by simpa using hok.symm
      omega
    clear hok hc
    generalize wrg s t f l p = r at *
    go_enter Tryd.func5, Tryd.ntmps5
    go_wp2_with fail
    refine (C.out _).mono ?_
    rintro e w1 ⟨rfl, hb1⟩
    go_wp2_with fail
    go_ret
    exact ⟨by rw [E.out]; rfl, B0.trans (hb1.mono B0.size)⟩
  | true =>
    have E := hide (show rSize s t f l p = laySize s t f by unfold rSize; rw [hc]; rfl)
    rw [hc] at hok
    have hw : wrg s t f l p < 0 := by simpa using hok.symm
    have hb := cfgOk_iff.1 hc
    have z := size_pos (s := s) (t := t) (f := f) (by omega) (by omega) (by omega)
    have h0 : IntKind.i64.wrap (3 * t) = 3 * t := IntWalk.i64_in _ (by omega)
    have h1 : IntKind.i64.wrap (3 + 3 * t) = 3 + 3 * t := IntWalk.i64_in _ (by omega)
    have h2 : IntKind.i64.wrap (2 * f) = 2 * f := IntWalk.i64_in _ (by omega)
    have h3 : IntKind.i64.wrap (s + 1) = s + 1 := IntWalk.i64_in _ (by omega)
    have h4 : IntKind.i64.wrap ((s + 1) * (3 + 2 * f)) = (s + 1) * (3 + 2 * f) := IntWalk.i64_in _ (by unfold laySize at z; omega)
    have h5 : IntKind.i64.wrap (3 + 3 * t + (s + 1) * (3 + 2 * f)) = laySize s t f := by unfold laySize at z ⊢; exact IntWalk.i64_in _ (by omega)
    have h6 : IntKind.i64.wrap (3 + 2 * f) = 3 + 2 * f := IntWalk.i64_in _ (by omega)
    clear hok hc z hb
    generalize laySize s t f = R at *
    generalize wrg s t f l p = r at *
    go_enter Tryd.func5, Tryd.ntmps5
    go_wp2_with fail
    refine (C.out _).mono ?_
    rintro e w1 ⟨rfl, hb1⟩
    replace bx := bx.below hb1 bx.lt
    replace B0 := B0.trans (hb1.mono B0.size)
    clear hb1
    have mx := fun i => bx.cell i
    go_wp2_with fail

    go_ret
    exact ⟨by rw [E.out]; rfl, B0⟩
end Go.Proofs.YtgcdmgpcfdfomaaDoor
