/-
  layout: Announce, Hazard, Link (for seats without chapter 8's statements); the document's own numbers of them.
-/
import Derived.Test.YtgcdmgpcfdfomaaDoorLayC
import Derived.Test.YtgcdmgpcfdfomaaDoorLayD
namespace Go.Proofs.YtgcdmgpcfdfomaaDoor
open Go.RowKit
attribute [local go_sem] past_cell past_cell_add

set_option maxHeartbeats 400000 in
theorem lann_any (s t f l p o  : Int) (w : World) (hs : 1 ≤ s ∧ s ≤ 1000) (ht : 1 ≤ t ∧ t ≤ 64) (hf : 4 ≤ f ∧ f ≤ 64) :
    Calls Tryd.prog 28 #[.agg #[.int .i64 s, .int .i64 t, .int .i64 f, .int .i64 l, .int .i64 p], .int .i64 o] w fun e w' => e = .returned (.int .i64 (atp s t f 4 o 0)) ∧ Below w.heap.size w w' := by
  have A := hide (fun w => at_any s t f l p 4 o 0 w hs ht hf)
  generalize atp s t f 4 o 0 = R at *
  go_enter Tryd.func28, Tryd.ntmps28
  go_wp2_with fail
  have B0 := (Below.refl w.heap.size w).alloc (Nat.le_refl _) (.cells #[.int .i64 s, .int .i64 t, .int .i64 f, .int .i64 l, .int .i64 p] 37)
  refine (A.out _).mono ?_
  rintro e w1 ⟨rfl, hb1⟩
  go_wp2_with fail
  go_ret
  exact ⟨rfl, B0.trans (hb1.mono B0.size)⟩
set_option maxHeartbeats 400000 in
theorem lann_zero (o  : Int) (w : World) :
    Calls Tryd.prog 28 #[.agg #[.int .i64 0, .int .i64 0, .int .i64 0, .int .i64 0, .int .i64 0], .int .i64 o] w fun e w' => e = .returned (.int .i64 (-1)) ∧ Below w.heap.size w w' := by
  have A := hide (fun w => at_zero 4 o 0 w)
  go_enter Tryd.func28, Tryd.ntmps28
  go_wp2_with fail
  have B0 := (Below.refl w.heap.size w).alloc (Nat.le_refl _) (.cells #[.int .i64 0, .int .i64 0, .int .i64 0, .int .i64 0, .int .i64 0] 37)
  refine (A.out _).mono ?_
  rintro e w1 ⟨rfl, hb1⟩
  go_wp2_with fail
  go_ret
  exact ⟨rfl, B0.trans (hb1.mono B0.size)⟩

theorem atp4 {s t f o : Int} (h : 0 ≤ o ∧ o < t) : atp s t f 4 o 0 = 3 + o := by
  unfold atp
  rw [if_neg (by omega), if_pos (by omega)]
theorem atp4_no {s t f o : Int} (h : o < 0 ∨ t ≤ o) : atp s t f 4 o 0 = -1 := by
  unfold atp
  rw [if_neg (by omega), if_neg (by omega), if_neg (by omega)]
  unfold nod
  rw [if_pos (by omega)]
theorem atp5 {s t f o i : Int} (h : 0 ≤ o ∧ o < t) (hi : 0 ≤ i ∧ i < 2) : atp s t f 5 o i = 3 + t + 2 * o + i := by
  unfold atp
  rw [if_neg (by omega), if_neg (by omega), if_pos (by omega)]
theorem atp8 {s t f o : Int} (h : 0 ≤ o ∧ o ≤ s) : atp s t f 8 o 0 = 3 + 3 * t + o * (3 + 2 * f) + 2 := by
  unfold atp
  rw [if_neg (by omega), if_neg (by omega), if_neg (by omega)]
  unfold nod
  rw [if_neg (by unfold nodMany; simp; omega)]
  simp [nodAt]
theorem atp_first {s t f k : Int} (h : 1 ≤ k ∧ k ≤ 3) : atp s t f k 0 0 = k - 1 := by
  unfold atp
  rw [if_pos (by omega)]
end Go.Proofs.YtgcdmgpcfdfomaaDoor
