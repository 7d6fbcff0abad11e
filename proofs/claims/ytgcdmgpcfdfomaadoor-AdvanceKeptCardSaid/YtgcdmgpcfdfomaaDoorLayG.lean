/-
  The Go functions LayoutTells, LayoutAsks, LayoutNames; the example.
-/
import Derived.Test.YtgcdmgpcfdfomaaDoorLayC
import Derived.Test.YtgcdmgpcfdfomaaDoorLayE
import Derived.Test.YtgcdmgpcfdfomaaDoorLayF
namespace Go.Proofs.YtgcdmgpcfdfomaaDoor
open Go.RowKit
attribute [local go_sem] past_cell past_cell_add

set_option maxHeartbeats 400000 in
theorem lann_any (s t f l p o  : Int) (w : World) (hs : 1 ≤ s ∧ s ≤ 1000) (ht : 1 ≤ t ∧ t ≤ 64) (hf : 4 ≤ f ∧ f ≤ 64) :
    Calls Tryd.prog 28 #[.agg #[.int .i64 s, .int .i64 t, .int .i64 f, .int .i64 l, .int .i64 p], .int .i64 o] w fun e w' => e = .returned (.int .i64 (atp s t f 4 o 0)) ∧ Below w.heap.size w w' := by
  have A := hide (fun w => at_any s t f l p 4 o 0 w hs ht hf)
  generalize atp s t f 4 o 0 = R at *
  go_enter Tryd.func28, Tryd.ntmps28
  go_wp2_with fail
  have B0 := (Below.refl w.heap.size w).alloc (Nat.le_refl _) (.cells #[.int .i64 s, .int .i64 t, .int .i64 f, .int .i64 l, .int .i64 p] 37)
  refine (A.out _).mono ?_
  rintro e w1 ⟨rfl, hb1⟩
  go_wp2_with fail
  go_ret
  exact ⟨rfl, B0.trans (hb1.mono B0.size)⟩
set_option maxHeartbeats 400000 in
theorem lann_zero (o  : Int) (w : World) :
    Calls Tryd.prog 28 #[.agg #[.int .i64 0, .int .i64 0, .int .i64 0, .int .i64 0, .int .i64 0], .int .i64 o] w fun e w' => e = .returned (.int .i64 (-1)) ∧ Below w.heap.size w w' := by
  have A := hide (fun w => at_zero 4 o 0 w)
  go_enter Tryd.func28, Tryd.ntmps28
  go_wp2_with fail
  have B0 := (Below.refl w.heap.size w).alloc (Nat.le_refl _) (.cells #[.int .i64 0, .int .i64 0, .int .i64 0, .int .i64 0, .int .i64 0] 37)
  refine (A.out _).mono ?_
  rintro e w1 ⟨rfl, hb1⟩
  go_wp2_with fail
  go_ret
  exact ⟨rfl, B0.trans (hb1.mono B0.size)⟩
theorem plc_zero {s t f a : Int} (hf : 4 ≤ f) : (plc s t f a).1 = 0 ↔ (a < 0 ∨ laySize s t f ≤ a) := by
  unfold plc
  by_cases c0 : a < 0 ∨ laySize s t f ≤ a
  · rw [if_pos c0]
    simp [c0]
  rw [if_neg c0]
  by_cases c1 : a < 3
  · rw [if_pos c1]
    simp only [c0, iff_false]
    omega
  rw [if_neg c1]
  by_cases c2 : a < 3 + t
  · rw [if_pos c2]
    simp [c0]
  rw [if_neg c2]
  by_cases c3 : a < 3 + 3 * t
  · rw [if_pos c3]
    simp [c0]
  rw [if_neg c3]
  have := Int.emod_nonneg (a - (3 + 3 * t)) (show 3 + 2 * f ≠ 0 by omega)
  split
  · simp only [c0, iff_false]
    omega
  · split <;> simp [c0]

end Go.Proofs.YtgcdmgpcfdfomaaDoor
