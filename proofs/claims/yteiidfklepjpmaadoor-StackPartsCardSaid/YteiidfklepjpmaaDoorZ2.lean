/-
  Package layout: node, At.
-/
import Derived.Test.YteiidfklepjpmaaDoorZ1
import Derived.Deep.RegionHeld3
import Derived.RegionTactic
namespace Go.Proofs.YteiidfklepjpmaaDoor
open Go.RowKit
attribute [local go_sem] past_cell past_cell_add

set_option maxHeartbeats 1000000 in
theorem node_yes6 (s t f l p o i : Int) (w : World) (hs : 1 ≤ s ∧ s ≤ 1000) (ht : 1 ≤ t ∧ t ≤ 64) (hf : 4 ≤ f ∧ f ≤ 64) (ho : 0 ≤ o ∧ o < s + 1) (hi : 0 ≤ i ∧ i < 1) :
    Calls Tryd.prog 54 #[.agg #[.int .i64 s, .int .i64 t, .int .i64 f, .int .i64 l, .int .i64 p], .agg #[.int .i64 6, .int .i64 o, .int .i64 i]] w fun e w' => e = .returned (.int .i64 (3 + 3 * t + o * (3 + 2 * f) + i)) ∧ Below w.heap.size w w' := by
  have W1 := hide (fun w => within_t o (s + 1) w ho.1 ho.2)
  have W2 := hide (fun w => within_t i (1) w hi.1 hi.2)
  have H := hide (fun w => slots_any s t f l p w ht)
  have W := hide (fun w => width_any s t f l p w hf)
  have b1 : 0 ≤ o * (3 + 2 * f) := Int.mul_nonneg ho.1 (by omega)
  have b2 : o * (3 + 2 * f) ≤ 1000 * 131 := Int.mul_le_mul (by omega) (by omega) (by omega) (by omega)
  have h3 : IntKind.i64.wrap (o * (3 + 2 * f)) = o * (3 + 2 * f) := IntWalk.i64_in _ (by omega)
  have h4 : IntKind.i64.wrap (3 + 3 * t + o * (3 + 2 * f)) = 3 + 3 * t + o * (3 + 2 * f) := IntWalk.i64_in _ (by omega)
  have h5 : IntKind.i64.wrap (3 + 3 * t + o * (3 + 2 * f)) = 3 + 3 * t + o * (3 + 2 * f) := IntWalk.i64_in _ (by omega)
  have h6 : IntKind.i64.wrap (3 + 3 * t + o * (3 + 2 * f) + i) = 3 + 3 * t + o * (3 + 2 * f) + i := IntWalk.i64_in _ (by omega)
  have h7 : IntKind.i64.wrap (3 + f) = 3 + f := IntWalk.i64_in _ (by omega)
  obtain ⟨s1, s2⟩ := hs
  clear ho hi ht b1 b2
  go_enter Tryd.func54, Tryd.ntmps54
  go_wp2_with fail
  have bx := Blk.new w 28 #[.int .i64 s, .int .i64 t, .int .i64 f, .int .i64 l, .int .i64 p]
  have B0 := (Below.refl w.heap.size w).alloc (Nat.le_refl _) (.cells #[.int .i64 s, .int .i64 t, .int .i64 f, .int .i64 l, .int .i64 p] 28)
  have bo := Blk.new (w.alloc (.cells #[.int .i64 s, .int .i64 t, .int .i64 f, .int .i64 l, .int .i64 p] 28)) 82 #[.int .i64 6, .int .i64 o, .int .i64 i]
  replace bx := bx.alloc (.cells #[.int .i64 6, .int .i64 o, .int .i64 i] 82)
  replace B0 := B0.alloc B0.size (.cells #[.int .i64 6, .int .i64 o, .int .i64 i] 82)
  rw [World.size_alloc] at bo
  have lx := bx.lt
  have lo := bo.lt
  have mx := fun i => bx.cell i
  have mo := fun i => bo.cell i
  generalize (w.alloc (.cells #[.int .i64 s, .int .i64 t, .int .i64 f, .int .i64 l, .int .i64 p] 28)).alloc (.cells #[.int .i64 6, .int .i64 o, .int .i64 i] 82) = w1 at *
  refine (W1.out _).mono ?_
  rintro e w' ⟨rfl, rfl⟩
  go_wp2_with fail
  refine (W2.out _).mono ?_
  rintro e w' ⟨rfl, rfl⟩
  go_wp2_with fail
  refine wp_region_past (by kernel_rfl) (by kernel_rfl) ?_
  repeat (quiet_step ((first | ((first | (go_at_call 43; exact calls_past (H.out _)) | (go_at_call 44; exact calls_past (W.out _)))))))
  refine wpQuiet_nil ?_
  intro _ hw'
  obtain ⟨y, hw''⟩ := hw'
  subst hw''
  have hy := past_below w1 y
  go_wp2_with fail
  go_ret
  exact ⟨ret_int (by omega), B0.trans (hy.mono B0.size)⟩
set_option maxHeartbeats 1000000 in
theorem node_yes7 (s t f l p o i : Int) (w : World) (hs : 1 ≤ s ∧ s ≤ 1000) (ht : 1 ≤ t ∧ t ≤ 64) (hf : 4 ≤ f ∧ f ≤ 64) (ho : 0 ≤ o ∧ o < s + 1) (hi : 0 ≤ i ∧ i < 1) :
    Calls Tryd.prog 54 #[.agg #[.int .i64 s, .int .i64 t, .int .i64 f, .int .i64 l, .int .i64 p], .agg #[.int .i64 7, .int .i64 o, .int .i64 i]] w fun e w' => e = .returned (.int .i64 (3 + 3 * t + o * (3 + 2 * f)+ 1 + i)) ∧ Below w.heap.size w w' := by
  have W1 := hide (fun w => within_t o (s + 1) w ho.1 ho.2)
  have W2 := hide (fun w => within_t i (1) w hi.1 hi.2)
  have H := hide (fun w => slots_any s t f l p w ht)
  have W := hide (fun w => width_any s t f l p w hf)
  have b1 : 0 ≤ o * (3 + 2 * f) := Int.mul_nonneg ho.1 (by omega)
  have b2 : o * (3 + 2 * f) ≤ 1000 * 131 := Int.mul_le_mul (by omega) (by omega) (by omega) (by omega)
  have h3 : IntKind.i64.wrap (o * (3 + 2 * f)) = o * (3 + 2 * f) := IntWalk.i64_in _ (by omega)
  have h4 : IntKind.i64.wrap (3 + 3 * t + o * (3 + 2 * f)) = 3 + 3 * t + o * (3 + 2 * f) := IntWalk.i64_in _ (by omega)
  have h5 : IntKind.i64.wrap (3 + 3 * t + o * (3 + 2 * f)+ 1) = 3 + 3 * t + o * (3 + 2 * f)+ 1 := IntWalk.i64_in _ (by omega)
  have h6 : IntKind.i64.wrap (3 + 3 * t + o * (3 + 2 * f)+ 1 + i) = 3 + 3 * t + o * (3 + 2 * f)+ 1 + i := IntWalk.i64_in _ (by omega)
  have h7 : IntKind.i64.wrap (3 + f) = 3 + f := IntWalk.i64_in _ (by omega)
  obtain ⟨s1, s2⟩ := hs
  clear ho hi ht b1 b2
  go_enter Tryd.func54, Tryd.ntmps54
  go_wp2_with fail
  have bx := Blk.new w 28 #[.int .i64 s, .int .i64 t, .int .i64 f, .int .i64 l, .int .i64 p]
  have B0 := (Below.refl w.heap.size w).alloc (Nat.le_refl _) (.cells #[.int .i64 s, .int .i64 t, .int .i64 f, .int .i64 l, .int .i64 p] 28)
  have bo := Blk.new (w.alloc (.cells #[.int .i64 s, .int .i64 t, .int .i64 f, .int .i64 l, .int .i64 p] 28)) 82 #[.int .i64 7, .int .i64 o, .int .i64 i]
  replace bx := bx.alloc (.cells #[.int .i64 7, .int .i64 o, .int .i64 i] 82)
  replace B0 := B0.alloc B0.size (.cells #[.int .i64 7, .int .i64 o, .int .i64 i] 82)
  rw [World.size_alloc] at bo
  have lx := bx.lt
  have lo := bo.lt
  have mx := fun i => bx.cell i
  have mo := fun i => bo.cell i
  generalize (w.alloc (.cells #[.int .i64 s, .int .i64 t, .int .i64 f, .int .i64 l, .int .i64 p] 28)).alloc (.cells #[.int .i64 7, .int .i64 o, .int .i64 i] 82) = w1 at *
  refine (W1.out _).mono ?_
  rintro e w' ⟨rfl, rfl⟩
  go_wp2_with fail
  refine (W2.out _).mono ?_
  rintro e w' ⟨rfl, rfl⟩
  go_wp2_with fail
  refine wp_region_past (by kernel_rfl) (by kernel_rfl) ?_
  repeat (quiet_step ((first | ((first | (go_at_call 43; exact calls_past (H.out _)) | (go_at_call 44; exact calls_past (W.out _)))))))
  refine wpQuiet_nil ?_
  intro _ hw'
  obtain ⟨y, hw''⟩ := hw'
  subst hw''
  have hy := past_below w1 y
  go_wp2_with fail
  go_ret
  exact ⟨ret_int (by omega), B0.trans (hy.mono B0.size)⟩
set_option maxHeartbeats 1000000 in
theorem node_yes8 (s t f l p o i : Int) (w : World) (hs : 1 ≤ s ∧ s ≤ 1000) (ht : 1 ≤ t ∧ t ≤ 64) (hf : 4 ≤ f ∧ f ≤ 64) (ho : 0 ≤ o ∧ o < s + 1) (hi : 0 ≤ i ∧ i < 1) :
    Calls Tryd.prog 54 #[.agg #[.int .i64 s, .int .i64 t, .int .i64 f, .int .i64 l, .int .i64 p], .agg #[.int .i64 8, .int .i64 o, .int .i64 i]] w fun e w' => e = .returned (.int .i64 (3 + 3 * t + o * (3 + 2 * f)+ 2 + i)) ∧ Below w.heap.size w w' := by
  have W1 := hide (fun w => within_t o (s + 1) w ho.1 ho.2)
  have W2 := hide (fun w => within_t i (1) w hi.1 hi.2)
  have H := hide (fun w => slots_any s t f l p w ht)
  have W := hide (fun w => width_any s t f l p w hf)
  have b1 : 0 ≤ o * (3 + 2 * f) := Int.mul_nonneg ho.1 (by omega)
  have b2 : o * (3 + 2 * f) ≤ 1000 * 131 := Int.mul_le_mul (by omega) (by omega) (by omega) (by omega)
  have h3 : IntKind.i64.wrap (o * (3 + 2 * f)) = o * (3 + 2 * f) := IntWalk.i64_in _ (by omega)
  have h4 : IntKind.i64.wrap (3 + 3 * t + o * (3 + 2 * f)) = 3 + 3 * t + o * (3 + 2 * f) := IntWalk.i64_in _ (by omega)
  have h5 : IntKind.i64.wrap (3 + 3 * t + o * (3 + 2 * f)+ 2) = 3 + 3 * t + o * (3 + 2 * f)+ 2 := IntWalk.i64_in _ (by omega)
  have h6 : IntKind.i64.wrap (3 + 3 * t + o * (3 + 2 * f)+ 2 + i) = 3 + 3 * t + o * (3 + 2 * f)+ 2 + i := IntWalk.i64_in _ (by omega)
  have h7 : IntKind.i64.wrap (3 + f) = 3 + f := IntWalk.i64_in _ (by omega)
  obtain ⟨s1, s2⟩ := hs
  clear ho hi ht b1 b2
  go_enter Tryd.func54, Tryd.ntmps54
  go_wp2_with fail
  have bx := Blk.new w 28 #[.int .i64 s, .int .i64 t, .int .i64 f, .int .i64 l, .int .i64 p]
  have B0 := (Below.refl w.heap.size w).alloc (Nat.le_refl _) (.cells #[.int .i64 s, .int .i64 t, .int .i64 f, .int .i64 l, .int .i64 p] 28)
  have bo := Blk.new (w.alloc (.cells #[.int .i64 s, .int .i64 t, .int .i64 f, .int .i64 l, .int .i64 p] 28)) 82 #[.int .i64 8, .int .i64 o, .int .i64 i]
  replace bx := bx.alloc (.cells #[.int .i64 8, .int .i64 o, .int .i64 i] 82)
  replace B0 := B0.alloc B0.size (.cells #[.int .i64 8, .int .i64 o, .int .i64 i] 82)
  rw [World.size_alloc] at bo
  have lx := bx.lt
  have lo := bo.lt
  have mx := fun i => bx.cell i
  have mo := fun i => bo.cell i
  generalize (w.alloc (.cells #[.int .i64 s, .int .i64 t, .int .i64 f, .int .i64 l, .int .i64 p] 28)).alloc (.cells #[.int .i64 8, .int .i64 o, .int .i64 i] 82) = w1 at *
  refine (W1.out _).mono ?_
  rintro e w' ⟨rfl, rfl⟩
  go_wp2_with fail
  refine (W2.out _).mono ?_
  rintro e w' ⟨rfl, rfl⟩
  go_wp2_with fail
  refine wp_region_past (by kernel_rfl) (by kernel_rfl) ?_
  repeat (quiet_step ((first | ((first | (go_at_call 43; exact calls_past (H.out _)) | (go_at_call 44; exact calls_past (W.out _)))))))
  refine wpQuiet_nil ?_
  intro _ hw'
  obtain ⟨y, hw''⟩ := hw'
  subst hw''
  have hy := past_below w1 y
  go_wp2_with fail
  go_ret
  exact ⟨ret_int (by omega), B0.trans (hy.mono B0.size)⟩
set_option maxHeartbeats 1000000 in
theorem node_yes9 (s t f l p o i : Int) (w : World) (hs : 1 ≤ s ∧ s ≤ 1000) (ht : 1 ≤ t ∧ t ≤ 64) (hf : 4 ≤ f ∧ f ≤ 64) (ho : 0 ≤ o ∧ o < s + 1) (hi : 0 ≤ i ∧ i < f) :
    Calls Tryd.prog 54 #[.agg #[.int .i64 s, .int .i64 t, .int .i64 f, .int .i64 l, .int .i64 p], .agg #[.int .i64 9, .int .i64 o, .int .i64 i]] w fun e w' => e = .returned (.int .i64 (3 + 3 * t + o * (3 + 2 * f)+ 3 + i)) ∧ Below w.heap.size w w' := by
  have W1 := hide (fun w => within_t o (s + 1) w ho.1 ho.2)
  have W2 := hide (fun w => within_t i (f) w hi.1 hi.2)
  have H := hide (fun w => slots_any s t f l p w ht)
  have W := hide (fun w => width_any s t f l p w hf)
  have b1 : 0 ≤ o * (3 + 2 * f) := Int.mul_nonneg ho.1 (by omega)
  have b2 : o * (3 + 2 * f) ≤ 1000 * 131 := Int.mul_le_mul (by omega) (by omega) (by omega) (by omega)
  have h3 : IntKind.i64.wrap (o * (3 + 2 * f)) = o * (3 + 2 * f) := IntWalk.i64_in _ (by omega)
  have h4 : IntKind.i64.wrap (3 + 3 * t + o * (3 + 2 * f)) = 3 + 3 * t + o * (3 + 2 * f) := IntWalk.i64_in _ (by omega)
  have h5 : IntKind.i64.wrap (3 + 3 * t + o * (3 + 2 * f)+ 3) = 3 + 3 * t + o * (3 + 2 * f)+ 3 := IntWalk.i64_in _ (by omega)
  have h6 : IntKind.i64.wrap (3 + 3 * t + o * (3 + 2 * f)+ 3 + i) = 3 + 3 * t + o * (3 + 2 * f)+ 3 + i := IntWalk.i64_in _ (by omega)
  have h7 : IntKind.i64.wrap (3 + f) = 3 + f := IntWalk.i64_in _ (by omega)
  obtain ⟨s1, s2⟩ := hs
  clear ho hi ht b1 b2
  go_enter Tryd.func54, Tryd.ntmps54
  go_wp2_with fail
  have bx := Blk.new w 28 #[.int .i64 s, .int .i64 t, .int .i64 f, .int .i64 l, .int .i64 p]
  have B0 := (Below.refl w.heap.size w).alloc (Nat.le_refl _) (.cells #[.int .i64 s, .int .i64 t, .int .i64 f, .int .i64 l, .int .i64 p] 28)
  have bo := Blk.new (w.alloc (.cells #[.int .i64 s, .int .i64 t, .int .i64 f, .int .i64 l, .int .i64 p] 28)) 82 #[.int .i64 9, .int .i64 o, .int .i64 i]
  replace bx := bx.alloc (.cells #[.int .i64 9, .int .i64 o, .int .i64 i] 82)
  replace B0 := B0.alloc B0.size (.cells #[.int .i64 9, .int .i64 o, .int .i64 i] 82)
  rw [World.size_alloc] at bo
  have lx := bx.lt
  have lo := bo.lt
  have mx := fun i => bx.cell i
  have mo := fun i => bo.cell i
  generalize (w.alloc (.cells #[.int .i64 s, .int .i64 t, .int .i64 f, .int .i64 l, .int .i64 p] 28)).alloc (.cells #[.int .i64 9, .int .i64 o, .int .i64 i] 82) = w1 at *
  refine wp_region_past (by kernel_rfl) (by kernel_rfl) ?_
  repeat (quiet_step ((first | fail)))
  refine wpQuiet_nil ?_
  intro _ hw'
  obtain ⟨y, hw''⟩ := hw'
  subst hw''
  have hy := past_below w1 y
  replace bx := bx.below hy bx.lt
  replace bo := bo.below hy bo.lt
  replace B0 := B0.trans (hy.mono B0.size)
  clear hy mx mo lx lo
  generalize past w1 y = w2 at *
  have lx := bx.lt
  have lo := bo.lt
  have mx := fun i => bx.cell i
  have mo := fun i => bo.cell i
  go_wp2_with fail
  refine (W1.out _).mono ?_
  rintro e w' ⟨rfl, rfl⟩
  go_wp2_with fail
  refine (W2.out _).mono ?_
  rintro e w' ⟨rfl, rfl⟩
  go_wp2_with fail
  refine wp_region_past (by kernel_rfl) (by kernel_rfl) ?_
  repeat (quiet_step ((first | ((first | (go_at_call 43; exact calls_past (H.out _)) | (go_at_call 44; exact calls_past (W.out _)))))))
  refine wpQuiet_nil ?_
  intro _ hw'
  obtain ⟨y, hw''⟩ := hw'
  subst hw''
  have hy := past_below w2 y
  go_wp2_with fail
  go_ret
  exact ⟨ret_int (by omega), B0.trans (hy.mono B0.size)⟩
set_option maxHeartbeats 1000000 in
theorem node_yes10 (s t f l p o i : Int) (w : World) (hs : 1 ≤ s ∧ s ≤ 1000) (ht : 1 ≤ t ∧ t ≤ 64) (hf : 4 ≤ f ∧ f ≤ 64) (ho : 0 ≤ o ∧ o < s + 1) (hi : 0 ≤ i ∧ i < f) :
    Calls Tryd.prog 54 #[.agg #[.int .i64 s, .int .i64 t, .int .i64 f, .int .i64 l, .int .i64 p], .agg #[.int .i64 10, .int .i64 o, .int .i64 i]] w fun e w' => e = .returned (.int .i64 (3 + 3 * t + o * (3 + 2 * f)+ (3 + f) + i)) ∧ Below w.heap.size w w' := by
  have W1 := hide (fun w => within_t o (s + 1) w ho.1 ho.2)
  have W2 := hide (fun w => within_t i (f) w hi.1 hi.2)
  have H := hide (fun w => slots_any s t f l p w ht)
  have W := hide (fun w => width_any s t f l p w hf)
  have b1 : 0 ≤ o * (3 + 2 * f) := Int.mul_nonneg ho.1 (by omega)
  have b2 : o * (3 + 2 * f) ≤ 1000 * 131 := Int.mul_le_mul (by omega) (by omega) (by omega) (by omega)
  have h3 : IntKind.i64.wrap (o * (3 + 2 * f)) = o * (3 + 2 * f) := IntWalk.i64_in _ (by omega)
  have h4 : IntKind.i64.wrap (3 + 3 * t + o * (3 + 2 * f)) = 3 + 3 * t + o * (3 + 2 * f) := IntWalk.i64_in _ (by omega)
  have h5 : IntKind.i64.wrap (3 + 3 * t + o * (3 + 2 * f)+ (3 + f)) = 3 + 3 * t + o * (3 + 2 * f)+ (3 + f) := IntWalk.i64_in _ (by omega)
  have h6 : IntKind.i64.wrap (3 + 3 * t + o * (3 + 2 * f)+ (3 + f) + i) = 3 + 3 * t + o * (3 + 2 * f)+ (3 + f) + i := IntWalk.i64_in _ (by omega)
  have h7 : IntKind.i64.wrap (3 + f) = 3 + f := IntWalk.i64_in _ (by omega)
  obtain ⟨s1, s2⟩ := hs
  clear ho hi ht b1 b2
  go_enter Tryd.func54, Tryd.ntmps54
  go_wp2_with fail
  have bx := Blk.new w 28 #[.int .i64 s, .int .i64 t, .int .i64 f, .int .i64 l, .int .i64 p]
  have B0 := (Below.refl w.heap.size w).alloc (Nat.le_refl _) (.cells #[.int .i64 s, .int .i64 t, .int .i64 f, .int .i64 l, .int .i64 p] 28)
  have bo := Blk.new (w.alloc (.cells #[.int .i64 s, .int .i64 t, .int .i64 f, .int .i64 l, .int .i64 p] 28)) 82 #[.int .i64 10, .int .i64 o, .int .i64 i]
  replace bx := bx.alloc (.cells #[.int .i64 10, .int .i64 o, .int .i64 i] 82)
  replace B0 := B0.alloc B0.size (.cells #[.int .i64 10, .int .i64 o, .int .i64 i] 82)
  rw [World.size_alloc] at bo
  have lx := bx.lt
  have lo := bo.lt
  have mx := fun i => bx.cell i
  have mo := fun i => bo.cell i
  generalize (w.alloc (.cells #[.int .i64 s, .int .i64 t, .int .i64 f, .int .i64 l, .int .i64 p] 28)).alloc (.cells #[.int .i64 10, .int .i64 o, .int .i64 i] 82) = w1 at *
  refine wp_region_past (by kernel_rfl) (by kernel_rfl) ?_
  repeat (quiet_step ((first | fail)))
  refine wpQuiet_nil ?_
  intro _ hw'
  obtain ⟨y, hw''⟩ := hw'
  subst hw''
  have hy := past_below w1 y
  replace bx := bx.below hy bx.lt
  replace bo := bo.below hy bo.lt
  replace B0 := B0.trans (hy.mono B0.size)
  clear hy mx mo lx lo
  generalize past w1 y = w2 at *
  have lx := bx.lt
  have lo := bo.lt
  have mx := fun i => bx.cell i
  have mo := fun i => bo.cell i
  go_wp2_with fail
  refine (W1.out _).mono ?_
  rintro e w' ⟨rfl, rfl⟩
  go_wp2_with fail
  refine (W2.out _).mono ?_
  rintro e w' ⟨rfl, rfl⟩
  go_wp2_with fail
  refine wp_region_past (by kernel_rfl) (by kernel_rfl) ?_
  repeat (quiet_step ((first | ((first | (go_at_call 43; exact calls_past (H.out _)) | (go_at_call 44; exact calls_past (W.out _)))))))
  refine wpQuiet_nil ?_
  intro _ hw'
  obtain ⟨y, hw''⟩ := hw'
  subst hw''
  have hy := past_below w2 y
  go_wp2_with fail
  go_ret
  exact ⟨ret_int (by omega), B0.trans (hy.mono B0.size)⟩

set_option maxHeartbeats 1000000 in
theorem node_no6 (s t f l p o i : Int) (w : World) (hs : 1 ≤ s ∧ s ≤ 1000) (hf : 4 ≤ f ∧ f ≤ 64) (h : o < 0 ∨ s + 1 ≤ o ∨ i < 0 ∨ 1 ≤ i) :
    Calls Tryd.prog 54 #[.agg #[.int .i64 s, .int .i64 t, .int .i64 f, .int .i64 l, .int .i64 p], .agg #[.int .i64 6, .int .i64 o, .int .i64 i]] w fun e w' => e = .returned (.int .i64 (-1)) ∧ Below w.heap.size w w' := by
  have h7 : IntKind.i64.wrap (3 + f) = 3 + f := IntWalk.i64_in _ (by omega)
  obtain ⟨s1, s2⟩ := hs
  by_cases c : o < 0 ∨ s + 1 ≤ o
  · have W1 := hide (fun w => within_f o (s + 1) w c)
    clear h c
    go_enter Tryd.func54, Tryd.ntmps54
    go_wp2_with fail
    have bx := Blk.new w 28 #[.int .i64 s, .int .i64 t, .int .i64 f, .int .i64 l, .int .i64 p]
    have B0 := (Below.refl w.heap.size w).alloc (Nat.le_refl _) (.cells #[.int .i64 s, .int .i64 t, .int .i64 f, .int .i64 l, .int .i64 p] 28)
    have bo := Blk.new (w.alloc (.cells #[.int .i64 s, .int .i64 t, .int .i64 f, .int .i64 l, .int .i64 p] 28)) 82 #[.int .i64 6, .int .i64 o, .int .i64 i]
    replace bx := bx.alloc (.cells #[.int .i64 6, .int .i64 o, .int .i64 i] 82)
    replace B0 := B0.alloc B0.size (.cells #[.int .i64 6, .int .i64 o, .int .i64 i] 82)
    rw [World.size_alloc] at bo
    have lx := bx.lt
    have lo := bo.lt
    have mx := fun i => bx.cell i
    have mo := fun i => bo.cell i
    generalize (w.alloc (.cells #[.int .i64 s, .int .i64 t, .int .i64 f, .int .i64 l, .int .i64 p] 28)).alloc (.cells #[.int .i64 6, .int .i64 o, .int .i64 i] 82) = w1 at *

    refine (W1.out _).mono ?_
    rintro e w' ⟨rfl, rfl⟩
    go_wp2_with fail
    go_ret
    exact ⟨rfl, B0⟩
  · have W1 := hide (fun w => within_t o (s + 1) w (by omega) (by omega))
    have W2 := hide (fun w => within_f i (1) w (by omega))
    clear h c
    go_enter Tryd.func54, Tryd.ntmps54
    go_wp2_with fail
    have bx := Blk.new w 28 #[.int .i64 s, .int .i64 t, .int .i64 f, .int .i64 l, .int .i64 p]
    have B0 := (Below.refl w.heap.size w).alloc (Nat.le_refl _) (.cells #[.int .i64 s, .int .i64 t, .int .i64 f, .int .i64 l, .int .i64 p] 28)
    have bo := Blk.new (w.alloc (.cells #[.int .i64 s, .int .i64 t, .int .i64 f, .int .i64 l, .int .i64 p] 28)) 82 #[.int .i64 6, .int .i64 o, .int .i64 i]
    replace bx := bx.alloc (.cells #[.int .i64 6, .int .i64 o, .int .i64 i] 82)
    replace B0 := B0.alloc B0.size (.cells #[.int .i64 6, .int .i64 o, .int .i64 i] 82)
    rw [World.size_alloc] at bo
    have lx := bx.lt
    have lo := bo.lt
    have mx := fun i => bx.cell i
    have mo := fun i => bo.cell i
    generalize (w.alloc (.cells #[.int .i64 s, .int .i64 t, .int .i64 f, .int .i64 l, .int .i64 p] 28)).alloc (.cells #[.int .i64 6, .int .i64 o, .int .i64 i] 82) = w1 at *

    refine (W1.out _).mono ?_
    rintro e w' ⟨rfl, rfl⟩
    go_wp2_with fail
    refine (W2.out _).mono ?_
    rintro e w' ⟨rfl, rfl⟩
    go_wp2_with fail
    go_ret
    exact ⟨rfl, B0⟩
set_option maxHeartbeats 1000000 in
theorem node_no7 (s t f l p o i : Int) (w : World) (hs : 1 ≤ s ∧ s ≤ 1000) (hf : 4 ≤ f ∧ f ≤ 64) (h : o < 0 ∨ s + 1 ≤ o ∨ i < 0 ∨ 1 ≤ i) :
    Calls Tryd.prog 54 #[.agg #[.int .i64 s, .int .i64 t, .int .i64 f, .int .i64 l, .int .i64 p], .agg #[.int .i64 7, .int .i64 o, .int .i64 i]] w fun e w' => e = .returned (.int .i64 (-1)) ∧ Below w.heap.size w w' := by
  have h7 : IntKind.i64.wrap (3 + f) = 3 + f := IntWalk.i64_in _ (by omega)
  obtain ⟨s1, s2⟩ := hs
  by_cases c : o < 0 ∨ s + 1 ≤ o
  · have W1 := hide (fun w => within_f o (s + 1) w c)
    clear h c
    go_enter Tryd.func54, Tryd.ntmps54
    go_wp2_with fail
    have bx := Blk.new w 28 #[.int .i64 s, .int .i64 t, .int .i64 f, .int .i64 l, .int .i64 p]
    have B0 := (Below.refl w.heap.size w).alloc (Nat.le_refl _) (.cells #[.int .i64 s, .int .i64 t, .int .i64 f, .int .i64 l, .int .i64 p] 28)
    have bo := Blk.new (w.alloc (.cells #[.int .i64 s, .int .i64 t, .int .i64 f, .int .i64 l, .int .i64 p] 28)) 82 #[.int .i64 7, .int .i64 o, .int .i64 i]
    replace bx := bx.alloc (.cells #[.int .i64 7, .int .i64 o, .int .i64 i] 82)
    replace B0 := B0.alloc B0.size (.cells #[.int .i64 7, .int .i64 o, .int .i64 i] 82)
    rw [World.size_alloc] at bo
    have lx := bx.lt
    have lo := bo.lt
    have mx := fun i => bx.cell i
    have mo := fun i => bo.cell i
    generalize (w.alloc (.cells #[.int .i64 s, .int .i64 t, .int .i64 f, .int .i64 l, .int .i64 p] 28)).alloc (.cells #[.int .i64 7, .int .i64 o, .int .i64 i] 82) = w1 at *

    refine (W1.out _).mono ?_
    rintro e w' ⟨rfl, rfl⟩
    go_wp2_with fail
    go_ret
    exact ⟨rfl, B0⟩
  · have W1 := hide (fun w => within_t o (s + 1) w (by omega) (by omega))
    have W2 := hide (fun w => within_f i (1) w (by omega))
    clear h c
    go_enter Tryd.func54, Tryd.ntmps54
    go_wp2_with fail
    have bx := Blk.new w 28 #[.int .i64 s, .int .i64 t, .int .i64 f, .int .i64 l, .int .i64 p]
    have B0 := (Below.refl w.heap.size w).alloc (Nat.le_refl _) (.cells #[.int .i64 s, .int .i64 t, .int .i64 f, .int .i64 l, .int .i64 p] 28)
    have bo := Blk.new (w.alloc (.cells #[.int .i64 s, .int .i64 t, .int .i64 f, .int .i64 l, .int .i64 p] 28)) 82 #[.int .i64 7, .int .i64 o, .int .i64 i]
    replace bx := bx.alloc (.cells #[.int .i64 7, .int .i64 o, .int .i64 i] 82)
    replace B0 := B0.alloc B0.size (.cells #[.int .i64 7, .int .i64 o, .int .i64 i] 82)
    rw [World.size_alloc] at bo
    have lx := bx.lt
    have lo := bo.lt
    have mx := fun i => bx.cell i
    have mo := fun i => bo.cell i
    generalize (w.alloc (.cells #[.int .i64 s, .int .i64 t, .int .i64 f, .int .i64 l, .int .i64 p] 28)).alloc (.cells #[.int .i64 7, .int .i64 o, .int .i64 i] 82) = w1 at *

    refine (W1.out _).mono ?_
    rintro e w' ⟨rfl, rfl⟩
    go_wp2_with fail
    refine (W2.out _).mono ?_
    rintro e w' ⟨rfl, rfl⟩
    go_wp2_with fail
    go_ret
    exact ⟨rfl, B0⟩
set_option maxHeartbeats 1000000 in
theorem node_no8 (s t f l p o i : Int) (w : World) (hs : 1 ≤ s ∧ s ≤ 1000) (hf : 4 ≤ f ∧ f ≤ 64) (h : o < 0 ∨ s + 1 ≤ o ∨ i < 0 ∨ 1 ≤ i) :
    Calls Tryd.prog 54 #[.agg #[.int .i64 s, .int .i64 t, .int .i64 f, .int .i64 l, .int .i64 p], .agg #[.int .i64 8, .int .i64 o, .int .i64 i]] w fun e w' => e = .returned (.int .i64 (-1)) ∧ Below w.heap.size w w' := by
  have h7 : IntKind.i64.wrap (3 + f) = 3 + f := IntWalk.i64_in _ (by omega)
  obtain ⟨s1, s2⟩ := hs
  by_cases c : o < 0 ∨ s + 1 ≤ o
  · have W1 := hide (fun w => within_f o (s + 1) w c)
    clear h c
    go_enter Tryd.func54, Tryd.ntmps54
    go_wp2_with fail
    have bx := Blk.new w 28 #[.int .i64 s, .int .i64 t, .int .i64 f, .int .i64 l, .int .i64 p]
    have B0 := (Below.refl w.heap.size w).alloc (Nat.le_refl _) (.cells #[.int .i64 s, .int .i64 t, .int .i64 f, .int .i64 l, .int .i64 p] 28)
    have bo := Blk.new (w.alloc (.cells #[.int .i64 s, .int .i64 t, .int .i64 f, .int .i64 l, .int .i64 p] 28)) 82 #[.int .i64 8, .int .i64 o, .int .i64 i]
    replace bx := bx.alloc (.cells #[.int .i64 8, .int .i64 o, .int .i64 i] 82)
    replace B0 := B0.alloc B0.size (.cells #[.int .i64 8, .int .i64 o, .int .i64 i] 82)
    rw [World.size_alloc] at bo
    have lx := bx.lt
    have lo := bo.lt
    have mx := fun i => bx.cell i
    have mo := fun i => bo.cell i
    generalize (w.alloc (.cells #[.int .i64 s, .int .i64 t, .int .i64 f, .int .i64 l, .int .i64 p] 28)).alloc (.cells #[.int .i64 8, .int .i64 o, .int .i64 i] 82) = w1 at *

    refine (W1.out _).mono ?_
    rintro e w' ⟨rfl, rfl⟩
    go_wp2_with fail
    go_ret
    exact ⟨rfl, B0⟩
  · have W1 := hide (fun w => within_t o (s + 1) w (by omega) (by omega))
    have W2 := hide (fun w => within_f i (1) w (by omega))
    clear h c
    go_enter Tryd.func54, Tryd.ntmps54
    go_wp2_with fail
    have bx := Blk.new w 28 #[.int .i64 s, .int .i64 t, .int .i64 f, .int .i64 l, .int .i64 p]
    have B0 := (Below.refl w.heap.size w).alloc (Nat.le_refl _) (.cells #[.int .i64 s, .int .i64 t, .int .i64 f, .int .i64 l, .int .i64 p] 28)
    have bo := Blk.new (w.alloc (.cells #[.int .i64 s, .int .i64 t, .int .i64 f, .int .i64 l, .int .i64 p] 28)) 82 #[.int .i64 8, .int .i64 o, .int .i64 i]
    replace bx := bx.alloc (.cells #[.int .i64 8, .int .i64 o, .int .i64 i] 82)
    replace B0 := B0.alloc B0.size (.cells #[.int .i64 8, .int .i64 o, .int .i64 i] 82)
    rw [World.size_alloc] at bo
    have lx := bx.lt
    have lo := bo.lt
    have mx := fun i => bx.cell i
    have mo := fun i => bo.cell i
    generalize (w.alloc (.cells #[.int .i64 s, .int .i64 t, .int .i64 f, .int .i64 l, .int .i64 p] 28)).alloc (.cells #[.int .i64 8, .int .i64 o, .int .i64 i] 82) = w1 at *

    refine (W1.out _).mono ?_
    rintro e w' ⟨rfl, rfl⟩
    go_wp2_with fail
    refine (W2.out _).mono ?_
    rintro e w' ⟨rfl, rfl⟩
    go_wp2_with fail
    go_ret
    exact ⟨rfl, B0⟩
set_option maxHeartbeats 1000000 in
theorem node_no9 (s t f l p o i : Int) (w : World) (hs : 1 ≤ s ∧ s ≤ 1000) (hf : 4 ≤ f ∧ f ≤ 64) (h : o < 0 ∨ s + 1 ≤ o ∨ i < 0 ∨ f ≤ i) :
    Calls Tryd.prog 54 #[.agg #[.int .i64 s, .int .i64 t, .int .i64 f, .int .i64 l, .int .i64 p], .agg #[.int .i64 9, .int .i64 o, .int .i64 i]] w fun e w' => e = .returned (.int .i64 (-1)) ∧ Below w.heap.size w w' := by
  have h7 : IntKind.i64.wrap (3 + f) = 3 + f := IntWalk.i64_in _ (by omega)
  obtain ⟨s1, s2⟩ := hs
  by_cases c : o < 0 ∨ s + 1 ≤ o
  · have W1 := hide (fun w => within_f o (s + 1) w c)
    clear h c
    go_enter Tryd.func54, Tryd.ntmps54
    go_wp2_with fail
    have bx := Blk.new w 28 #[.int .i64 s, .int .i64 t, .int .i64 f, .int .i64 l, .int .i64 p]
    have B0 := (Below.refl w.heap.size w).alloc (Nat.le_refl _) (.cells #[.int .i64 s, .int .i64 t, .int .i64 f, .int .i64 l, .int .i64 p] 28)
    have bo := Blk.new (w.alloc (.cells #[.int .i64 s, .int .i64 t, .int .i64 f, .int .i64 l, .int .i64 p] 28)) 82 #[.int .i64 9, .int .i64 o, .int .i64 i]
    replace bx := bx.alloc (.cells #[.int .i64 9, .int .i64 o, .int .i64 i] 82)
    replace B0 := B0.alloc B0.size (.cells #[.int .i64 9, .int .i64 o, .int .i64 i] 82)
    rw [World.size_alloc] at bo
    have lx := bx.lt
    have lo := bo.lt
    have mx := fun i => bx.cell i
    have mo := fun i => bo.cell i
    generalize (w.alloc (.cells #[.int .i64 s, .int .i64 t, .int .i64 f, .int .i64 l, .int .i64 p] 28)).alloc (.cells #[.int .i64 9, .int .i64 o, .int .i64 i] 82) = w1 at *
    refine wp_region_past (by kernel_rfl) (by kernel_rfl) ?_
    repeat (quiet_step ((first | fail)))
    refine wpQuiet_nil ?_
    intro _ hw'
    obtain ⟨y, hw''⟩ := hw'
    subst hw''
    have hy := past_below w1 y
    replace bx := bx.below hy bx.lt
    replace bo := bo.below hy bo.lt
    replace B0 := B0.trans (hy.mono B0.size)
    clear hy mx mo lx lo
    generalize past w1 y = w2 at *
    have lx := bx.lt
    have lo := bo.lt
    have mx := fun i => bx.cell i
    have mo := fun i => bo.cell i
    go_wp2_with fail
    refine (W1.out _).mono ?_
    rintro e w' ⟨rfl, rfl⟩
    go_wp2_with fail
    go_ret
    exact ⟨rfl, B0⟩
  · have W1 := hide (fun w => within_t o (s + 1) w (by omega) (by omega))
    have W2 := hide (fun w => within_f i (f) w (by omega))
    clear h c
    go_enter Tryd.func54, Tryd.ntmps54
    go_wp2_with fail
    have bx := Blk.new w 28 #[.int .i64 s, .int .i64 t, .int .i64 f, .int .i64 l, .int .i64 p]
    have B0 := (Below.refl w.heap.size w).alloc (Nat.le_refl _) (.cells #[.int .i64 s, .int .i64 t, .int .i64 f, .int .i64 l, .int .i64 p] 28)
    have bo := Blk.new (w.alloc (.cells #[.int .i64 s, .int .i64 t, .int .i64 f, .int .i64 l, .int .i64 p] 28)) 82 #[.int .i64 9, .int .i64 o, .int .i64 i]
    replace bx := bx.alloc (.cells #[.int .i64 9, .int .i64 o, .int .i64 i] 82)
    replace B0 := B0.alloc B0.size (.cells #[.int .i64 9, .int .i64 o, .int .i64 i] 82)
    rw [World.size_alloc] at bo
    have lx := bx.lt
    have lo := bo.lt
    have mx := fun i => bx.cell i
    have mo := fun i => bo.cell i
    generalize (w.alloc (.cells #[.int .i64 s, .int .i64 t, .int .i64 f, .int .i64 l, .int .i64 p] 28)).alloc (.cells #[.int .i64 9, .int .i64 o, .int .i64 i] 82) = w1 at *
    refine wp_region_past (by kernel_rfl) (by kernel_rfl) ?_
    repeat (quiet_step ((first | fail)))
    refine wpQuiet_nil ?_
    intro _ hw'
    obtain ⟨y, hw''⟩ := hw'
    subst hw''
    have hy := past_below w1 y
    replace bx := bx.below hy bx.lt
    replace bo := bo.below hy bo.lt
    replace B0 := B0.trans (hy.mono B0.size)
    clear hy mx mo lx lo
    generalize past w1 y = w2 at *
    have lx := bx.lt
    have lo := bo.lt
    have mx := fun i => bx.cell i
    have mo := fun i => bo.cell i
    go_wp2_with fail
    refine (W1.out _).mono ?_
    rintro e w' ⟨rfl, rfl⟩
    go_wp2_with fail
    refine (W2.out _).mono ?_
    rintro e w' ⟨rfl, rfl⟩
    go_wp2_with fail
    go_ret
    exact ⟨rfl, B0⟩
set_option maxHeartbeats 1000000 in
theorem node_no10 (s t f l p o i : Int) (w : World) (hs : 1 ≤ s ∧ s ≤ 1000) (hf : 4 ≤ f ∧ f ≤ 64) (h : o < 0 ∨ s + 1 ≤ o ∨ i < 0 ∨ f ≤ i) :
    Calls Tryd.prog 54 #[.agg #[.int .i64 s, .int .i64 t, .int .i64 f, .int .i64 l, .int .i64 p], .agg #[.int .i64 10, .int .i64 o, .int .i64 i]] w fun e w' => e = .returned (.int .i64 (-1)) ∧ Below w.heap.size w w' := by
  have h7 : IntKind.i64.wrap (3 + f) = 3 + f := IntWalk.i64_in _ (by omega)
  obtain ⟨s1, s2⟩ := hs
  by_cases c : o < 0 ∨ s + 1 ≤ o
  · have W1 := hide (fun w => within_f o (s + 1) w c)
    clear h c
    go_enter Tryd.func54, Tryd.ntmps54
    go_wp2_with fail
    have bx := Blk.new w 28 #[.int .i64 s, .int .i64 t, .int .i64 f, .int .i64 l, .int .i64 p]
    have B0 := (Below.refl w.heap.size w).alloc (Nat.le_refl _) (.cells #[.int .i64 s, .int .i64 t, .int .i64 f, .int .i64 l, .int .i64 p] 28)
    have bo := Blk.new (w.alloc (.cells #[.int .i64 s, .int .i64 t, .int .i64 f, .int .i64 l, .int .i64 p] 28)) 82 #[.int .i64 10, .int .i64 o, .int .i64 i]
    replace bx := bx.alloc (.cells #[.int .i64 10, .int .i64 o, .int .i64 i] 82)
    replace B0 := B0.alloc B0.size (.cells #[.int .i64 10, .int .i64 o, .int .i64 i] 82)
    rw [World.size_alloc] at bo
    have lx := bx.lt
    have lo := bo.lt
    have mx := fun i => bx.cell i
    have mo := fun i => bo.cell i
    generalize (w.alloc (.cells #[.int .i64 s, .int .i64 t, .int .i64 f, .int .i64 l, .int .i64 p] 28)).alloc (.cells #[.int .i64 10, .int .i64 o, .int .i64 i] 82) = w1 at *
    refine wp_region_past (by kernel_rfl) (by kernel_rfl) ?_
    repeat (quiet_step ((first | fail)))
    refine wpQuiet_nil ?_
    intro _ hw'
    obtain ⟨y, hw''⟩ := hw'
    subst hw''
    have hy := past_below w1 y
    replace bx := bx.below hy bx.lt
    replace bo := bo.below hy bo.lt
    replace B0 := B0.trans (hy.mono B0.size)
    clear hy mx mo lx lo
    generalize past w1 y = w2 at *
    have lx := bx.lt
    have lo := bo.lt
    have mx := fun i => bx.cell i
    have mo := fun i => bo.cell i
    go_wp2_with fail
    refine (W1.out _).mono ?_
    rintro e w' ⟨rfl, rfl⟩
    go_wp2_with fail
    go_ret
    exact ⟨rfl, B0⟩
  · have W1 := hide (fun w => within_t o (s + 1) w (by omega) (by omega))
    have W2 := hide (fun w => within_f i (f) w (by omega))
    clear h c
    go_enter Tryd.func54, Tryd.ntmps54
    go_wp2_with fail
    have bx := Blk.new w 28 #[.int .i64 s, .int .i64 t, .int .i64 f, .int .i64 l, .int .i64 p]
    have B0 := (Below.refl w.heap.size w).alloc (Nat.le_refl _) (.cells #[.int .i64 s, .int .i64 t, .int .i64 f, .int .i64 l, .int .i64 p] 28)
    have bo := Blk.new (w.alloc (.cells #[.int .i64 s, .int .i64 t, .int .i64 f, .int .i64 l, .int .i64 p] 28)) 82 #[.int .i64 10, .int .i64 o, .int .i64 i]
    replace bx := bx.alloc (.cells #[.int .i64 10, .int .i64 o, .int .i64 i] 82)
    replace B0 := B0.alloc B0.size (.cells #[.int .i64 10, .int .i64 o, .int .i64 i] 82)
    rw [World.size_alloc] at bo
    have lx := bx.lt
    have lo := bo.lt
    have mx := fun i => bx.cell i
    have mo := fun i => bo.cell i
    generalize (w.alloc (.cells #[.int .i64 s, .int .i64 t, .int .i64 f, .int .i64 l, .int .i64 p] 28)).alloc (.cells #[.int .i64 10, .int .i64 o, .int .i64 i] 82) = w1 at *
    refine wp_region_past (by kernel_rfl) (by kernel_rfl) ?_
    repeat (quiet_step ((first | fail)))
    refine wpQuiet_nil ?_
    intro _ hw'
    obtain ⟨y, hw''⟩ := hw'
    subst hw''
    have hy := past_below w1 y
    replace bx := bx.below hy bx.lt
    replace bo := bo.below hy bo.lt
    replace B0 := B0.trans (hy.mono B0.size)
    clear hy mx mo lx lo
    generalize past w1 y = w2 at *
    have lx := bx.lt
    have lo := bo.lt
    have mx := fun i => bx.cell i
    have mo := fun i => bo.cell i
    go_wp2_with fail
    refine (W1.out _).mono ?_
    rintro e w' ⟨rfl, rfl⟩
    go_wp2_with fail
    refine (W2.out _).mono ?_
    rintro e w' ⟨rfl, rfl⟩
    go_wp2_with fail
    go_ret
    exact ⟨rfl, B0⟩
set_option maxHeartbeats 1000000 in
theorem node_none (s t f l p k o i : Int) (w : World) (hk : k < 6 ∨ 10 < k) :
    Calls Tryd.prog 54 #[.agg #[.int .i64 s, .int .i64 t, .int .i64 f, .int .i64 l, .int .i64 p], .agg #[.int .i64 k, .int .i64 o, .int .i64 i]] w fun e w' => e = .returned (.int .i64 (-1)) ∧ Below w.heap.size w w' := by
  have k6 : (k == 6) = false := by rw [beq_eq_false_iff_ne]; omega
  have k7 : (k == 7) = false := by rw [beq_eq_false_iff_ne]; omega
  have k8 : (k == 8) = false := by rw [beq_eq_false_iff_ne]; omega
  have k9 : (k == 9) = false := by rw [beq_eq_false_iff_ne]; omega
  have k10 : (k == 10) = false := by rw [beq_eq_false_iff_ne]; omega
  clear hk
  go_enter Tryd.func54, Tryd.ntmps54
  go_wp2_with fail
  go_ret
  exact ⟨rfl, ((Below.refl _ _).alloc (Nat.le_refl _) _).alloc (by simp only [World.size_alloc]; omega) _⟩
/-- node, whatever the place. -/
theorem node_any (s t f l p k o i : Int) (w : World) (hs : 1 ≤ s ∧ s ≤ 1000) (ht : 1 ≤ t ∧ t ≤ 64) (hf : 4 ≤ f ∧ f ≤ 64) :
    Calls Tryd.prog 54 #[.agg #[.int .i64 s, .int .i64 t, .int .i64 f, .int .i64 l, .int .i64 p], .agg #[.int .i64 k, .int .i64 o, .int .i64 i]] w fun e w' => e = .returned (.int .i64 (nod s t f k o i)) ∧ Below w.heap.size w w' := by
  by_cases hk : k < 6 ∨ 10 < k
  · rw [show nod s t f k o i = -1 from if_pos (by omega)]
    exact node_none s t f l p k o i w hk
  have hk5 : k = 6 ∨ k = 7 ∨ k = 8 ∨ k = 9 ∨ k = 10 := by omega
  by_cases h : o < 0 ∨ s + 1 ≤ o ∨ i < 0 ∨ nodMany f k ≤ i
  · rw [show nod s t f k o i = -1 from if_pos (by omega)]
    rcases hk5 with rfl | rfl | rfl | rfl | rfl
    · exact node_no6 s t f l p o i w hs hf h
    · exact node_no7 s t f l p o i w hs hf h
    · exact node_no8 s t f l p o i w hs hf h
    · exact node_no9 s t f l p o i w hs hf h
    · exact node_no10 s t f l p o i w hs hf h
  · rw [show nod s t f k o i = 3 + 3 * t + o * (3 + 2 * f) + nodAt f k + i from if_neg (by omega)]
    have ho : 0 ≤ o ∧ o < s + 1 := by omega
    rcases hk5 with rfl | rfl | rfl | rfl | rfl
    · have := node_yes6 s t f l p o i w hs ht hf ho ⟨by omega, by have : ¬ (1 : Int) ≤ i := fun e => h (.inr (.inr (.inr e))); omega⟩
      rw [show nodAt f 6 = 0 from rfl, Int.add_zero]
      exact this
    · exact node_yes7 s t f l p o i w hs ht hf ho ⟨by omega, by have : ¬ (1 : Int) ≤ i := fun e => h (.inr (.inr (.inr e))); omega⟩
    · exact node_yes8 s t f l p o i w hs ht hf ho ⟨by omega, by have : ¬ (1 : Int) ≤ i := fun e => h (.inr (.inr (.inr e))); omega⟩
    · exact node_yes9 s t f l p o i w hs ht hf ho ⟨by omega, by have : ¬ f ≤ i := fun e => h (.inr (.inr (.inr e))); omega⟩
    · exact node_yes10 s t f l p o i w hs ht hf ho ⟨by omega, by have : ¬ f ≤ i := fun e => h (.inr (.inr (.inr e))); omega⟩
end Go.Proofs.YteiidfklepjpmaaDoor

/-
  Package layout: At, and the words of threads and slots.
-/
namespace Go.Proofs.YteiidfklepjpmaaDoor
open Go.RowKit
attribute [local go_sem] past_cell past_cell_add

set_option maxHeartbeats 1000000 in
theorem at_first1 (s t f l p : Int) (w : World) (hs : 1 ≤ s) :
    Calls Tryd.prog 46 #[.agg #[.int .i64 s, .int .i64 t, .int .i64 f, .int .i64 l, .int .i64 p], .agg #[.int .i64 1, .int .i64 0, .int .i64 0]] w fun e w' => e = .returned (.int .i64 0) ∧ Below w.heap.size w w' := by
  have N := hide (fun w => none_no s t f l p w hs)
  go_enter Tryd.func46, Tryd.ntmps46
  go_wp2_with fail
  have bx := Blk.new w 28 #[.int .i64 s, .int .i64 t, .int .i64 f, .int .i64 l, .int .i64 p]
  have B0 := (Below.refl w.heap.size w).alloc (Nat.le_refl _) (.cells #[.int .i64 s, .int .i64 t, .int .i64 f, .int .i64 l, .int .i64 p] 28)
  have bo := Blk.new (w.alloc (.cells #[.int .i64 s, .int .i64 t, .int .i64 f, .int .i64 l, .int .i64 p] 28)) 82 #[.int .i64 1, .int .i64 0, .int .i64 0]
  replace bx := bx.alloc (.cells #[.int .i64 1, .int .i64 0, .int .i64 0] 82)
  replace B0 := B0.alloc B0.size (.cells #[.int .i64 1, .int .i64 0, .int .i64 0] 82)
  rw [World.size_alloc] at bo
  refine (N.out _).mono ?_
  rintro e w1 ⟨rfl, hb1⟩
  replace bx := bx.below hb1 bx.lt
  replace bo := bo.below hb1 bo.lt
  replace B0 := B0.trans (hb1.mono B0.size)
  clear hb1
  have lx := bx.lt
  have lo := bo.lt
  have mx := fun i => bx.cell i
  have mo := fun i => bo.cell i
  go_wp2_with fail
  go_ret
  exact ⟨rfl, B0⟩
set_option maxHeartbeats 1000000 in
theorem at_first2 (s t f l p : Int) (w : World) (hs : 1 ≤ s) :
    Calls Tryd.prog 46 #[.agg #[.int .i64 s, .int .i64 t, .int .i64 f, .int .i64 l, .int .i64 p], .agg #[.int .i64 2, .int .i64 0, .int .i64 0]] w fun e w' => e = .returned (.int .i64 1) ∧ Below w.heap.size w w' := by
  have N := hide (fun w => none_no s t f l p w hs)
  go_enter Tryd.func46, Tryd.ntmps46
  go_wp2_with fail
  have bx := Blk.new w 28 #[.int .i64 s, .int .i64 t, .int .i64 f, .int .i64 l, .int .i64 p]
  have B0 := (Below.refl w.heap.size w).alloc (Nat.le_refl _) (.cells #[.int .i64 s, .int .i64 t, .int .i64 f, .int .i64 l, .int .i64 p] 28)
  have bo := Blk.new (w.alloc (.cells #[.int .i64 s, .int .i64 t, .int .i64 f, .int .i64 l, .int .i64 p] 28)) 82 #[.int .i64 2, .int .i64 0, .int .i64 0]
  replace bx := bx.alloc (.cells #[.int .i64 2, .int .i64 0, .int .i64 0] 82)
  replace B0 := B0.alloc B0.size (.cells #[.int .i64 2, .int .i64 0, .int .i64 0] 82)
  rw [World.size_alloc] at bo
  refine (N.out _).mono ?_
  rintro e w1 ⟨rfl, hb1⟩
  replace bx := bx.below hb1 bx.lt
  replace bo := bo.below hb1 bo.lt
  replace B0 := B0.trans (hb1.mono B0.size)
  clear hb1
  have lx := bx.lt
  have lo := bo.lt
  have mx := fun i => bx.cell i
  have mo := fun i => bo.cell i
  go_wp2_with fail
  go_ret
  exact ⟨rfl, B0⟩
set_option maxHeartbeats 1000000 in
theorem at_first3 (s t f l p : Int) (w : World) (hs : 1 ≤ s) :
    Calls Tryd.prog 46 #[.agg #[.int .i64 s, .int .i64 t, .int .i64 f, .int .i64 l, .int .i64 p], .agg #[.int .i64 3, .int .i64 0, .int .i64 0]] w fun e w' => e = .returned (.int .i64 2) ∧ Below w.heap.size w w' := by
  have N := hide (fun w => none_no s t f l p w hs)
  go_enter Tryd.func46, Tryd.ntmps46
  go_wp2_with fail
  have bx := Blk.new w 28 #[.int .i64 s, .int .i64 t, .int .i64 f, .int .i64 l, .int .i64 p]
  have B0 := (Below.refl w.heap.size w).alloc (Nat.le_refl _) (.cells #[.int .i64 s, .int .i64 t, .int .i64 f, .int .i64 l, .int .i64 p] 28)
  have bo := Blk.new (w.alloc (.cells #[.int .i64 s, .int .i64 t, .int .i64 f, .int .i64 l, .int .i64 p] 28)) 82 #[.int .i64 3, .int .i64 0, .int .i64 0]
  replace bx := bx.alloc (.cells #[.int .i64 3, .int .i64 0, .int .i64 0] 82)
  replace B0 := B0.alloc B0.size (.cells #[.int .i64 3, .int .i64 0, .int .i64 0] 82)
  rw [World.size_alloc] at bo
  refine (N.out _).mono ?_
  rintro e w1 ⟨rfl, hb1⟩
  replace bx := bx.below hb1 bx.lt
  replace bo := bo.below hb1 bo.lt
  replace B0 := B0.trans (hb1.mono B0.size)
  clear hb1
  have lx := bx.lt
  have lo := bo.lt
  have mx := fun i => bx.cell i
  have mo := fun i => bo.cell i
  go_wp2_with fail
  go_ret
  exact ⟨rfl, B0⟩
set_option maxHeartbeats 1000000 in
theorem at_node (s t f l p k o i : Int) (w : World) (hs : 1 ≤ s ∧ s ≤ 1000) (ht : 1 ≤ t ∧ t ≤ 64) (hf : 4 ≤ f ∧ f ≤ 64) (hk : k < 1 ∨ 5 < k) :
    Calls Tryd.prog 46 #[.agg #[.int .i64 s, .int .i64 t, .int .i64 f, .int .i64 l, .int .i64 p], .agg #[.int .i64 k, .int .i64 o, .int .i64 i]] w fun e w' => e = .returned (.int .i64 (nod s t f k o i)) ∧ Below w.heap.size w w' := by
  have N := hide (fun w => none_no s t f l p w hs.1)
  have D := hide (fun w => node_any s t f l p (k) (o) (i) w hs ht hf)
  have k1 : (k == 1) = false := by rw [beq_eq_false_iff_ne]; omega
  have k2 : (k == 2) = false := by rw [beq_eq_false_iff_ne]; omega
  have k3 : (k == 3) = false := by rw [beq_eq_false_iff_ne]; omega
  have k4 : (k == 4) = false := by rw [beq_eq_false_iff_ne]; omega
  have k5 : (k == 5) = false := by rw [beq_eq_false_iff_ne]; omega
  clear hk
  generalize nod s t f k o i = R at *
  go_enter Tryd.func46, Tryd.ntmps46
  go_wp2_with fail
  have bx := Blk.new w 28 #[.int .i64 s, .int .i64 t, .int .i64 f, .int .i64 l, .int .i64 p]
  have B0 := (Below.refl w.heap.size w).alloc (Nat.le_refl _) (.cells #[.int .i64 s, .int .i64 t, .int .i64 f, .int .i64 l, .int .i64 p] 28)
  have bo := Blk.new (w.alloc (.cells #[.int .i64 s, .int .i64 t, .int .i64 f, .int .i64 l, .int .i64 p] 28)) 82 #[.int .i64 k, .int .i64 o, .int .i64 i]
  replace bx := bx.alloc (.cells #[.int .i64 k, .int .i64 o, .int .i64 i] 82)
  replace B0 := B0.alloc B0.size (.cells #[.int .i64 k, .int .i64 o, .int .i64 i] 82)
  rw [World.size_alloc] at bo
  refine (N.out _).mono ?_
  rintro e w1 ⟨rfl, hb1⟩
  replace bx := bx.below hb1 bx.lt
  replace bo := bo.below hb1 bo.lt
  replace B0 := B0.trans (hb1.mono B0.size)
  clear hb1
  have lx := bx.lt
  have lo := bo.lt
  have mx := fun i => bx.cell i
  have mo := fun i => bo.cell i
  go_wp2_with fail
  refine (D.out _).mono ?_
  rintro e w2 ⟨rfl, hb2⟩
  go_wp2_with fail
  go_ret
  exact ⟨rfl, B0.trans (hb2.mono B0.size)⟩
set_option maxHeartbeats 1000000 in
theorem at_b1 (s t f l p o i : Int) (w : World) (hs : 1 ≤ s ∧ s ≤ 1000) (ht : 1 ≤ t ∧ t ≤ 64) (hf : 4 ≤ f ∧ f ≤ 64) (ho : (o == 0) = false) :
    Calls Tryd.prog 46 #[.agg #[.int .i64 s, .int .i64 t, .int .i64 f, .int .i64 l, .int .i64 p], .agg #[.int .i64 1, .int .i64 o, .int .i64 i]] w fun e w' => e = .returned (.int .i64 (nod s t f 1 o i)) ∧ Below w.heap.size w w' := by
  have N := hide (fun w => none_no s t f l p w hs.1)
  have D := hide (fun w => node_any s t f l p (1) (o) (i) w hs ht hf)
  generalize nod s t f 1 o i = R at *
  go_enter Tryd.func46, Tryd.ntmps46
  go_wp2_with fail
  have bx := Blk.new w 28 #[.int .i64 s, .int .i64 t, .int .i64 f, .int .i64 l, .int .i64 p]
  have B0 := (Below.refl w.heap.size w).alloc (Nat.le_refl _) (.cells #[.int .i64 s, .int .i64 t, .int .i64 f, .int .i64 l, .int .i64 p] 28)
  have bo := Blk.new (w.alloc (.cells #[.int .i64 s, .int .i64 t, .int .i64 f, .int .i64 l, .int .i64 p] 28)) 82 #[.int .i64 1, .int .i64 o, .int .i64 i]
  replace bx := bx.alloc (.cells #[.int .i64 1, .int .i64 o, .int .i64 i] 82)
  replace B0 := B0.alloc B0.size (.cells #[.int .i64 1, .int .i64 o, .int .i64 i] 82)
  rw [World.size_alloc] at bo
  refine (N.out _).mono ?_
  rintro e w1 ⟨rfl, hb1⟩
  replace bx := bx.below hb1 bx.lt
  replace bo := bo.below hb1 bo.lt
  replace B0 := B0.trans (hb1.mono B0.size)
  clear hb1
  have lx := bx.lt
  have lo := bo.lt
  have mx := fun i => bx.cell i
  have mo := fun i => bo.cell i
  go_wp2_with fail
  refine (D.out _).mono ?_
  rintro e w2 ⟨rfl, hb2⟩
  go_wp2_with fail
  go_ret
  exact ⟨rfl, B0.trans (hb2.mono B0.size)⟩
set_option maxHeartbeats 1000000 in
theorem at_c1 (s t f l p i : Int) (w : World) (hs : 1 ≤ s ∧ s ≤ 1000) (ht : 1 ≤ t ∧ t ≤ 64) (hf : 4 ≤ f ∧ f ≤ 64) (hi : (i == 0) = false) :
    Calls Tryd.prog 46 #[.agg #[.int .i64 s, .int .i64 t, .int .i64 f, .int .i64 l, .int .i64 p], .agg #[.int .i64 1, .int .i64 0, .int .i64 i]] w fun e w' => e = .returned (.int .i64 (nod s t f 1 0 i)) ∧ Below w.heap.size w w' := by
  have N := hide (fun w => none_no s t f l p w hs.1)
  have D := hide (fun w => node_any s t f l p (1) (0) (i) w hs ht hf)
  generalize nod s t f 1 0 i = R at *
  go_enter Tryd.func46, Tryd.ntmps46
  go_wp2_with fail
  have bx := Blk.new w 28 #[.int .i64 s, .int .i64 t, .int .i64 f, .int .i64 l, .int .i64 p]
  have B0 := (Below.refl w.heap.size w).alloc (Nat.le_refl _) (.cells #[.int .i64 s, .int .i64 t, .int .i64 f, .int .i64 l, .int .i64 p] 28)
  have bo := Blk.new (w.alloc (.cells #[.int .i64 s, .int .i64 t, .int .i64 f, .int .i64 l, .int .i64 p] 28)) 82 #[.int .i64 1, .int .i64 0, .int .i64 i]
  replace bx := bx.alloc (.cells #[.int .i64 1, .int .i64 0, .int .i64 i] 82)
  replace B0 := B0.alloc B0.size (.cells #[.int .i64 1, .int .i64 0, .int .i64 i] 82)
  rw [World.size_alloc] at bo
  refine (N.out _).mono ?_
  rintro e w1 ⟨rfl, hb1⟩
  replace bx := bx.below hb1 bx.lt
  replace bo := bo.below hb1 bo.lt
  replace B0 := B0.trans (hb1.mono B0.size)
  clear hb1
  have lx := bx.lt
  have lo := bo.lt
  have mx := fun i => bx.cell i
  have mo := fun i => bo.cell i
  go_wp2_with fail
  refine (D.out _).mono ?_
  rintro e w2 ⟨rfl, hb2⟩
  go_wp2_with fail
  go_ret
  exact ⟨rfl, B0.trans (hb2.mono B0.size)⟩
set_option maxHeartbeats 1000000 in
theorem at_b2 (s t f l p o i : Int) (w : World) (hs : 1 ≤ s ∧ s ≤ 1000) (ht : 1 ≤ t ∧ t ≤ 64) (hf : 4 ≤ f ∧ f ≤ 64) (ho : (o == 0) = false) :
    Calls Tryd.prog 46 #[.agg #[.int .i64 s, .int .i64 t, .int .i64 f, .int .i64 l, .int .i64 p], .agg #[.int .i64 2, .int .i64 o, .int .i64 i]] w fun e w' => e = .returned (.int .i64 (nod s t f 2 o i)) ∧ Below w.heap.size w w' := by
  have N := hide (fun w => none_no s t f l p w hs.1)
  have D := hide (fun w => node_any s t f l p (2) (o) (i) w hs ht hf)
  generalize nod s t f 2 o i = R at *
  go_enter Tryd.func46, Tryd.ntmps46
  go_wp2_with fail
  have bx := Blk.new w 28 #[.int .i64 s, .int .i64 t, .int .i64 f, .int .i64 l, .int .i64 p]
  have B0 := (Below.refl w.heap.size w).alloc (Nat.le_refl _) (.cells #[.int .i64 s, .int .i64 t, .int .i64 f, .int .i64 l, .int .i64 p] 28)
  have bo := Blk.new (w.alloc (.cells #[.int .i64 s, .int .i64 t, .int .i64 f, .int .i64 l, .int .i64 p] 28)) 82 #[.int .i64 2, .int .i64 o, .int .i64 i]
  replace bx := bx.alloc (.cells #[.int .i64 2, .int .i64 o, .int .i64 i] 82)
  replace B0 := B0.alloc B0.size (.cells #[.int .i64 2, .int .i64 o, .int .i64 i] 82)
  rw [World.size_alloc] at bo
  refine (N.out _).mono ?_
  rintro e w1 ⟨rfl, hb1⟩
  replace bx := bx.below hb1 bx.lt
  replace bo := bo.below hb1 bo.lt
  replace B0 := B0.trans (hb1.mono B0.size)
  clear hb1
  have lx := bx.lt
  have lo := bo.lt
  have mx := fun i => bx.cell i
  have mo := fun i => bo.cell i
  go_wp2_with fail
  refine (D.out _).mono ?_
  rintro e w2 ⟨rfl, hb2⟩
  go_wp2_with fail
  go_ret
  exact ⟨rfl, B0.trans (hb2.mono B0.size)⟩
set_option maxHeartbeats 1000000 in
theorem at_c2 (s t f l p i : Int) (w : World) (hs : 1 ≤ s ∧ s ≤ 1000) (ht : 1 ≤ t ∧ t ≤ 64) (hf : 4 ≤ f ∧ f ≤ 64) (hi : (i == 0) = false) :
    Calls Tryd.prog 46 #[.agg #[.int .i64 s, .int .i64 t, .int .i64 f, .int .i64 l, .int .i64 p], .agg #[.int .i64 2, .int .i64 0, .int .i64 i]] w fun e w' => e = .returned (.int .i64 (nod s t f 2 0 i)) ∧ Below w.heap.size w w' := by
  have N := hide (fun w => none_no s t f l p w hs.1)
  have D := hide (fun w => node_any s t f l p (2) (0) (i) w hs ht hf)
  generalize nod s t f 2 0 i = R at *
  go_enter Tryd.func46, Tryd.ntmps46
  go_wp2_with fail
  have bx := Blk.new w 28 #[.int .i64 s, .int .i64 t, .int .i64 f, .int .i64 l, .int .i64 p]
  have B0 := (Below.refl w.heap.size w).alloc (Nat.le_refl _) (.cells #[.int .i64 s, .int .i64 t, .int .i64 f, .int .i64 l, .int .i64 p] 28)
  have bo := Blk.new (w.alloc (.cells #[.int .i64 s, .int .i64 t, .int .i64 f, .int .i64 l, .int .i64 p] 28)) 82 #[.int .i64 2, .int .i64 0, .int .i64 i]
  replace bx := bx.alloc (.cells #[.int .i64 2, .int .i64 0, .int .i64 i] 82)
  replace B0 := B0.alloc B0.size (.cells #[.int .i64 2, .int .i64 0, .int .i64 i] 82)
  rw [World.size_alloc] at bo
  refine (N.out _).mono ?_
  rintro e w1 ⟨rfl, hb1⟩
  replace bx := bx.below hb1 bx.lt
  replace bo := bo.below hb1 bo.lt
  replace B0 := B0.trans (hb1.mono B0.size)
  clear hb1
  have lx := bx.lt
  have lo := bo.lt
  have mx := fun i => bx.cell i
  have mo := fun i => bo.cell i
  go_wp2_with fail
  refine (D.out _).mono ?_
  rintro e w2 ⟨rfl, hb2⟩
  go_wp2_with fail
  go_ret
  exact ⟨rfl, B0.trans (hb2.mono B0.size)⟩
set_option maxHeartbeats 1000000 in
theorem at_b3 (s t f l p o i : Int) (w : World) (hs : 1 ≤ s ∧ s ≤ 1000) (ht : 1 ≤ t ∧ t ≤ 64) (hf : 4 ≤ f ∧ f ≤ 64) (ho : (o == 0) = false) :
    Calls Tryd.prog 46 #[.agg #[.int .i64 s, .int .i64 t, .int .i64 f, .int .i64 l, .int .i64 p], .agg #[.int .i64 3, .int .i64 o, .int .i64 i]] w fun e w' => e = .returned (.int .i64 (nod s t f 3 o i)) ∧ Below w.heap.size w w' := by
  have N := hide (fun w => none_no s t f l p w hs.1)
  have D := hide (fun w => node_any s t f l p (3) (o) (i) w hs ht hf)
  generalize nod s t f 3 o i = R at *
  go_enter Tryd.func46, Tryd.ntmps46
  go_wp2_with fail
  have bx := Blk.new w 28 #[.int .i64 s, .int .i64 t, .int .i64 f, .int .i64 l, .int .i64 p]
  have B0 := (Below.refl w.heap.size w).alloc (Nat.le_refl _) (.cells #[.int .i64 s, .int .i64 t, .int .i64 f, .int .i64 l, .int .i64 p] 28)
  have bo := Blk.new (w.alloc (.cells #[.int .i64 s, .int .i64 t, .int .i64 f, .int .i64 l, .int .i64 p] 28)) 82 #[.int .i64 3, .int .i64 o, .int .i64 i]
  replace bx := bx.alloc (.cells #[.int .i64 3, .int .i64 o, .int .i64 i] 82)
  replace B0 := B0.alloc B0.size (.cells #[.int .i64 3, .int .i64 o, .int .i64 i] 82)
  rw [World.size_alloc] at bo
  refine (N.out _).mono ?_
  rintro e w1 ⟨rfl, hb1⟩
  replace bx := bx.below hb1 bx.lt
  replace bo := bo.below hb1 bo.lt
  replace B0 := B0.trans (hb1.mono B0.size)
  clear hb1
  have lx := bx.lt
  have lo := bo.lt
  have mx := fun i => bx.cell i
  have mo := fun i => bo.cell i
  go_wp2_with fail
  refine (D.out _).mono ?_
  rintro e w2 ⟨rfl, hb2⟩
  go_wp2_with fail
  go_ret
  exact ⟨rfl, B0.trans (hb2.mono B0.size)⟩
set_option maxHeartbeats 1000000 in
theorem at_c3 (s t f l p i : Int) (w : World) (hs : 1 ≤ s ∧ s ≤ 1000) (ht : 1 ≤ t ∧ t ≤ 64) (hf : 4 ≤ f ∧ f ≤ 64) (hi : (i == 0) = false) :
    Calls Tryd.prog 46 #[.agg #[.int .i64 s, .int .i64 t, .int .i64 f, .int .i64 l, .int .i64 p], .agg #[.int .i64 3, .int .i64 0, .int .i64 i]] w fun e w' => e = .returned (.int .i64 (nod s t f 3 0 i)) ∧ Below w.heap.size w w' := by
  have N := hide (fun w => none_no s t f l p w hs.1)
  have D := hide (fun w => node_any s t f l p (3) (0) (i) w hs ht hf)
  generalize nod s t f 3 0 i = R at *
  go_enter Tryd.func46, Tryd.ntmps46
  go_wp2_with fail
  have bx := Blk.new w 28 #[.int .i64 s, .int .i64 t, .int .i64 f, .int .i64 l, .int .i64 p]
  have B0 := (Below.refl w.heap.size w).alloc (Nat.le_refl _) (.cells #[.int .i64 s, .int .i64 t, .int .i64 f, .int .i64 l, .int .i64 p] 28)
  have bo := Blk.new (w.alloc (.cells #[.int .i64 s, .int .i64 t, .int .i64 f, .int .i64 l, .int .i64 p] 28)) 82 #[.int .i64 3, .int .i64 0, .int .i64 i]
  replace bx := bx.alloc (.cells #[.int .i64 3, .int .i64 0, .int .i64 i] 82)
  replace B0 := B0.alloc B0.size (.cells #[.int .i64 3, .int .i64 0, .int .i64 i] 82)
  rw [World.size_alloc] at bo
  refine (N.out _).mono ?_
  rintro e w1 ⟨rfl, hb1⟩
  replace bx := bx.below hb1 bx.lt
  replace bo := bo.below hb1 bo.lt
  replace B0 := B0.trans (hb1.mono B0.size)
  clear hb1
  have lx := bx.lt
  have lo := bo.lt
  have mx := fun i => bx.cell i
  have mo := fun i => bo.cell i
  go_wp2_with fail
  refine (D.out _).mono ?_
  rintro e w2 ⟨rfl, hb2⟩
  go_wp2_with fail
  go_ret
  exact ⟨rfl, B0.trans (hb2.mono B0.size)⟩
set_option maxHeartbeats 1000000 in
theorem at_4i (s t f l p o i : Int) (w : World) (hs : 1 ≤ s ∧ s ≤ 1000) (ht : 1 ≤ t ∧ t ≤ 64) (hf : 4 ≤ f ∧ f ≤ 64) (hi : (i == 0) = false) :
    Calls Tryd.prog 46 #[.agg #[.int .i64 s, .int .i64 t, .int .i64 f, .int .i64 l, .int .i64 p], .agg #[.int .i64 4, .int .i64 o, .int .i64 i]] w fun e w' => e = .returned (.int .i64 (nod s t f 4 o i)) ∧ Below w.heap.size w w' := by
  have N := hide (fun w => none_no s t f l p w hs.1)
  have D := hide (fun w => node_any s t f l p (4) (o) (i) w hs ht hf)
  generalize nod s t f 4 o i = R at *
  go_enter Tryd.func46, Tryd.ntmps46
  go_wp2_with fail
  have bx := Blk.new w 28 #[.int .i64 s, .int .i64 t, .int .i64 f, .int .i64 l, .int .i64 p]
  have B0 := (Below.refl w.heap.size w).alloc (Nat.le_refl _) (.cells #[.int .i64 s, .int .i64 t, .int .i64 f, .int .i64 l, .int .i64 p] 28)
  have bo := Blk.new (w.alloc (.cells #[.int .i64 s, .int .i64 t, .int .i64 f, .int .i64 l, .int .i64 p] 28)) 82 #[.int .i64 4, .int .i64 o, .int .i64 i]
  replace bx := bx.alloc (.cells #[.int .i64 4, .int .i64 o, .int .i64 i] 82)
  replace B0 := B0.alloc B0.size (.cells #[.int .i64 4, .int .i64 o, .int .i64 i] 82)
  rw [World.size_alloc] at bo
  refine (N.out _).mono ?_
  rintro e w1 ⟨rfl, hb1⟩
  replace bx := bx.below hb1 bx.lt
  replace bo := bo.below hb1 bo.lt
  replace B0 := B0.trans (hb1.mono B0.size)
  clear hb1
  have lx := bx.lt
  have lo := bo.lt
  have mx := fun i => bx.cell i
  have mo := fun i => bo.cell i
  go_wp2_with fail
  refine (D.out _).mono ?_
  rintro e w2 ⟨rfl, hb2⟩
  go_wp2_with fail
  go_ret
  exact ⟨rfl, B0.trans (hb2.mono B0.size)⟩
set_option maxHeartbeats 1000000 in
theorem at_4o (s t f l p o : Int) (w : World) (hs : 1 ≤ s ∧ s ≤ 1000) (ht : 1 ≤ t ∧ t ≤ 64) (hf : 4 ≤ f ∧ f ≤ 64) (ho : o < 0 ∨ t ≤ o) :
    Calls Tryd.prog 46 #[.agg #[.int .i64 s, .int .i64 t, .int .i64 f, .int .i64 l, .int .i64 p], .agg #[.int .i64 4, .int .i64 o, .int .i64 0]] w fun e w' => e = .returned (.int .i64 (nod s t f 4 o 0)) ∧ Below w.heap.size w w' := by
  have N := hide (fun w => none_no s t f l p w hs.1)
  have D := hide (fun w => node_any s t f l p (4) (o) (0) w hs ht hf)
  have W1 := hide (fun w => within_f o t w ho)
  clear ho
  generalize nod s t f 4 o 0 = R at *
  go_enter Tryd.func46, Tryd.ntmps46
  go_wp2_with fail
  have bx := Blk.new w 28 #[.int .i64 s, .int .i64 t, .int .i64 f, .int .i64 l, .int .i64 p]
  have B0 := (Below.refl w.heap.size w).alloc (Nat.le_refl _) (.cells #[.int .i64 s, .int .i64 t, .int .i64 f, .int .i64 l, .int .i64 p] 28)
  have bo := Blk.new (w.alloc (.cells #[.int .i64 s, .int .i64 t, .int .i64 f, .int .i64 l, .int .i64 p] 28)) 82 #[.int .i64 4, .int .i64 o, .int .i64 0]
  replace bx := bx.alloc (.cells #[.int .i64 4, .int .i64 o, .int .i64 0] 82)
  replace B0 := B0.alloc B0.size (.cells #[.int .i64 4, .int .i64 o, .int .i64 0] 82)
  rw [World.size_alloc] at bo
  refine (N.out _).mono ?_
  rintro e w1 ⟨rfl, hb1⟩
  replace bx := bx.below hb1 bx.lt
  replace bo := bo.below hb1 bo.lt
  replace B0 := B0.trans (hb1.mono B0.size)
  clear hb1
  have lx := bx.lt
  have lo := bo.lt
  have mx := fun i => bx.cell i
  have mo := fun i => bo.cell i
  go_wp2_with fail
  refine (W1.out _).mono ?_
  rintro e w' ⟨rfl, rfl⟩
  go_wp2_with fail
  refine (D.out _).mono ?_
  rintro e w2 ⟨rfl, hb2⟩
  go_wp2_with fail
  go_ret
  exact ⟨rfl, B0.trans (hb2.mono B0.size)⟩
set_option maxHeartbeats 1000000 in
theorem at_4 (s t f l p o : Int) (w : World) (hs : 1 ≤ s ∧ s ≤ 1000) (ht : 1 ≤ t ∧ t ≤ 64) (ho : 0 ≤ o ∧ o < t) :
    Calls Tryd.prog 46 #[.agg #[.int .i64 s, .int .i64 t, .int .i64 f, .int .i64 l, .int .i64 p], .agg #[.int .i64 4, .int .i64 o, .int .i64 0]] w fun e w' => e = .returned (.int .i64 (3 + o)) ∧ Below w.heap.size w w' := by
  have N := hide (fun w => none_no s t f l p w hs.1)
  have W1 := hide (fun w => within_t o t w ho.1 ho.2)
  have h3 : IntKind.i64.wrap (3 + o) = 3 + o := IntWalk.i64_in _ (by omega)
  clear ho hs ht
  go_enter Tryd.func46, Tryd.ntmps46
  go_wp2_with fail
  have bx := Blk.new w 28 #[.int .i64 s, .int .i64 t, .int .i64 f, .int .i64 l, .int .i64 p]
  have B0 := (Below.refl w.heap.size w).alloc (Nat.le_refl _) (.cells #[.int .i64 s, .int .i64 t, .int .i64 f, .int .i64 l, .int .i64 p] 28)
  have bo := Blk.new (w.alloc (.cells #[.int .i64 s, .int .i64 t, .int .i64 f, .int .i64 l, .int .i64 p] 28)) 82 #[.int .i64 4, .int .i64 o, .int .i64 0]
  replace bx := bx.alloc (.cells #[.int .i64 4, .int .i64 o, .int .i64 0] 82)
  replace B0 := B0.alloc B0.size (.cells #[.int .i64 4, .int .i64 o, .int .i64 0] 82)
  rw [World.size_alloc] at bo
  refine (N.out _).mono ?_
  rintro e w1 ⟨rfl, hb1⟩
  replace bx := bx.below hb1 bx.lt
  replace bo := bo.below hb1 bo.lt
  replace B0 := B0.trans (hb1.mono B0.size)
  clear hb1
  have lx := bx.lt
  have lo := bo.lt
  have mx := fun i => bx.cell i
  have mo := fun i => bo.cell i
  go_wp2_with fail
  refine (W1.out _).mono ?_
  rintro e w' ⟨rfl, rfl⟩
  go_wp2_with fail
  refine wp_region_past (by kernel_rfl) (by kernel_rfl) ?_
  repeat (quiet_step ((first | ((exact calls_past (announces_any _ _ _ _ _ _))))))
  refine wpQuiet_nil ?_
  intro _ hw'
  obtain ⟨y, hw''⟩ := hw'
  subst hw''
  have hy := past_below w1 y
  go_wp2_with fail
  go_ret
  exact ⟨rfl, B0.trans (hy.mono B0.size)⟩
set_option maxHeartbeats 1000000 in
theorem at_5i (s t f l p o i : Int) (w : World) (hs : 1 ≤ s ∧ s ≤ 1000) (ht : 1 ≤ t ∧ t ≤ 64) (hf : 4 ≤ f ∧ f ≤ 64) (hi : i < 0 ∨ 2 ≤ i) :
    Calls Tryd.prog 46 #[.agg #[.int .i64 s, .int .i64 t, .int .i64 f, .int .i64 l, .int .i64 p], .agg #[.int .i64 5, .int .i64 o, .int .i64 i]] w fun e w' => e = .returned (.int .i64 (nod s t f 5 o i)) ∧ Below w.heap.size w w' := by
  have N := hide (fun w => none_no s t f l p w hs.1)
  have D := hide (fun w => node_any s t f l p (5) (o) (i) w hs ht hf)
  have W1 := hide (fun w => within_f i 2 w hi)
  clear hi
  generalize nod s t f 5 o i = R at *
  go_enter Tryd.func46, Tryd.ntmps46
  go_wp2_with fail
  have bx := Blk.new w 28 #[.int .i64 s, .int .i64 t, .int .i64 f, .int .i64 l, .int .i64 p]
  have B0 := (Below.refl w.heap.size w).alloc (Nat.le_refl _) (.cells #[.int .i64 s, .int .i64 t, .int .i64 f, .int .i64 l, .int .i64 p] 28)
  have bo := Blk.new (w.alloc (.cells #[.int .i64 s, .int .i64 t, .int .i64 f, .int .i64 l, .int .i64 p] 28)) 82 #[.int .i64 5, .int .i64 o, .int .i64 i]
  replace bx := bx.alloc (.cells #[.int .i64 5, .int .i64 o, .int .i64 i] 82)
  replace B0 := B0.alloc B0.size (.cells #[.int .i64 5, .int .i64 o, .int .i64 i] 82)
  rw [World.size_alloc] at bo
  refine (N.out _).mono ?_
  rintro e w1 ⟨rfl, hb1⟩
  replace bx := bx.below hb1 bx.lt
  replace bo := bo.below hb1 bo.lt
  replace B0 := B0.trans (hb1.mono B0.size)
  clear hb1
  have lx := bx.lt
  have lo := bo.lt
  have mx := fun i => bx.cell i
  have mo := fun i => bo.cell i
  go_wp2_with fail
  refine (W1.out _).mono ?_
  rintro e w' ⟨rfl, rfl⟩
  go_wp2_with fail
  refine (D.out _).mono ?_
  rintro e w2 ⟨rfl, hb2⟩
  go_wp2_with fail
  go_ret
  exact ⟨rfl, B0.trans (hb2.mono B0.size)⟩
set_option maxHeartbeats 1000000 in
theorem at_5o (s t f l p o i : Int) (w : World) (hs : 1 ≤ s ∧ s ≤ 1000) (ht : 1 ≤ t ∧ t ≤ 64) (hf : 4 ≤ f ∧ f ≤ 64) (hi : 0 ≤ i ∧ i < 2) (ho : o < 0 ∨ t ≤ o) :
    Calls Tryd.prog 46 #[.agg #[.int .i64 s, .int .i64 t, .int .i64 f, .int .i64 l, .int .i64 p], .agg #[.int .i64 5, .int .i64 o, .int .i64 i]] w fun e w' => e = .returned (.int .i64 (nod s t f 5 o i)) ∧ Below w.heap.size w w' := by
  have N := hide (fun w => none_no s t f l p w hs.1)
  have D := hide (fun w => node_any s t f l p (5) (o) (i) w hs ht hf)
  have W1 := hide (fun w => within_t i 2 w hi.1 hi.2)
  have W2 := hide (fun w => within_f o t w ho)
  clear hi ho
  generalize nod s t f 5 o i = R at *
  go_enter Tryd.func46, Tryd.ntmps46
  go_wp2_with fail
  have bx := Blk.new w 28 #[.int .i64 s, .int .i64 t, .int .i64 f, .int .i64 l, .int .i64 p]
  have B0 := (Below.refl w.heap.size w).alloc (Nat.le_refl _) (.cells #[.int .i64 s, .int .i64 t, .int .i64 f, .int .i64 l, .int .i64 p] 28)
  have bo := Blk.new (w.alloc (.cells #[.int .i64 s, .int .i64 t, .int .i64 f, .int .i64 l, .int .i64 p] 28)) 82 #[.int .i64 5, .int .i64 o, .int .i64 i]
  replace bx := bx.alloc (.cells #[.int .i64 5, .int .i64 o, .int .i64 i] 82)
  replace B0 := B0.alloc B0.size (.cells #[.int .i64 5, .int .i64 o, .int .i64 i] 82)
  rw [World.size_alloc] at bo
  refine (N.out _).mono ?_
  rintro e w1 ⟨rfl, hb1⟩
  replace bx := bx.below hb1 bx.lt
  replace bo := bo.below hb1 bo.lt
  replace B0 := B0.trans (hb1.mono B0.size)
  clear hb1
  have lx := bx.lt
  have lo := bo.lt
  have mx := fun i => bx.cell i
  have mo := fun i => bo.cell i
  go_wp2_with fail
  refine (W1.out _).mono ?_
  rintro e w' ⟨rfl, rfl⟩
  go_wp2_with fail
  refine (W2.out _).mono ?_
  rintro e w' ⟨rfl, rfl⟩
  go_wp2_with fail
  refine (D.out _).mono ?_
  rintro e w2 ⟨rfl, hb2⟩
  go_wp2_with fail
  go_ret
  exact ⟨rfl, B0.trans (hb2.mono B0.size)⟩
set_option maxHeartbeats 1000000 in
theorem at_5 (s t f l p o i : Int) (w : World) (hs : 1 ≤ s ∧ s ≤ 1000) (ht : 1 ≤ t ∧ t ≤ 64) (hi : 0 ≤ i ∧ i < 2) (ho : 0 ≤ o ∧ o < t) :
    Calls Tryd.prog 46 #[.agg #[.int .i64 s, .int .i64 t, .int .i64 f, .int .i64 l, .int .i64 p], .agg #[.int .i64 5, .int .i64 o, .int .i64 i]] w fun e w' => e = .returned (.int .i64 (3 + t + 2 * o + i)) ∧ Below w.heap.size w w' := by
  have N := hide (fun w => none_no s t f l p w hs.1)
  have W1 := hide (fun w => within_t i 2 w hi.1 hi.2)
  have W2 := hide (fun w => within_t o t w ho.1 ho.2)
  have H := hide (fun w => hazards_any s t f l p w ht)
  have h2 : IntKind.i64.wrap (2 * o) = 2 * o := IntWalk.i64_in _ (by omega)
  have h3 : IntKind.i64.wrap (3 + t + 2 * o) = 3 + t + 2 * o := IntWalk.i64_in _ (by omega)
  have h4 : IntKind.i64.wrap (3 + t + 2 * o + i) = 3 + t + 2 * o + i := IntWalk.i64_in _ (by omega)
  clear ho hs ht hi
  go_enter Tryd.func46, Tryd.ntmps46
  go_wp2_with fail
  have bx := Blk.new w 28 #[.int .i64 s, .int .i64 t, .int .i64 f, .int .i64 l, .int .i64 p]
  have B0 := (Below.refl w.heap.size w).alloc (Nat.le_refl _) (.cells #[.int .i64 s, .int .i64 t, .int .i64 f, .int .i64 l, .int .i64 p] 28)
  have bo := Blk.new (w.alloc (.cells #[.int .i64 s, .int .i64 t, .int .i64 f, .int .i64 l, .int .i64 p] 28)) 82 #[.int .i64 5, .int .i64 o, .int .i64 i]
  replace bx := bx.alloc (.cells #[.int .i64 5, .int .i64 o, .int .i64 i] 82)
  replace B0 := B0.alloc B0.size (.cells #[.int .i64 5, .int .i64 o, .int .i64 i] 82)
  rw [World.size_alloc] at bo
  refine (N.out _).mono ?_
  rintro e w1 ⟨rfl, hb1⟩
  replace bx := bx.below hb1 bx.lt
  replace bo := bo.below hb1 bo.lt
  replace B0 := B0.trans (hb1.mono B0.size)
  clear hb1
  have lx := bx.lt
  have lo := bo.lt
  have mx := fun i => bx.cell i
  have mo := fun i => bo.cell i
  go_wp2_with fail
  refine (W1.out _).mono ?_
  rintro e w' ⟨rfl, rfl⟩
  go_wp2_with fail
  refine (W2.out _).mono ?_
  rintro e w' ⟨rfl, rfl⟩
  go_wp2_with fail
  refine wp_region_past (by kernel_rfl) (by kernel_rfl) ?_
  repeat (quiet_step ((first | ((exact calls_past (H.out _))))))
  refine wpQuiet_nil ?_
  intro _ hw'
  obtain ⟨y, hw''⟩ := hw'
  subst hw''
  have hy := past_below w1 y
  go_wp2_with fail
  go_ret
  exact ⟨rfl, B0.trans (hy.mono B0.size)⟩
set_option maxHeartbeats 1000000 in
theorem at_zero (k o i : Int) (w : World) :
    Calls Tryd.prog 46 #[.agg #[.int .i64 0, .int .i64 0, .int .i64 0, .int .i64 0, .int .i64 0], .agg #[.int .i64 k, .int .i64 o, .int .i64 i]] w fun e w' => e = .returned (.int .i64 (-1)) ∧ Below w.heap.size w w' := by
  have N := hide none_yes
  go_enter Tryd.func46, Tryd.ntmps46
  go_wp2_with fail
  have B0 := (Below.refl w.heap.size w).alloc (Nat.le_refl _) (.cells #[.int .i64 0, .int .i64 0, .int .i64 0, .int .i64 0, .int .i64 0] 28)
  replace B0 := B0.alloc B0.size (.cells #[.int .i64 k, .int .i64 o, .int .i64 i] 82)
  refine (N.out _).mono ?_
  rintro e w1 ⟨rfl, hb1⟩
  go_wp2_with fail
  go_ret
  exact ⟨rfl, B0.trans (hb1.mono B0.size)⟩

/-- At, whatever the place. -/
theorem at_any (s t f l p k o i : Int) (w : World) (hs : 1 ≤ s ∧ s ≤ 1000) (ht : 1 ≤ t ∧ t ≤ 64) (hf : 4 ≤ f ∧ f ≤ 64) :
    Calls Tryd.prog 46 #[.agg #[.int .i64 s, .int .i64 t, .int .i64 f, .int .i64 l, .int .i64 p], .agg #[.int .i64 k, .int .i64 o, .int .i64 i]] w fun e w' => e = .returned (.int .i64 (atp s t f k o i)) ∧ Below w.heap.size w w' := by
  by_cases c1 : 1 ≤ k ∧ k ≤ 3 ∧ o = 0 ∧ i = 0
  · rw [show atp s t f k o i = k - 1 from if_pos c1]
    obtain ⟨h1, h2, rfl, rfl⟩ := c1
    have hk : k = 1 ∨ k = 2 ∨ k = 3 := by omega
    rcases hk with rfl | rfl | rfl
    · exact at_first1 s t f l p w hs.1
    · exact at_first2 s t f l p w hs.1
    · exact at_first3 s t f l p w hs.1
  by_cases c2 : k = 4 ∧ i = 0 ∧ 0 ≤ o ∧ o < t
  · rw [show atp s t f k o i = 3 + o by unfold atp; rw [if_neg c1, if_pos c2]]
    obtain ⟨rfl, rfl, h1, h2⟩ := c2
    exact at_4 s t f l p o w hs ht ⟨h1, h2⟩
  by_cases c3 : k = 5 ∧ 0 ≤ i ∧ i < 2 ∧ 0 ≤ o ∧ o < t
  · rw [show atp s t f k o i = 3 + t + 2 * o + i by unfold atp; rw [if_neg c1, if_neg c2, if_pos c3]]
    obtain ⟨rfl, h1, h2, h3, h4⟩ := c3
    exact at_5 s t f l p o i w hs ht ⟨h1, h2⟩ ⟨h3, h4⟩
  rw [show atp s t f k o i = nod s t f k o i by unfold atp; rw [if_neg c1, if_neg c2, if_neg c3]]
  by_cases hk : k < 1 ∨ 5 < k
  · exact at_node s t f l p k o i w hs ht hf hk
  have hk5 : k = 1 ∨ k = 2 ∨ k = 3 ∨ k = 4 ∨ k = 5 := by omega
  rcases hk5 with rfl | rfl | rfl | rfl | rfl
  · by_cases ho : o = 0
    · subst ho
      exact at_c1 s t f l p i w hs ht hf (by simp; omega)
    · exact at_b1 s t f l p o i w hs ht hf (by simpa using ho)
  · by_cases ho : o = 0
    · subst ho
      exact at_c2 s t f l p i w hs ht hf (by simp; omega)
    · exact at_b2 s t f l p o i w hs ht hf (by simpa using ho)
  · by_cases ho : o = 0
    · subst ho
      exact at_c3 s t f l p i w hs ht hf (by simp; omega)
    · exact at_b3 s t f l p o i w hs ht hf (by simpa using ho)
  · by_cases hi : i = 0
    · subst hi
      exact at_4o s t f l p o w hs ht hf (by omega)
    · exact at_4i s t f l p o i w hs ht hf (by simpa using hi)
  · by_cases hi : i < 0 ∨ 2 ≤ i
    · exact at_5i s t f l p o i w hs ht hf hi
    · exact at_5o s t f l p o i w hs ht hf (by omega) (by omega)
end Go.Proofs.YteiidfklepjpmaaDoor

/-
  gleaningref07.Numbers, Wrong; gleaningref08.Size, Place.
-/
namespace Go.Proofs.YteiidfklepjpmaaDoor
open Go.RowKit
attribute [local go_sem] past_cell past_cell_add

/-- The place of the first number that is out of its bounds; -1: there is none. -/
def wrg (s t f l p : Int) : Int := if ¬ (1 ≤ s ∧ s ≤ 1000) then 0 else if ¬ (1 ≤ t ∧ t ≤ 64) then 1 else if ¬ (4 ≤ f ∧ f ≤ 64) then 2 else if ¬ (1 ≤ l ∧ l ≤ 64) then 3 else if ¬ (1 ≤ p ∧ p ≤ 1048576) then 4 else -1
theorem wrg_ok {s t f l p : Int} : cfgOk s t f l p = decide (wrg s t f l p < 0) := by
  rw [Bool.eq_iff_iff, cfgOk_iff, decide_eq_true_eq]
  unfold wrg
  repeat' split
  all_goals omega
theorem wrg_none {s t f l p : Int} (h : ∀ k, k < 5 → cIn s t f l p k) : wrg s t f l p = -1 := by
  have h0 : 1 ≤ s ∧ s ≤ 1000 := h 0 (by omega)
  have h1 : 1 ≤ t ∧ t ≤ 64 := h 1 (by omega)
  have h2 : 4 ≤ f ∧ f ≤ 64 := h 2 (by omega)
  have h3 : 1 ≤ l ∧ l ≤ 64 := h 3 (by omega)
  have h4 : 1 ≤ p ∧ p ≤ 1048576 := h 4 (by omega)
  unfold wrg
  rw [if_neg (by omega), if_neg (by omega), if_neg (by omega), if_neg (by omega), if_neg (by omega)]
theorem wrg_at {s t f l p : Int} {k : Nat} (hk : k < 5) (h : ∀ j, j < k → cIn s t f l p j) (hn : ¬ cIn s t f l p k) : wrg s t f l p = k := by
  unfold wrg
  rcases five hk with rfl | rfl | rfl | rfl | rfl
  · have h0 : ¬ (1 ≤ s ∧ s ≤ 1000) := hn
    rw [if_pos h0]
    rfl
  · have h0 : 1 ≤ s ∧ s ≤ 1000 := h 0 (by omega)
    have h1 : ¬ (1 ≤ t ∧ t ≤ 64) := hn
    rw [if_neg (by omega), if_pos h1]
    rfl
  · have h0 : 1 ≤ s ∧ s ≤ 1000 := h 0 (by omega)
    have h1 : 1 ≤ t ∧ t ≤ 64 := h 1 (by omega)
    have h2 : ¬ (4 ≤ f ∧ f ≤ 64) := hn
    rw [if_neg (by omega), if_neg (by omega), if_pos h2]
    rfl
  · have h0 : 1 ≤ s ∧ s ≤ 1000 := h 0 (by omega)
    have h1 : 1 ≤ t ∧ t ≤ 64 := h 1 (by omega)
    have h2 : 4 ≤ f ∧ f ≤ 64 := h 2 (by omega)
    have h3 : ¬ (1 ≤ l ∧ l ≤ 64) := hn
    rw [if_neg (by omega), if_neg (by omega), if_neg (by omega), if_pos h3]
    rfl
  · have h0 : 1 ≤ s ∧ s ≤ 1000 := h 0 (by omega)
    have h1 : 1 ≤ t ∧ t ≤ 64 := h 1 (by omega)
    have h2 : 4 ≤ f ∧ f ≤ 64 := h 2 (by omega)
    have h3 : 1 ≤ l ∧ l ≤ 64 := h 3 (by omega)
    have h4 : ¬ (1 ≤ p ∧ p ≤ 1048576) := hn
    rw [if_neg (by omega), if_neg (by omega), if_neg (by omega), if_neg (by omega), if_pos h4]
    rfl

set_option maxHeartbeats 400000 in
theorem numbers_any (s t f l p : Int) (w : World) :
    Calls Tryd.prog 12 #[.agg #[.int .i64 s, .int .i64 t, .int .i64 f, .int .i64 l, .int .i64 p]] w fun e w' => (∃ g, e = .returned (.slice (some ⟨g, 0, none⟩) 5 5) ∧ Blk w' g 3 (numA s t f l p)) ∧ Below w.heap.size w w' := by
  go_enter Tryd.func12, Tryd.ntmps12
  go_wp2_with fail
  go_ret
  have h := fun o => Blk.new (w.alloc o) 3 (numA s t f l p)
  simp only [World.size_alloc] at h
  exact ⟨⟨_, rfl, h _⟩, ((Below.refl _ _).alloc (Nat.le_refl _) _).alloc (by simp only [World.size_alloc]; omega) _⟩

set_option maxHeartbeats 1000000 in
theorem wrong_any (s t f l p : Int) (w : World) :
    Calls Tryd.prog 4 #[.agg #[.int .i64 s, .int .i64 t, .int .i64 f, .int .i64 l, .int .i64 p]] w fun e w' => e = .returned (.int .i64 (wrg s t f l p)) ∧ Below w.heap.size w w' := by
  have C := hide (fun w2 => numbers_any s t f l p w2)
  have WN := hide (fun h => wrg_none (s := s) (t := t) (f := f) (l := l) (p := p) h)
  have WA := hide (fun k hk h hn => wrg_at (s := s) (t := t) (f := f) (l := l) (p := p) (k := k) hk h hn)
  generalize wrg s t f l p = R at *
  go_enter Tryd.func4, Tryd.ntmps4
  go_wp2_with fail
  have B0 := (Below.refl w.heap.size w).alloc (Nat.le_refl _) (.cells #[.int .i64 s, .int .i64 t, .int .i64 f, .int .i64 l, .int .i64 p] 23)
  refine (C.out _).mono ?_
  rintro e w1 ⟨⟨g1, rfl, b1⟩, hb1⟩
  replace B0 := B0.trans (hb1.mono B0.size)
  have H1 := hide b1
  have HB := hide B0
  clear b1 hb1 B0
  go_wp2_with fail
  have b1 := (H1.out.alloc (.cells #[.int .i64 1, .int .i64 1, .int .i64 4, .int .i64 1, .int .i64 1] 3)).alloc (.cells #[.int .i64 1000, .int .i64 64, .int .i64 64, .int .i64 64, .int .i64 1048576] 3)
  have b2 := (Blk.new w1 3 #[.int .i64 1, .int .i64 1, .int .i64 4, .int .i64 1, .int .i64 1]).alloc (.cells #[.int .i64 1000, .int .i64 64, .int .i64 64, .int .i64 64, .int .i64 1048576] 3)
  have b3 := Blk.new (w1.alloc (.cells #[.int .i64 1, .int .i64 1, .int .i64 4, .int .i64 1, .int .i64 1] 3)) 3 #[.int .i64 1000, .int .i64 64, .int .i64 64, .int .i64 64, .int .i64 1048576]
  have B0 := (HB.out.alloc HB.out.size (.cells #[.int .i64 1, .int .i64 1, .int .i64 4, .int .i64 1, .int .i64 1] 3)).alloc (by have := HB.out.size; simp only [World.size_alloc]; omega) (.cells #[.int .i64 1000, .int .i64 64, .int .i64 64, .int .i64 64, .int .i64 1048576] 3)
  rw [World.size_alloc] at b3
  generalize (w1.alloc (.cells #[.int .i64 1, .int .i64 1, .int .i64 4, .int .i64 1, .int .i64 1] 3)).alloc (.cells #[.int .i64 1000, .int .i64 64, .int .i64 64, .int .i64 64, .int .i64 1048576] 3) = w2 at *
  have b2 : Blk w2 w1.heap.size 3 (numA 1 1 4 1 1) := b2
  have b3 : Blk w2 (w1.heap.size + 1) 3 (numA 1000 64 64 64 1048576) := b3
  have H1 := hide b1
  have H2 := hide b2
  have H3 := hide b3
  have HB := hide B0
  clear b1 b2 b3 B0
  go_loopw [6] (ChkIn w2 (cIn s t f l p)) (fun i _ => 5 - (intOf i).toNat)
  case atStart => exact ⟨0, rfl, by omega, fun j h => absurd h (by omega), Below.refl _ _⟩
  case round =>
    obtain ⟨k, rfl, hk, hok, hb⟩ := hrel
    have HOK := hide hok
    clear hok
    by_cases hlt : k < 5
    · have z0 := ((H1.out.below hb H1.out.lt).cell k).trans (numA_at s t f l p hlt)
      have z1 := ((H2.out.below hb H2.out.lt).cell k).trans (lo_at hlt)
      have z2 := ((H3.out.below hb H3.out.lt).cell k).trans (hi_at hlt)
      have HI := hide (show cIn s t f l p k ↔ (cLo k ≤ cN s t f l p k ∧ cN s t f l p k ≤ cHi k) from Iff.rfl)
      have hkz : (0 : Int) ≤ (k : Int) := by omega
      have hkz5 : (k : Int) < 5 := by omega
      generalize cN s t f l p k = n at *
      generalize cLo k = lo at *
      generalize cHi k = hi at *
      by_cases c1 : n < lo
      · have E := hide (WA.out k hlt HOK.out (fun h => by have := HI.out.1 h; omega))
        have d1 : decide (n < lo) = true := by simpa using c1
        go_wp2_with fail
        go_quiet (fail)
        go_wp2_with fail
        go_ret
        exact ⟨by rw [E.out]; rfl, HB.out.trans ((below_drewN hb _).mono HB.out.size)⟩
      have d1 : decide (n < lo) = false := by simpa using c1
      by_cases c2 : hi < n
      · have E := hide (WA.out k hlt HOK.out (fun h => by have := HI.out.1 h; omega))
        have d2 : decide (hi < n) = true := by simpa using c2
        go_wp2_with fail
        go_quiet (fail)
        go_wp2_with fail
        go_ret
        exact ⟨by rw [E.out]; rfl, HB.out.trans ((below_drewN hb _).mono HB.out.size)⟩
      · have E := hide (HI.out.2 ⟨by omega, by omega⟩)
        have d2 : decide (hi < n) = false := by simpa using c2
        go_wp2_with fail
        go_quiet (fail)
        go_wp2_with fail
        go_roundw
        case rel => exact ⟨k + 1, by go_num, by omega, fun j hj => by
          by_cases e : j = k
          · subst e
            exact E.out
          · exact HOK.out j (by omega), below_drewN hb _⟩
        case measure => simp [intOf]; omega
    · obtain rfl : k = 5 := by omega
      have E := hide (WN.out HOK.out)
      go_wp2_with fail
      go_ret
      exact ⟨by rw [E.out]; rfl, HB.out.trans (hb.mono HB.out.size)⟩

/-- How many words there are; none where the configuration may not be. -/
def rSize (s t f l p : Int) : Int := if cfgOk s t f l p = true then laySize s t f else 0
set_option maxHeartbeats 1000000 in
theorem rsize_any (s t f l p : Int) (w : World) :
    Calls Tryd.prog 5 #[.agg #[.int .i64 s, .int .i64 t, .int .i64 f, .int .i64 l, .int .i64 p]] w fun e w' => e = .returned (.int .i64 (rSize s t f l p)) ∧ Below w.heap.size w w' := by
  have C := hide (fun w2 => wrong_any s t f l p w2)
  have hok := wrg_ok (s := s) (t := t) (f := f) (l := l) (p := p)
  have bx := Blk.new w 23 #[.int .i64 s, .int .i64 t, .int .i64 f, .int .i64 l, .int .i64 p]
  have B0 := (Below.refl w.heap.size w).alloc (Nat.le_refl _) (.cells #[.int .i64 s, .int .i64 t, .int .i64 f, .int .i64 l, .int .i64 p] 23)
  cases hc : cfgOk s t f l p with
  | false =>
    have E := hide (show rSize s t f l p = 0 by unfold rSize; rw [hc]; rfl)
    rw [hc] at hok
    have hw : 0 ≤ wrg s t f l p := by
      have : ¬ wrg s t f l p < 0 := by simpa using hok.symm
      omega
    clear hok hc
    generalize wrg s t f l p = r at *
    go_enter Tryd.func5, Tryd.ntmps5
    go_wp2_with fail
    refine (C.out _).mono ?_
    rintro e w1 ⟨rfl, hb1⟩
    go_wp2_with fail
    go_ret
    exact ⟨by rw [E.out]; rfl, B0.trans (hb1.mono B0.size)⟩
  | true =>
    have E := hide (show rSize s t f l p = laySize s t f by unfold rSize; rw [hc]; rfl)
    rw [hc] at hok
    have hw : wrg s t f l p < 0 := by simpa using hok.symm
    have hb := cfgOk_iff.1 hc
    have z := size_pos (s := s) (t := t) (f := f) (by omega) (by omega) (by omega)
    have h0 : IntKind.i64.wrap (3 * t) = 3 * t := IntWalk.i64_in _ (by omega)
    have h1 : IntKind.i64.wrap (3 + 3 * t) = 3 + 3 * t := IntWalk.i64_in _ (by omega)
    have h2 : IntKind.i64.wrap (2 * f) = 2 * f := IntWalk.i64_in _ (by omega)
    have h3 : IntKind.i64.wrap (s + 1) = s + 1 := IntWalk.i64_in _ (by omega)
    have h4 : IntKind.i64.wrap ((s + 1) * (3 + 2 * f)) = (s + 1) * (3 + 2 * f) := IntWalk.i64_in _ (by unfold laySize at z; omega)
    have h5 : IntKind.i64.wrap (3 + 3 * t + (s + 1) * (3 + 2 * f)) = laySize s t f := by unfold laySize at z ⊢; exact IntWalk.i64_in _ (by omega)
    have h6 : IntKind.i64.wrap (3 + 2 * f) = 3 + 2 * f := IntWalk.i64_in _ (by omega)
    clear hok hc z hb
    generalize laySize s t f = R at *
    generalize wrg s t f l p = r at *
    go_enter Tryd.func5, Tryd.ntmps5
    go_wp2_with fail
    refine (C.out _).mono ?_
    rintro e w1 ⟨rfl, hb1⟩
    replace bx := bx.below hb1 bx.lt
    replace B0 := B0.trans (hb1.mono B0.size)
    clear hb1
    have mx := fun i => bx.cell i
    go_wp2_with fail

    go_ret
    exact ⟨by rw [E.out]; rfl, B0⟩
end Go.Proofs.YteiidfklepjpmaaDoor

/-
  layout: Announce, Hazard, Link (for seats without chapter 8's statements); the document's own numbers of them.
-/
namespace Go.Proofs.YteiidfklepjpmaaDoor
open Go.RowKit
attribute [local go_sem] past_cell past_cell_add

set_option maxHeartbeats 400000 in
theorem llnk_any (s t f l p o  : Int) (w : World) (hs : 1 ≤ s ∧ s ≤ 1000) (ht : 1 ≤ t ∧ t ≤ 64) (hf : 4 ≤ f ∧ f ≤ 64) :
    Calls Tryd.prog 38 #[.agg #[.int .i64 s, .int .i64 t, .int .i64 f, .int .i64 l, .int .i64 p], .int .i64 o] w fun e w' => e = .returned (.int .i64 (atp s t f 8 o 0)) ∧ Below w.heap.size w w' := by
  have A := hide (fun w => at_any s t f l p 8 o 0 w hs ht hf)
  generalize atp s t f 8 o 0 = R at *
  go_enter Tryd.func38, Tryd.ntmps38
  go_wp2_with fail
  have B0 := (Below.refl w.heap.size w).alloc (Nat.le_refl _) (.cells #[.int .i64 s, .int .i64 t, .int .i64 f, .int .i64 l, .int .i64 p] 28)
  refine (A.out _).mono ?_
  rintro e w1 ⟨rfl, hb1⟩
  go_wp2_with fail
  go_ret
  exact ⟨rfl, B0.trans (hb1.mono B0.size)⟩
set_option maxHeartbeats 400000 in
theorem llnk_zero (o  : Int) (w : World) :
    Calls Tryd.prog 38 #[.agg #[.int .i64 0, .int .i64 0, .int .i64 0, .int .i64 0, .int .i64 0], .int .i64 o] w fun e w' => e = .returned (.int .i64 (-1)) ∧ Below w.heap.size w w' := by
  have A := hide (fun w => at_zero 8 o 0 w)
  go_enter Tryd.func38, Tryd.ntmps38
  go_wp2_with fail
  have B0 := (Below.refl w.heap.size w).alloc (Nat.le_refl _) (.cells #[.int .i64 0, .int .i64 0, .int .i64 0, .int .i64 0, .int .i64 0] 28)
  refine (A.out _).mono ?_
  rintro e w1 ⟨rfl, hb1⟩
  go_wp2_with fail
  go_ret
  exact ⟨rfl, B0.trans (hb1.mono B0.size)⟩

theorem atp4 {s t f o : Int} (h : 0 ≤ o ∧ o < t) : atp s t f 4 o 0 = 3 + o := by
  unfold atp
  rw [if_neg (by omega), if_pos (by omega)]
theorem atp4_no {s t f o : Int} (h : o < 0 ∨ t ≤ o) : atp s t f 4 o 0 = -1 := by
  unfold atp
  rw [if_neg (by omega), if_neg (by omega), if_neg (by omega)]
  unfold nod
  rw [if_pos (by omega)]
theorem atp5 {s t f o i : Int} (h : 0 ≤ o ∧ o < t) (hi : 0 ≤ i ∧ i < 2) : atp s t f 5 o i = 3 + t + 2 * o + i := by
  unfold atp
  rw [if_neg (by omega), if_neg (by omega), if_pos (by omega)]
theorem atp8 {s t f o : Int} (h : 0 ≤ o ∧ o ≤ s) : atp s t f 8 o 0 = 3 + 3 * t + o * (3 + 2 * f) + 2 := by
  unfold atp
  rw [if_neg (by omega), if_neg (by omega), if_neg (by omega)]
  unfold nod
  rw [if_neg (by unfold nodMany; simp; omega)]
  simp [nodAt]
theorem atp_first {s t f k : Int} (h : 1 ≤ k ∧ k ≤ 3) : atp s t f k 0 0 = k - 1 := by
  unfold atp
  rw [if_pos (by omega)]
end Go.Proofs.YteiidfklepjpmaaDoor

/-
  Regions that draw their order, whose last stores turn the very cells that the region loads: what holds of the world is asked only as long as none of those stores has come up.
-/
namespace Go.Proofs.YteiidfklepjpmaaDoor

section
variable {P : Program} {ops : Array Oper} {Q : Exit → Act → World → Prop} {md : Region.Mode} {S : World → Prop} {zs : List Nat}

/-- One of the last stores has come up. -/
def overZ (zs : List Nat) (l : Array Bool) : Bool := zs.any fun z => l.getD z true

/-- Whatever order is picked from here on, and S holds behind each operation that is carried out, until one of zs has come up. -/
def wpAnyZ (P : Program) (md : Region.Mode) (ops : Array Oper) (Q : Exit → Act → World → Prop) (zs : List Nat) (S : World → Prop) : Nat → Array Bool → Act → World → Prop
  | 0, listed, a, w => Region.ready md ops listed = [] ∧ Q .normal a w
  | fuel + 1, listed, a, w =>
    (Region.ready md ops listed = [] → Q .normal a w) ∧
    ∀ i ∈ Region.ready md ops listed, wpOp P ops Q i (fun a' w' => (overZ zs (listed.setIfInBounds i true) = false → S w') ∧ wpAnyZ P md ops Q zs S fuel (listed.setIfInBounds i true) a' w') a w

theorem wpAny_of_heldZ : ∀ (fuel : Nat) (listed : Array Bool) (a : Act) (w : World), wpAnyZ P md ops Q zs S fuel listed a w → wpAny P md ops Q fuel listed a w
  | 0, _, _, _, h => h
  | fuel + 1, _, _, _, h => ⟨h.1, fun i hi => wpOp_mono (fun a' w' h' => wpAny_of_heldZ fuel _ a' w' h'.2) (h.2 i hi)⟩

/-- Each of B waits, one for the other, for i. -/
def Waits (md : Region.Mode) (ops : Array Oper) (i : Nat) (B : List Nat) : Prop := ∀ k ∈ B, k ≠ i → ∀ o, ops[k]? = some o → ∃ e ∈ o.after, Region.binds md e = true ∧ (e.on = i ∨ e.on ∈ B)
def waitsB (md : Region.Mode) (ops : Array Oper) (listed : Array Bool) (zs : List Nat) (i : Nat) (B : List Nat) : Bool :=
  (B.all fun k => !(k == i) && !listed.getD k true && (match ops[k]? with | some o => o.after.any fun e => Region.binds md e && (e.on == i || B.contains e.on) | none => true)) && (zs.all fun z => B.contains z) && !listed.getD i true
theorem waits_not_ready {i j : Nat} {B : List Nat} {listed : Array Bool} (hW : Waits md ops i B) (hi : listed.getD i false = false) (hB : ∀ k ∈ B, listed.getD k false = false) (hj : j ∈ Region.ready md ops listed) (hji : j ≠ i) : j ∉ B := by
  intro hjB
  obtain ⟨_, o, ho, hall⟩ := mem_ready.1 hj
  obtain ⟨e, he, hb, hon⟩ := hW j hjB hji o ho
  have := hall e he hb
  rcases hon with h | h
  · rw [h, hi] at this
    cases this
  · rw [hB _ h] at this
    cases this
theorem getD_ff {l : Array Bool} {k : Nat} (h : l.getD k true = false) : l.getD k false = false := by
  rcases Nat.lt_or_ge k l.size with h' | h'
  · simp [h'] at h ⊢
    exact h
  · simp [Array.getElem?_eq_none h'] at h

theorem wpAnyZ_first {i : Nat} {oi : Oper} {v : Value} {B : List Nat} (hi : ops[i]? = some oi) (hsel : ∀ (j : Nat) (o : Oper) cs b, ops[j]? = some o → o.op ≠ .select cs b)
    (hQ : ∀ c a w, Q (.panic c) (a.put oi.dst v) w → Q (.panic c) a w) (hW : Waits md ops i B) (hiB : i ∉ B) (hz : ∀ z ∈ zs, z ∈ B) :
    ∀ (fuel : Nat) (listed : Array Bool) (a : Act) (w : World),
      (∀ j oj, ops[j]? = some oj → j ≠ i → listed.getD j true = false → (∀ e ∈ oj.after, Region.binds md e = true → e.on ≠ i) → oi.apart ops oj = true) →
      (∀ k ∈ B, listed.getD k true = false) →
      i ∈ Region.ready md ops listed → YieldsIf P ops S oi v a → S w →
      wpAnyZ P md ops Q zs S fuel (listed.setIfInBounds i true) (a.put oi.dst v) w → wpAnyZ P md ops Q zs S (fuel + 1) listed a w := by
  intro fuel
  induction fuel with
  | zero =>
    intro listed a w _ _ hr hy hS H
    refine ⟨fun h => (by rw [h] at hr; cases hr), fun j hj => ?_⟩
    by_cases hji : j = i
    · subst hji; exact hy.wpOp hi hS ⟨fun _ => hS, H⟩
    · have := ready_mono hj hji
      rw [H.1] at this
      cases this
  | succ fuel ih =>
    intro listed a w hfree hBl hr hy hS H
    refine ⟨fun h => (by rw [h] at hr; cases hr), fun j hj => ?_⟩
    by_cases hji : j = i
    · subst hji; exact hy.wpOp hi hS ⟨fun _ => hS, H⟩
    · have h1 := H.2 j (ready_mono hj hji)
      obtain ⟨hjun, oj, hoj, hall⟩ := mem_ready.1 hj
      have hnot : ∀ e ∈ oj.after, Region.binds md e = true → e.on ≠ i := fun e he hb heq => by
        have h1 := hall e he hb
        have h0 := (mem_ready.1 hr).1
        rw [heq] at h1
        rcases Nat.lt_or_ge i listed.size with h' | h'
        · simp [h'] at h0 h1; rw [h0] at h1; cases h1
        · simp [Array.getElem?_eq_none h'] at h1
      have h2 := wpOp_putIf hoj (hfree j oj hoj hji hjun hnot) (fun cs b => hsel i oi cs b hi) (fun cs b => hsel j oj cs b hoj) hQ hy h1
      have hfree' : ∀ k ok, ops[k]? = some ok → k ≠ i → (listed.setIfInBounds j true).getD k true = false →
          (∀ e ∈ ok.after, Region.binds md e = true → e.on ≠ i) → oi.apart ops ok = true := fun k ok hk hki hun hno => by
        refine hfree k ok hk hki ?_ hno
        by_cases hjk : j = k
        · subst hjk; exact hjun
        · rw [getD_set_ne true hjk] at hun; exact hun
      have hjB : j ∉ B := waits_not_ready hW (getD_ff (mem_ready.1 hr).1) (fun k hk => getD_ff (hBl k hk)) hj hji
      have hBl' : ∀ k ∈ B, (listed.setIfInBounds j true).getD k true = false := fun k hk => by
        rw [getD_set_ne true (fun e => hjB (by rw [e]; exact hk))]
        exact hBl k hk
      have hov : overZ zs ((listed.setIfInBounds i true).setIfInBounds j true) = false := by
        unfold overZ
        rw [List.any_eq_false]
        intro z hzz
        have hzB := hz z hzz
        rw [getD_set_ne true (fun e => hjB (by rw [e]; exact hzB)), getD_set_ne true (fun e => hiB (by rw [e]; exact hzB)), hBl z hzB]
        simp
      refine wpOp_mono (fun a' w' h3 => ⟨fun _ => h3.2.1 hov, ih (listed.setIfInBounds j true) a' w' hfree' hBl' (ready_mono hr (Ne.symm hji)) h3.1 (h3.2.1 hov) ?_⟩) h2
      rw [Array.setIfInBounds_comm _ _ hji]
      exact h3.2.2

/-- Take number i first: B: those that wait for it, the last stores among them. -/
theorem wpAnyZ_take {i : Nat} {oi : Oper} {v : Value} {fuel : Nat} {listed : Array Bool} {a : Act} {w : World} (B : List Nat) (hi : ops[i]? = some oi)
    (hs : Region.noSelect ops = true) (hf : Region.free md ops listed i = true) (hr : (Region.ready md ops listed).contains i = true) (hB : waitsB md ops listed zs i B = true)
    (hQ : ∀ c a w, Q (.panic c) (a.put oi.dst v) w → Q (.panic c) a w) (hS : S w) (hw : Region.wanted oi (yielded ops a.tmps) = true) (hy : ∀ w, S w → (execOp a.eval oi).run P w = .ok (.value v) w)
    (h : wpAnyZ P md ops Q zs S fuel (listed.setIfInBounds i true) (a.put oi.dst v) w) : wpAnyZ P md ops Q zs S (fuel + 1) listed a w := by
  simp only [waitsB, Bool.and_eq_true, List.all_eq_true, Bool.not_eq_true', beq_eq_false_iff_ne, List.contains_iff_mem] at hB
  obtain ⟨⟨h1, h2⟩, h3⟩ := hB
  refine wpAnyZ_first hi (Region.noSelect_spec hs) hQ (B := B) (fun k hk _ o ho => ?_) (fun hiB => (h1 i hiB).1.1 rfl) h2 fuel listed a w (Region.free_spec hi hf) (fun k hk => (h1 k hk).1.2) (by simpa using hr) (.inl ⟨hw, hy⟩) hS h
  have h4 := (h1 k hk).2
  rw [ho] at h4
  simp only [Array.any_eq_true'] at h4
  obtain ⟨e, he, hb⟩ := h4
  simp only [Bool.and_eq_true, Bool.or_eq_true, beq_iff_eq, List.contains_iff_mem] at hb
  exact ⟨e, he, hb.1, hb.2⟩

def AllReadyZ (P : Program) (md : Region.Mode) (ops : Array Oper) (Q : Exit → Act → World → Prop) (zs : List Nat) (S : World → Prop) (fuel : Nat) (listed : Array Bool) (a : Act) (w : World) (rs : List Nat) : Prop :=
  ∀ i ∈ rs, wpOp P ops Q i (fun a' w' => (overZ zs (listed.setIfInBounds i true) = false → S w') ∧ wpAnyZ P md ops Q zs S fuel (listed.setIfInBounds i true) a' w') a w
theorem AllReadyZ.nil {fuel : Nat} {listed : Array Bool} {a : Act} {w : World} : AllReadyZ P md ops Q zs S fuel listed a w [] := fun _ h => by cases h
/-- An operation that is none of the last stores: S is shown anew, and handed on. -/
theorem AllReadyZ.cons {fuel : Nat} {listed : Array Bool} {a : Act} {w : World} {i : Nat} {o : Oper} {rs : List Nat} (ho : ops[i]? = some o)
    (h : ∀ K' : Act → World → Prop, Shut (∀ a w, S w → (S w → wpAnyZ P md ops Q zs S fuel (listed.setIfInBounds i true) a w) → K' a w) → if Region.wanted o (yielded ops a.tmps) = true then Oper.wp P o a w K' Q else K' (a.put o.dst undef) w)
    (hs : AllReadyZ P md ops Q zs S fuel listed a w rs) : AllReadyZ P md ops Q zs S fuel listed a w (i :: rs) := fun j hj => by
  rcases List.mem_cons.1 hj with rfl | hj
  · exact wpOp_step ho (fun K' hK => h K' (fun a w hS hW => hK a w ⟨fun _ => hS, hW hS⟩))
  · exact hs j hj
/-- One of the last stores: nothing is to be shown. -/
theorem AllReadyZ.last {fuel : Nat} {listed : Array Bool} {a : Act} {w : World} {i : Nat} {o : Oper} {rs : List Nat} (ho : ops[i]? = some o) (hz : overZ zs (listed.setIfInBounds i true) = true)
    (h : ∀ K' : Act → World → Prop, Shut (∀ a w, wpAnyZ P md ops Q zs S fuel (listed.setIfInBounds i true) a w → K' a w) → if Region.wanted o (yielded ops a.tmps) = true then Oper.wp P o a w K' Q else K' (a.put o.dst undef) w)
    (hs : AllReadyZ P md ops Q zs S fuel listed a w rs) : AllReadyZ P md ops Q zs S fuel listed a w (i :: rs) := fun j hj => by
  rcases List.mem_cons.1 hj with rfl | hj
  · exact wpOp_step ho (fun K' hK => h K' (fun a w hW => hK a w ⟨fun h0 => (by rw [hz] at h0; cases h0), hW⟩))
  · exact hs j hj
theorem wpAnyZ_ready {rs : List Nat} {fuel : Nat} {listed : Array Bool} {a : Act} {w : World} (hr : Region.ready md ops listed = rs) (hne : rs ≠ [])
    (h : AllReadyZ P md ops Q zs S fuel listed a w rs) : wpAnyZ P md ops Q zs S (fuel + 1) listed a w := ⟨fun h0 => absurd (hr ▸ h0) hne, hr ▸ h⟩
theorem wpAnyZ_done {listed : Array Bool} {a : Act} {w : World} (hr : Region.ready md ops listed = []) (h : Q .normal a w) : ∀ fuel, wpAnyZ P md ops Q zs S fuel listed a w
  | 0 => ⟨hr, h⟩
  | _ + 1 => ⟨fun _ => h, by rw [hr]; simp⟩
theorem opAt {l : List Oper} {i : Nat} {o : Oper} (h : l[i]? = some o) : l.toArray[i]? = some o := by simpa using h
/-- The beginning. -/
theorem wp_region_heldZ {id : Nat} {a : Act} {w : World} (zs : List Nat) (S : World → Prop) (hm : P.follows .mixedOrders = true) (hS : S w.drew)
    (h : S w.drew → wpAnyZ P .any ops Q zs S ops.size (Array.replicate ops.size false) a w.drew) : (Code.region id ops true).wp P Q a w :=
  wp_region_any hm (wpAny_of_heldZ _ _ _ _ (h hS))
end
end Go.Proofs.YteiidfklepjpmaaDoor

/-
  The same, with the waiting operations reckoned.
-/
namespace Go.Proofs.YteiidfklepjpmaaDoor

section
variable {P : Program} {ops : Array Oper} {Q : Exit → Act → World → Prop} {md : Region.Mode} {S : World → Prop} {zs : List Nat}
/-- Those that wait for i. -/
def blockedZ (md : Region.Mode) (ops : Array Oper) (listed : Array Bool) (i : Nat) : List Nat :=
  (List.range ops.size).foldl (fun B k => if !(k == i) && !listed.getD k true && (match ops[k]? with | some o => o.after.any fun e => Region.binds md e && (e.on == i || B.contains e.on) | none => false) then B ++ [k] else B) []
theorem wpAnyZ_takeA {i : Nat} {oi : Oper} {v : Value} {fuel : Nat} {listed : Array Bool} {a : Act} {w : World} (hi : ops[i]? = some oi)
    (hs : Region.noSelect ops = true) (hf : Region.free md ops listed i = true) (hr : (Region.ready md ops listed).contains i = true) (hB : waitsB md ops listed zs i (blockedZ md ops listed i) = true)
    (hQ : ∀ c a w, Q (.panic c) (a.put oi.dst v) w → Q (.panic c) a w) (hS : S w) (hw : Region.wanted oi (yielded ops a.tmps) = true) (hy : ∀ w, S w → (execOp a.eval oi).run P w = .ok (.value v) w)
    (h : wpAnyZ P md ops Q zs S fuel (listed.setIfInBounds i true) (a.put oi.dst v) w) : wpAnyZ P md ops Q zs S (fuel + 1) listed a w :=
  wpAnyZ_take (blockedZ md ops listed i) hi hs hf hr hB hQ hS hw hy h
/-- A guarded operation whose guard says no. -/
theorem wpAnyZ_skipA {i : Nat} {oi : Oper} {fuel : Nat} {listed : Array Bool} {a : Act} {w : World} (B : List Nat) (hB : B = blockedZ md ops listed i) (hi : ops[i]? = some oi)
    (hs : Region.noSelect ops = true) (hf : Region.free md ops listed i = true) (hr : (Region.ready md ops listed).contains i = true) (hW : waitsB md ops listed zs i B = true)
    (hQ : ∀ c a w, Q (.panic c) (a.put oi.dst undef) w → Q (.panic c) a w) (hS : S w) (hw : Region.wanted oi (yielded ops a.tmps) = false)
    (h : wpAnyZ P md ops Q zs S fuel (listed.setIfInBounds i true) (a.put oi.dst undef) w) : wpAnyZ P md ops Q zs S (fuel + 1) listed a w := by
  subst hB
  simp only [waitsB, Bool.and_eq_true, List.all_eq_true, Bool.not_eq_true', beq_eq_false_iff_ne, List.contains_iff_mem] at hW
  obtain ⟨⟨h1, h2⟩, h3⟩ := hW
  refine wpAnyZ_first hi (Region.noSelect_spec hs) hQ (B := blockedZ md ops listed i) (fun k hk _ o ho => ?_) (fun hiB => (h1 i hiB).1.1 rfl) h2 fuel listed a w (Region.free_spec hi hf) (fun k hk => (h1 k hk).1.2) (by simpa using hr) (.inr ⟨hw, rfl⟩) hS h
  have h4 := (h1 k hk).2
  rw [ho] at h4
  simp only [Array.any_eq_true'] at h4
  obtain ⟨e, he, hb⟩ := h4
  simp only [Bool.and_eq_true, Bool.or_eq_true, beq_iff_eq, List.contains_iff_mem] at hb
  exact ⟨e, he, hb.1, hb.2⟩
end
end Go.Proofs.YteiidfklepjpmaaDoor

/-
  An operation that reads no memory may be taken first, whatever is carried out ahead of it.
-/
namespace Go.Proofs.YteiidfklepjpmaaDoor

section
variable {P : Program} {ops : Array Oper} {Q : Exit → Act → World → Prop} {md : Region.Mode} {S : World → Prop} {zs : List Nat}
theorem overZ_set {l : Array Bool} {i : Nat} (hi : i ∉ zs) : overZ zs (l.setIfInBounds i true) = overZ zs l := by
  unfold overZ
  rw [Bool.eq_iff_iff, List.any_eq_true, List.any_eq_true]
  constructor
  · rintro ⟨z, hz, h⟩
    rw [getD_set_ne true (fun e => hi (by rw [e]; exact hz))] at h
    exact ⟨z, hz, h⟩
  · rintro ⟨z, hz, h⟩
    refine ⟨z, hz, ?_⟩
    rw [getD_set_ne true (fun e => hi (by rw [e]; exact hz))]
    exact h
theorem wpAnyZ_firstT {i : Nat} {oi : Oper} {v : Value} (hi : ops[i]? = some oi) (hsel : ∀ (j : Nat) (o : Oper) cs b, ops[j]? = some o → o.op ≠ .select cs b)
    (hQ : ∀ c a w, Q (.panic c) (a.put oi.dst v) w → Q (.panic c) a w) (hiz : i ∉ zs) :
    ∀ (fuel : Nat) (listed : Array Bool) (a : Act) (w : World),
      (∀ j oj, ops[j]? = some oj → j ≠ i → listed.getD j true = false → (∀ e ∈ oj.after, Region.binds md e = true → e.on ≠ i) → oi.apart ops oj = true) →
      i ∈ Region.ready md ops listed → YieldsIf P ops (fun _ => True) oi v a → (overZ zs listed = false → S w) →
      wpAnyZ P md ops Q zs S fuel (listed.setIfInBounds i true) (a.put oi.dst v) w → wpAnyZ P md ops Q zs S (fuel + 1) listed a w := by
  intro fuel
  induction fuel with
  | zero =>
    intro listed a w _ hr hy hS H
    refine ⟨fun h => (by rw [h] at hr; cases hr), fun j hj => ?_⟩
    by_cases hji : j = i
    · subst hji; exact hy.wpOp hi trivial ⟨fun h0 => hS (by rwa [overZ_set hiz] at h0), H⟩
    · have := ready_mono hj hji
      rw [H.1] at this
      cases this
  | succ fuel ih =>
    intro listed a w hfree hr hy hS H
    refine ⟨fun h => (by rw [h] at hr; cases hr), fun j hj => ?_⟩
    by_cases hji : j = i
    · subst hji; exact hy.wpOp hi trivial ⟨fun h0 => hS (by rwa [overZ_set hiz] at h0), H⟩
    · have h1 := H.2 j (ready_mono hj hji)
      obtain ⟨hjun, oj, hoj, hall⟩ := mem_ready.1 hj
      have hnot : ∀ e ∈ oj.after, Region.binds md e = true → e.on ≠ i := fun e he hb heq => by
        have h1 := hall e he hb
        have h0 := (mem_ready.1 hr).1
        rw [heq] at h1
        rcases Nat.lt_or_ge i listed.size with h' | h'
        · simp [h'] at h0 h1; rw [h0] at h1; cases h1
        · simp [Array.getElem?_eq_none h'] at h1
      have h2 := wpOp_putIf hoj (hfree j oj hoj hji hjun hnot) (fun cs b => hsel i oi cs b hi) (fun cs b => hsel j oj cs b hoj) hQ hy h1
      have hfree' : ∀ k ok, ops[k]? = some ok → k ≠ i → (listed.setIfInBounds j true).getD k true = false →
          (∀ e ∈ ok.after, Region.binds md e = true → e.on ≠ i) → oi.apart ops ok = true := fun k ok hk hki hun hno => by
        refine hfree k ok hk hki ?_ hno
        by_cases hjk : j = k
        · subst hjk; exact hjun
        · rw [getD_set_ne true hjk] at hun; exact hun
      have hov : ∀ b, overZ zs (listed.setIfInBounds j true) = b → overZ zs ((listed.setIfInBounds i true).setIfInBounds j true) = b := fun b h0 => by
        rw [Array.setIfInBounds_comm _ _ (Ne.symm hji), overZ_set hiz]
        exact h0
      refine wpOp_mono (fun a' w' h3 => ⟨fun h0 => h3.2.1 (hov _ h0), ih (listed.setIfInBounds j true) a' w' hfree' (ready_mono hr (Ne.symm hji)) h3.1 (fun h0 => h3.2.1 (hov _ h0)) ?_⟩) h2
      rw [Array.setIfInBounds_comm _ _ hji]
      exact h3.2.2
theorem wpAnyZ_takeT {i : Nat} {oi : Oper} {v : Value} {fuel : Nat} {listed : Array Bool} {a : Act} {w : World} (hi : ops[i]? = some oi)
    (hs : Region.noSelect ops = true) (hf : Region.free md ops listed i = true) (hr : (Region.ready md ops listed).contains i = true) (hz : zs.contains i = false)
    (hQ : ∀ c a w, Q (.panic c) (a.put oi.dst v) w → Q (.panic c) a w) (hS : S w) (hw : Region.wanted oi (yielded ops a.tmps) = true) (hy : ∀ w, (execOp a.eval oi).run P w = .ok (.value v) w)
    (h : wpAnyZ P md ops Q zs S fuel (listed.setIfInBounds i true) (a.put oi.dst v) w) : wpAnyZ P md ops Q zs S (fuel + 1) listed a w :=
  wpAnyZ_firstT hi (Region.noSelect_spec hs) hQ (fun h => by rw [← List.contains_iff_mem, hz] at h; cases h) fuel listed a w (Region.free_spec hi hf) (by simpa using hr) (.inl ⟨hw, fun w _ => hy w⟩) (fun _ => hS) h
end
end Go.Proofs.YteiidfklepjpmaaDoor

/-
  Where a slot's words lie, by the document and by the layout.
-/
namespace Go.Proofs.YteiidfklepjpmaaDoor
open Go.RowKit

/-- The number of a slot's first word. -/
def nB (t f sl : Int) : Int := 3 + 3 * t + sl * (3 + 2 * f)
theorem nB_bd {s t f sl : Int} (hs : 1 ≤ s ∧ s ≤ 1000) (ht : 1 ≤ t ∧ t ≤ 64) (hf : 4 ≤ f ∧ f ≤ 64) (hsl : 0 ≤ sl ∧ sl ≤ s) : 3 + 3 * t ≤ nB t f sl ∧ nB t f sl + 3 + 2 * f ≤ laySize s t f ∧ nB t f sl + 3 + 2 * f ≤ 200000 := by
  have h1 : 0 ≤ sl * (3 + 2 * f) := Int.mul_nonneg hsl.1 (by omega)
  have h2 : sl * (3 + 2 * f) + (3 + 2 * f) ≤ (s + 1) * (3 + 2 * f) := by
    have : (sl + 1) * (3 + 2 * f) ≤ (s + 1) * (3 + 2 * f) := Int.mul_le_mul_of_nonneg_right (by omega) (by omega)
    rw [Int.add_mul, Int.one_mul] at this
    exact this
  have h3 : (s + 1) * (3 + 2 * f) ≤ 1001 * 131 := Int.mul_le_mul (by omega) (by omega) (by omega) (by omega)
  unfold nB laySize
  omega
theorem nB_succ (t f sl : Int) : nB t f (sl + 1) = nB t f sl + (3 + 2 * f) := by
  unfold nB
  rw [Int.add_mul, Int.one_mul]
  omega
theorem nB_lt {t f a b : Int} (hf : 4 ≤ f) (h : a < b) : nB t f a + (3 + 2 * f) ≤ nB t f b := by
  unfold nB
  have : (a + 1) * (3 + 2 * f) ≤ b * (3 + 2 * f) := Int.mul_le_mul_of_nonneg_right (by omega) (by omega)
  rw [Int.add_mul, Int.one_mul] at this
  omega
set_option maxRecDepth 100000 in
set_option maxHeartbeats 4000000 in
theorem rnB_any (s t f l p sl : Int) (w : World) (hs : 1 ≤ s ∧ s ≤ 1000) (ht : 1 ≤ t ∧ t ≤ 64) (hf : 4 ≤ f ∧ f ≤ 64) (hsl : 0 ≤ sl ∧ sl ≤ s) :
    Calls Tryd.prog 41 #[.agg #[.int .i64 s, .int .i64 t, .int .i64 f, .int .i64 l, .int .i64 p], .int .i64 sl] w fun e w' => e = .returned (.int .i64 (nB t f sl)) ∧ Below w.heap.size w w' := by
  have b1 : 0 ≤ sl * (3 + 2 * f) := Int.mul_nonneg hsl.1 (by omega)
  have b2 : sl * (3 + 2 * f) ≤ 1000 * 131 := Int.mul_le_mul (by omega) (by omega) (by omega) (by omega)
  have e1 : IntKind.i64.wrap (3 * t) = 3 * t := IntWalk.i64_in _ (by omega)
  have e2 : IntKind.i64.wrap (3 + 3 * t) = 3 + 3 * t := IntWalk.i64_in _ (by omega)
  have e3 : IntKind.i64.wrap (2 * f) = 2 * f := IntWalk.i64_in _ (by omega)
  have e4 : IntKind.i64.wrap (3 + 2 * f) = 3 + 2 * f := IntWalk.i64_in _ (by omega)
  have e5 : IntKind.i64.wrap (sl * (3 + 2 * f)) = sl * (3 + 2 * f) := IntWalk.i64_in _ (by omega)
  have e6 : IntKind.i64.wrap (3 + 3 * t + sl * (3 + 2 * f)) = 3 + 3 * t + sl * (3 + 2 * f) := IntWalk.i64_in _ (by omega)
  have bx := Blk.new w 23 #[.int .i64 s, .int .i64 t, .int .i64 f, .int .i64 l, .int .i64 p]
  have B0 := (Below.refl w.heap.size w).alloc (Nat.le_refl _) (.cells #[.int .i64 s, .int .i64 t, .int .i64 f, .int .i64 l, .int .i64 p] 23)
  go_enter Tryd.func41, Tryd.ntmps41
  go_wp2_with fail
  go_ret
  exact ⟨rfl, B0⟩
set_option maxRecDepth 100000 in
set_option maxHeartbeats 4000000 in
theorem rver_any (s t f l p sl : Int) (w : World) (hs : 1 ≤ s ∧ s ≤ 1000) (ht : 1 ≤ t ∧ t ≤ 64) (hf : 4 ≤ f ∧ f ≤ 64) (hsl : 0 ≤ sl ∧ sl ≤ s) :
    Calls Tryd.prog 22 #[.agg #[.int .i64 s, .int .i64 t, .int .i64 f, .int .i64 l, .int .i64 p], .int .i64 sl] w fun e w' => e = .returned (.int .i64 (nB t f sl)) ∧ Below w.heap.size w w' := by
  have C := hide (fun w2 => rnB_any s t f l p sl w2 hs ht hf hsl)
  have b := nB_bd hs ht hf hsl
  generalize nB t f sl = q at *
  have bx := Blk.new w 23 #[.int .i64 s, .int .i64 t, .int .i64 f, .int .i64 l, .int .i64 p]
  have B0 := (Below.refl w.heap.size w).alloc (Nat.le_refl _) (.cells #[.int .i64 s, .int .i64 t, .int .i64 f, .int .i64 l, .int .i64 p] 23)
  go_enter Tryd.func22, Tryd.ntmps22
  go_wp2_with fail
  refine (C.out _).mono ?_
  rintro e w1 ⟨rfl, hb1⟩
  try replace bx := bx.below hb1 bx.lt
  try replace bo := bo.below hb1 bo.lt
  try replace by_ := by_.below hb1 by_.lt
  replace B0 := B0.trans (hb1.mono B0.size)
  clear hb1
  try clear mx lx
  try clear mo lo zo
  try clear my ly zy
  try have mx := fun i => bx.cell i
  try have lx := bx.lt
  try have mo := fun i => bo.cell i
  try have lo := bo.lt
  try have zo := fun i => bo.frozen i
  try have my := fun i => by_.cell i
  try have ly := by_.lt
  try have zy := fun i => by_.frozen i
  go_wp2_with fail
  go_ret
  exact ⟨rfl, B0⟩
set_option maxRecDepth 100000 in
set_option maxHeartbeats 4000000 in
theorem rshp_any (s t f l p sl : Int) (w : World) (hs : 1 ≤ s ∧ s ≤ 1000) (ht : 1 ≤ t ∧ t ≤ 64) (hf : 4 ≤ f ∧ f ≤ 64) (hsl : 0 ≤ sl ∧ sl ≤ s) :
    Calls Tryd.prog 19 #[.agg #[.int .i64 s, .int .i64 t, .int .i64 f, .int .i64 l, .int .i64 p], .int .i64 sl] w fun e w' => e = .returned (.int .i64 (nB t f sl + 1)) ∧ Below w.heap.size w w' := by
  have C := hide (fun w2 => rnB_any s t f l p sl w2 hs ht hf hsl)
  have b := nB_bd hs ht hf hsl
  generalize nB t f sl = q at *
  have e7 : IntKind.i64.wrap (q + 1) = q + 1 := IntWalk.i64_in _ (by omega)
  have bx := Blk.new w 23 #[.int .i64 s, .int .i64 t, .int .i64 f, .int .i64 l, .int .i64 p]
  have B0 := (Below.refl w.heap.size w).alloc (Nat.le_refl _) (.cells #[.int .i64 s, .int .i64 t, .int .i64 f, .int .i64 l, .int .i64 p] 23)
  go_enter Tryd.func19, Tryd.ntmps19
  go_wp2_with fail
  refine (C.out _).mono ?_
  rintro e w1 ⟨rfl, hb1⟩
  try replace bx := bx.below hb1 bx.lt
  try replace bo := bo.below hb1 bo.lt
  try replace by_ := by_.below hb1 by_.lt
  replace B0 := B0.trans (hb1.mono B0.size)
  clear hb1
  try clear mx lx
  try clear mo lo zo
  try clear my ly zy
  try have mx := fun i => bx.cell i
  try have lx := bx.lt
  try have mo := fun i => bo.cell i
  try have lo := bo.lt
  try have zo := fun i => bo.frozen i
  try have my := fun i => by_.cell i
  try have ly := by_.lt
  try have zy := fun i => by_.frozen i
  go_wp2_with fail
  go_ret
  exact ⟨rfl, B0⟩
set_option maxRecDepth 100000 in
set_option maxHeartbeats 4000000 in
theorem rlnkB_any (s t f l p sl : Int) (w : World) (hs : 1 ≤ s ∧ s ≤ 1000) (ht : 1 ≤ t ∧ t ≤ 64) (hf : 4 ≤ f ∧ f ≤ 64) (hsl : 0 ≤ sl ∧ sl ≤ s) :
    Calls Tryd.prog 23 #[.agg #[.int .i64 s, .int .i64 t, .int .i64 f, .int .i64 l, .int .i64 p], .int .i64 sl] w fun e w' => e = .returned (.int .i64 (nB t f sl + 2)) ∧ Below w.heap.size w w' := by
  have C := hide (fun w2 => rnB_any s t f l p sl w2 hs ht hf hsl)
  have b := nB_bd hs ht hf hsl
  generalize nB t f sl = q at *
  have e7 : IntKind.i64.wrap (q + 2) = q + 2 := IntWalk.i64_in _ (by omega)
  have bx := Blk.new w 23 #[.int .i64 s, .int .i64 t, .int .i64 f, .int .i64 l, .int .i64 p]
  have B0 := (Below.refl w.heap.size w).alloc (Nat.le_refl _) (.cells #[.int .i64 s, .int .i64 t, .int .i64 f, .int .i64 l, .int .i64 p] 23)
  go_enter Tryd.func23, Tryd.ntmps23
  go_wp2_with fail
  refine (C.out _).mono ?_
  rintro e w1 ⟨rfl, hb1⟩
  try replace bx := bx.below hb1 bx.lt
  try replace bo := bo.below hb1 bo.lt
  try replace by_ := by_.below hb1 by_.lt
  replace B0 := B0.trans (hb1.mono B0.size)
  clear hb1
  try clear mx lx
  try clear mo lo zo
  try clear my ly zy
  try have mx := fun i => bx.cell i
  try have lx := bx.lt
  try have mo := fun i => bo.cell i
  try have lo := bo.lt
  try have zo := fun i => bo.frozen i
  try have my := fun i => by_.cell i
  try have ly := by_.lt
  try have zy := fun i => by_.frozen i
  go_wp2_with fail
  go_ret
  exact ⟨rfl, B0⟩
set_option maxRecDepth 100000 in
set_option maxHeartbeats 4000000 in
theorem rval_any (s t f l p sl i : Int) (w : World) (hs : 1 ≤ s ∧ s ≤ 1000) (ht : 1 ≤ t ∧ t ≤ 64) (hf : 4 ≤ f ∧ f ≤ 64) (hsl : 0 ≤ sl ∧ sl ≤ s) (hi : 0 ≤ i ∧ i ≤ 1000) :
    Calls Tryd.prog 20 #[.agg #[.int .i64 s, .int .i64 t, .int .i64 f, .int .i64 l, .int .i64 p], .int .i64 sl, .int .i64 i] w fun e w' => e = .returned (.int .i64 (nB t f sl + 3 + f + i)) ∧ Below w.heap.size w w' := by
  have C := hide (fun w2 => rnB_any s t f l p sl w2 hs ht hf hsl)
  have b := nB_bd hs ht hf hsl
  generalize nB t f sl = q at *
  have e7 : IntKind.i64.wrap (q + 3) = q + 3 := IntWalk.i64_in _ (by omega)
  have e8 : IntKind.i64.wrap (q + 3 + f) = q + 3 + f := IntWalk.i64_in _ (by omega)
  have e9 : IntKind.i64.wrap (q + 3 + f + i) = q + 3 + f + i := IntWalk.i64_in _ (by omega)
  have bx := Blk.new w 23 #[.int .i64 s, .int .i64 t, .int .i64 f, .int .i64 l, .int .i64 p]
  have B0 := (Below.refl w.heap.size w).alloc (Nat.le_refl _) (.cells #[.int .i64 s, .int .i64 t, .int .i64 f, .int .i64 l, .int .i64 p] 23)
  go_enter Tryd.func20, Tryd.ntmps20
  go_wp2_with fail
  refine wp_region_heldZ [] (fun w' => w'.cell? ⟨w.heap.size, 0, none⟩ = some (.int .i64 s) ∧ w'.cell? ⟨w.heap.size, 1, none⟩ = some (.int .i64 t) ∧ w'.cell? ⟨w.heap.size, 2, none⟩ = some (.int .i64 f) ∧ w'.cell? ⟨w.heap.size, 3, none⟩ = some (.int .i64 l) ∧ w'.cell? ⟨w.heap.size, 4, none⟩ = some (.int .i64 p)) (by kernel_rfl) (by exact ⟨bx.cell 0, bx.cell 1, bx.cell 2, bx.cell 3, bx.cell 4⟩) (fun hHeld => ?_)
  replace bx := bx.drew
  replace B0 := B0.drew
  generalize (w.alloc (.cells #[.int .i64 s, .int .i64 t, .int .i64 f, .int .i64 l, .int .i64 p] 23)).drew = w0x at *
  refine' wpAnyZ_takeA (i := 0) (v := ?_) (opAt rfl) (by kernel_rfl) (by kernel_rfl) (by kernel_rfl) (by kernel_rfl) (fun _ _ _ h => h) (by assumption) (by rfl) (fun w hSw => ?_) ?_
  rotate_left
  · (try dsimp only at hSw); go_simp; (try with_reducible rfl)
  try simp only [Act.put, List.setIfInBounds_toArray, List.set_cons_zero, List.set_cons_succ]
  refine' wpAnyZ_takeA (i := 1) (v := ?_) (opAt rfl) (by kernel_rfl) (by kernel_rfl) (by kernel_rfl) (by kernel_rfl) (fun _ _ _ h => h) (by assumption) (by rfl) (fun w hSw => ?_) ?_
  rotate_left
  · (try dsimp only at hSw); go_simp; (try with_reducible rfl)
  try simp only [Act.put, List.setIfInBounds_toArray, List.set_cons_zero, List.set_cons_succ]
  refine' wpAnyZ_takeA (i := 4) (v := ?_) (opAt rfl) (by kernel_rfl) (by kernel_rfl) (by kernel_rfl) (by kernel_rfl) (fun _ _ _ h => h) (by assumption) (by rfl) (fun w hSw => ?_) ?_
  rotate_left
  · (try dsimp only at hSw); go_simp; (try with_reducible rfl)
  try simp only [Act.put, List.setIfInBounds_toArray, List.set_cons_zero, List.set_cons_succ]
  refine' wpAnyZ_takeA (i := 5) (v := ?_) (opAt rfl) (by kernel_rfl) (by kernel_rfl) (by kernel_rfl) (by kernel_rfl) (fun _ _ _ h => h) (by assumption) (by rfl) (fun w hSw => ?_) ?_
  rotate_left
  · (try dsimp only at hSw); go_simp; (try with_reducible rfl)
  try simp only [Act.put, List.setIfInBounds_toArray, List.set_cons_zero, List.set_cons_succ]
  refine' wpAnyZ_takeA (i := 7) (v := ?_) (opAt rfl) (by kernel_rfl) (by kernel_rfl) (by kernel_rfl) (by kernel_rfl) (fun _ _ _ h => h) (by assumption) (by rfl) (fun w hSw => ?_) ?_
  rotate_left
  · (try dsimp only at hSw); go_simp; (try with_reducible rfl)
  try simp only [Act.put, List.setIfInBounds_toArray, List.set_cons_zero, List.set_cons_succ]
  refine wpAnyZ_ready (rs := [2]) (by kernel_rfl) (by simp) ?_
  refine AllReadyZ.cons (opAt rfl) (fun K hK => ?_) ?_
  · skip
    go_simp
    refine (C.out _).mono ?_
    rintro e wc ⟨rfl, hb1⟩
    replace bx := bx.below hb1 bx.lt
    replace B0 := B0.trans (hb1.mono B0.size)
    clear hb1
    try go_wp2_with fail
    refine hK.out _ _ (by exact ⟨bx.cell 0, bx.cell 1, bx.cell 2, bx.cell 3, bx.cell 4⟩) (fun hHeld => ?_)
    clear hK K
    try simp only [Act.put, List.setIfInBounds_toArray, List.set_cons_zero, List.set_cons_succ]
    refine' wpAnyZ_takeA (i := 3) (v := ?_) (opAt rfl) (by kernel_rfl) (by kernel_rfl) (by kernel_rfl) (by kernel_rfl) (fun _ _ _ h => h) (by assumption) (by rfl) (fun w hSw => ?_) ?_
    rotate_left
    · (try dsimp only at hSw); go_simp; (try with_reducible rfl)
    try simp only [Act.put, List.setIfInBounds_toArray, List.set_cons_zero, List.set_cons_succ]
    refine' wpAnyZ_takeA (i := 6) (v := ?_) (opAt rfl) (by kernel_rfl) (by kernel_rfl) (by kernel_rfl) (by kernel_rfl) (fun _ _ _ h => h) (by assumption) (by rfl) (fun w hSw => ?_) ?_
    rotate_left
    · (try dsimp only at hSw); go_simp; (try with_reducible rfl)
    try simp only [Act.put, List.setIfInBounds_toArray, List.set_cons_zero, List.set_cons_succ]
    refine' wpAnyZ_takeA (i := 8) (v := ?_) (opAt rfl) (by kernel_rfl) (by kernel_rfl) (by kernel_rfl) (by kernel_rfl) (fun _ _ _ h => h) (by assumption) (by rfl) (fun w hSw => ?_) ?_
    rotate_left
    · (try dsimp only at hSw); go_simp; (try with_reducible rfl)
    try simp only [Act.put, List.setIfInBounds_toArray, List.set_cons_zero, List.set_cons_succ]
    refine' wpAnyZ_takeA (i := 9) (v := ?_) (opAt rfl) (by kernel_rfl) (by kernel_rfl) (by kernel_rfl) (by kernel_rfl) (fun _ _ _ h => h) (by assumption) (by rfl) (fun w hSw => ?_) ?_
    rotate_left
    · (try dsimp only at hSw); go_simp; (try with_reducible rfl)
    try simp only [Act.put, List.setIfInBounds_toArray, List.set_cons_zero, List.set_cons_succ]
    refine wpAnyZ_done (by kernel_rfl) ?_ _
    go_wp2_with fail
    go_ret
    exact ⟨rfl, B0⟩
  exact AllReadyZ.nil
theorem atpB_6 {s t f sl : Int} (hsl : 0 ≤ sl ∧ sl ≤ s) : atp s t f 6 sl 0 = nB t f sl := by
  unfold atp
  rw [if_neg (by omega), if_neg (by omega), if_neg (by omega)]
  unfold nod nodMany nodAt nB
  rw [if_neg (by simp; omega)]
  simp
theorem atpB_6no {s t f sl : Int} (hsl : sl < 0 ∨ s < sl) : atp s t f 6 sl 0 = -1 := by
  unfold atp
  rw [if_neg (by omega), if_neg (by omega), if_neg (by omega)]
  unfold nod
  rw [if_pos (by omega)]
theorem atpB_7 {s t f sl : Int} (hsl : 0 ≤ sl ∧ sl ≤ s) : atp s t f 7 sl 0 = nB t f sl + 1 := by
  unfold atp
  rw [if_neg (by omega), if_neg (by omega), if_neg (by omega)]
  unfold nod nodMany nodAt nB
  rw [if_neg (by simp; omega)]
  simp
theorem atpB_7no {s t f sl : Int} (hsl : sl < 0 ∨ s < sl) : atp s t f 7 sl 0 = -1 := by
  unfold atp
  rw [if_neg (by omega), if_neg (by omega), if_neg (by omega)]
  unfold nod
  rw [if_pos (by omega)]
theorem atpB_8 {s t f sl : Int} (hsl : 0 ≤ sl ∧ sl ≤ s) : atp s t f 8 sl 0 = nB t f sl + 2 := by
  unfold atp
  rw [if_neg (by omega), if_neg (by omega), if_neg (by omega)]
  unfold nod nodMany nodAt nB
  rw [if_neg (by simp; omega)]
  simp
theorem atpB_8no {s t f sl : Int} (hsl : sl < 0 ∨ s < sl) : atp s t f 8 sl 0 = -1 := by
  unfold atp
  rw [if_neg (by omega), if_neg (by omega), if_neg (by omega)]
  unfold nod
  rw [if_pos (by omega)]
theorem atpB_9 {s t f sl i : Int} (hsl : 0 ≤ sl ∧ sl ≤ s) (hi : 0 ≤ i ∧ i < f) : atp s t f 9 sl i = nB t f sl + 3 + i := by
  unfold atp
  rw [if_neg (by omega), if_neg (by omega), if_neg (by omega)]
  unfold nod nodMany nodAt nB
  rw [if_neg (by simp; omega)]
  simp
  try omega
theorem atpB_9no {s t f sl i : Int} (h : sl < 0 ∨ s < sl ∨ i < 0 ∨ f ≤ i) : atp s t f 9 sl i = -1 := by
  unfold atp
  rw [if_neg (by omega), if_neg (by omega), if_neg (by omega)]
  unfold nod nodMany
  rw [if_pos (by simp; omega)]
theorem atpB_10 {s t f sl i : Int} (hsl : 0 ≤ sl ∧ sl ≤ s) (hi : 0 ≤ i ∧ i < f) : atp s t f 10 sl i = nB t f sl + 3 + f + i := by
  unfold atp
  rw [if_neg (by omega), if_neg (by omega), if_neg (by omega)]
  unfold nod nodMany nodAt nB
  rw [if_neg (by simp; omega)]
  simp
  try omega
theorem atpB_10no {s t f sl i : Int} (h : sl < 0 ∨ s < sl ∨ i < 0 ∨ f ≤ i) : atp s t f 10 sl i = -1 := by
  unfold atp
  rw [if_neg (by omega), if_neg (by omega), if_neg (by omega)]
  unfold nod nodMany
  rw [if_pos (by simp; omega)]
end Go.Proofs.YteiidfklepjpmaaDoor

/-
  gleaningref08.Place.
-/
namespace Go.Proofs.YteiidfklepjpmaaDoor
open Go.RowKit

def PlA (t d : Int) (n i : Value) : Prop := ∃ k : Nat, (k : Int) ≤ t ∧ (k : Int) ≤ d ∧ n = .int .i64 (3 + k) ∧ i = .int .i64 k
def PlB (t d : Int) (n i : Value) : Prop := ∃ k : Nat, (k : Int) ≤ t ∧ (k : Int) ≤ d ∧ n = .int .i64 (3 + t + 2 * k) ∧ i = .int .i64 k
def PlC (b : Int) (P : Prop) (m : Int) (n i : Value) : Prop := ∃ j : Nat, (j : Int) ≤ 2 ∧ (P → (j : Int) ≤ m) ∧ n = .int .i64 (b + j) ∧ i = .int .i64 j
end Go.Proofs.YteiidfklepjpmaaDoor

/-
  Package layout: What.
-/
namespace Go.Proofs.YteiidfklepjpmaaDoor
open Go.RowKit
attribute [local go_sem] past_cell past_cell_add

end Go.Proofs.YteiidfklepjpmaaDoor

/-
  The Go functions LayoutTells, LayoutAsks, LayoutNames; the example.
-/
namespace Go.Proofs.YteiidfklepjpmaaDoor
open Go.RowKit
attribute [local go_sem] past_cell past_cell_add

theorem plc_zero {s t f a : Int} (hf : 4 ≤ f) : (plc s t f a).1 = 0 ↔ (a < 0 ∨ laySize s t f ≤ a) := by
  unfold plc
  by_cases c0 : a < 0 ∨ laySize s t f ≤ a
  · rw [if_pos c0]
    simp [c0]
  rw [if_neg c0]
  by_cases c1 : a < 3
  · rw [if_pos c1]
    simp only [c0, iff_false]
    omega
  rw [if_neg c1]
  by_cases c2 : a < 3 + t
  · rw [if_pos c2]
    simp [c0]
  rw [if_neg c2]
  by_cases c3 : a < 3 + 3 * t
  · rw [if_pos c3]
    simp [c0]
  rw [if_neg c3]
  have := Int.emod_nonneg (a - (3 + 3 * t)) (show 3 + 2 * f ≠ 0 by omega)
  split
  · simp only [c0, iff_false]
    omega
  · split <;> simp [c0]

end Go.Proofs.YteiidfklepjpmaaDoor

/-
  Package memory: has, Word, put, Do; gleaningref09.Do.
-/
namespace Go.Proofs.YteiidfklepjpmaaDoor
open Go.RowKit
attribute [local go_sem] past_cell past_cell_add

/-- A memory's words: of which slice, and how many. -/
def WordsAt (w : World) (gm : Nat) (A : Option Addr) (N : Nat) : Prop := w.cell? ⟨gm, 5, none⟩ = some (.slice A N N)
/-- There is no such word. -/
def NoWord (w : World) (m : Value) (a : Int) : Prop := m = .pointer none ∨ ∃ gm A N, m = .pointer (some ⟨gm, 0, none⟩) ∧ WordsAt w gm A N ∧ (a < 0 ∨ (0 ≤ a ∧ (N : Int) ≤ a))

theorem NoWord.below {w w' : World} {m : Value} {a : Int} (h : NoWord w m a) (hb : Below w.heap.size w w') : NoWord w' m a := by
  rcases h with rfl | ⟨gm, A, N, rfl, hc, h⟩
  · exact .inl rfl
  · exact .inr ⟨gm, A, N, rfl, keepCell hb hc, h⟩

/-- What an access does to words, and tells. -/
def wGet (l : List Int) (a : Int) : Int := if 0 ≤ a ∧ a < l.length then l.getD a.toNat 0 else 0
def wPut (l : List Int) (a x : Int) : List Int := if 0 ≤ a ∧ a < l.length then l.set a.toNat x else l
def mDo (l : List Int) (k a o n : Int) : Int × List Int :=
  if k = 1 then (wGet l a, l) else if k = 2 then (0, wPut l a n) else if k = 3 ∧ 0 ≤ a ∧ a < l.length ∧ wGet l a = o then (1, wPut l a n) else (0, l)
theorem wPut_len (l : List Int) (a x : Int) : (wPut l a x).length = l.length := by unfold wPut; split <;> simp
theorem mDo_len (l : List Int) (k a o n : Int) : (mDo l k a o n).2.length = l.length := by
  unfold mDo
  repeat' split
  all_goals simp [wPut_len]

def AllW64 (l : List Int) : Prop := ∀ x ∈ l, W64 x
theorem wPut_w64 {l : List Int} {a x : Int} (h : AllW64 l) (hx : W64 x) : AllW64 (wPut l a x) := by
  unfold wPut
  split
  · intro y hy
    rcases List.mem_or_eq_of_mem_set hy with hy | rfl
    · exact h y hy
    · exact hx
  · exact h
theorem mDo_w64 {l : List Int} {k a o n : Int} (h : AllW64 l) (hn : W64 n) : AllW64 (mDo l k a o n).2 := by
  unfold mDo
  repeat' split
  · exact h
  · exact wPut_w64 h hn
  · exact wPut_w64 h hn
  · exact h

section
variable {w w' : World} {gm gw : Nat} {s t f l p : Int} {ws : List Int}
theorem grown_below (hb : Below w.heap.size w w') (row : Option Nat) : w.grownBy w' row := ⟨hb.os, hb.tape, hb.output, hb.size, fun k hk _ => hb.block k hk⟩
theorem grown_set (w : World) (g j : Nat) (v : Value) : w.grownBy (w.setCell ⟨g, j, none⟩ v) (some g) :=
  ⟨rfl, rfl, rfl, by simp, fun k _ hk => Below.heap_setCell w ⟨g, j, none⟩ v k (fun e => hk (by rw [e]))⟩
end
theorem wGet_at {l : List Int} {j : Nat} (h : j < l.length) : wGet l j = l.getD j 0 := by
  unfold wGet
  rw [if_pos ⟨by omega, by omega⟩, Int.toNat_natCast]
theorem wPut_at {l : List Int} {j : Nat} {x : Int} (h : j < l.length) : wPut l j x = l.set j x := by
  unfold wPut
  rw [if_pos ⟨by omega, by omega⟩, Int.toNat_natCast]

theorem grown_trans {w w1 w2 : World} {row : Option Nat} (h1 : w.grownBy w1 row) (h2 : w1.grownBy w2 row) : w.grownBy w2 row :=
  ⟨h2.os.trans h1.os, h2.tape.trans h1.tape, h2.output.trans h1.output, Nat.le_trans h1.size h2.size, fun k hk hr => (h2.block k (Nat.lt_of_lt_of_le hk h1.size) hr).trans (h1.block k hk hr)⟩
theorem below_grown {B : Nat} {w0 w w' : World} {g : Nat} (hb : Below B w0 w) (hg : w.grownBy w' (some g)) (hB : B ≤ g) (hs : B ≤ w.heap.size) : Below B w0 w' :=
  ⟨hg.os.trans hb.os, hg.tape.trans hb.tape, hg.output.trans hb.output, Nat.le_trans hb.size hg.size, fun k hk => (hg.block k (Nat.lt_of_lt_of_le hk hs) (fun e => by injection e with e; omega)).trans (hb.block k hk)⟩
theorem below_drewN' {w w1 : World} (hb : Below w.heap.size w w1) (n : Nat) : Below w.heap.size w (w1.drewN n) := below_drewN hb n
end Go.Proofs.YteiidfklepjpmaaDoor

