/-
  Package layout: node, At.
-/
import Derived.Test.YtgcdmgpcfdfomaaDoorLay
namespace Go.Proofs.YtgcdmgpcfdfomaaDoor
open Go.RowKit
attribute [local go_sem] past_cell past_cell_add

set_option maxHeartbeats 1000000 in
theorem node_yes6 (s t f l p o i : Int) (w : World) (hs : 1 ≤ s ∧ s ≤ 1000) (ht : 1 ≤ t ∧ t ≤ 64) (hf : 4 ≤ f ∧ f ≤ 64) (ho : 0 ≤ o ∧ o < s + 1) (hi : 0 ≤ i ∧ i < 1) :
    Calls Tryd.prog 54 #[.agg #[.int .i64 s, .int .i64 t, .int .i64 f, .int .i64 l, .int .i64 p], .agg #[.int .i64 6, .int .i64 o, .int .i64 i]] w fun e w' => e = .returned (.int .i64 (3 + 3 * t + o * (3 + 2 * f) + i)) ∧ Below w.heap.size w w' := by
  have W1 := hide (fun w => within_t o (s + 1) w ho.1 ho.2)
  have W2 := hide (fun w => within_t i (1) w hi.1 hi.2)
  have H := hide (fun w => slots_any s t f l p w ht)
  have W := hide (fun w => width_any s t f l p w hf)
  have b1 : 0 ≤ o * (3 + 2 * f) := Int.mul_nonneg ho.1 (by omega)
  have b2 : o * (3 + 2 * f) ≤ 1000 * 131 := Int.mul_le_mul (by omega) (by omega) (by omega) (by omega)
  have h3 : IntKind.i64.wrap (o * (3 + 2 * f)) = o * (3 + 2 * f) := IntWalk.i64_in _ (by omega)
  have h4 : IntKind.i64.wrap (3 + 3 * t + o * (3 + 2 * f)) = 3 + 3 * t + o * (3 + 2 * f) := IntWalk.i64_in _ (by omega)
  have h5 : IntKind.i64.wrap (3 + 3 * t + o * (3 + 2 * f)) = 3 + 3 * t + o * (3 + 2 * f) := IntWalk.i64_in _ (by omega)
  have h6 : IntKind.i64.wrap (3 + 3 * t + o * (3 + 2 * f) + i) = 3 + 3 * t + o * (3 + 2 * f) + i := IntWalk.i64_in _ (by omega)
  have h7 : IntKind.i64.wrap (3 + f) = 3 + f := IntWalk.i64_in _ (by omega)
  obtain ⟨s1, s2⟩ := hs
  clear ho hi ht b1 b2
  go_enter Tryd.func54, Tryd.ntmps54
  go_wp2_with fail
  have bx := Blk.new w 37 #[.int .i64 s, .int .i64 t, .int .i64 f, .int .i64 l, .int .i64 p]
  have B0 := (Below.refl w.heap.size w).alloc (Nat.le_refl _) (.cells #[.int .i64 s, .int .i64 t, .int .i64 f, .int .i64 l, .int .i64 p] 37)
  have bo := Blk.new (w.alloc (.cells #[.int .i64 s, .int .i64 t, .int .i64 f, .int .i64 l, .int .i64 p] 37)) 71 #[.int .i64 6, .int .i64 o, .int .i64 i]
  replace bx := bx.alloc (.cells #[.int .i64 6, .int .i64 o, .int .i64 i] 71)
  replace B0 := B0.alloc B0.size (.cells #[.int .i64 6, .int .i64 o, .int .i64 i] 71)
  rw [World.size_alloc] at bo
  have lx := bx.lt
  have lo := bo.lt
  have mx := fun i => bx.cell i
  have mo := fun i => bo.cell i
  generalize (w.alloc (.cells #[.int .i64 s, .int .i64 t, .int .i64 f, .int .i64 l, .int .i64 p] 37)).alloc (.cells #[.int .i64 6, .int .i64 o, .int .i64 i] 71) = w1 at *
  refine (W1.out _).mono ?_
  rintro e w' ⟨rfl, rfl⟩
  go_wp2_with fail
  refine (W2.out _).mono ?_
  rintro e w' ⟨rfl, rfl⟩
  go_wp2_with fail
  refine wp_region_past (by kernel_rfl) (by kernel_rfl) ?_
  repeat (quiet_step ((first | ((first | (go_at_call 59; exact calls_past (H.out _)) | (go_at_call 60; exact calls_past (W.out _)))))))
  refine wpQuiet_nil ?_
  intro _ hw'
  obtain ⟨y, hw''⟩ := hw'
  subst hw''
  have hy := past_below w1 y
  go_wp2_with fail
  go_ret
  exact ⟨ret_int (by omega), B0.trans (hy.mono B0.size)⟩
set_option maxHeartbeats 1000000 in
theorem node_yes7 (s t f l p o i : Int) (w : World) (hs : 1 ≤ s ∧ s ≤ 1000) (ht : 1 ≤ t ∧ t ≤ 64) (hf : 4 ≤ f ∧ f ≤ 64) (ho : 0 ≤ o ∧ o < s + 1) (hi : 0 ≤ i ∧ i < 1) :
    Calls Tryd.prog 54 #[.agg #[.int .i64 s, .int .i64 t, .int .i64 f, .int .i64 l, .int .i64 p], .agg #[.int .i64 7, .int .i64 o, .int .i64 i]] w fun e w' => e = .returned (.int .i64 (3 + 3 * t + o * (3 + 2 * f)+ 1 + i)) ∧ Below w.heap.size w w' := by
  have W1 := hide (fun w => within_t o (s + 1) w ho.1 ho.2)
  have W2 := hide (fun w => within_t i (1) w hi.1 hi.2)
  have H := hide (fun w => slots_any s t f l p w ht)
  have W := hide (fun w => width_any s t f l p w hf)
  have b1 : 0 ≤ o * (3 + 2 * f) := Int.mul_nonneg ho.1 (by omega)
  have b2 : o * (3 + 2 * f) ≤ 1000 * 131 := Int.mul_le_mul (by omega) (by omega) (by omega) (by omega)
  have h3 : IntKind.i64.wrap (o * (3 + 2 * f)) = o * (3 + 2 * f) := IntWalk.i64_in _ (by omega)
  have h4 : IntKind.i64.wrap (3 + 3 * t + o * (3 + 2 * f)) = 3 + 3 * t + o * (3 + 2 * f) := IntWalk.i64_in _ (by omega)
  have h5 : IntKind.i64.wrap (3 + 3 * t + o * (3 + 2 * f)+ 1) = 3 + 3 * t + o * (3 + 2 * f)+ 1 := IntWalk.i64_in _ (by omega)
  have h6 : IntKind.i64.wrap (3 + 3 * t + o * (3 + 2 * f)+ 1 + i) = 3 + 3 * t + o * (3 + 2 * f)+ 1 + i := IntWalk.i64_in _ (by omega)
  have h7 : IntKind.i64.wrap (3 + f) = 3 + f := IntWalk.i64_in _ (by omega)
  obtain ⟨s1, s2⟩ := hs
  clear ho hi ht b1 b2
  go_enter Tryd.func54, Tryd.ntmps54
  go_wp2_with fail
  have bx := Blk.new w 37 #[.int .i64 s, .int .i64 t, .int .i64 f, .int .i64 l, .int .i64 p]
  have B0 := (Below.refl w.heap.size w).alloc (Nat.le_refl _) (.cells #[.int .i64 s, .int .i64 t, .int .i64 f, .int .i64 l, .int .i64 p] 37)
  have bo := Blk.new (w.alloc (.cells #[.int .i64 s, .int .i64 t, .int .i64 f, .int .i64 l, .int .i64 p] 37)) 71 #[.int .i64 7, .int .i64 o, .int .i64 i]
  replace bx := bx.alloc (.cells #[.int .i64 7, .int .i64 o, .int .i64 i] 71)
  replace B0 := B0.alloc B0.size (.cells #[.int .i64 7, .int .i64 o, .int .i64 i] 71)
  rw [World.size_alloc] at bo
  have lx := bx.lt
  have lo := bo.lt
  have mx := fun i => bx.cell i
  have mo := fun i => bo.cell i
  generalize (w.alloc (.cells #[.int .i64 s, .int .i64 t, .int .i64 f, .int .i64 l, .int .i64 p] 37)).alloc (.cells #[.int .i64 7, .int .i64 o, .int .i64 i] 71) = w1 at *
  refine (W1.out _).mono ?_
  rintro e w' ⟨rfl, rfl⟩
  go_wp2_with fail
  refine (W2.out _).mono ?_
  rintro e w' ⟨rfl, rfl⟩
  go_wp2_with fail
  refine wp_region_past (by kernel_rfl) (by kernel_rfl) ?_
  repeat (quiet_step ((first | ((first | (go_at_call 59; exact calls_past (H.out _)) | (go_at_call 60; exact calls_past (W.out _)))))))
  refine wpQuiet_nil ?_
  intro _ hw'
  obtain ⟨y, hw''⟩ := hw'
  subst hw''
  have hy := past_below w1 y
  go_wp2_with fail
  go_ret
  exact ⟨ret_int (by omega), B0.trans (hy.mono B0.size)⟩
set_option maxHeartbeats 1000000 in
theorem node_yes8 (s t f l p o i : Int) (w : World) (hs : 1 ≤ s ∧ s ≤ 1000) (ht : 1 ≤ t ∧ t ≤ 64) (hf : 4 ≤ f ∧ f ≤ 64) (ho : 0 ≤ o ∧ o < s + 1) (hi : 0 ≤ i ∧ i < 1) :
    Calls Tryd.prog 54 #[.agg #[.int .i64 s, .int .i64 t, .int .i64 f, .int .i64 l, .int .i64 p], .agg #[.int .i64 8, .int .i64 o, .int .i64 i]] w fun e w' => e = .returned (.int .i64 (3 + 3 * t + o * (3 + 2 * f)+ 2 + i)) ∧ Below w.heap.size w w' := by
  have W1 := hide (fun w => within_t o (s + 1) w ho.1 ho.2)
  have W2 := hide (fun w => within_t i (1) w hi.1 hi.2)
  have H := hide (fun w => slots_any s t f l p w ht)
  have W := hide (fun w => width_any s t f l p w hf)
  have b1 : 0 ≤ o * (3 + 2 * f) := Int.mul_nonneg ho.1 (by omega)
  have b2 : o * (3 + 2 * f) ≤ 1000 * 131 := Int.mul_le_mul (by omega) (by omega) (by omega) (by omega)
  have h3 : IntKind.i64.wrap (o * (3 + 2 * f)) = o * (3 + 2 * f) := IntWalk.i64_in _ (by omega)
  have h4 : IntKind.i64.wrap (3 + 3 * t + o * (3 + 2 * f)) = 3 + 3 * t + o * (3 + 2 * f) := IntWalk.i64_in _ (by omega)
  have h5 : IntKind.i64.wrap (3 + 3 * t + o * (3 + 2 * f)+ 2) = 3 + 3 * t + o * (3 + 2 * f)+ 2 := IntWalk.i64_in _ (by omega)
  have h6 : IntKind.i64.wrap (3 + 3 * t + o * (3 + 2 * f)+ 2 + i) = 3 + 3 * t + o * (3 + 2 * f)+ 2 + i := IntWalk.i64_in _ (by omega)
  have h7 : IntKind.i64.wrap (3 + f) = 3 + f := IntWalk.i64_in _ (by omega)
  obtain ⟨s1, s2⟩ := hs
  clear ho hi ht b1 b2
  go_enter Tryd.func54, Tryd.ntmps54
  go_wp2_with fail
  have bx := Blk.new w 37 #[.int .i64 s, .int .i64 t, .int .i64 f, .int .i64 l, .int .i64 p]
  have B0 := (Below.refl w.heap.size w).alloc (Nat.le_refl _) (.cells #[.int .i64 s, .int .i64 t, .int .i64 f, .int .i64 l, .int .i64 p] 37)
  have bo := Blk.new (w.alloc (.cells #[.int .i64 s, .int .i64 t, .int .i64 f, .int .i64 l, .int .i64 p] 37)) 71 #[.int .i64 8, .int .i64 o, .int .i64 i]
  replace bx := bx.alloc (.cells #[.int .i64 8, .int .i64 o, .int .i64 i] 71)
  replace B0 := B0.alloc B0.size (.cells #[.int .i64 8, .int .i64 o, .int .i64 i] 71)
  rw [World.size_alloc] at bo
  have lx := bx.lt
  have lo := bo.lt
  have mx := fun i => bx.cell i
  have mo := fun i => bo.cell i
  generalize (w.alloc (.cells #[.int .i64 s, .int .i64 t, .int .i64 f, .int .i64 l, .int .i64 p] 37)).alloc (.cells #[.int .i64 8, .int .i64 o, .int .i64 i] 71) = w1 at *
  refine (W1.out _).mono ?_
  rintro e w' ⟨rfl, rfl⟩
  go_wp2_with fail
  refine (W2.out _).mono ?_
  rintro e w' ⟨rfl, rfl⟩
  go_wp2_with fail
  refine wp_region_past (by kernel_rfl) (by kernel_rfl) ?_
  repeat (quiet_step ((first | ((first | (go_at_call 59; exact calls_past (H.out _)) | (go_at_call 60; exact calls_past (W.out _)))))))
  refine wpQuiet_nil ?_
  intro _ hw'
  obtain ⟨y, hw''⟩ := hw'
  subst hw''
  have hy := past_below w1 y
  go_wp2_with fail
  go_ret
  exact ⟨ret_int (by omega), B0.trans (hy.mono B0.size)⟩
set_option maxHeartbeats 1000000 in
theorem node_yes9 (s t f l p o i : Int) (w : World) (hs : 1 ≤ s ∧ s ≤ 1000) (ht : 1 ≤ t ∧ t ≤ 64) (hf : 4 ≤ f ∧ f ≤ 64) (ho : 0 ≤ o ∧ o < s + 1) (hi : 0 ≤ i ∧ i < f) :
    Calls Tryd.prog 54 #[.agg #[.int .i64 s, .int .i64 t, .int .i64 f, .int .i64 l, .int .i64 p], .agg #[.int .i64 9, .int .i64 o, .int .i64 i]] w fun e w' => e = .returned (.int .i64 (3 + 3 * t + o * (3 + 2 * f)+ 3 + i)) ∧ Below w.heap.size w w' := by
  have W1 := hide (fun w => within_t o (s + 1) w ho.1 ho.2)
  have W2 := hide (fun w => within_t i (f) w hi.1 hi.2)
  have H := hide (fun w => slots_any s t f l p w ht)
  have W := hide (fun w => width_any s t f l p w hf)
  have b1 : 0 ≤ o * (3 + 2 * f) := Int.mul_nonneg ho.1 (by omega)
  have b2 : o * (3 + 2 * f) ≤ 1000 * 131 := Int.mul_le_mul (by omega) (by omega) (by omega) (by omega)
  have h3 : IntKind.i64.wrap (o * (3 + 2 * f)) = o * (3 + 2 * f) := IntWalk.i64_in _ (by omega)
  have h4 : IntKind.i64.wrap (3 + 3 * t + o * (3 + 2 * f)) = 3 + 3 * t + o * (3 + 2 * f) := IntWalk.i64_in _ (by omega)
  have h5 : IntKind.i64.wrap (3 + 3 * t + o * (3 + 2 * f)+ 3) = 3 + 3 * t + o * (3 + 2 * f)+ 3 := IntWalk.i64_in _ (by omega)
  have h6 : IntKind.i64.wrap (3 + 3 * t + o * (3 + 2 * f)+ 3 + i) = 3 + 3 * t + o * (3 + 2 * f)+ 3 + i := IntWalk.i64_in _ (by omega)
  have h7 : IntKind.i64.wrap (3 + f) = 3 + f := IntWalk.i64_in _ (by omega)
  obtain ⟨s1, s2⟩ := hs
  clear ho hi ht b1 b2
  go_enter Tryd.func54, Tryd.ntmps54
  go_wp2_with fail
  have bx := Blk.new w 37 #[.int .i64 s, .int .i64 t, .int .i64 f, .int .i64 l, .int .i64 p]
  have B0 := (Below.refl w.heap.size w).alloc (Nat.le_refl _) (.cells #[.int .i64 s, .int .i64 t, .int .i64 f, .int .i64 l, .int .i64 p] 37)
  have bo := Blk.new (w.alloc (.cells #[.int .i64 s, .int .i64 t, .int .i64 f, .int .i64 l, .int .i64 p] 37)) 71 #[.int .i64 9, .int .i64 o, .int .i64 i]
  replace bx := bx.alloc (.cells #[.int .i64 9, .int .i64 o, .int .i64 i] 71)
  replace B0 := B0.alloc B0.size (.cells #[.int .i64 9, .int .i64 o, .int .i64 i] 71)
  rw [World.size_alloc] at bo
  have lx := bx.lt
  have lo := bo.lt
  have mx := fun i => bx.cell i
  have mo := fun i => bo.cell i
  generalize (w.alloc (.cells #[.int .i64 s, .int .i64 t, .int .i64 f, .int .i64 l, .int .i64 p] 37)).alloc (.cells #[.int .i64 9, .int .i64 o, .int .i64 i] 71) = w1 at *
  refine wp_region_past (by kernel_rfl) (by kernel_rfl) ?_
  repeat (quiet_step ((first | fail)))
  refine wpQuiet_nil ?_
  intro _ hw'
  obtain ⟨y, hw''⟩ := hw'
  subst hw''
  have hy := past_below w1 y
  replace bx := bx.below hy bx.lt
  replace bo := bo.below hy bo.lt
  replace B0 := B0.trans (hy.mono B0.size)
  clear hy mx mo lx lo
  generalize past w1 y = w2 at *
  have lx := bx.lt
  have lo := bo.lt
  have mx := fun i => bx.cell i
  have mo := fun i => bo.cell i
  go_wp2_with fail
  refine (W1.out _).mono ?_
  rintro e w' ⟨rfl, rfl⟩
  go_wp2_with fail
  refine (W2.out _).mono ?_
  rintro e w' ⟨rfl, rfl⟩
  go_wp2_with fail
  refine wp_region_past (by kernel_rfl) (by kernel_rfl) ?_
  repeat (quiet_step ((first | ((first | (go_at_call 59; exact calls_past (H.out _)) | (go_at_call 60; exact calls_past (W.out _)))))))
  refine wpQuiet_nil ?_
  intro _ hw'
  obtain ⟨y, hw''⟩ := hw'
  subst hw''
  have hy := past_below w2 y
  go_wp2_with fail
  go_ret
  exact ⟨ret_int (by omega), B0.trans (hy.mono B0.size)⟩
set_option maxHeartbeats 1000000 in
theorem node_yes10 (s t f l p o i : Int) (w : World) (hs : 1 ≤ s ∧ s ≤ 1000) (ht : 1 ≤ t ∧ t ≤ 64) (hf : 4 ≤ f ∧ f ≤ 64) (ho : 0 ≤ o ∧ o < s + 1) (hi : 0 ≤ i ∧ i < f) :
    Calls Tryd.prog 54 #[.agg #[.int .i64 s, .int .i64 t, .int .i64 f, .int .i64 l, .int .i64 p], .agg #[.int .i64 10, .int .i64 o, .int .i64 i]] w fun e w' => e = .returned (.int .i64 (3 + 3 * t + o * (3 + 2 * f)+ (3 + f) + i)) ∧ Below w.heap.size w w' := by
  have W1 := hide (fun w => within_t o (s + 1) w ho.1 ho.2)
  have W2 := hide (fun w => within_t i (f) w hi.1 hi.2)
  have H := hide (fun w => slots_any s t f l p w ht)
  have W := hide (fun w => width_any s t f l p w hf)
  have b1 : 0 ≤ o * (3 + 2 * f) := Int.mul_nonneg ho.1 (by omega)
  have b2 : o * (3 + 2 * f) ≤ 1000 * 131 := Int.mul_le_mul (by omega) (by omega) (by omega) (by omega)
  have h3 : IntKind.i64.wrap (o * (3 + 2 * f)) = o * (3 + 2 * f) := IntWalk.i64_in _ (by omega)
  have h4 : IntKind.i64.wrap (3 + 3 * t + o * (3 + 2 * f)) = 3 + 3 * t + o * (3 + 2 * f) := IntWalk.i64_in _ (by omega)
  have h5 : IntKind.i64.wrap (3 + 3 * t + o * (3 + 2 * f)+ (3 + f)) = 3 + 3 * t + o * (3 + 2 * f)+ (3 + f) := IntWalk.i64_in _ (by omega)
  have h6 : IntKind.i64.wrap (3 + 3 * t + o * (3 + 2 * f)+ (3 + f) + i) = 3 + 3 * t + o * (3 + 2 * f)+ (3 + f) + i := IntWalk.i64_in _ (by omega)
  have h7 : IntKind.i64.wrap (3 + f) = 3 + f := IntWalk.i64_in _ (by omega)
  obtain ⟨s1, s2⟩ := hs
  clear ho hi ht b1 b2
  go_enter Tryd.func54, Tryd.ntmps54
  go_wp2_with fail
  have bx := Blk.new w 37 #[.int .i64 s, .int .i64 t, .int .i64 f, .int .i64 l, .int .i64 p]
  have B0 := (Below.refl w.heap.size w).alloc (Nat.le_refl _) (.cells #[.int .i64 s, .int .i64 t, .int .i64 f, .int .i64 l, .int .i64 p] 37)
  have bo := Blk.new (w.alloc (.cells #[.int .i64 s, .int .i64 t, .int .i64 f, .int .i64 l, .int .i64 p] 37)) 71 #[.int .i64 10, .int .i64 o, .int .i64 i]
  replace bx := bx.alloc (.cells #[.int .i64 10, .int .i64 o, .int .i64 i] 71)
  replace B0 := B0.alloc B0.size (.cells #[.int .i64 10, .int .i64 o, .int .i64 i] 71)
  rw [World.size_alloc] at bo
  have lx := bx.lt
  have lo := bo.lt
  have mx := fun i => bx.cell i
  have mo := fun i => bo.cell i
  generalize (w.alloc (.cells #[.int .i64 s, .int .i64 t, .int .i64 f, .int .i64 l, .int .i64 p] 37)).alloc (.cells #[.int .i64 10, .int .i64 o, .int .i64 i] 71) = w1 at *
  refine wp_region_past (by kernel_rfl) (by kernel_rfl) ?_
  repeat (quiet_step ((first | fail)))
  refine wpQuiet_nil ?_
  intro _ hw'
  obtain ⟨y, hw''⟩ := hw'
  subst hw''
  have hy := past_below w1 y
  replace bx := bx.below hy bx.lt
  replace bo := bo.below hy bo.lt
  replace B0 := B0.trans (hy.mono B0.size)
  clear hy mx mo lx lo
  generalize past w1 y = w2 at *
  have lx := bx.lt
  have lo := bo.lt
  have mx := fun i => bx.cell i
  have mo := fun i => bo.cell i
  go_wp2_with fail
  refine (W1.out _).mono ?_
  rintro e w' ⟨rfl, rfl⟩
  go_wp2_with fail
  refine (W2.out _).mono ?_
  rintro e w' ⟨rfl, rfl⟩
  go_wp2_with fail
  refine wp_region_past (by kernel_rfl) (by kernel_rfl) ?_
  repeat (quiet_step ((first | ((first | (go_at_call 59; exact calls_past (H.out _)) | (go_at_call 60; exact calls_past (W.out _)))))))
  refine wpQuiet_nil ?_
  intro _ hw'
  obtain ⟨y, hw''⟩ := hw'
  subst hw''
  have hy := past_below w2 y
  go_wp2_with fail
  go_ret
  exact ⟨ret_int (by omega), B0.trans (hy.mono B0.size)⟩

set_option maxHeartbeats 1000000 in
theorem node_no6 (s t f l p o i : Int) (w : World) (hs : 1 ≤ s ∧ s ≤ 1000) (hf : 4 ≤ f ∧ f ≤ 64) (h : o < 0 ∨ s + 1 ≤ o ∨ i < 0 ∨ 1 ≤ i) :
    Calls Tryd.prog 54 #[.agg #[.int .i64 s, .int .i64 t, .int .i64 f, .int .i64 l, .int .i64 p], .agg #[.int .i64 6, .int .i64 o, .int .i64 i]] w fun e w' => e = .returned (.int .i64 (-1)) ∧ Below w.heap.size w w' := by
  have h7 : IntKind.i64.wrap (3 + f) = 3 + f := IntWalk.i64_in _ (by omega)
  obtain ⟨s1, s2⟩ := hs
  by_cases c : o < 0 ∨ s + 1 ≤ o
  · have W1 := hide (fun w => within_f o (s + 1) w c)
    clear h c
    go_enter Tryd.func54, Tryd.ntmps54
    go_wp2_with fail
    have bx := Blk.new w 37 #[.int .i64 s, .int .i64 t, .int .i64 f, .int .i64 l, .int .i64 p]
    have B0 := (Below.refl w.heap.size w).alloc (Nat.le_refl _) (.cells #[.int .i64 s, .int .i64 t, .int .i64 f, .int .i64 l, .int .i64 p] 37)
    have bo := Blk.new (w.alloc (.cells #[.int .i64 s, .int .i64 t, .int .i64 f, .int .i64 l, .int .i64 p] 37)) 71 #[.int .i64 6, .int .i64 o, .int .i64 i]
    replace bx := bx.alloc (.cells #[.int .i64 6, .int .i64 o, .int .i64 i] 71)
    replace B0 := B0.alloc B0.size (.cells #[.int .i64 6, .int .i64 o, .int .i64 i] 71)
    rw [World.size_alloc] at bo
    have lx := bx.lt
    have lo := bo.lt
    have mx := fun i => bx.cell i
    have mo := fun i => bo.cell i
    generalize (w.alloc (.cells #[.int .i64 s, .int .i64 t, .int .i64 f, .int .i64 l, .int .i64 p] 37)).alloc (.cells #[.int .i64 6, .int .i64 o, .int .i64 i] 71) = w1 at *

    refine (W1.out _).mono ?_
    rintro e w' ⟨rfl, rfl⟩
    go_wp2_with fail
    go_ret
    exact ⟨rfl, B0⟩
  · have W1 := hide (fun w => within_t o (s + 1) w (by omega) (by omega))
    have W2 := hide (fun w => within_f i (1) w (by omega))
    clear h c
    go_enter Tryd.func54, Tryd.ntmps54
    go_wp2_with fail
    have bx := Blk.new w 37 #[.int .i64 s, .int .i64 t, .int .i64 f, .int .i64 l, .int .i64 p]
    have B0 := (Below.refl w.heap.size w).alloc (Nat.le_refl _) (.cells #[.int .i64 s, .int .i64 t, .int .i64 f, .int .i64 l, .int .i64 p] 37)
    have bo := Blk.new (w.alloc (.cells #[.int .i64 s, .int .i64 t, .int .i64 f, .int .i64 l, .int .i64 p] 37)) 71 #[.int .i64 6, .int .i64 o, .int .i64 i]
    replace bx := bx.alloc (.cells #[.int .i64 6, .int .i64 o, .int .i64 i] 71)
    replace B0 := B0.alloc B0.size (.cells #[.int .i64 6, .int .i64 o, .int .i64 i] 71)
    rw [World.size_alloc] at bo
    have lx := bx.lt
    have lo := bo.lt
    have mx := fun i => bx.cell i
    have mo := fun i => bo.cell i
    generalize (w.alloc (.cells #[.int .i64 s, .int .i64 t, .int .i64 f, .int .i64 l, .int .i64 p] 37)).alloc (.cells #[.int .i64 6, .int .i64 o, .int .i64 i] 71) = w1 at *

    refine (W1.out _).mono ?_
    rintro e w' ⟨rfl, rfl⟩
    go_wp2_with fail
    refine (W2.out _).mono ?_
    rintro e w' ⟨rfl, rfl⟩
    go_wp2_with fail
    go_ret
    exact ⟨rfl, B0⟩
set_option maxHeartbeats 1000000 in
theorem node_no7 (s t f l p o i : Int) (w : World) (hs : 1 ≤ s ∧ s ≤ 1000) (hf : 4 ≤ f ∧ f ≤ 64) (h : o < 0 ∨ s + 1 ≤ o ∨ i < 0 ∨ 1 ≤ i) :
    Calls Tryd.prog 54 #[.agg #[.int .i64 s, .int .i64 t, .int .i64 f, .int .i64 l, .int .i64 p], .agg #[.int .i64 7, .int .i64 o, .int .i64 i]] w fun e w' => e = .returned (.int .i64 (-1)) ∧ Below w.heap.size w w' := by
  have h7 : IntKind.i64.wrap (3 + f) = 3 + f := IntWalk.i64_in _ (by omega)
  obtain ⟨s1, s2⟩ := hs
  by_cases c : o < 0 ∨ s + 1 ≤ o
  · have W1 := hide (fun w => within_f o (s + 1) w c)
    clear h c
    go_enter Tryd.func54, Tryd.ntmps54
    go_wp2_with fail
    have bx := Blk.new w 37 #[.int .i64 s, .int .i64 t, .int .i64 f, .int .i64 l, .int .i64 p]
    have B0 := (Below.refl w.heap.size w).alloc (Nat.le_refl _) (.cells #[.int .i64 s, .int .i64 t, .int .i64 f, .int .i64 l, .int .i64 p] 37)
    have bo := Blk.new (w.alloc (.cells #[.int .i64 s, .int .i64 t, .int .i64 f, .int .i64 l, .int .i64 p] 37)) 71 #[.int .i64 7, .int .i64 o, .int .i64 i]
    replace bx := bx.alloc (.cells #[.int .i64 7, .int .i64 o, .int .i64 i] 71)
    replace B0 := B0.alloc B0.size (.cells #[.int .i64 7, .int .i64 o, .int .i64 i] 71)
    rw [World.size_alloc] at bo
    have lx := bx.lt
    have lo := bo.lt
    have mx := fun i => bx.cell i
    have mo := fun i => bo.cell i
    generalize (w.alloc (.cells #[.int .i64 s, .int .i64 t, .int .i64 f, .int .i64 l, .int .i64 p] 37)).alloc (.cells #[.int .i64 7, .int .i64 o, .int .i64 i] 71) = w1 at *

    refine (W1.out _).mono ?_
    rintro e w' ⟨rfl, rfl⟩
    go_wp2_with fail
    go_ret
    exact ⟨rfl, B0⟩
  · have W1 := hide (fun w => within_t o (s + 1) w (by omega) (by omega))
    have W2 := hide (fun w => within_f i (1) w (by omega))
    clear h c
    go_enter Tryd.func54, Tryd.ntmps54
    go_wp2_with fail
    have bx := Blk.new w 37 #[.int .i64 s, .int .i64 t, .int .i64 f, .int .i64 l, .int .i64 p]
    have B0 := (Below.refl w.heap.size w).alloc (Nat.le_refl _) (.cells #[.int .i64 s, .int .i64 t, .int .i64 f, .int .i64 l, .int .i64 p] 37)
    have bo := Blk.new (w.alloc (.cells #[.int .i64 s, .int .i64 t, .int .i64 f, .int .i64 l, .int .i64 p] 37)) 71 #[.int .i64 7, .int .i64 o, .int .i64 i]
    replace bx := bx.alloc (.cells #[.int .i64 7, .int .i64 o, .int .i64 i] 71)
    replace B0 := B0.alloc B0.size (.cells #[.int .i64 7, .int .i64 o, .int .i64 i] 71)
    rw [World.size_alloc] at bo
    have lx := bx.lt
    have lo := bo.lt
    have mx := fun i => bx.cell i
    have mo := fun i => bo.cell i
    generalize (w.alloc (.cells #[.int .i64 s, .int .i64 t, .int .i64 f, .int .i64 l, .int .i64 p] 37)).alloc (.cells #[.int .i64 7, .int .i64 o, .int .i64 i] 71) = w1 at *

    refine (W1.out _).mono ?_
    rintro e w' ⟨rfl, rfl⟩
    go_wp2_with fail
    refine (W2.out _).mono ?_
    rintro e w' ⟨rfl, rfl⟩
    go_wp2_with fail
    go_ret
    exact ⟨rfl, B0⟩
set_option maxHeartbeats 1000000 in
theorem node_no8 (s t f l p o i : Int) (w : World) (hs : 1 ≤ s ∧ s ≤ 1000) (hf : 4 ≤ f ∧ f ≤ 64) (h : o < 0 ∨ s + 1 ≤ o ∨ i < 0 ∨ 1 ≤ i) :
    Calls Tryd.prog 54 #[.agg #[.int .i64 s, .int .i64 t, .int .i64 f, .int .i64 l, .int .i64 p], .agg #[.int .i64 8, .int .i64 o, .int .i64 i]] w fun e w' => e = .returned (.int .i64 (-1)) ∧ Below w.heap.size w w' := by
  have h7 : IntKind.i64.wrap (3 + f) = 3 + f := IntWalk.i64_in _ (by omega)
  obtain ⟨s1, s2⟩ := hs
  by_cases c : o < 0 ∨ s + 1 ≤ o
  · have W1 := hide (fun w => within_f o (s + 1) w c)
    clear h c
    go_enter Tryd.func54, Tryd.ntmps54
    go_wp2_with fail
    have bx := Blk.new w 37 #[.int .i64 s, .int .i64 t, .int .i64 f, .int .i64 l, .int .i64 p]
    have B0 := (Below.refl w.heap.size w).alloc (Nat.le_refl _) (.cells #[.int .i64 s, .int .i64 t, .int .i64 f, .int .i64 l, .int .i64 p] 37)
    have bo := Blk.new (w.alloc (.cells #[.int .i64 s, .int .i64 t, .int .i64 f, .int .i64 l, .int .i64 p] 37)) 71 #[.int .i64 8, .int .i64 o, .int .i64 i]
    replace bx := bx.alloc (.cells #[.int .i64 8, .int .i64 o, .int .i64 i] 71)
    replace B0 := B0.alloc B0.size (.cells #[.int .i64 8, .int .i64 o, .int .i64 i] 71)
    rw [World.size_alloc] at bo
    have lx := bx.lt
    have lo := bo.lt
    have mx := fun i => bx.cell i
    have mo := fun i => bo.cell i
    generalize (w.alloc (.cells #[.int .i64 s, .int .i64 t, .int .i64 f, .int .i64 l, .int .i64 p] 37)).alloc (.cells #[.int .i64 8, .int .i64 o, .int .i64 i] 71) = w1 at *

    refine (W1.out _).mono ?_
    rintro e w' ⟨rfl, rfl⟩
    go_wp2_with fail
    go_ret
    exact ⟨rfl, B0⟩
  · have W1 := hide (fun w => within_t o (s + 1) w (by omega) (by omega))
    have W2 := hide (fun w => within_f i (1) w (by omega))
    clear h c
    go_enter Tryd.func54, Tryd.ntmps54
    go_wp2_with fail
    have bx := Blk.new w 37 #[.int .i64 s, .int .i64 t, .int .i64 f, .int .i64 l, .int .i64 p]
    have B0 := (Below.refl w.heap.size w).alloc (Nat.le_refl _) (.cells #[.int .i64 s, .int .i64 t, .int .i64 f, .int .i64 l, .int .i64 p] 37)
    have bo := Blk.new (w.alloc (.cells #[.int .i64 s, .int .i64 t, .int .i64 f, .int .i64 l, .int .i64 p] 37)) 71 #[.int .i64 8, .int .i64 o, .int .i64 i]
    replace bx := bx.alloc (.cells #[.int .i64 8, .int .i64 o, .int .i64 i] 71)
    replace B0 := B0.alloc B0.size (.cells #[.int .i64 8, .int .i64 o, .int .i64 i] 71)
    rw [World.size_alloc] at bo
    have lx := bx.lt
    have lo := bo.lt
    have mx := fun i => bx.cell i
    have mo := fun i => bo.cell i
    generalize (w.alloc (.cells #[.int .i64 s, .int .i64 t, .int .i64 f, .int .i64 l, .int .i64 p] 37)).alloc (.cells #[.int .i64 8, .int .i64 o, .int .i64 i] 71) = w1 at *

    refine (W1.out _).mono ?_
    rintro e w' ⟨rfl, rfl⟩
    go_wp2_with fail
    refine (W2.out _).mono ?_
    rintro e w' ⟨rfl, rfl⟩
    go_wp2_with fail
    go_ret
    exact ⟨rfl, B0⟩
set_option maxHeartbeats 1000000 in
theorem node_no9 (s t f l p o i : Int) (w : World) (hs : 1 ≤ s ∧ s ≤ 1000) (hf : 4 ≤ f ∧ f ≤ 64) (h : o < 0 ∨ s + 1 ≤ o ∨ i < 0 ∨ f ≤ i) :
    Calls Tryd.prog 54 #[.agg #[.int .i64 s, .int .i64 t, .int .i64 f, .int .i64 l, .int .i64 p], .agg #[.int .i64 9, .int .i64 o, .int .i64 i]] w fun e w' => e = .returned (.int .i64 (-1)) ∧ Below w.heap.size w w' := by
  have h7 : IntKind.i64.wrap (3 + f) = 3 + f := IntWalk.i64_in _ (by omega)
  obtain ⟨s1, s2⟩ := hs
  by_cases c : o < 0 ∨ s + 1 ≤ o
  · have W1 := hide (fun w => within_f o (s + 1) w c)
    clear h c
    go_enter Tryd.func54, Tryd.ntmps54
    go_wp2_with fail
    have bx := Blk.new w 37 #[.int .i64 s, .int .i64 t, .int .i64 f, .int .i64 l, .int .i64 p]
    have B0 := (Below.refl w.heap.size w).alloc (Nat.le_refl _) (.cells #[.int .i64 s, .int .i64 t, .int .i64 f, .int .i64 l, .int .i64 p] 37)
    have bo := Blk.new (w.alloc (.cells #[.int .i64 s, .int .i64 t, .int .i64 f, .int .i64 l, .int .i64 p] 37)) 71 #[.int .i64 9, .int .i64 o, .int .i64 i]
    replace bx := bx.alloc (.cells #[.int .i64 9, .int .i64 o, .int .i64 i] 71)
    replace B0 := B0.alloc B0.size (.cells #[.int .i64 9, .int .i64 o, .int .i64 i] 71)
    rw [World.size_alloc] at bo
    have lx := bx.lt
    have lo := bo.lt
    have mx := fun i => bx.cell i
    have mo := fun i => bo.cell i
    generalize (w.alloc (.cells #[.int .i64 s, .int .i64 t, .int .i64 f, .int .i64 l, .int .i64 p] 37)).alloc (.cells #[.int .i64 9, .int .i64 o, .int .i64 i] 71) = w1 at *
    refine wp_region_past (by kernel_rfl) (by kernel_rfl) ?_
    repeat (quiet_step ((first | fail)))
    refine wpQuiet_nil ?_
    intro _ hw'
    obtain ⟨y, hw''⟩ := hw'
    subst hw''
    have hy := past_below w1 y
    replace bx := bx.below hy bx.lt
    replace bo := bo.below hy bo.lt
    replace B0 := B0.trans (hy.mono B0.size)
    clear hy mx mo lx lo
    generalize past w1 y = w2 at *
    have lx := bx.lt
    have lo := bo.lt
    have mx := fun i => bx.cell i
    have mo := fun i => bo.cell i
    go_wp2_with fail
    refine (W1.out _).mono ?_
    rintro e w' ⟨rfl, rfl⟩
    go_wp2_with fail
    go_ret
    exact ⟨rfl, B0⟩
  · have W1 := hide (fun w => within_t o (s + 1) w (by omega) (by omega))
    have W2 := hide (fun w => within_f i (f) w (by omega))
    clear h c
    go_enter Tryd.func54, Tryd.ntmps54
    go_wp2_with fail
    have bx := Blk.new w 37 #[.int .i64 s, .int .i64 t, .int .i64 f, .int .i64 l, .int .i64 p]
    have B0 := (Below.refl w.heap.size w).alloc (Nat.le_refl _) (.cells #[.int .i64 s, .int .i64 t, .int .i64 f, .int .i64 l, .int .i64 p] 37)
    have bo := Blk.new (w.alloc (.cells #[.int .i64 s, .int .i64 t, .int .i64 f, .int .i64 l, .int .i64 p] 37)) 71 #[.int .i64 9, .int .i64 o, .int .i64 i]
    replace bx := bx.alloc (.cells #[.int .i64 9, .int .i64 o, .int .i64 i] 71)
    replace B0 := B0.alloc B0.size (.cells #[.int .i64 9, .int .i64 o, .int .i64 i] 71)
    rw [World.size_alloc] at bo
    have lx := bx.lt
    have lo := bo.lt
    have mx := fun i => bx.cell i
    have mo := fun i => bo.cell i
    generalize (w.alloc (.cells #[.int .i64 s, .int .i64 t, .int .i64 f, .int .i64 l, .int .i64 p] 37)).alloc (.cells #[.int .i64 9, .int .i64 o, .int .i64 i] 71) = w1 at *
    refine wp_region_past (by kernel_rfl) (by kernel_rfl) ?_
    repeat (quiet_step ((first | fail)))
    refine wpQuiet_nil ?_
    intro _ hw'
    obtain ⟨y, hw''⟩ := hw'
    subst hw''
    have hy := past_below w1 y
    replace bx := bx.below hy bx.lt
    replace bo := bo.below hy bo.lt
    replace B0 := B0.trans (hy.mono B0.size)
    clear hy mx mo lx lo
    generalize past w1 y = w2 at *
    have lx := bx.lt
    have lo := bo.lt
    have mx := fun i => bx.cell i
    have mo := fun i => bo.cell i
    go_wp2_with fail
    refine (W1.out _).mono ?_
    rintro e w' ⟨rfl, rfl⟩
    go_wp2_with fail
    refine (W2.out _).mono ?_
    rintro e w' ⟨rfl, rfl⟩
    go_wp2_with fail
    go_ret
    exact ⟨rfl, B0⟩
set_option maxHeartbeats 1000000 in
theorem node_no10 (s t f l p o i : Int) (w : World) (hs : 1 ≤ s ∧ s ≤ 1000) (hf : 4 ≤ f ∧ f ≤ 64) (h : o < 0 ∨ s + 1 ≤ o ∨ i < 0 ∨ f ≤ i) :
    Calls Tryd.prog 54 #[.agg #[.int .i64 s, .int .i64 t, .int .i64 f, .int .i64 l, .int .i64 p], .agg #[.int .i64 10, .int .i64 o, .int .i64 i]] w fun e w' => e = .returned (.int .i64 (-1)) ∧ Below w.heap.size w w' := by
  have h7 : IntKind.i64.wrap (3 + f) = 3 + f := IntWalk.i64_in _ (by omega)
  obtain ⟨s1, s2⟩ := hs
  by_cases c : o < 0 ∨ s + 1 ≤ o
  · have W1 := hide (fun w => within_f o (s + 1) w c)
    clear h c
    go_enter Tryd.func54, Tryd.ntmps54
    go_wp2_with fail
    have bx := Blk.new w 37 #[.int .i64 s, .int .i64 t, .int .i64 f, .int .i64 l, .int .i64 p]
    have B0 := (Below.refl w.heap.size w).alloc (Nat.le_refl _) (.cells #[.int .i64 s, .int .i64 t, .int .i64 f, .int .i64 l, .int .i64 p] 37)
    have bo := Blk.new (w.alloc (.cells #[.int .i64 s, .int .i64 t, .int .i64 f, .int .i64 l, .int .i64 p] 37)) 71 #[.int .i64 10, .int .i64 o, .int .i64 i]
    replace bx := bx.alloc (.cells #[.int .i64 10, .int .i64 o, .int .i64 i] 71)
    replace B0 := B0.alloc B0.size (.cells #[.int .i64 10, .int .i64 o, .int .i64 i] 71)
    rw [World.size_alloc] at bo
    have lx := bx.lt
    have lo := bo.lt
    have mx := fun i => bx.cell i
    have mo := fun i => bo.cell i
    generalize (w.alloc (.cells #[.int .i64 s, .int .i64 t, .int .i64 f, .int .i64 l, .int .i64 p] 37)).alloc (.cells #[.int .i64 10, .int .i64 o, .int .i64 i] 71) = w1 at *
    refine wp_region_past (by kernel_rfl) (by kernel_rfl) ?_
    repeat (quiet_step ((first | fail)))
    refine wpQuiet_nil ?_
    intro _ hw'
    obtain ⟨y, hw''⟩ := hw'
    subst hw''
    have hy := past_below w1 y
    replace bx := bx.below hy bx.lt
    replace bo := bo.below hy bo.lt
    replace B0 := B0.trans (hy.mono B0.size)
    clear hy mx mo lx lo
    generalize past w1 y = w2 at *
    have lx := bx.lt
    have lo := bo.lt
    have mx := fun i => bx.cell i
    have mo := fun i => bo.cell i
    go_wp2_with fail
    refine (W1.out _).mono ?_
    rintro e w' ⟨rfl, rfl⟩
    go_wp2_with fail
    go_ret
    exact ⟨rfl, B0⟩
  · have W1 := hide (fun w => within_t o (s + 1) w (by omega) (by omega))
    have W2 := hide (fun w => within_f i (f) w (by omega))
    clear h c
    go_enter Tryd.func54, Tryd.ntmps54
    go_wp2_with fail
    have bx := Blk.new w 37 #[.int .i64 s, .int .i64 t, .int .i64 f, .int .i64 l, .int .i64 p]
    have B0 := (Below.refl w.heap.size w).alloc (Nat.le_refl _) (.cells #[.int .i64 s, .int .i64 t, .int .i64 f, .int .i64 l, .int .i64 p] 37)
    have bo := Blk.new (w.alloc (.cells #[.int .i64 s, .int .i64 t, .int .i64 f, .int .i64 l, .int .i64 p] 37)) 71 #[.int .i64 10, .int .i64 o, .int .i64 i]
    replace bx := bx.alloc (.cells #[.int .i64 10, .int .i64 o, .int .i64 i] 71)
    replace B0 := B0.alloc B0.size (.cells #[.int .i64 10, .int .i64 o, .int .i64 i] 71)
    rw [World.size_alloc] at bo
    have lx := bx.lt
    have lo := bo.lt
    have mx := fun i => bx.cell i
    have mo := fun i => bo.cell i
    generalize (w.alloc (.cells #[.int .i64 s, .int .i64 t, .int .i64 f, .int .i64 l, .int .i64 p] 37)).alloc (.cells #[.int .i64 10, .int .i64 o, .int .i64 i] 71) = w1 at *
    refine wp_region_past (by kernel_rfl) (by kernel_rfl) ?_
    repeat (quiet_step ((first | fail)))
    refine wpQuiet_nil ?_
    intro _ hw'
    obtain ⟨y, hw''⟩ := hw'
    subst hw''
    have hy := past_below w1 y
    replace bx := bx.below hy bx.lt
    replace bo := bo.below hy bo.lt
    replace B0 := B0.trans (hy.mono B0.size)
    clear hy mx mo lx lo
    generalize past w1 y = w2 at *
    have lx := bx.lt
    have lo := bo.lt
    have mx := fun i => bx.cell i
    have mo := fun i => bo.cell i
    go_wp2_with fail
    refine (W1.out _).mono ?_
    rintro e w' ⟨rfl, rfl⟩
    go_wp2_with fail
    refine (W2.out _).mono ?_
    rintro e w' ⟨rfl, rfl⟩
    go_wp2_with fail
    go_ret
    exact ⟨rfl, B0⟩
set_option maxHeartbeats 1000000 in
theorem node_none (s t f l p k o i : Int) (w : World) (hk : k < 6 ∨ 10 < k) :
    Calls Tryd.prog 54 #[.agg #[.int .i64 s, .int .i64 t, .int .i64 f, .int .i64 l, .int .i64 p], .agg #[.int .i64 k, .int .i64 o, .int .i64 i]] w fun e w' => e = .returned (.int .i64 (-1)) ∧ Below w.heap.size w w' := by
  have k6 : (k == 6) = false := by rw [beq_eq_false_iff_ne]; omega
  have k7 : (k == 7) = false := by rw [beq_eq_false_iff_ne]; omega
  have k8 : (k == 8) = false := by rw [beq_eq_false_iff_ne]; omega
  have k9 : (k == 9) = false := by rw [beq_eq_false_iff_ne]; omega
  have k10 : (k == 10) = false := by rw [beq_eq_false_iff_ne]; omega
  clear hk
  go_enter Tryd.func54, Tryd.ntmps54
  go_wp2_with fail
  go_ret
  exact ⟨rfl, ((Below.refl _ _).alloc (Nat.le_refl _) _).alloc (by simp only [World.size_alloc]; omega) _⟩
/-- node, whatever the place. -/
theorem node_any (s t f l p k o i : Int) (w : World) (hs : 1 ≤ s ∧ s ≤ 1000) (ht : 1 ≤ t ∧ t ≤ 64) (hf : 4 ≤ f ∧ f ≤ 64) :
    Calls Tryd.prog 54 #[.agg #[.int .i64 s, .int .i64 t, .int .i64 f, .int .i64 l, .int .i64 p], .agg #[.int .i64 k, .int .i64 o, .int .i64 i]] w fun e w' => e = .returned (.int .i64 (nod s t f k o i)) ∧ Below w.heap.size w w' := by
  by_cases hk : k < 6 ∨ 10 < k
  · rw [show nod s t f k o i = -1 from if_pos (by omega)]
    exact node_none s t f l p k o i w hk
  have hk5 : k = 6 ∨ k = 7 ∨ k = 8 ∨ k = 9 ∨ k = 10 := by omega
  by_cases h : o < 0 ∨ s + 1 ≤ o ∨ i < 0 ∨ nodMany f k ≤ i
  · rw [show nod s t f k o i = -1 from if_pos (by omega)]
    rcases hk5 with rfl | rfl | rfl | rfl | rfl
    · exact node_no6 s t f l p o i w hs hf h
    · exact node_no7 s t f l p o i w hs hf h
    · exact node_no8 s t f l p o i w hs hf h
    · exact node_no9 s t f l p o i w hs hf h
    · exact node_no10 s t f l p o i w hs hf h
  · rw [show nod s t f k o i = 3 + 3 * t + o * (3 + 2 * f) + nodAt f k + i from if_neg (by omega)]
    have ho : 0 ≤ o ∧ o < s + 1 := by omega
    rcases hk5 with rfl | rfl | rfl | rfl | rfl
    · have := node_yes6 s t f l p o i w hs ht hf ho ⟨by omega, by have : ¬ (1 : Int) ≤ i := fun e => h (.inr (.inr (.inr e))); omega⟩
      rw [show nodAt f 6 = 0 from rfl, Int.add_zero]
      exact this
    · exact node_yes7 s t f l p o i w hs ht hf ho ⟨by omega, by have : ¬ (1 : Int) ≤ i := fun e => h (.inr (.inr (.inr e))); omega⟩
    · exact node_yes8 s t f l p o i w hs ht hf ho ⟨by omega, by have : ¬ (1 : Int) ≤ i := fun e => h (.inr (.inr (.inr e))); omega⟩
    · exact node_yes9 s t f l p o i w hs ht hf ho ⟨by omega, by have : ¬ f ≤ i := fun e => h (.inr (.inr (.inr e))); omega⟩
    · exact node_yes10 s t f l p o i w hs ht hf ho ⟨by omega, by have : ¬ f ≤ i := fun e => h (.inr (.inr (.inr e))); omega⟩
end Go.Proofs.YtgcdmgpcfdfomaaDoor
