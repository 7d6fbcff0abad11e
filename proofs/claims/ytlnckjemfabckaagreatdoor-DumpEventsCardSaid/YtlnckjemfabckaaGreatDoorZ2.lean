/-
  Package layout: node, At.
-/
import Derived.Test.YtlnckjemfabckaaGreatDoorZ1
import Derived.RegionTactic
import Derived.Deep.LoopGhost
import Derived.Deep.RegionWith
import Derived.Lib.SliceRun
import Derived.Lib.AppendZeros
import Derived.Deep.RegionHeld3
import Derived.Deep.OwnRows
import Derived.Laws.BitsAllLaws
import Derived.Laws.BitsLemmas
import Derived.WalkSpells
namespace Go.Proofs.YtlnckjemfabckaaGreatDoor
open Go.RowKit
attribute [local go_sem] past_cell past_cell_add

set_option maxHeartbeats 1000000 in
theorem node_yes6 (s t f l p o i : Int) (w : World) (hs : 1 ≤ s ∧ s ≤ 1000) (ht : 1 ≤ t ∧ t ≤ 64) (hf : 4 ≤ f ∧ f ≤ 64) (ho : 0 ≤ o ∧ o < s + 1) (hi : 0 ≤ i ∧ i < 1) :
    Calls Tryz.prog 74 #[.agg #[.int .i64 s, .int .i64 t, .int .i64 f, .int .i64 l, .int .i64 p], .agg #[.int .i64 6, .int .i64 o, .int .i64 i]] w fun e w' => e = .returned (.int .i64 (3 + 3 * t + o * (3 + 2 * f) + i)) ∧ Below w.heap.size w w' := by
  have W1 := hide (fun w => within_t o (s + 1) w ho.1 ho.2)
  have W2 := hide (fun w => within_t i (1) w hi.1 hi.2)
  have H := hide (fun w => slots_any s t f l p w ht)
  have W := hide (fun w => width_any s t f l p w hf)
  have b1 : 0 ≤ o * (3 + 2 * f) := Int.mul_nonneg ho.1 (by omega)
  have b2 : o * (3 + 2 * f) ≤ 1000 * 131 := Int.mul_le_mul (by omega) (by omega) (by omega) (by omega)
  have h3 : IntKind.i64.wrap (o * (3 + 2 * f)) = o * (3 + 2 * f) := IntWalk.i64_in _ (by omega)
  have h4 : IntKind.i64.wrap (3 + 3 * t + o * (3 + 2 * f)) = 3 + 3 * t + o * (3 + 2 * f) := IntWalk.i64_in _ (by omega)
  have h5 : IntKind.i64.wrap (3 + 3 * t + o * (3 + 2 * f)) = 3 + 3 * t + o * (3 + 2 * f) := IntWalk.i64_in _ (by omega)
  have h6 : IntKind.i64.wrap (3 + 3 * t + o * (3 + 2 * f) + i) = 3 + 3 * t + o * (3 + 2 * f) + i := IntWalk.i64_in _ (by omega)
  have h7 : IntKind.i64.wrap (3 + f) = 3 + f := IntWalk.i64_in _ (by omega)
  obtain ⟨s1, s2⟩ := hs
  clear ho hi ht b1 b2
  go_enter Tryz.func74, Tryz.ntmps74
  go_wp2_with fail
  have bx := Blk.new w 63 #[.int .i64 s, .int .i64 t, .int .i64 f, .int .i64 l, .int .i64 p]
  have B0 := (Below.refl w.heap.size w).alloc (Nat.le_refl _) (.cells #[.int .i64 s, .int .i64 t, .int .i64 f, .int .i64 l, .int .i64 p] 63)
  have bo := Blk.new (w.alloc (.cells #[.int .i64 s, .int .i64 t, .int .i64 f, .int .i64 l, .int .i64 p] 63)) 72 #[.int .i64 6, .int .i64 o, .int .i64 i]
  replace bx := bx.alloc (.cells #[.int .i64 6, .int .i64 o, .int .i64 i] 72)
  replace B0 := B0.alloc B0.size (.cells #[.int .i64 6, .int .i64 o, .int .i64 i] 72)
  rw [World.size_alloc] at bo
  have lx := bx.lt
  have lo := bo.lt
  have mx := fun i => bx.cell i
  have mo := fun i => bo.cell i
  generalize (w.alloc (.cells #[.int .i64 s, .int .i64 t, .int .i64 f, .int .i64 l, .int .i64 p] 63)).alloc (.cells #[.int .i64 6, .int .i64 o, .int .i64 i] 72) = w1 at *
  refine (W1.out _).mono ?_
  rintro e w' ⟨rfl, rfl⟩
  go_wp2_with fail
  refine (W2.out _).mono ?_
  rintro e w' ⟨rfl, rfl⟩
  go_wp2_with fail
  refine wp_region_past (by kernel_rfl) (by kernel_rfl) ?_
  repeat (quiet_step ((first | ((first | (go_at_call 95; exact calls_past (H.out _)) | (go_at_call 96; exact calls_past (W.out _)))))))
  refine wpQuiet_nil ?_
  intro _ hw'
  obtain ⟨y, hw''⟩ := hw'
  subst hw''
  have hy := past_below w1 y
  go_wp2_with fail
  go_ret
  exact ⟨ret_int (by omega), B0.trans (hy.mono B0.size)⟩
set_option maxHeartbeats 1000000 in
theorem node_yes7 (s t f l p o i : Int) (w : World) (hs : 1 ≤ s ∧ s ≤ 1000) (ht : 1 ≤ t ∧ t ≤ 64) (hf : 4 ≤ f ∧ f ≤ 64) (ho : 0 ≤ o ∧ o < s + 1) (hi : 0 ≤ i ∧ i < 1) :
    Calls Tryz.prog 74 #[.agg #[.int .i64 s, .int .i64 t, .int .i64 f, .int .i64 l, .int .i64 p], .agg #[.int .i64 7, .int .i64 o, .int .i64 i]] w fun e w' => e = .returned (.int .i64 (3 + 3 * t + o * (3 + 2 * f)+ 1 + i)) ∧ Below w.heap.size w w' := by
  have W1 := hide (fun w => within_t o (s + 1) w ho.1 ho.2)
  have W2 := hide (fun w => within_t i (1) w hi.1 hi.2)
  have H := hide (fun w => slots_any s t f l p w ht)
  have W := hide (fun w => width_any s t f l p w hf)
  have b1 : 0 ≤ o * (3 + 2 * f) := Int.mul_nonneg ho.1 (by omega)
  have b2 : o * (3 + 2 * f) ≤ 1000 * 131 := Int.mul_le_mul (by omega) (by omega) (by omega) (by omega)
  have h3 : IntKind.i64.wrap (o * (3 + 2 * f)) = o * (3 + 2 * f) := IntWalk.i64_in _ (by omega)
  have h4 : IntKind.i64.wrap (3 + 3 * t + o * (3 + 2 * f)) = 3 + 3 * t + o * (3 + 2 * f) := IntWalk.i64_in _ (by omega)
  have h5 : IntKind.i64.wrap (3 + 3 * t + o * (3 + 2 * f)+ 1) = 3 + 3 * t + o * (3 + 2 * f)+ 1 := IntWalk.i64_in _ (by omega)
  have h6 : IntKind.i64.wrap (3 + 3 * t + o * (3 + 2 * f)+ 1 + i) = 3 + 3 * t + o * (3 + 2 * f)+ 1 + i := IntWalk.i64_in _ (by omega)
  have h7 : IntKind.i64.wrap (3 + f) = 3 + f := IntWalk.i64_in _ (by omega)
  obtain ⟨s1, s2⟩ := hs
  clear ho hi ht b1 b2
  go_enter Tryz.func74, Tryz.ntmps74
  go_wp2_with fail
  have bx := Blk.new w 63 #[.int .i64 s, .int .i64 t, .int .i64 f, .int .i64 l, .int .i64 p]
  have B0 := (Below.refl w.heap.size w).alloc (Nat.le_refl _) (.cells #[.int .i64 s, .int .i64 t, .int .i64 f, .int .i64 l, .int .i64 p] 63)
  have bo := Blk.new (w.alloc (.cells #[.int .i64 s, .int .i64 t, .int .i64 f, .int .i64 l, .int .i64 p] 63)) 72 #[.int .i64 7, .int .i64 o, .int .i64 i]
  replace bx := bx.alloc (.cells #[.int .i64 7, .int .i64 o, .int .i64 i] 72)
  replace B0 := B0.alloc B0.size (.cells #[.int .i64 7, .int .i64 o, .int .i64 i] 72)
  rw [World.size_alloc] at bo
  have lx := bx.lt
  have lo := bo.lt
  have mx := fun i => bx.cell i
  have mo := fun i => bo.cell i
  generalize (w.alloc (.cells #[.int .i64 s, .int .i64 t, .int .i64 f, .int .i64 l, .int .i64 p] 63)).alloc (.cells #[.int .i64 7, .int .i64 o, .int .i64 i] 72) = w1 at *
  refine (W1.out _).mono ?_
  rintro e w' ⟨rfl, rfl⟩
  go_wp2_with fail
  refine (W2.out _).mono ?_
  rintro e w' ⟨rfl, rfl⟩
  go_wp2_with fail
  refine wp_region_past (by kernel_rfl) (by kernel_rfl) ?_
  repeat (quiet_step ((first | ((first | (go_at_call 95; exact calls_past (H.out _)) | (go_at_call 96; exact calls_past (W.out _)))))))
  refine wpQuiet_nil ?_
  intro _ hw'
  obtain ⟨y, hw''⟩ := hw'
  subst hw''
  have hy := past_below w1 y
  go_wp2_with fail
  go_ret
  exact ⟨ret_int (by omega), B0.trans (hy.mono B0.size)⟩
set_option maxHeartbeats 1000000 in
theorem node_yes8 (s t f l p o i : Int) (w : World) (hs : 1 ≤ s ∧ s ≤ 1000) (ht : 1 ≤ t ∧ t ≤ 64) (hf : 4 ≤ f ∧ f ≤ 64) (ho : 0 ≤ o ∧ o < s + 1) (hi : 0 ≤ i ∧ i < 1) :
    Calls Tryz.prog 74 #[.agg #[.int .i64 s, .int .i64 t, .int .i64 f, .int .i64 l, .int .i64 p], .agg #[.int .i64 8, .int .i64 o, .int .i64 i]] w fun e w' => e = .returned (.int .i64 (3 + 3 * t + o * (3 + 2 * f)+ 2 + i)) ∧ Below w.heap.size w w' := by
  have W1 := hide (fun w => within_t o (s + 1) w ho.1 ho.2)
  have W2 := hide (fun w => within_t i (1) w hi.1 hi.2)
  have H := hide (fun w => slots_any s t f l p w ht)
  have W := hide (fun w => width_any s t f l p w hf)
  have b1 : 0 ≤ o * (3 + 2 * f) := Int.mul_nonneg ho.1 (by omega)
  have b2 : o * (3 + 2 * f) ≤ 1000 * 131 := Int.mul_le_mul (by omega) (by omega) (by omega) (by omega)
  have h3 : IntKind.i64.wrap (o * (3 + 2 * f)) = o * (3 + 2 * f) := IntWalk.i64_in _ (by omega)
  have h4 : IntKind.i64.wrap (3 + 3 * t + o * (3 + 2 * f)) = 3 + 3 * t + o * (3 + 2 * f) := IntWalk.i64_in _ (by omega)
  have h5 : IntKind.i64.wrap (3 + 3 * t + o * (3 + 2 * f)+ 2) = 3 + 3 * t + o * (3 + 2 * f)+ 2 := IntWalk.i64_in _ (by omega)
  have h6 : IntKind.i64.wrap (3 + 3 * t + o * (3 + 2 * f)+ 2 + i) = 3 + 3 * t + o * (3 + 2 * f)+ 2 + i := IntWalk.i64_in _ (by omega)
  have h7 : IntKind.i64.wrap (3 + f) = 3 + f := IntWalk.i64_in _ (by omega)
  obtain ⟨s1, s2⟩ := hs
  clear ho hi ht b1 b2
  go_enter Tryz.func74, Tryz.ntmps74
  go_wp2_with fail
  have bx := Blk.new w 63 #[.int .i64 s, .int .i64 t, .int .i64 f, .int .i64 l, .int .i64 p]
  have B0 := (Below.refl w.heap.size w).alloc (Nat.le_refl _) (.cells #[.int .i64 s, .int .i64 t, .int .i64 f, .int .i64 l, .int .i64 p] 63)
  have bo := Blk.new (w.alloc (.cells #[.int .i64 s, .int .i64 t, .int .i64 f, .int .i64 l, .int .i64 p] 63)) 72 #[.int .i64 8, .int .i64 o, .int .i64 i]
  replace bx := bx.alloc (.cells #[.int .i64 8, .int .i64 o, .int .i64 i] 72)
  replace B0 := B0.alloc B0.size (.cells #[.int .i64 8, .int .i64 o, .int .i64 i] 72)
  rw [World.size_alloc] at bo
  have lx := bx.lt
  have lo := bo.lt
  have mx := fun i => bx.cell i
  have mo := fun i => bo.cell i
  generalize (w.alloc (.cells #[.int .i64 s, .int .i64 t, .int .i64 f, .int .i64 l, .int .i64 p] 63)).alloc (.cells #[.int .i64 8, .int .i64 o, .int .i64 i] 72) = w1 at *
  refine (W1.out _).mono ?_
  rintro e w' ⟨rfl, rfl⟩
  go_wp2_with fail
  refine (W2.out _).mono ?_
  rintro e w' ⟨rfl, rfl⟩
  go_wp2_with fail
  refine wp_region_past (by kernel_rfl) (by kernel_rfl) ?_
  repeat (quiet_step ((first | ((first | (go_at_call 95; exact calls_past (H.out _)) | (go_at_call 96; exact calls_past (W.out _)))))))
  refine wpQuiet_nil ?_
  intro _ hw'
  obtain ⟨y, hw''⟩ := hw'
  subst hw''
  have hy := past_below w1 y
  go_wp2_with fail
  go_ret
  exact ⟨ret_int (by omega), B0.trans (hy.mono B0.size)⟩
set_option maxHeartbeats 1000000 in
theorem node_yes9 (s t f l p o i : Int) (w : World) (hs : 1 ≤ s ∧ s ≤ 1000) (ht : 1 ≤ t ∧ t ≤ 64) (hf : 4 ≤ f ∧ f ≤ 64) (ho : 0 ≤ o ∧ o < s + 1) (hi : 0 ≤ i ∧ i < f) :
    Calls Tryz.prog 74 #[.agg #[.int .i64 s, .int .i64 t, .int .i64 f, .int .i64 l, .int .i64 p], .agg #[.int .i64 9, .int .i64 o, .int .i64 i]] w fun e w' => e = .returned (.int .i64 (3 + 3 * t + o * (3 + 2 * f)+ 3 + i)) ∧ Below w.heap.size w w' := by
  have W1 := hide (fun w => within_t o (s + 1) w ho.1 ho.2)
  have W2 := hide (fun w => within_t i (f) w hi.1 hi.2)
  have H := hide (fun w => slots_any s t f l p w ht)
  have W := hide (fun w => width_any s t f l p w hf)
  have b1 : 0 ≤ o * (3 + 2 * f) := Int.mul_nonneg ho.1 (by omega)
  have b2 : o * (3 + 2 * f) ≤ 1000 * 131 := Int.mul_le_mul (by omega) (by omega) (by omega) (by omega)
  have h3 : IntKind.i64.wrap (o * (3 + 2 * f)) = o * (3 + 2 * f) := IntWalk.i64_in _ (by omega)
  have h4 : IntKind.i64.wrap (3 + 3 * t + o * (3 + 2 * f)) = 3 + 3 * t + o * (3 + 2 * f) := IntWalk.i64_in _ (by omega)
  have h5 : IntKind.i64.wrap (3 + 3 * t + o * (3 + 2 * f)+ 3) = 3 + 3 * t + o * (3 + 2 * f)+ 3 := IntWalk.i64_in _ (by omega)
  have h6 : IntKind.i64.wrap (3 + 3 * t + o * (3 + 2 * f)+ 3 + i) = 3 + 3 * t + o * (3 + 2 * f)+ 3 + i := IntWalk.i64_in _ (by omega)
  have h7 : IntKind.i64.wrap (3 + f) = 3 + f := IntWalk.i64_in _ (by omega)
  obtain ⟨s1, s2⟩ := hs
  clear ho hi ht b1 b2
  go_enter Tryz.func74, Tryz.ntmps74
  go_wp2_with fail
  have bx := Blk.new w 63 #[.int .i64 s, .int .i64 t, .int .i64 f, .int .i64 l, .int .i64 p]
  have B0 := (Below.refl w.heap.size w).alloc (Nat.le_refl _) (.cells #[.int .i64 s, .int .i64 t, .int .i64 f, .int .i64 l, .int .i64 p] 63)
  have bo := Blk.new (w.alloc (.cells #[.int .i64 s, .int .i64 t, .int .i64 f, .int .i64 l, .int .i64 p] 63)) 72 #[.int .i64 9, .int .i64 o, .int .i64 i]
  replace bx := bx.alloc (.cells #[.int .i64 9, .int .i64 o, .int .i64 i] 72)
  replace B0 := B0.alloc B0.size (.cells #[.int .i64 9, .int .i64 o, .int .i64 i] 72)
  rw [World.size_alloc] at bo
  have lx := bx.lt
  have lo := bo.lt
  have mx := fun i => bx.cell i
  have mo := fun i => bo.cell i
  generalize (w.alloc (.cells #[.int .i64 s, .int .i64 t, .int .i64 f, .int .i64 l, .int .i64 p] 63)).alloc (.cells #[.int .i64 9, .int .i64 o, .int .i64 i] 72) = w1 at *
  refine wp_region_past (by kernel_rfl) (by kernel_rfl) ?_
  repeat (quiet_step ((first | fail)))
  refine wpQuiet_nil ?_
  intro _ hw'
  obtain ⟨y, hw''⟩ := hw'
  subst hw''
  have hy := past_below w1 y
  replace bx := bx.below hy bx.lt
  replace bo := bo.below hy bo.lt
  replace B0 := B0.trans (hy.mono B0.size)
  clear hy mx mo lx lo
  generalize past w1 y = w2 at *
  have lx := bx.lt
  have lo := bo.lt
  have mx := fun i => bx.cell i
  have mo := fun i => bo.cell i
  go_wp2_with fail
  refine (W1.out _).mono ?_
  rintro e w' ⟨rfl, rfl⟩
  go_wp2_with fail
  refine (W2.out _).mono ?_
  rintro e w' ⟨rfl, rfl⟩
  go_wp2_with fail
  refine wp_region_past (by kernel_rfl) (by kernel_rfl) ?_
  repeat (quiet_step ((first | ((first | (go_at_call 95; exact calls_past (H.out _)) | (go_at_call 96; exact calls_past (W.out _)))))))
  refine wpQuiet_nil ?_
  intro _ hw'
  obtain ⟨y, hw''⟩ := hw'
  subst hw''
  have hy := past_below w2 y
  go_wp2_with fail
  go_ret
  exact ⟨ret_int (by omega), B0.trans (hy.mono B0.size)⟩
set_option maxHeartbeats 1000000 in
theorem node_yes10 (s t f l p o i : Int) (w : World) (hs : 1 ≤ s ∧ s ≤ 1000) (ht : 1 ≤ t ∧ t ≤ 64) (hf : 4 ≤ f ∧ f ≤ 64) (ho : 0 ≤ o ∧ o < s + 1) (hi : 0 ≤ i ∧ i < f) :
    Calls Tryz.prog 74 #[.agg #[.int .i64 s, .int .i64 t, .int .i64 f, .int .i64 l, .int .i64 p], .agg #[.int .i64 10, .int .i64 o, .int .i64 i]] w fun e w' => e = .returned (.int .i64 (3 + 3 * t + o * (3 + 2 * f)+ (3 + f) + i)) ∧ Below w.heap.size w w' := by
  have W1 := hide (fun w => within_t o (s + 1) w ho.1 ho.2)
  have W2 := hide (fun w => within_t i (f) w hi.1 hi.2)
  have H := hide (fun w => slots_any s t f l p w ht)
  have W := hide (fun w => width_any s t f l p w hf)
  have b1 : 0 ≤ o * (3 + 2 * f) := Int.mul_nonneg ho.1 (by omega)
  have b2 : o * (3 + 2 * f) ≤ 1000 * 131 := Int.mul_le_mul (by omega) (by omega) (by omega) (by omega)
  have h3 : IntKind.i64.wrap (o * (3 + 2 * f)) = o * (3 + 2 * f) := IntWalk.i64_in _ (by omega)
  have h4 : IntKind.i64.wrap (3 + 3 * t + o * (3 + 2 * f)) = 3 + 3 * t + o * (3 + 2 * f) := IntWalk.i64_in _ (by omega)
  have h5 : IntKind.i64.wrap (3 + 3 * t + o * (3 + 2 * f)+ (3 + f)) = 3 + 3 * t + o * (3 + 2 * f)+ (3 + f) := IntWalk.i64_in _ (by omega)
  have h6 : IntKind.i64.wrap (3 + 3 * t + o * (3 + 2 * f)+ (3 + f) + i) = 3 + 3 * t + o * (3 + 2 * f)+ (3 + f) + i := IntWalk.i64_in _ (by omega)
  have h7 : IntKind.i64.wrap (3 + f) = 3 + f := IntWalk.i64_in _ (by omega)
  obtain ⟨s1, s2⟩ := hs
  clear ho hi ht b1 b2
  go_enter Tryz.func74, Tryz.ntmps74
  go_wp2_with fail
  have bx := Blk.new w 63 #[.int .i64 s, .int .i64 t, .int .i64 f, .int .i64 l, .int .i64 p]
  have B0 := (Below.refl w.heap.size w).alloc (Nat.le_refl _) (.cells #[.int .i64 s, .int .i64 t, .int .i64 f, .int .i64 l, .int .i64 p] 63)
  have bo := Blk.new (w.alloc (.cells #[.int .i64 s, .int .i64 t, .int .i64 f, .int .i64 l, .int .i64 p] 63)) 72 #[.int .i64 10, .int .i64 o, .int .i64 i]
  replace bx := bx.alloc (.cells #[.int .i64 10, .int .i64 o, .int .i64 i] 72)
  replace B0 := B0.alloc B0.size (.cells #[.int .i64 10, .int .i64 o, .int .i64 i] 72)
  rw [World.size_alloc] at bo
  have lx := bx.lt
  have lo := bo.lt
  have mx := fun i => bx.cell i
  have mo := fun i => bo.cell i
  generalize (w.alloc (.cells #[.int .i64 s, .int .i64 t, .int .i64 f, .int .i64 l, .int .i64 p] 63)).alloc (.cells #[.int .i64 10, .int .i64 o, .int .i64 i] 72) = w1 at *
  refine wp_region_past (by kernel_rfl) (by kernel_rfl) ?_
  repeat (quiet_step ((first | fail)))
  refine wpQuiet_nil ?_
  intro _ hw'
  obtain ⟨y, hw''⟩ := hw'
  subst hw''
  have hy := past_below w1 y
  replace bx := bx.below hy bx.lt
  replace bo := bo.below hy bo.lt
  replace B0 := B0.trans (hy.mono B0.size)
  clear hy mx mo lx lo
  generalize past w1 y = w2 at *
  have lx := bx.lt
  have lo := bo.lt
  have mx := fun i => bx.cell i
  have mo := fun i => bo.cell i
  go_wp2_with fail
  refine (W1.out _).mono ?_
  rintro e w' ⟨rfl, rfl⟩
  go_wp2_with fail
  refine (W2.out _).mono ?_
  rintro e w' ⟨rfl, rfl⟩
  go_wp2_with fail
  refine wp_region_past (by kernel_rfl) (by kernel_rfl) ?_
  repeat (quiet_step ((first | ((first | (go_at_call 95; exact calls_past (H.out _)) | (go_at_call 96; exact calls_past (W.out _)))))))
  refine wpQuiet_nil ?_
  intro _ hw'
  obtain ⟨y, hw''⟩ := hw'
  subst hw''
  have hy := past_below w2 y
  go_wp2_with fail
  go_ret
  exact ⟨ret_int (by omega), B0.trans (hy.mono B0.size)⟩

set_option maxHeartbeats 1000000 in
theorem node_no6 (s t f l p o i : Int) (w : World) (hs : 1 ≤ s ∧ s ≤ 1000) (hf : 4 ≤ f ∧ f ≤ 64) (h : o < 0 ∨ s + 1 ≤ o ∨ i < 0 ∨ 1 ≤ i) :
    Calls Tryz.prog 74 #[.agg #[.int .i64 s, .int .i64 t, .int .i64 f, .int .i64 l, .int .i64 p], .agg #[.int .i64 6, .int .i64 o, .int .i64 i]] w fun e w' => e = .returned (.int .i64 (-1)) ∧ Below w.heap.size w w' := by
  have h7 : IntKind.i64.wrap (3 + f) = 3 + f := IntWalk.i64_in _ (by omega)
  obtain ⟨s1, s2⟩ := hs
  by_cases c : o < 0 ∨ s + 1 ≤ o
  · have W1 := hide (fun w => within_f o (s + 1) w c)
    clear h c
    go_enter Tryz.func74, Tryz.ntmps74
    go_wp2_with fail
    have bx := Blk.new w 63 #[.int .i64 s, .int .i64 t, .int .i64 f, .int .i64 l, .int .i64 p]
    have B0 := (Below.refl w.heap.size w).alloc (Nat.le_refl _) (.cells #[.int .i64 s, .int .i64 t, .int .i64 f, .int .i64 l, .int .i64 p] 63)
    have bo := Blk.new (w.alloc (.cells #[.int .i64 s, .int .i64 t, .int .i64 f, .int .i64 l, .int .i64 p] 63)) 72 #[.int .i64 6, .int .i64 o, .int .i64 i]
    replace bx := bx.alloc (.cells #[.int .i64 6, .int .i64 o, .int .i64 i] 72)
    replace B0 := B0.alloc B0.size (.cells #[.int .i64 6, .int .i64 o, .int .i64 i] 72)
    rw [World.size_alloc] at bo
    have lx := bx.lt
    have lo := bo.lt
    have mx := fun i => bx.cell i
    have mo := fun i => bo.cell i
    generalize (w.alloc (.cells #[.int .i64 s, .int .i64 t, .int .i64 f, .int .i64 l, .int .i64 p] 63)).alloc (.cells #[.int .i64 6, .int .i64 o, .int .i64 i] 72) = w1 at *

    refine (W1.out _).mono ?_
    rintro e w' ⟨rfl, rfl⟩
    go_wp2_with fail
    go_ret
    exact ⟨rfl, B0⟩
  · have W1 := hide (fun w => within_t o (s + 1) w (by omega) (by omega))
    have W2 := hide (fun w => within_f i (1) w (by omega))
    clear h c
    go_enter Tryz.func74, Tryz.ntmps74
    go_wp2_with fail
    have bx := Blk.new w 63 #[.int .i64 s, .int .i64 t, .int .i64 f, .int .i64 l, .int .i64 p]
    have B0 := (Below.refl w.heap.size w).alloc (Nat.le_refl _) (.cells #[.int .i64 s, .int .i64 t, .int .i64 f, .int .i64 l, .int .i64 p] 63)
    have bo := Blk.new (w.alloc (.cells #[.int .i64 s, .int .i64 t, .int .i64 f, .int .i64 l, .int .i64 p] 63)) 72 #[.int .i64 6, .int .i64 o, .int .i64 i]
    replace bx := bx.alloc (.cells #[.int .i64 6, .int .i64 o, .int .i64 i] 72)
    replace B0 := B0.alloc B0.size (.cells #[.int .i64 6, .int .i64 o, .int .i64 i] 72)
    rw [World.size_alloc] at bo
    have lx := bx.lt
    have lo := bo.lt
    have mx := fun i => bx.cell i
    have mo := fun i => bo.cell i
    generalize (w.alloc (.cells #[.int .i64 s, .int .i64 t, .int .i64 f, .int .i64 l, .int .i64 p] 63)).alloc (.cells #[.int .i64 6, .int .i64 o, .int .i64 i] 72) = w1 at *

    refine (W1.out _).mono ?_
    rintro e w' ⟨rfl, rfl⟩
    go_wp2_with fail
    refine (W2.out _).mono ?_
    rintro e w' ⟨rfl, rfl⟩
    go_wp2_with fail
    go_ret
    exact ⟨rfl, B0⟩
set_option maxHeartbeats 1000000 in
theorem node_no7 (s t f l p o i : Int) (w : World) (hs : 1 ≤ s ∧ s ≤ 1000) (hf : 4 ≤ f ∧ f ≤ 64) (h : o < 0 ∨ s + 1 ≤ o ∨ i < 0 ∨ 1 ≤ i) :
    Calls Tryz.prog 74 #[.agg #[.int .i64 s, .int .i64 t, .int .i64 f, .int .i64 l, .int .i64 p], .agg #[.int .i64 7, .int .i64 o, .int .i64 i]] w fun e w' => e = .returned (.int .i64 (-1)) ∧ Below w.heap.size w w' := by
  have h7 : IntKind.i64.wrap (3 + f) = 3 + f := IntWalk.i64_in _ (by omega)
  obtain ⟨s1, s2⟩ := hs
  by_cases c : o < 0 ∨ s + 1 ≤ o
  · have W1 := hide (fun w => within_f o (s + 1) w c)
    clear h c
    go_enter Tryz.func74, Tryz.ntmps74
    go_wp2_with fail
    have bx := Blk.new w 63 #[.int .i64 s, .int .i64 t, .int .i64 f, .int .i64 l, .int .i64 p]
    have B0 := (Below.refl w.heap.size w).alloc (Nat.le_refl _) (.cells #[.int .i64 s, .int .i64 t, .int .i64 f, .int .i64 l, .int .i64 p] 63)
    have bo := Blk.new (w.alloc (.cells #[.int .i64 s, .int .i64 t, .int .i64 f, .int .i64 l, .int .i64 p] 63)) 72 #[.int .i64 7, .int .i64 o, .int .i64 i]
    replace bx := bx.alloc (.cells #[.int .i64 7, .int .i64 o, .int .i64 i] 72)
    replace B0 := B0.alloc B0.size (.cells #[.int .i64 7, .int .i64 o, .int .i64 i] 72)
    rw [World.size_alloc] at bo
    have lx := bx.lt
    have lo := bo.lt
    have mx := fun i => bx.cell i
    have mo := fun i => bo.cell i
    generalize (w.alloc (.cells #[.int .i64 s, .int .i64 t, .int .i64 f, .int .i64 l, .int .i64 p] 63)).alloc (.cells #[.int .i64 7, .int .i64 o, .int .i64 i] 72) = w1 at *

    refine (W1.out _).mono ?_
    rintro e w' ⟨rfl, rfl⟩
    go_wp2_with fail
    go_ret
    exact ⟨rfl, B0⟩
  · have W1 := hide (fun w => within_t o (s + 1) w (by omega) (by omega))
    have W2 := hide (fun w => within_f i (1) w (by omega))
    clear h c
    go_enter Tryz.func74, Tryz.ntmps74
    go_wp2_with fail
    have bx := Blk.new w 63 #[.int .i64 s, .int .i64 t, .int .i64 f, .int .i64 l, .int .i64 p]
    have B0 := (Below.refl w.heap.size w).alloc (Nat.le_refl _) (.cells #[.int .i64 s, .int .i64 t, .int .i64 f, .int .i64 l, .int .i64 p] 63)
    have bo := Blk.new (w.alloc (.cells #[.int .i64 s, .int .i64 t, .int .i64 f, .int .i64 l, .int .i64 p] 63)) 72 #[.int .i64 7, .int .i64 o, .int .i64 i]
    replace bx := bx.alloc (.cells #[.int .i64 7, .int .i64 o, .int .i64 i] 72)
    replace B0 := B0.alloc B0.size (.cells #[.int .i64 7, .int .i64 o, .int .i64 i] 72)
    rw [World.size_alloc] at bo
    have lx := bx.lt
    have lo := bo.lt
    have mx := fun i => bx.cell i
    have mo := fun i => bo.cell i
    generalize (w.alloc (.cells #[.int .i64 s, .int .i64 t, .int .i64 f, .int .i64 l, .int .i64 p] 63)).alloc (.cells #[.int .i64 7, .int .i64 o, .int .i64 i] 72) = w1 at *

    refine (W1.out _).mono ?_
    rintro e w' ⟨rfl, rfl⟩
    go_wp2_with fail
    refine (W2.out _).mono ?_
    rintro e w' ⟨rfl, rfl⟩
    go_wp2_with fail
    go_ret
    exact ⟨rfl, B0⟩
set_option maxHeartbeats 1000000 in
theorem node_no8 (s t f l p o i : Int) (w : World) (hs : 1 ≤ s ∧ s ≤ 1000) (hf : 4 ≤ f ∧ f ≤ 64) (h : o < 0 ∨ s + 1 ≤ o ∨ i < 0 ∨ 1 ≤ i) :
    Calls Tryz.prog 74 #[.agg #[.int .i64 s, .int .i64 t, .int .i64 f, .int .i64 l, .int .i64 p], .agg #[.int .i64 8, .int .i64 o, .int .i64 i]] w fun e w' => e = .returned (.int .i64 (-1)) ∧ Below w.heap.size w w' := by
  have h7 : IntKind.i64.wrap (3 + f) = 3 + f := IntWalk.i64_in _ (by omega)
  obtain ⟨s1, s2⟩ := hs
  by_cases c : o < 0 ∨ s + 1 ≤ o
  · have W1 := hide (fun w => within_f o (s + 1) w c)
    clear h c
    go_enter Tryz.func74, Tryz.ntmps74
    go_wp2_with fail
    have bx := Blk.new w 63 #[.int .i64 s, .int .i64 t, .int .i64 f, .int .i64 l, .int .i64 p]
    have B0 := (Below.refl w.heap.size w).alloc (Nat.le_refl _) (.cells #[.int .i64 s, .int .i64 t, .int .i64 f, .int .i64 l, .int .i64 p] 63)
    have bo := Blk.new (w.alloc (.cells #[.int .i64 s, .int .i64 t, .int .i64 f, .int .i64 l, .int .i64 p] 63)) 72 #[.int .i64 8, .int .i64 o, .int .i64 i]
    replace bx := bx.alloc (.cells #[.int .i64 8, .int .i64 o, .int .i64 i] 72)
    replace B0 := B0.alloc B0.size (.cells #[.int .i64 8, .int .i64 o, .int .i64 i] 72)
    rw [World.size_alloc] at bo
    have lx := bx.lt
    have lo := bo.lt
    have mx := fun i => bx.cell i
    have mo := fun i => bo.cell i
    generalize (w.alloc (.cells #[.int .i64 s, .int .i64 t, .int .i64 f, .int .i64 l, .int .i64 p] 63)).alloc (.cells #[.int .i64 8, .int .i64 o, .int .i64 i] 72) = w1 at *

    refine (W1.out _).mono ?_
    rintro e w' ⟨rfl, rfl⟩
    go_wp2_with fail
    go_ret
    exact ⟨rfl, B0⟩
  · have W1 := hide (fun w => within_t o (s + 1) w (by omega) (by omega))
    have W2 := hide (fun w => within_f i (1) w (by omega))
    clear h c
    go_enter Tryz.func74, Tryz.ntmps74
    go_wp2_with fail
    have bx := Blk.new w 63 #[.int .i64 s, .int .i64 t, .int .i64 f, .int .i64 l, .int .i64 p]
    have B0 := (Below.refl w.heap.size w).alloc (Nat.le_refl _) (.cells #[.int .i64 s, .int .i64 t, .int .i64 f, .int .i64 l, .int .i64 p] 63)
    have bo := Blk.new (w.alloc (.cells #[.int .i64 s, .int .i64 t, .int .i64 f, .int .i64 l, .int .i64 p] 63)) 72 #[.int .i64 8, .int .i64 o, .int .i64 i]
    replace bx := bx.alloc (.cells #[.int .i64 8, .int .i64 o, .int .i64 i] 72)
    replace B0 := B0.alloc B0.size (.cells #[.int .i64 8, .int .i64 o, .int .i64 i] 72)
    rw [World.size_alloc] at bo
    have lx := bx.lt
    have lo := bo.lt
    have mx := fun i => bx.cell i
    have mo := fun i => bo.cell i
    generalize (w.alloc (.cells #[.int .i64 s, .int .i64 t, .int .i64 f, .int .i64 l, .int .i64 p] 63)).alloc (.cells #[.int .i64 8, .int .i64 o, .int .i64 i] 72) = w1 at *

    refine (W1.out _).mono ?_
    rintro e w' ⟨rfl, rfl⟩
    go_wp2_with fail
    refine (W2.out _).mono ?_
    rintro e w' ⟨rfl, rfl⟩
    go_wp2_with fail
    go_ret
    exact ⟨rfl, B0⟩
set_option maxHeartbeats 1000000 in
theorem node_no9 (s t f l p o i : Int) (w : World) (hs : 1 ≤ s ∧ s ≤ 1000) (hf : 4 ≤ f ∧ f ≤ 64) (h : o < 0 ∨ s + 1 ≤ o ∨ i < 0 ∨ f ≤ i) :
    Calls Tryz.prog 74 #[.agg #[.int .i64 s, .int .i64 t, .int .i64 f, .int .i64 l, .int .i64 p], .agg #[.int .i64 9, .int .i64 o, .int .i64 i]] w fun e w' => e = .returned (.int .i64 (-1)) ∧ Below w.heap.size w w' := by
  have h7 : IntKind.i64.wrap (3 + f) = 3 + f := IntWalk.i64_in _ (by omega)
  obtain ⟨s1, s2⟩ := hs
  by_cases c : o < 0 ∨ s + 1 ≤ o
  · have W1 := hide (fun w => within_f o (s + 1) w c)
    clear h c
    go_enter Tryz.func74, Tryz.ntmps74
    go_wp2_with fail
    have bx := Blk.new w 63 #[.int .i64 s, .int .i64 t, .int .i64 f, .int .i64 l, .int .i64 p]
    have B0 := (Below.refl w.heap.size w).alloc (Nat.le_refl _) (.cells #[.int .i64 s, .int .i64 t, .int .i64 f, .int .i64 l, .int .i64 p] 63)
    have bo := Blk.new (w.alloc (.cells #[.int .i64 s, .int .i64 t, .int .i64 f, .int .i64 l, .int .i64 p] 63)) 72 #[.int .i64 9, .int .i64 o, .int .i64 i]
    replace bx := bx.alloc (.cells #[.int .i64 9, .int .i64 o, .int .i64 i] 72)
    replace B0 := B0.alloc B0.size (.cells #[.int .i64 9, .int .i64 o, .int .i64 i] 72)
    rw [World.size_alloc] at bo
    have lx := bx.lt
    have lo := bo.lt
    have mx := fun i => bx.cell i
    have mo := fun i => bo.cell i
    generalize (w.alloc (.cells #[.int .i64 s, .int .i64 t, .int .i64 f, .int .i64 l, .int .i64 p] 63)).alloc (.cells #[.int .i64 9, .int .i64 o, .int .i64 i] 72) = w1 at *
    refine wp_region_past (by kernel_rfl) (by kernel_rfl) ?_
    repeat (quiet_step ((first | fail)))
    refine wpQuiet_nil ?_
    intro _ hw'
    obtain ⟨y, hw''⟩ := hw'
    subst hw''
    have hy := past_below w1 y
    replace bx := bx.below hy bx.lt
    replace bo := bo.below hy bo.lt
    replace B0 := B0.trans (hy.mono B0.size)
    clear hy mx mo lx lo
    generalize past w1 y = w2 at *
    have lx := bx.lt
    have lo := bo.lt
    have mx := fun i => bx.cell i
    have mo := fun i => bo.cell i
    go_wp2_with fail
    refine (W1.out _).mono ?_
    rintro e w' ⟨rfl, rfl⟩
    go_wp2_with fail
    go_ret
    exact ⟨rfl, B0⟩
  · have W1 := hide (fun w => within_t o (s + 1) w (by omega) (by omega))
    have W2 := hide (fun w => within_f i (f) w (by omega))
    clear h c
    go_enter Tryz.func74, Tryz.ntmps74
    go_wp2_with fail
    have bx := Blk.new w 63 #[.int .i64 s, .int .i64 t, .int .i64 f, .int .i64 l, .int .i64 p]
    have B0 := (Below.refl w.heap.size w).alloc (Nat.le_refl _) (.cells #[.int .i64 s, .int .i64 t, .int .i64 f, .int .i64 l, .int .i64 p] 63)
    have bo := Blk.new (w.alloc (.cells #[.int .i64 s, .int .i64 t, .int .i64 f, .int .i64 l, .int .i64 p] 63)) 72 #[.int .i64 9, .int .i64 o, .int .i64 i]
    replace bx := bx.alloc (.cells #[.int .i64 9, .int .i64 o, .int .i64 i] 72)
    replace B0 := B0.alloc B0.size (.cells #[.int .i64 9, .int .i64 o, .int .i64 i] 72)
    rw [World.size_alloc] at bo
    have lx := bx.lt
    have lo := bo.lt
    have mx := fun i => bx.cell i
    have mo := fun i => bo.cell i
    generalize (w.alloc (.cells #[.int .i64 s, .int .i64 t, .int .i64 f, .int .i64 l, .int .i64 p] 63)).alloc (.cells #[.int .i64 9, .int .i64 o, .int .i64 i] 72) = w1 at *
    refine wp_region_past (by kernel_rfl) (by kernel_rfl) ?_
    repeat (quiet_step ((first | fail)))
    refine wpQuiet_nil ?_
    intro _ hw'
    obtain ⟨y, hw''⟩ := hw'
    subst hw''
    have hy := past_below w1 y
    replace bx := bx.below hy bx.lt
    replace bo := bo.below hy bo.lt
    replace B0 := B0.trans (hy.mono B0.size)
    clear hy mx mo lx lo
    generalize past w1 y = w2 at *
    have lx := bx.lt
    have lo := bo.lt
    have mx := fun i => bx.cell i
    have mo := fun i => bo.cell i
    go_wp2_with fail
    refine (W1.out _).mono ?_
    rintro e w' ⟨rfl, rfl⟩
    go_wp2_with fail
    refine (W2.out _).mono ?_
    rintro e w' ⟨rfl, rfl⟩
    go_wp2_with fail
    go_ret
    exact ⟨rfl, B0⟩
set_option maxHeartbeats 1000000 in
theorem node_no10 (s t f l p o i : Int) (w : World) (hs : 1 ≤ s ∧ s ≤ 1000) (hf : 4 ≤ f ∧ f ≤ 64) (h : o < 0 ∨ s + 1 ≤ o ∨ i < 0 ∨ f ≤ i) :
    Calls Tryz.prog 74 #[.agg #[.int .i64 s, .int .i64 t, .int .i64 f, .int .i64 l, .int .i64 p], .agg #[.int .i64 10, .int .i64 o, .int .i64 i]] w fun e w' => e = .returned (.int .i64 (-1)) ∧ Below w.heap.size w w' := by
  have h7 : IntKind.i64.wrap (3 + f) = 3 + f := IntWalk.i64_in _ (by omega)
  obtain ⟨s1, s2⟩ := hs
  by_cases c : o < 0 ∨ s + 1 ≤ o
  · have W1 := hide (fun w => within_f o (s + 1) w c)
    clear h c
    go_enter Tryz.func74, Tryz.ntmps74
    go_wp2_with fail
    have bx := Blk.new w 63 #[.int .i64 s, .int .i64 t, .int .i64 f, .int .i64 l, .int .i64 p]
    have B0 := (Below.refl w.heap.size w).alloc (Nat.le_refl _) (.cells #[.int .i64 s, .int .i64 t, .int .i64 f, .int .i64 l, .int .i64 p] 63)
    have bo := Blk.new (w.alloc (.cells #[.int .i64 s, .int .i64 t, .int .i64 f, .int .i64 l, .int .i64 p] 63)) 72 #[.int .i64 10, .int .i64 o, .int .i64 i]
    replace bx := bx.alloc (.cells #[.int .i64 10, .int .i64 o, .int .i64 i] 72)
    replace B0 := B0.alloc B0.size (.cells #[.int .i64 10, .int .i64 o, .int .i64 i] 72)
    rw [World.size_alloc] at bo
    have lx := bx.lt
    have lo := bo.lt
    have mx := fun i => bx.cell i
    have mo := fun i => bo.cell i
    generalize (w.alloc (.cells #[.int .i64 s, .int .i64 t, .int .i64 f, .int .i64 l, .int .i64 p] 63)).alloc (.cells #[.int .i64 10, .int .i64 o, .int .i64 i] 72) = w1 at *
    refine wp_region_past (by kernel_rfl) (by kernel_rfl) ?_
    repeat (quiet_step ((first | fail)))
    refine wpQuiet_nil ?_
    intro _ hw'
    obtain ⟨y, hw''⟩ := hw'
    subst hw''
    have hy := past_below w1 y
    replace bx := bx.below hy bx.lt
    replace bo := bo.below hy bo.lt
    replace B0 := B0.trans (hy.mono B0.size)
    clear hy mx mo lx lo
    generalize past w1 y = w2 at *
    have lx := bx.lt
    have lo := bo.lt
    have mx := fun i => bx.cell i
    have mo := fun i => bo.cell i
    go_wp2_with fail
    refine (W1.out _).mono ?_
    rintro e w' ⟨rfl, rfl⟩
    go_wp2_with fail
    go_ret
    exact ⟨rfl, B0⟩
  · have W1 := hide (fun w => within_t o (s + 1) w (by omega) (by omega))
    have W2 := hide (fun w => within_f i (f) w (by omega))
    clear h c
    go_enter Tryz.func74, Tryz.ntmps74
    go_wp2_with fail
    have bx := Blk.new w 63 #[.int .i64 s, .int .i64 t, .int .i64 f, .int .i64 l, .int .i64 p]
    have B0 := (Below.refl w.heap.size w).alloc (Nat.le_refl _) (.cells #[.int .i64 s, .int .i64 t, .int .i64 f, .int .i64 l, .int .i64 p] 63)
    have bo := Blk.new (w.alloc (.cells #[.int .i64 s, .int .i64 t, .int .i64 f, .int .i64 l, .int .i64 p] 63)) 72 #[.int .i64 10, .int .i64 o, .int .i64 i]
    replace bx := bx.alloc (.cells #[.int .i64 10, .int .i64 o, .int .i64 i] 72)
    replace B0 := B0.alloc B0.size (.cells #[.int .i64 10, .int .i64 o, .int .i64 i] 72)
    rw [World.size_alloc] at bo
    have lx := bx.lt
    have lo := bo.lt
    have mx := fun i => bx.cell i
    have mo := fun i => bo.cell i
    generalize (w.alloc (.cells #[.int .i64 s, .int .i64 t, .int .i64 f, .int .i64 l, .int .i64 p] 63)).alloc (.cells #[.int .i64 10, .int .i64 o, .int .i64 i] 72) = w1 at *
    refine wp_region_past (by kernel_rfl) (by kernel_rfl) ?_
    repeat (quiet_step ((first | fail)))
    refine wpQuiet_nil ?_
    intro _ hw'
    obtain ⟨y, hw''⟩ := hw'
    subst hw''
    have hy := past_below w1 y
    replace bx := bx.below hy bx.lt
    replace bo := bo.below hy bo.lt
    replace B0 := B0.trans (hy.mono B0.size)
    clear hy mx mo lx lo
    generalize past w1 y = w2 at *
    have lx := bx.lt
    have lo := bo.lt
    have mx := fun i => bx.cell i
    have mo := fun i => bo.cell i
    go_wp2_with fail
    refine (W1.out _).mono ?_
    rintro e w' ⟨rfl, rfl⟩
    go_wp2_with fail
    refine (W2.out _).mono ?_
    rintro e w' ⟨rfl, rfl⟩
    go_wp2_with fail
    go_ret
    exact ⟨rfl, B0⟩
set_option maxHeartbeats 1000000 in
theorem node_none (s t f l p k o i : Int) (w : World) (hk : k < 6 ∨ 10 < k) :
    Calls Tryz.prog 74 #[.agg #[.int .i64 s, .int .i64 t, .int .i64 f, .int .i64 l, .int .i64 p], .agg #[.int .i64 k, .int .i64 o, .int .i64 i]] w fun e w' => e = .returned (.int .i64 (-1)) ∧ Below w.heap.size w w' := by
  have k6 : (k == 6) = false := by rw [beq_eq_false_iff_ne]; omega
  have k7 : (k == 7) = false := by rw [beq_eq_false_iff_ne]; omega
  have k8 : (k == 8) = false := by rw [beq_eq_false_iff_ne]; omega
  have k9 : (k == 9) = false := by rw [beq_eq_false_iff_ne]; omega
  have k10 : (k == 10) = false := by rw [beq_eq_false_iff_ne]; omega
  clear hk
  go_enter Tryz.func74, Tryz.ntmps74
  go_wp2_with fail
  go_ret
  exact ⟨rfl, ((Below.refl _ _).alloc (Nat.le_refl _) _).alloc (by simp only [World.size_alloc]; omega) _⟩
/-- node, whatever the place. -/
theorem node_any (s t f l p k o i : Int) (w : World) (hs : 1 ≤ s ∧ s ≤ 1000) (ht : 1 ≤ t ∧ t ≤ 64) (hf : 4 ≤ f ∧ f ≤ 64) :
    Calls Tryz.prog 74 #[.agg #[.int .i64 s, .int .i64 t, .int .i64 f, .int .i64 l, .int .i64 p], .agg #[.int .i64 k, .int .i64 o, .int .i64 i]] w fun e w' => e = .returned (.int .i64 (nod s t f k o i)) ∧ Below w.heap.size w w' := by
  by_cases hk : k < 6 ∨ 10 < k
  · rw [show nod s t f k o i = -1 from if_pos (by omega)]
    exact node_none s t f l p k o i w hk
  have hk5 : k = 6 ∨ k = 7 ∨ k = 8 ∨ k = 9 ∨ k = 10 := by omega
  by_cases h : o < 0 ∨ s + 1 ≤ o ∨ i < 0 ∨ nodMany f k ≤ i
  · rw [show nod s t f k o i = -1 from if_pos (by omega)]
    rcases hk5 with rfl | rfl | rfl | rfl | rfl
    · exact node_no6 s t f l p o i w hs hf h
    · exact node_no7 s t f l p o i w hs hf h
    · exact node_no8 s t f l p o i w hs hf h
    · exact node_no9 s t f l p o i w hs hf h
    · exact node_no10 s t f l p o i w hs hf h
  · rw [show nod s t f k o i = 3 + 3 * t + o * (3 + 2 * f) + nodAt f k + i from if_neg (by omega)]
    have ho : 0 ≤ o ∧ o < s + 1 := by omega
    rcases hk5 with rfl | rfl | rfl | rfl | rfl
    · have := node_yes6 s t f l p o i w hs ht hf ho ⟨by omega, by have : ¬ (1 : Int) ≤ i := fun e => h (.inr (.inr (.inr e))); omega⟩
      rw [show nodAt f 6 = 0 from rfl, Int.add_zero]
      exact this
    · exact node_yes7 s t f l p o i w hs ht hf ho ⟨by omega, by have : ¬ (1 : Int) ≤ i := fun e => h (.inr (.inr (.inr e))); omega⟩
    · exact node_yes8 s t f l p o i w hs ht hf ho ⟨by omega, by have : ¬ (1 : Int) ≤ i := fun e => h (.inr (.inr (.inr e))); omega⟩
    · exact node_yes9 s t f l p o i w hs ht hf ho ⟨by omega, by have : ¬ f ≤ i := fun e => h (.inr (.inr (.inr e))); omega⟩
    · exact node_yes10 s t f l p o i w hs ht hf ho ⟨by omega, by have : ¬ f ≤ i := fun e => h (.inr (.inr (.inr e))); omega⟩
end Go.Proofs.YtlnckjemfabckaaGreatDoor

/-
  Package layout: At, and the words of threads and slots.
-/
namespace Go.Proofs.YtlnckjemfabckaaGreatDoor
open Go.RowKit
attribute [local go_sem] past_cell past_cell_add

set_option maxHeartbeats 1000000 in
theorem at_first1 (s t f l p : Int) (w : World) (hs : 1 ≤ s) :
    Calls Tryz.prog 30 #[.agg #[.int .i64 s, .int .i64 t, .int .i64 f, .int .i64 l, .int .i64 p], .agg #[.int .i64 1, .int .i64 0, .int .i64 0]] w fun e w' => e = .returned (.int .i64 0) ∧ Below w.heap.size w w' := by
  have N := hide (fun w => none_no s t f l p w hs)
  go_enter Tryz.func30, Tryz.ntmps30
  go_wp2_with fail
  have bx := Blk.new w 63 #[.int .i64 s, .int .i64 t, .int .i64 f, .int .i64 l, .int .i64 p]
  have B0 := (Below.refl w.heap.size w).alloc (Nat.le_refl _) (.cells #[.int .i64 s, .int .i64 t, .int .i64 f, .int .i64 l, .int .i64 p] 63)
  have bo := Blk.new (w.alloc (.cells #[.int .i64 s, .int .i64 t, .int .i64 f, .int .i64 l, .int .i64 p] 63)) 72 #[.int .i64 1, .int .i64 0, .int .i64 0]
  replace bx := bx.alloc (.cells #[.int .i64 1, .int .i64 0, .int .i64 0] 72)
  replace B0 := B0.alloc B0.size (.cells #[.int .i64 1, .int .i64 0, .int .i64 0] 72)
  rw [World.size_alloc] at bo
  refine (N.out _).mono ?_
  rintro e w1 ⟨rfl, hb1⟩
  replace bx := bx.below hb1 bx.lt
  replace bo := bo.below hb1 bo.lt
  replace B0 := B0.trans (hb1.mono B0.size)
  clear hb1
  have lx := bx.lt
  have lo := bo.lt
  have mx := fun i => bx.cell i
  have mo := fun i => bo.cell i
  go_wp2_with fail
  go_ret
  exact ⟨rfl, B0⟩
set_option maxHeartbeats 1000000 in
theorem at_first2 (s t f l p : Int) (w : World) (hs : 1 ≤ s) :
    Calls Tryz.prog 30 #[.agg #[.int .i64 s, .int .i64 t, .int .i64 f, .int .i64 l, .int .i64 p], .agg #[.int .i64 2, .int .i64 0, .int .i64 0]] w fun e w' => e = .returned (.int .i64 1) ∧ Below w.heap.size w w' := by
  have N := hide (fun w => none_no s t f l p w hs)
  go_enter Tryz.func30, Tryz.ntmps30
  go_wp2_with fail
  have bx := Blk.new w 63 #[.int .i64 s, .int .i64 t, .int .i64 f, .int .i64 l, .int .i64 p]
  have B0 := (Below.refl w.heap.size w).alloc (Nat.le_refl _) (.cells #[.int .i64 s, .int .i64 t, .int .i64 f, .int .i64 l, .int .i64 p] 63)
  have bo := Blk.new (w.alloc (.cells #[.int .i64 s, .int .i64 t, .int .i64 f, .int .i64 l, .int .i64 p] 63)) 72 #[.int .i64 2, .int .i64 0, .int .i64 0]
  replace bx := bx.alloc (.cells #[.int .i64 2, .int .i64 0, .int .i64 0] 72)
  replace B0 := B0.alloc B0.size (.cells #[.int .i64 2, .int .i64 0, .int .i64 0] 72)
  rw [World.size_alloc] at bo
  refine (N.out _).mono ?_
  rintro e w1 ⟨rfl, hb1⟩
  replace bx := bx.below hb1 bx.lt
  replace bo := bo.below hb1 bo.lt
  replace B0 := B0.trans (hb1.mono B0.size)
  clear hb1
  have lx := bx.lt
  have lo := bo.lt
  have mx := fun i => bx.cell i
  have mo := fun i => bo.cell i
  go_wp2_with fail
  go_ret
  exact ⟨rfl, B0⟩
set_option maxHeartbeats 1000000 in
theorem at_first3 (s t f l p : Int) (w : World) (hs : 1 ≤ s) :
    Calls Tryz.prog 30 #[.agg #[.int .i64 s, .int .i64 t, .int .i64 f, .int .i64 l, .int .i64 p], .agg #[.int .i64 3, .int .i64 0, .int .i64 0]] w fun e w' => e = .returned (.int .i64 2) ∧ Below w.heap.size w w' := by
  have N := hide (fun w => none_no s t f l p w hs)
  go_enter Tryz.func30, Tryz.ntmps30
  go_wp2_with fail
  have bx := Blk.new w 63 #[.int .i64 s, .int .i64 t, .int .i64 f, .int .i64 l, .int .i64 p]
  have B0 := (Below.refl w.heap.size w).alloc (Nat.le_refl _) (.cells #[.int .i64 s, .int .i64 t, .int .i64 f, .int .i64 l, .int .i64 p] 63)
  have bo := Blk.new (w.alloc (.cells #[.int .i64 s, .int .i64 t, .int .i64 f, .int .i64 l, .int .i64 p] 63)) 72 #[.int .i64 3, .int .i64 0, .int .i64 0]
  replace bx := bx.alloc (.cells #[.int .i64 3, .int .i64 0, .int .i64 0] 72)
  replace B0 := B0.alloc B0.size (.cells #[.int .i64 3, .int .i64 0, .int .i64 0] 72)
  rw [World.size_alloc] at bo
  refine (N.out _).mono ?_
  rintro e w1 ⟨rfl, hb1⟩
  replace bx := bx.below hb1 bx.lt
  replace bo := bo.below hb1 bo.lt
  replace B0 := B0.trans (hb1.mono B0.size)
  clear hb1
  have lx := bx.lt
  have lo := bo.lt
  have mx := fun i => bx.cell i
  have mo := fun i => bo.cell i
  go_wp2_with fail
  go_ret
  exact ⟨rfl, B0⟩
set_option maxHeartbeats 1000000 in
theorem at_node (s t f l p k o i : Int) (w : World) (hs : 1 ≤ s ∧ s ≤ 1000) (ht : 1 ≤ t ∧ t ≤ 64) (hf : 4 ≤ f ∧ f ≤ 64) (hk : k < 1 ∨ 5 < k) :
    Calls Tryz.prog 30 #[.agg #[.int .i64 s, .int .i64 t, .int .i64 f, .int .i64 l, .int .i64 p], .agg #[.int .i64 k, .int .i64 o, .int .i64 i]] w fun e w' => e = .returned (.int .i64 (nod s t f k o i)) ∧ Below w.heap.size w w' := by
  have N := hide (fun w => none_no s t f l p w hs.1)
  have D := hide (fun w => node_any s t f l p (k) (o) (i) w hs ht hf)
  have k1 : (k == 1) = false := by rw [beq_eq_false_iff_ne]; omega
  have k2 : (k == 2) = false := by rw [beq_eq_false_iff_ne]; omega
  have k3 : (k == 3) = false := by rw [beq_eq_false_iff_ne]; omega
  have k4 : (k == 4) = false := by rw [beq_eq_false_iff_ne]; omega
  have k5 : (k == 5) = false := by rw [beq_eq_false_iff_ne]; omega
  clear hk
  generalize nod s t f k o i = R at *
  go_enter Tryz.func30, Tryz.ntmps30
  go_wp2_with fail
  have bx := Blk.new w 63 #[.int .i64 s, .int .i64 t, .int .i64 f, .int .i64 l, .int .i64 p]
  have B0 := (Below.refl w.heap.size w).alloc (Nat.le_refl _) (.cells #[.int .i64 s, .int .i64 t, .int .i64 f, .int .i64 l, .int .i64 p] 63)
  have bo := Blk.new (w.alloc (.cells #[.int .i64 s, .int .i64 t, .int .i64 f, .int .i64 l, .int .i64 p] 63)) 72 #[.int .i64 k, .int .i64 o, .int .i64 i]
  replace bx := bx.alloc (.cells #[.int .i64 k, .int .i64 o, .int .i64 i] 72)
  replace B0 := B0.alloc B0.size (.cells #[.int .i64 k, .int .i64 o, .int .i64 i] 72)
  rw [World.size_alloc] at bo
  refine (N.out _).mono ?_
  rintro e w1 ⟨rfl, hb1⟩
  replace bx := bx.below hb1 bx.lt
  replace bo := bo.below hb1 bo.lt
  replace B0 := B0.trans (hb1.mono B0.size)
  clear hb1
  have lx := bx.lt
  have lo := bo.lt
  have mx := fun i => bx.cell i
  have mo := fun i => bo.cell i
  go_wp2_with fail
  refine (D.out _).mono ?_
  rintro e w2 ⟨rfl, hb2⟩
  go_wp2_with fail
  go_ret
  exact ⟨rfl, B0.trans (hb2.mono B0.size)⟩
set_option maxHeartbeats 1000000 in
theorem at_b1 (s t f l p o i : Int) (w : World) (hs : 1 ≤ s ∧ s ≤ 1000) (ht : 1 ≤ t ∧ t ≤ 64) (hf : 4 ≤ f ∧ f ≤ 64) (ho : (o == 0) = false) :
    Calls Tryz.prog 30 #[.agg #[.int .i64 s, .int .i64 t, .int .i64 f, .int .i64 l, .int .i64 p], .agg #[.int .i64 1, .int .i64 o, .int .i64 i]] w fun e w' => e = .returned (.int .i64 (nod s t f 1 o i)) ∧ Below w.heap.size w w' := by
  have N := hide (fun w => none_no s t f l p w hs.1)
  have D := hide (fun w => node_any s t f l p (1) (o) (i) w hs ht hf)
  generalize nod s t f 1 o i = R at *
  go_enter Tryz.func30, Tryz.ntmps30
  go_wp2_with fail
  have bx := Blk.new w 63 #[.int .i64 s, .int .i64 t, .int .i64 f, .int .i64 l, .int .i64 p]
  have B0 := (Below.refl w.heap.size w).alloc (Nat.le_refl _) (.cells #[.int .i64 s, .int .i64 t, .int .i64 f, .int .i64 l, .int .i64 p] 63)
  have bo := Blk.new (w.alloc (.cells #[.int .i64 s, .int .i64 t, .int .i64 f, .int .i64 l, .int .i64 p] 63)) 72 #[.int .i64 1, .int .i64 o, .int .i64 i]
  replace bx := bx.alloc (.cells #[.int .i64 1, .int .i64 o, .int .i64 i] 72)
  replace B0 := B0.alloc B0.size (.cells #[.int .i64 1, .int .i64 o, .int .i64 i] 72)
  rw [World.size_alloc] at bo
  refine (N.out _).mono ?_
  rintro e w1 ⟨rfl, hb1⟩
  replace bx := bx.below hb1 bx.lt
  replace bo := bo.below hb1 bo.lt
  replace B0 := B0.trans (hb1.mono B0.size)
  clear hb1
  have lx := bx.lt
  have lo := bo.lt
  have mx := fun i => bx.cell i
  have mo := fun i => bo.cell i
  go_wp2_with fail
  refine (D.out _).mono ?_
  rintro e w2 ⟨rfl, hb2⟩
  go_wp2_with fail
  go_ret
  exact ⟨rfl, B0.trans (hb2.mono B0.size)⟩
set_option maxHeartbeats 1000000 in
theorem at_c1 (s t f l p i : Int) (w : World) (hs : 1 ≤ s ∧ s ≤ 1000) (ht : 1 ≤ t ∧ t ≤ 64) (hf : 4 ≤ f ∧ f ≤ 64) (hi : (i == 0) = false) :
    Calls Tryz.prog 30 #[.agg #[.int .i64 s, .int .i64 t, .int .i64 f, .int .i64 l, .int .i64 p], .agg #[.int .i64 1, .int .i64 0, .int .i64 i]] w fun e w' => e = .returned (.int .i64 (nod s t f 1 0 i)) ∧ Below w.heap.size w w' := by
  have N := hide (fun w => none_no s t f l p w hs.1)
  have D := hide (fun w => node_any s t f l p (1) (0) (i) w hs ht hf)
  generalize nod s t f 1 0 i = R at *
  go_enter Tryz.func30, Tryz.ntmps30
  go_wp2_with fail
  have bx := Blk.new w 63 #[.int .i64 s, .int .i64 t, .int .i64 f, .int .i64 l, .int .i64 p]
  have B0 := (Below.refl w.heap.size w).alloc (Nat.le_refl _) (.cells #[.int .i64 s, .int .i64 t, .int .i64 f, .int .i64 l, .int .i64 p] 63)
  have bo := Blk.new (w.alloc (.cells #[.int .i64 s, .int .i64 t, .int .i64 f, .int .i64 l, .int .i64 p] 63)) 72 #[.int .i64 1, .int .i64 0, .int .i64 i]
  replace bx := bx.alloc (.cells #[.int .i64 1, .int .i64 0, .int .i64 i] 72)
  replace B0 := B0.alloc B0.size (.cells #[.int .i64 1, .int .i64 0, .int .i64 i] 72)
  rw [World.size_alloc] at bo
  refine (N.out _).mono ?_
  rintro e w1 ⟨rfl, hb1⟩
  replace bx := bx.below hb1 bx.lt
  replace bo := bo.below hb1 bo.lt
  replace B0 := B0.trans (hb1.mono B0.size)
  clear hb1
  have lx := bx.lt
  have lo := bo.lt
  have mx := fun i => bx.cell i
  have mo := fun i => bo.cell i
  go_wp2_with fail
  refine (D.out _).mono ?_
  rintro e w2 ⟨rfl, hb2⟩
  go_wp2_with fail
  go_ret
  exact ⟨rfl, B0.trans (hb2.mono B0.size)⟩
set_option maxHeartbeats 1000000 in
theorem at_b2 (s t f l p o i : Int) (w : World) (hs : 1 ≤ s ∧ s ≤ 1000) (ht : 1 ≤ t ∧ t ≤ 64) (hf : 4 ≤ f ∧ f ≤ 64) (ho : (o == 0) = false) :
    Calls Tryz.prog 30 #[.agg #[.int .i64 s, .int .i64 t, .int .i64 f, .int .i64 l, .int .i64 p], .agg #[.int .i64 2, .int .i64 o, .int .i64 i]] w fun e w' => e = .returned (.int .i64 (nod s t f 2 o i)) ∧ Below w.heap.size w w' := by
  have N := hide (fun w => none_no s t f l p w hs.1)
  have D := hide (fun w => node_any s t f l p (2) (o) (i) w hs ht hf)
  generalize nod s t f 2 o i = R at *
  go_enter Tryz.func30, Tryz.ntmps30
  go_wp2_with fail
  have bx := Blk.new w 63 #[.int .i64 s, .int .i64 t, .int .i64 f, .int .i64 l, .int .i64 p]
  have B0 := (Below.refl w.heap.size w).alloc (Nat.le_refl _) (.cells #[.int .i64 s, .int .i64 t, .int .i64 f, .int .i64 l, .int .i64 p] 63)
  have bo := Blk.new (w.alloc (.cells #[.int .i64 s, .int .i64 t, .int .i64 f, .int .i64 l, .int .i64 p] 63)) 72 #[.int .i64 2, .int .i64 o, .int .i64 i]
  replace bx := bx.alloc (.cells #[.int .i64 2, .int .i64 o, .int .i64 i] 72)
  replace B0 := B0.alloc B0.size (.cells #[.int .i64 2, .int .i64 o, .int .i64 i] 72)
  rw [World.size_alloc] at bo
  refine (N.out _).mono ?_
  rintro e w1 ⟨rfl, hb1⟩
  replace bx := bx.below hb1 bx.lt
  replace bo := bo.below hb1 bo.lt
  replace B0 := B0.trans (hb1.mono B0.size)
  clear hb1
  have lx := bx.lt
  have lo := bo.lt
  have mx := fun i => bx.cell i
  have mo := fun i => bo.cell i
  go_wp2_with fail
  refine (D.out _).mono ?_
  rintro e w2 ⟨rfl, hb2⟩
  go_wp2_with fail
  go_ret
  exact ⟨rfl, B0.trans (hb2.mono B0.size)⟩
set_option maxHeartbeats 1000000 in
theorem at_c2 (s t f l p i : Int) (w : World) (hs : 1 ≤ s ∧ s ≤ 1000) (ht : 1 ≤ t ∧ t ≤ 64) (hf : 4 ≤ f ∧ f ≤ 64) (hi : (i == 0) = false) :
    Calls Tryz.prog 30 #[.agg #[.int .i64 s, .int .i64 t, .int .i64 f, .int .i64 l, .int .i64 p], .agg #[.int .i64 2, .int .i64 0, .int .i64 i]] w fun e w' => e = .returned (.int .i64 (nod s t f 2 0 i)) ∧ Below w.heap.size w w' := by
  have N := hide (fun w => none_no s t f l p w hs.1)
  have D := hide (fun w => node_any s t f l p (2) (0) (i) w hs ht hf)
  generalize nod s t f 2 0 i = R at *
  go_enter Tryz.func30, Tryz.ntmps30
  go_wp2_with fail
  have bx := Blk.new w 63 #[.int .i64 s, .int .i64 t, .int .i64 f, .int .i64 l, .int .i64 p]
  have B0 := (Below.refl w.heap.size w).alloc (Nat.le_refl _) (.cells #[.int .i64 s, .int .i64 t, .int .i64 f, .int .i64 l, .int .i64 p] 63)
  have bo := Blk.new (w.alloc (.cells #[.int .i64 s, .int .i64 t, .int .i64 f, .int .i64 l, .int .i64 p] 63)) 72 #[.int .i64 2, .int .i64 0, .int .i64 i]
  replace bx := bx.alloc (.cells #[.int .i64 2, .int .i64 0, .int .i64 i] 72)
  replace B0 := B0.alloc B0.size (.cells #[.int .i64 2, .int .i64 0, .int .i64 i] 72)
  rw [World.size_alloc] at bo
  refine (N.out _).mono ?_
  rintro e w1 ⟨rfl, hb1⟩
  replace bx := bx.below hb1 bx.lt
  replace bo := bo.below hb1 bo.lt
  replace B0 := B0.trans (hb1.mono B0.size)
  clear hb1
  have lx := bx.lt
  have lo := bo.lt
  have mx := fun i => bx.cell i
  have mo := fun i => bo.cell i
  go_wp2_with fail
  refine (D.out _).mono ?_
  rintro e w2 ⟨rfl, hb2⟩
  go_wp2_with fail
  go_ret
  exact ⟨rfl, B0.trans (hb2.mono B0.size)⟩
set_option maxHeartbeats 1000000 in
theorem at_b3 (s t f l p o i : Int) (w : World) (hs : 1 ≤ s ∧ s ≤ 1000) (ht : 1 ≤ t ∧ t ≤ 64) (hf : 4 ≤ f ∧ f ≤ 64) (ho : (o == 0) = false) :
    Calls Tryz.prog 30 #[.agg #[.int .i64 s, .int .i64 t, .int .i64 f, .int .i64 l, .int .i64 p], .agg #[.int .i64 3, .int .i64 o, .int .i64 i]] w fun e w' => e = .returned (.int .i64 (nod s t f 3 o i)) ∧ Below w.heap.size w w' := by
  have N := hide (fun w => none_no s t f l p w hs.1)
  have D := hide (fun w => node_any s t f l p (3) (o) (i) w hs ht hf)
  generalize nod s t f 3 o i = R at *
  go_enter Tryz.func30, Tryz.ntmps30
  go_wp2_with fail
  have bx := Blk.new w 63 #[.int .i64 s, .int .i64 t, .int .i64 f, .int .i64 l, .int .i64 p]
  have B0 := (Below.refl w.heap.size w).alloc (Nat.le_refl _) (.cells #[.int .i64 s, .int .i64 t, .int .i64 f, .int .i64 l, .int .i64 p] 63)
  have bo := Blk.new (w.alloc (.cells #[.int .i64 s, .int .i64 t, .int .i64 f, .int .i64 l, .int .i64 p] 63)) 72 #[.int .i64 3, .int .i64 o, .int .i64 i]
  replace bx := bx.alloc (.cells #[.int .i64 3, .int .i64 o, .int .i64 i] 72)
  replace B0 := B0.alloc B0.size (.cells #[.int .i64 3, .int .i64 o, .int .i64 i] 72)
  rw [World.size_alloc] at bo
  refine (N.out _).mono ?_
  rintro e w1 ⟨rfl, hb1⟩
  replace bx := bx.below hb1 bx.lt
  replace bo := bo.below hb1 bo.lt
  replace B0 := B0.trans (hb1.mono B0.size)
  clear hb1
  have lx := bx.lt
  have lo := bo.lt
  have mx := fun i => bx.cell i
  have mo := fun i => bo.cell i
  go_wp2_with fail
  refine (D.out _).mono ?_
  rintro e w2 ⟨rfl, hb2⟩
  go_wp2_with fail
  go_ret
  exact ⟨rfl, B0.trans (hb2.mono B0.size)⟩
set_option maxHeartbeats 1000000 in
theorem at_c3 (s t f l p i : Int) (w : World) (hs : 1 ≤ s ∧ s ≤ 1000) (ht : 1 ≤ t ∧ t ≤ 64) (hf : 4 ≤ f ∧ f ≤ 64) (hi : (i == 0) = false) :
    Calls Tryz.prog 30 #[.agg #[.int .i64 s, .int .i64 t, .int .i64 f, .int .i64 l, .int .i64 p], .agg #[.int .i64 3, .int .i64 0, .int .i64 i]] w fun e w' => e = .returned (.int .i64 (nod s t f 3 0 i)) ∧ Below w.heap.size w w' := by
  have N := hide (fun w => none_no s t f l p w hs.1)
  have D := hide (fun w => node_any s t f l p (3) (0) (i) w hs ht hf)
  generalize nod s t f 3 0 i = R at *
  go_enter Tryz.func30, Tryz.ntmps30
  go_wp2_with fail
  have bx := Blk.new w 63 #[.int .i64 s, .int .i64 t, .int .i64 f, .int .i64 l, .int .i64 p]
  have B0 := (Below.refl w.heap.size w).alloc (Nat.le_refl _) (.cells #[.int .i64 s, .int .i64 t, .int .i64 f, .int .i64 l, .int .i64 p] 63)
  have bo := Blk.new (w.alloc (.cells #[.int .i64 s, .int .i64 t, .int .i64 f, .int .i64 l, .int .i64 p] 63)) 72 #[.int .i64 3, .int .i64 0, .int .i64 i]
  replace bx := bx.alloc (.cells #[.int .i64 3, .int .i64 0, .int .i64 i] 72)
  replace B0 := B0.alloc B0.size (.cells #[.int .i64 3, .int .i64 0, .int .i64 i] 72)
  rw [World.size_alloc] at bo
  refine (N.out _).mono ?_
  rintro e w1 ⟨rfl, hb1⟩
  replace bx := bx.below hb1 bx.lt
  replace bo := bo.below hb1 bo.lt
  replace B0 := B0.trans (hb1.mono B0.size)
  clear hb1
  have lx := bx.lt
  have lo := bo.lt
  have mx := fun i => bx.cell i
  have mo := fun i => bo.cell i
  go_wp2_with fail
  refine (D.out _).mono ?_
  rintro e w2 ⟨rfl, hb2⟩
  go_wp2_with fail
  go_ret
  exact ⟨rfl, B0.trans (hb2.mono B0.size)⟩
set_option maxHeartbeats 1000000 in
theorem at_4i (s t f l p o i : Int) (w : World) (hs : 1 ≤ s ∧ s ≤ 1000) (ht : 1 ≤ t ∧ t ≤ 64) (hf : 4 ≤ f ∧ f ≤ 64) (hi : (i == 0) = false) :
    Calls Tryz.prog 30 #[.agg #[.int .i64 s, .int .i64 t, .int .i64 f, .int .i64 l, .int .i64 p], .agg #[.int .i64 4, .int .i64 o, .int .i64 i]] w fun e w' => e = .returned (.int .i64 (nod s t f 4 o i)) ∧ Below w.heap.size w w' := by
  have N := hide (fun w => none_no s t f l p w hs.1)
  have D := hide (fun w => node_any s t f l p (4) (o) (i) w hs ht hf)
  generalize nod s t f 4 o i = R at *
  go_enter Tryz.func30, Tryz.ntmps30
  go_wp2_with fail
  have bx := Blk.new w 63 #[.int .i64 s, .int .i64 t, .int .i64 f, .int .i64 l, .int .i64 p]
  have B0 := (Below.refl w.heap.size w).alloc (Nat.le_refl _) (.cells #[.int .i64 s, .int .i64 t, .int .i64 f, .int .i64 l, .int .i64 p] 63)
  have bo := Blk.new (w.alloc (.cells #[.int .i64 s, .int .i64 t, .int .i64 f, .int .i64 l, .int .i64 p] 63)) 72 #[.int .i64 4, .int .i64 o, .int .i64 i]
  replace bx := bx.alloc (.cells #[.int .i64 4, .int .i64 o, .int .i64 i] 72)
  replace B0 := B0.alloc B0.size (.cells #[.int .i64 4, .int .i64 o, .int .i64 i] 72)
  rw [World.size_alloc] at bo
  refine (N.out _).mono ?_
  rintro e w1 ⟨rfl, hb1⟩
  replace bx := bx.below hb1 bx.lt
  replace bo := bo.below hb1 bo.lt
  replace B0 := B0.trans (hb1.mono B0.size)
  clear hb1
  have lx := bx.lt
  have lo := bo.lt
  have mx := fun i => bx.cell i
  have mo := fun i => bo.cell i
  go_wp2_with fail
  refine (D.out _).mono ?_
  rintro e w2 ⟨rfl, hb2⟩
  go_wp2_with fail
  go_ret
  exact ⟨rfl, B0.trans (hb2.mono B0.size)⟩
set_option maxHeartbeats 1000000 in
theorem at_4o (s t f l p o : Int) (w : World) (hs : 1 ≤ s ∧ s ≤ 1000) (ht : 1 ≤ t ∧ t ≤ 64) (hf : 4 ≤ f ∧ f ≤ 64) (ho : o < 0 ∨ t ≤ o) :
    Calls Tryz.prog 30 #[.agg #[.int .i64 s, .int .i64 t, .int .i64 f, .int .i64 l, .int .i64 p], .agg #[.int .i64 4, .int .i64 o, .int .i64 0]] w fun e w' => e = .returned (.int .i64 (nod s t f 4 o 0)) ∧ Below w.heap.size w w' := by
  have N := hide (fun w => none_no s t f l p w hs.1)
  have D := hide (fun w => node_any s t f l p (4) (o) (0) w hs ht hf)
  have W1 := hide (fun w => within_f o t w ho)
  clear ho
  generalize nod s t f 4 o 0 = R at *
  go_enter Tryz.func30, Tryz.ntmps30
  go_wp2_with fail
  have bx := Blk.new w 63 #[.int .i64 s, .int .i64 t, .int .i64 f, .int .i64 l, .int .i64 p]
  have B0 := (Below.refl w.heap.size w).alloc (Nat.le_refl _) (.cells #[.int .i64 s, .int .i64 t, .int .i64 f, .int .i64 l, .int .i64 p] 63)
  have bo := Blk.new (w.alloc (.cells #[.int .i64 s, .int .i64 t, .int .i64 f, .int .i64 l, .int .i64 p] 63)) 72 #[.int .i64 4, .int .i64 o, .int .i64 0]
  replace bx := bx.alloc (.cells #[.int .i64 4, .int .i64 o, .int .i64 0] 72)
  replace B0 := B0.alloc B0.size (.cells #[.int .i64 4, .int .i64 o, .int .i64 0] 72)
  rw [World.size_alloc] at bo
  refine (N.out _).mono ?_
  rintro e w1 ⟨rfl, hb1⟩
  replace bx := bx.below hb1 bx.lt
  replace bo := bo.below hb1 bo.lt
  replace B0 := B0.trans (hb1.mono B0.size)
  clear hb1
  have lx := bx.lt
  have lo := bo.lt
  have mx := fun i => bx.cell i
  have mo := fun i => bo.cell i
  go_wp2_with fail
  refine (W1.out _).mono ?_
  rintro e w' ⟨rfl, rfl⟩
  go_wp2_with fail
  refine (D.out _).mono ?_
  rintro e w2 ⟨rfl, hb2⟩
  go_wp2_with fail
  go_ret
  exact ⟨rfl, B0.trans (hb2.mono B0.size)⟩
set_option maxHeartbeats 1000000 in
theorem at_4 (s t f l p o : Int) (w : World) (hs : 1 ≤ s ∧ s ≤ 1000) (ht : 1 ≤ t ∧ t ≤ 64) (ho : 0 ≤ o ∧ o < t) :
    Calls Tryz.prog 30 #[.agg #[.int .i64 s, .int .i64 t, .int .i64 f, .int .i64 l, .int .i64 p], .agg #[.int .i64 4, .int .i64 o, .int .i64 0]] w fun e w' => e = .returned (.int .i64 (3 + o)) ∧ Below w.heap.size w w' := by
  have N := hide (fun w => none_no s t f l p w hs.1)
  have W1 := hide (fun w => within_t o t w ho.1 ho.2)
  have h3 : IntKind.i64.wrap (3 + o) = 3 + o := IntWalk.i64_in _ (by omega)
  clear ho hs ht
  go_enter Tryz.func30, Tryz.ntmps30
  go_wp2_with fail
  have bx := Blk.new w 63 #[.int .i64 s, .int .i64 t, .int .i64 f, .int .i64 l, .int .i64 p]
  have B0 := (Below.refl w.heap.size w).alloc (Nat.le_refl _) (.cells #[.int .i64 s, .int .i64 t, .int .i64 f, .int .i64 l, .int .i64 p] 63)
  have bo := Blk.new (w.alloc (.cells #[.int .i64 s, .int .i64 t, .int .i64 f, .int .i64 l, .int .i64 p] 63)) 72 #[.int .i64 4, .int .i64 o, .int .i64 0]
  replace bx := bx.alloc (.cells #[.int .i64 4, .int .i64 o, .int .i64 0] 72)
  replace B0 := B0.alloc B0.size (.cells #[.int .i64 4, .int .i64 o, .int .i64 0] 72)
  rw [World.size_alloc] at bo
  refine (N.out _).mono ?_
  rintro e w1 ⟨rfl, hb1⟩
  replace bx := bx.below hb1 bx.lt
  replace bo := bo.below hb1 bo.lt
  replace B0 := B0.trans (hb1.mono B0.size)
  clear hb1
  have lx := bx.lt
  have lo := bo.lt
  have mx := fun i => bx.cell i
  have mo := fun i => bo.cell i
  go_wp2_with fail
  refine (W1.out _).mono ?_
  rintro e w' ⟨rfl, rfl⟩
  go_wp2_with fail
  refine wp_region_past (by kernel_rfl) (by kernel_rfl) ?_
  repeat (quiet_step ((first | ((exact calls_past (announces_any _ _ _ _ _ _))))))
  refine wpQuiet_nil ?_
  intro _ hw'
  obtain ⟨y, hw''⟩ := hw'
  subst hw''
  have hy := past_below w1 y
  go_wp2_with fail
  go_ret
  exact ⟨rfl, B0.trans (hy.mono B0.size)⟩
set_option maxHeartbeats 1000000 in
theorem at_5i (s t f l p o i : Int) (w : World) (hs : 1 ≤ s ∧ s ≤ 1000) (ht : 1 ≤ t ∧ t ≤ 64) (hf : 4 ≤ f ∧ f ≤ 64) (hi : i < 0 ∨ 2 ≤ i) :
    Calls Tryz.prog 30 #[.agg #[.int .i64 s, .int .i64 t, .int .i64 f, .int .i64 l, .int .i64 p], .agg #[.int .i64 5, .int .i64 o, .int .i64 i]] w fun e w' => e = .returned (.int .i64 (nod s t f 5 o i)) ∧ Below w.heap.size w w' := by
  have N := hide (fun w => none_no s t f l p w hs.1)
  have D := hide (fun w => node_any s t f l p (5) (o) (i) w hs ht hf)
  have W1 := hide (fun w => within_f i 2 w hi)
  clear hi
  generalize nod s t f 5 o i = R at *
  go_enter Tryz.func30, Tryz.ntmps30
  go_wp2_with fail
  have bx := Blk.new w 63 #[.int .i64 s, .int .i64 t, .int .i64 f, .int .i64 l, .int .i64 p]
  have B0 := (Below.refl w.heap.size w).alloc (Nat.le_refl _) (.cells #[.int .i64 s, .int .i64 t, .int .i64 f, .int .i64 l, .int .i64 p] 63)
  have bo := Blk.new (w.alloc (.cells #[.int .i64 s, .int .i64 t, .int .i64 f, .int .i64 l, .int .i64 p] 63)) 72 #[.int .i64 5, .int .i64 o, .int .i64 i]
  replace bx := bx.alloc (.cells #[.int .i64 5, .int .i64 o, .int .i64 i] 72)
  replace B0 := B0.alloc B0.size (.cells #[.int .i64 5, .int .i64 o, .int .i64 i] 72)
  rw [World.size_alloc] at bo
  refine (N.out _).mono ?_
  rintro e w1 ⟨rfl, hb1⟩
  replace bx := bx.below hb1 bx.lt
  replace bo := bo.below hb1 bo.lt
  replace B0 := B0.trans (hb1.mono B0.size)
  clear hb1
  have lx := bx.lt
  have lo := bo.lt
  have mx := fun i => bx.cell i
  have mo := fun i => bo.cell i
  go_wp2_with fail
  refine (W1.out _).mono ?_
  rintro e w' ⟨rfl, rfl⟩
  go_wp2_with fail
  refine (D.out _).mono ?_
  rintro e w2 ⟨rfl, hb2⟩
  go_wp2_with fail
  go_ret
  exact ⟨rfl, B0.trans (hb2.mono B0.size)⟩
set_option maxHeartbeats 1000000 in
theorem at_5o (s t f l p o i : Int) (w : World) (hs : 1 ≤ s ∧ s ≤ 1000) (ht : 1 ≤ t ∧ t ≤ 64) (hf : 4 ≤ f ∧ f ≤ 64) (hi : 0 ≤ i ∧ i < 2) (ho : o < 0 ∨ t ≤ o) :
    Calls Tryz.prog 30 #[.agg #[.int .i64 s, .int .i64 t, .int .i64 f, .int .i64 l, .int .i64 p], .agg #[.int .i64 5, .int .i64 o, .int .i64 i]] w fun e w' => e = .returned (.int .i64 (nod s t f 5 o i)) ∧ Below w.heap.size w w' := by
  have N := hide (fun w => none_no s t f l p w hs.1)
  have D := hide (fun w => node_any s t f l p (5) (o) (i) w hs ht hf)
  have W1 := hide (fun w => within_t i 2 w hi.1 hi.2)
  have W2 := hide (fun w => within_f o t w ho)
  clear hi ho
  generalize nod s t f 5 o i = R at *
  go_enter Tryz.func30, Tryz.ntmps30
  go_wp2_with fail
  have bx := Blk.new w 63 #[.int .i64 s, .int .i64 t, .int .i64 f, .int .i64 l, .int .i64 p]
  have B0 := (Below.refl w.heap.size w).alloc (Nat.le_refl _) (.cells #[.int .i64 s, .int .i64 t, .int .i64 f, .int .i64 l, .int .i64 p] 63)
  have bo := Blk.new (w.alloc (.cells #[.int .i64 s, .int .i64 t, .int .i64 f, .int .i64 l, .int .i64 p] 63)) 72 #[.int .i64 5, .int .i64 o, .int .i64 i]
  replace bx := bx.alloc (.cells #[.int .i64 5, .int .i64 o, .int .i64 i] 72)
  replace B0 := B0.alloc B0.size (.cells #[.int .i64 5, .int .i64 o, .int .i64 i] 72)
  rw [World.size_alloc] at bo
  refine (N.out _).mono ?_
  rintro e w1 ⟨rfl, hb1⟩
  replace bx := bx.below hb1 bx.lt
  replace bo := bo.below hb1 bo.lt
  replace B0 := B0.trans (hb1.mono B0.size)
  clear hb1
  have lx := bx.lt
  have lo := bo.lt
  have mx := fun i => bx.cell i
  have mo := fun i => bo.cell i
  go_wp2_with fail
  refine (W1.out _).mono ?_
  rintro e w' ⟨rfl, rfl⟩
  go_wp2_with fail
  refine (W2.out _).mono ?_
  rintro e w' ⟨rfl, rfl⟩
  go_wp2_with fail
  refine (D.out _).mono ?_
  rintro e w2 ⟨rfl, hb2⟩
  go_wp2_with fail
  go_ret
  exact ⟨rfl, B0.trans (hb2.mono B0.size)⟩
set_option maxHeartbeats 1000000 in
theorem at_5 (s t f l p o i : Int) (w : World) (hs : 1 ≤ s ∧ s ≤ 1000) (ht : 1 ≤ t ∧ t ≤ 64) (hi : 0 ≤ i ∧ i < 2) (ho : 0 ≤ o ∧ o < t) :
    Calls Tryz.prog 30 #[.agg #[.int .i64 s, .int .i64 t, .int .i64 f, .int .i64 l, .int .i64 p], .agg #[.int .i64 5, .int .i64 o, .int .i64 i]] w fun e w' => e = .returned (.int .i64 (3 + t + 2 * o + i)) ∧ Below w.heap.size w w' := by
  have N := hide (fun w => none_no s t f l p w hs.1)
  have W1 := hide (fun w => within_t i 2 w hi.1 hi.2)
  have W2 := hide (fun w => within_t o t w ho.1 ho.2)
  have H := hide (fun w => hazards_any s t f l p w ht)
  have h2 : IntKind.i64.wrap (2 * o) = 2 * o := IntWalk.i64_in _ (by omega)
  have h3 : IntKind.i64.wrap (3 + t + 2 * o) = 3 + t + 2 * o := IntWalk.i64_in _ (by omega)
  have h4 : IntKind.i64.wrap (3 + t + 2 * o + i) = 3 + t + 2 * o + i := IntWalk.i64_in _ (by omega)
  clear ho hs ht hi
  go_enter Tryz.func30, Tryz.ntmps30
  go_wp2_with fail
  have bx := Blk.new w 63 #[.int .i64 s, .int .i64 t, .int .i64 f, .int .i64 l, .int .i64 p]
  have B0 := (Below.refl w.heap.size w).alloc (Nat.le_refl _) (.cells #[.int .i64 s, .int .i64 t, .int .i64 f, .int .i64 l, .int .i64 p] 63)
  have bo := Blk.new (w.alloc (.cells #[.int .i64 s, .int .i64 t, .int .i64 f, .int .i64 l, .int .i64 p] 63)) 72 #[.int .i64 5, .int .i64 o, .int .i64 i]
  replace bx := bx.alloc (.cells #[.int .i64 5, .int .i64 o, .int .i64 i] 72)
  replace B0 := B0.alloc B0.size (.cells #[.int .i64 5, .int .i64 o, .int .i64 i] 72)
  rw [World.size_alloc] at bo
  refine (N.out _).mono ?_
  rintro e w1 ⟨rfl, hb1⟩
  replace bx := bx.below hb1 bx.lt
  replace bo := bo.below hb1 bo.lt
  replace B0 := B0.trans (hb1.mono B0.size)
  clear hb1
  have lx := bx.lt
  have lo := bo.lt
  have mx := fun i => bx.cell i
  have mo := fun i => bo.cell i
  go_wp2_with fail
  refine (W1.out _).mono ?_
  rintro e w' ⟨rfl, rfl⟩
  go_wp2_with fail
  refine (W2.out _).mono ?_
  rintro e w' ⟨rfl, rfl⟩
  go_wp2_with fail
  refine wp_region_past (by kernel_rfl) (by kernel_rfl) ?_
  repeat (quiet_step ((first | ((exact calls_past (H.out _))))))
  refine wpQuiet_nil ?_
  intro _ hw'
  obtain ⟨y, hw''⟩ := hw'
  subst hw''
  have hy := past_below w1 y
  go_wp2_with fail
  go_ret
  exact ⟨rfl, B0.trans (hy.mono B0.size)⟩
set_option maxHeartbeats 1000000 in
theorem at_zero (k o i : Int) (w : World) :
    Calls Tryz.prog 30 #[.agg #[.int .i64 0, .int .i64 0, .int .i64 0, .int .i64 0, .int .i64 0], .agg #[.int .i64 k, .int .i64 o, .int .i64 i]] w fun e w' => e = .returned (.int .i64 (-1)) ∧ Below w.heap.size w w' := by
  have N := hide none_yes
  go_enter Tryz.func30, Tryz.ntmps30
  go_wp2_with fail
  have B0 := (Below.refl w.heap.size w).alloc (Nat.le_refl _) (.cells #[.int .i64 0, .int .i64 0, .int .i64 0, .int .i64 0, .int .i64 0] 63)
  replace B0 := B0.alloc B0.size (.cells #[.int .i64 k, .int .i64 o, .int .i64 i] 72)
  refine (N.out _).mono ?_
  rintro e w1 ⟨rfl, hb1⟩
  go_wp2_with fail
  go_ret
  exact ⟨rfl, B0.trans (hb1.mono B0.size)⟩

/-- At, whatever the place. -/
theorem at_any (s t f l p k o i : Int) (w : World) (hs : 1 ≤ s ∧ s ≤ 1000) (ht : 1 ≤ t ∧ t ≤ 64) (hf : 4 ≤ f ∧ f ≤ 64) :
    Calls Tryz.prog 30 #[.agg #[.int .i64 s, .int .i64 t, .int .i64 f, .int .i64 l, .int .i64 p], .agg #[.int .i64 k, .int .i64 o, .int .i64 i]] w fun e w' => e = .returned (.int .i64 (atp s t f k o i)) ∧ Below w.heap.size w w' := by
  by_cases c1 : 1 ≤ k ∧ k ≤ 3 ∧ o = 0 ∧ i = 0
  · rw [show atp s t f k o i = k - 1 from if_pos c1]
    obtain ⟨h1, h2, rfl, rfl⟩ := c1
    have hk : k = 1 ∨ k = 2 ∨ k = 3 := by omega
    rcases hk with rfl | rfl | rfl
    · exact at_first1 s t f l p w hs.1
    · exact at_first2 s t f l p w hs.1
    · exact at_first3 s t f l p w hs.1
  by_cases c2 : k = 4 ∧ i = 0 ∧ 0 ≤ o ∧ o < t
  · rw [show atp s t f k o i = 3 + o by unfold atp; rw [if_neg c1, if_pos c2]]
    obtain ⟨rfl, rfl, h1, h2⟩ := c2
    exact at_4 s t f l p o w hs ht ⟨h1, h2⟩
  by_cases c3 : k = 5 ∧ 0 ≤ i ∧ i < 2 ∧ 0 ≤ o ∧ o < t
  · rw [show atp s t f k o i = 3 + t + 2 * o + i by unfold atp; rw [if_neg c1, if_neg c2, if_pos c3]]
    obtain ⟨rfl, h1, h2, h3, h4⟩ := c3
    exact at_5 s t f l p o i w hs ht ⟨h1, h2⟩ ⟨h3, h4⟩
  rw [show atp s t f k o i = nod s t f k o i by unfold atp; rw [if_neg c1, if_neg c2, if_neg c3]]
  by_cases hk : k < 1 ∨ 5 < k
  · exact at_node s t f l p k o i w hs ht hf hk
  have hk5 : k = 1 ∨ k = 2 ∨ k = 3 ∨ k = 4 ∨ k = 5 := by omega
  rcases hk5 with rfl | rfl | rfl | rfl | rfl
  · by_cases ho : o = 0
    · subst ho
      exact at_c1 s t f l p i w hs ht hf (by simp; omega)
    · exact at_b1 s t f l p o i w hs ht hf (by simpa using ho)
  · by_cases ho : o = 0
    · subst ho
      exact at_c2 s t f l p i w hs ht hf (by simp; omega)
    · exact at_b2 s t f l p o i w hs ht hf (by simpa using ho)
  · by_cases ho : o = 0
    · subst ho
      exact at_c3 s t f l p i w hs ht hf (by simp; omega)
    · exact at_b3 s t f l p o i w hs ht hf (by simpa using ho)
  · by_cases hi : i = 0
    · subst hi
      exact at_4o s t f l p o w hs ht hf (by omega)
    · exact at_4i s t f l p o i w hs ht hf (by simpa using hi)
  · by_cases hi : i < 0 ∨ 2 ≤ i
    · exact at_5i s t f l p o i w hs ht hf hi
    · exact at_5o s t f l p o i w hs ht hf (by omega) (by omega)
end Go.Proofs.YtlnckjemfabckaaGreatDoor

/-
  gleaningref07.Numbers, Wrong; gleaningref08.Size, Place.
-/
namespace Go.Proofs.YtlnckjemfabckaaGreatDoor
open Go.RowKit
attribute [local go_sem] past_cell past_cell_add

/-- The place of the first number that is out of its bounds; -1: there is none. -/
def wrg (s t f l p : Int) : Int := if ¬ (1 ≤ s ∧ s ≤ 1000) then 0 else if ¬ (1 ≤ t ∧ t ≤ 64) then 1 else if ¬ (4 ≤ f ∧ f ≤ 64) then 2 else if ¬ (1 ≤ l ∧ l ≤ 64) then 3 else if ¬ (1 ≤ p ∧ p ≤ 1048576) then 4 else -1
theorem wrg_ok {s t f l p : Int} : cfgOk s t f l p = decide (wrg s t f l p < 0) := by
  rw [Bool.eq_iff_iff, cfgOk_iff, decide_eq_true_eq]
  unfold wrg
  repeat' split
  all_goals omega
theorem wrg_none {s t f l p : Int} (h : ∀ k, k < 5 → cIn s t f l p k) : wrg s t f l p = -1 := by
  have h0 : 1 ≤ s ∧ s ≤ 1000 := h 0 (by omega)
  have h1 : 1 ≤ t ∧ t ≤ 64 := h 1 (by omega)
  have h2 : 4 ≤ f ∧ f ≤ 64 := h 2 (by omega)
  have h3 : 1 ≤ l ∧ l ≤ 64 := h 3 (by omega)
  have h4 : 1 ≤ p ∧ p ≤ 1048576 := h 4 (by omega)
  unfold wrg
  rw [if_neg (by omega), if_neg (by omega), if_neg (by omega), if_neg (by omega), if_neg (by omega)]
theorem wrg_at {s t f l p : Int} {k : Nat} (hk : k < 5) (h : ∀ j, j < k → cIn s t f l p j) (hn : ¬ cIn s t f l p k) : wrg s t f l p = k := by
  unfold wrg
  rcases five hk with rfl | rfl | rfl | rfl | rfl
  · have h0 : ¬ (1 ≤ s ∧ s ≤ 1000) := hn
    rw [if_pos h0]
    rfl
  · have h0 : 1 ≤ s ∧ s ≤ 1000 := h 0 (by omega)
    have h1 : ¬ (1 ≤ t ∧ t ≤ 64) := hn
    rw [if_neg (by omega), if_pos h1]
    rfl
  · have h0 : 1 ≤ s ∧ s ≤ 1000 := h 0 (by omega)
    have h1 : 1 ≤ t ∧ t ≤ 64 := h 1 (by omega)
    have h2 : ¬ (4 ≤ f ∧ f ≤ 64) := hn
    rw [if_neg (by omega), if_neg (by omega), if_pos h2]
    rfl
  · have h0 : 1 ≤ s ∧ s ≤ 1000 := h 0 (by omega)
    have h1 : 1 ≤ t ∧ t ≤ 64 := h 1 (by omega)
    have h2 : 4 ≤ f ∧ f ≤ 64 := h 2 (by omega)
    have h3 : ¬ (1 ≤ l ∧ l ≤ 64) := hn
    rw [if_neg (by omega), if_neg (by omega), if_neg (by omega), if_pos h3]
    rfl
  · have h0 : 1 ≤ s ∧ s ≤ 1000 := h 0 (by omega)
    have h1 : 1 ≤ t ∧ t ≤ 64 := h 1 (by omega)
    have h2 : 4 ≤ f ∧ f ≤ 64 := h 2 (by omega)
    have h3 : 1 ≤ l ∧ l ≤ 64 := h 3 (by omega)
    have h4 : ¬ (1 ≤ p ∧ p ≤ 1048576) := hn
    rw [if_neg (by omega), if_neg (by omega), if_neg (by omega), if_neg (by omega), if_pos h4]
    rfl

set_option maxHeartbeats 400000 in
theorem numbers_any (s t f l p : Int) (w : World) :
    Calls Tryz.prog 39 #[.agg #[.int .i64 s, .int .i64 t, .int .i64 f, .int .i64 l, .int .i64 p]] w fun e w' => (∃ g, e = .returned (.slice (some ⟨g, 0, none⟩) 5 5) ∧ Blk w' g 3 (numA s t f l p)) ∧ Below w.heap.size w w' := by
  go_enter Tryz.func39, Tryz.ntmps39
  go_wp2_with fail
  go_ret
  have h := fun o => Blk.new (w.alloc o) 3 (numA s t f l p)
  simp only [World.size_alloc] at h
  exact ⟨⟨_, rfl, h _⟩, ((Below.refl _ _).alloc (Nat.le_refl _) _).alloc (by simp only [World.size_alloc]; omega) _⟩

set_option maxHeartbeats 1000000 in
theorem wrong_any (s t f l p : Int) (w : World) :
    Calls Tryz.prog 11 #[.agg #[.int .i64 s, .int .i64 t, .int .i64 f, .int .i64 l, .int .i64 p]] w fun e w' => e = .returned (.int .i64 (wrg s t f l p)) ∧ Below w.heap.size w w' := by
  have C := hide (fun w2 => numbers_any s t f l p w2)
  have WN := hide (fun h => wrg_none (s := s) (t := t) (f := f) (l := l) (p := p) h)
  have WA := hide (fun k hk h hn => wrg_at (s := s) (t := t) (f := f) (l := l) (p := p) (k := k) hk h hn)
  generalize wrg s t f l p = R at *
  go_enter Tryz.func11, Tryz.ntmps11
  go_wp2_with fail
  have B0 := (Below.refl w.heap.size w).alloc (Nat.le_refl _) (.cells #[.int .i64 s, .int .i64 t, .int .i64 f, .int .i64 l, .int .i64 p] 23)
  refine (C.out _).mono ?_
  rintro e w1 ⟨⟨g1, rfl, b1⟩, hb1⟩
  replace B0 := B0.trans (hb1.mono B0.size)
  have H1 := hide b1
  have HB := hide B0
  clear b1 hb1 B0
  go_wp2_with fail
  have b1 := (H1.out.alloc (.cells #[.int .i64 1, .int .i64 1, .int .i64 4, .int .i64 1, .int .i64 1] 3)).alloc (.cells #[.int .i64 1000, .int .i64 64, .int .i64 64, .int .i64 64, .int .i64 1048576] 3)
  have b2 := (Blk.new w1 3 #[.int .i64 1, .int .i64 1, .int .i64 4, .int .i64 1, .int .i64 1]).alloc (.cells #[.int .i64 1000, .int .i64 64, .int .i64 64, .int .i64 64, .int .i64 1048576] 3)
  have b3 := Blk.new (w1.alloc (.cells #[.int .i64 1, .int .i64 1, .int .i64 4, .int .i64 1, .int .i64 1] 3)) 3 #[.int .i64 1000, .int .i64 64, .int .i64 64, .int .i64 64, .int .i64 1048576]
  have B0 := (HB.out.alloc HB.out.size (.cells #[.int .i64 1, .int .i64 1, .int .i64 4, .int .i64 1, .int .i64 1] 3)).alloc (by have := HB.out.size; simp only [World.size_alloc]; omega) (.cells #[.int .i64 1000, .int .i64 64, .int .i64 64, .int .i64 64, .int .i64 1048576] 3)
  rw [World.size_alloc] at b3
  generalize (w1.alloc (.cells #[.int .i64 1, .int .i64 1, .int .i64 4, .int .i64 1, .int .i64 1] 3)).alloc (.cells #[.int .i64 1000, .int .i64 64, .int .i64 64, .int .i64 64, .int .i64 1048576] 3) = w2 at *
  have b2 : Blk w2 w1.heap.size 3 (numA 1 1 4 1 1) := b2
  have b3 : Blk w2 (w1.heap.size + 1) 3 (numA 1000 64 64 64 1048576) := b3
  have H1 := hide b1
  have H2 := hide b2
  have H3 := hide b3
  have HB := hide B0
  clear b1 b2 b3 B0
  go_loopw [6] (ChkIn w2 (cIn s t f l p)) (fun i _ => 5 - (intOf i).toNat)
  case atStart => exact ⟨0, rfl, by omega, fun j h => absurd h (by omega), Below.refl _ _⟩
  case round =>
    obtain ⟨k, rfl, hk, hok, hb⟩ := hrel
    have HOK := hide hok
    clear hok
    by_cases hlt : k < 5
    · have z0 := ((H1.out.below hb H1.out.lt).cell k).trans (numA_at s t f l p hlt)
      have z1 := ((H2.out.below hb H2.out.lt).cell k).trans (lo_at hlt)
      have z2 := ((H3.out.below hb H3.out.lt).cell k).trans (hi_at hlt)
      have HI := hide (show cIn s t f l p k ↔ (cLo k ≤ cN s t f l p k ∧ cN s t f l p k ≤ cHi k) from Iff.rfl)
      have hkz : (0 : Int) ≤ (k : Int) := by omega
      have hkz5 : (k : Int) < 5 := by omega
      generalize cN s t f l p k = n at *
      generalize cLo k = lo at *
      generalize cHi k = hi at *
      by_cases c1 : n < lo
      · have E := hide (WA.out k hlt HOK.out (fun h => by have := HI.out.1 h; omega))
        have d1 : decide (n < lo) = true := by simpa using c1
        go_wp2_with fail
        go_quiet (fail)
        go_wp2_with fail
        go_ret
        exact ⟨by rw [E.out]; rfl, HB.out.trans ((below_drewN hb _).mono HB.out.size)⟩
      have d1 : decide (n < lo) = false := by simpa using c1
      by_cases c2 : hi < n
      · have E := hide (WA.out k hlt HOK.out (fun h => by have := HI.out.1 h; omega))
        have d2 : decide (hi < n) = true := by simpa using c2
        go_wp2_with fail
        go_quiet (fail)
        go_wp2_with fail
        go_ret
        exact ⟨by rw [E.out]; rfl, HB.out.trans ((below_drewN hb _).mono HB.out.size)⟩
      · have E := hide (HI.out.2 ⟨by omega, by omega⟩)
        have d2 : decide (hi < n) = false := by simpa using c2
        go_wp2_with fail
        go_quiet (fail)
        go_wp2_with fail
        go_roundw
        case rel => exact ⟨k + 1, by go_num, by omega, fun j hj => by
          by_cases e : j = k
          · subst e
            exact E.out
          · exact HOK.out j (by omega), below_drewN hb _⟩
        case measure => simp [intOf]; omega
    · obtain rfl : k = 5 := by omega
      have E := hide (WN.out HOK.out)
      go_wp2_with fail
      go_ret
      exact ⟨by rw [E.out]; rfl, HB.out.trans (hb.mono HB.out.size)⟩

/-- How many words there are; none where the configuration may not be. -/
def rSize (s t f l p : Int) : Int := if cfgOk s t f l p = true then laySize s t f else 0
set_option maxHeartbeats 1000000 in
theorem rsize_any (s t f l p : Int) (w : World) :
    Calls Tryz.prog 5 #[.agg #[.int .i64 s, .int .i64 t, .int .i64 f, .int .i64 l, .int .i64 p]] w fun e w' => e = .returned (.int .i64 (rSize s t f l p)) ∧ Below w.heap.size w w' := by
  have C := hide (fun w2 => wrong_any s t f l p w2)
  have hok := wrg_ok (s := s) (t := t) (f := f) (l := l) (p := p)
  have bx := Blk.new w 23 #[.int .i64 s, .int .i64 t, .int .i64 f, .int .i64 l, .int .i64 p]
  have B0 := (Below.refl w.heap.size w).alloc (Nat.le_refl _) (.cells #[.int .i64 s, .int .i64 t, .int .i64 f, .int .i64 l, .int .i64 p] 23)
  cases hc : cfgOk s t f l p with
  | false =>
    have E := hide (show rSize s t f l p = 0 by unfold rSize; rw [hc]; rfl)
    rw [hc] at hok
    have hw : 0 ≤ wrg s t f l p := by
      have : ¬ wrg s t f l p < 0 := by simpa using hok.symm
      omega
    clear hok hc
    generalize wrg s t f l p = r at *
    go_enter Tryz.func5, Tryz.ntmps5
    go_wp2_with fail
    refine (C.out _).mono ?_
    rintro e w1 ⟨rfl, hb1⟩
    go_wp2_with fail
    go_ret
    exact ⟨by rw [E.out]; rfl, B0.trans (hb1.mono B0.size)⟩
  | true =>
    have E := hide (show rSize s t f l p = laySize s t f by unfold rSize; rw [hc]; rfl)
    rw [hc] at hok
    have hw : wrg s t f l p < 0 := by simpa using hok.symm
    have hb := cfgOk_iff.1 hc
    have z := size_pos (s := s) (t := t) (f := f) (by omega) (by omega) (by omega)
    have h0 : IntKind.i64.wrap (3 * t) = 3 * t := IntWalk.i64_in _ (by omega)
    have h1 : IntKind.i64.wrap (3 + 3 * t) = 3 + 3 * t := IntWalk.i64_in _ (by omega)
    have h2 : IntKind.i64.wrap (2 * f) = 2 * f := IntWalk.i64_in _ (by omega)
    have h3 : IntKind.i64.wrap (s + 1) = s + 1 := IntWalk.i64_in _ (by omega)
    have h4 : IntKind.i64.wrap ((s + 1) * (3 + 2 * f)) = (s + 1) * (3 + 2 * f) := IntWalk.i64_in _ (by unfold laySize at z; omega)
    have h5 : IntKind.i64.wrap (3 + 3 * t + (s + 1) * (3 + 2 * f)) = laySize s t f := by unfold laySize at z ⊢; exact IntWalk.i64_in _ (by omega)
    have h6 : IntKind.i64.wrap (3 + 2 * f) = 3 + 2 * f := IntWalk.i64_in _ (by omega)
    clear hok hc z hb
    generalize laySize s t f = R at *
    generalize wrg s t f l p = r at *
    go_enter Tryz.func5, Tryz.ntmps5
    go_wp2_with fail
    refine (C.out _).mono ?_
    rintro e w1 ⟨rfl, hb1⟩
    replace bx := bx.below hb1 bx.lt
    replace B0 := B0.trans (hb1.mono B0.size)
    clear hb1
    have mx := fun i => bx.cell i
    go_wp2_with fail

    go_ret
    exact ⟨by rw [E.out]; rfl, B0⟩
end Go.Proofs.YtlnckjemfabckaaGreatDoor

/-
  layout: Announce, Hazard, Link (for seats without chapter 8's statements); the document's own numbers of them.
-/
namespace Go.Proofs.YtlnckjemfabckaaGreatDoor
open Go.RowKit
attribute [local go_sem] past_cell past_cell_add

set_option maxHeartbeats 400000 in
theorem llnk_any (s t f l p o  : Int) (w : World) (hs : 1 ≤ s ∧ s ≤ 1000) (ht : 1 ≤ t ∧ t ≤ 64) (hf : 4 ≤ f ∧ f ≤ 64) :
    Calls Tryz.prog 29 #[.agg #[.int .i64 s, .int .i64 t, .int .i64 f, .int .i64 l, .int .i64 p], .int .i64 o] w fun e w' => e = .returned (.int .i64 (atp s t f 8 o 0)) ∧ Below w.heap.size w w' := by
  have A := hide (fun w => at_any s t f l p 8 o 0 w hs ht hf)
  generalize atp s t f 8 o 0 = R at *
  go_enter Tryz.func29, Tryz.ntmps29
  go_wp2_with fail
  have B0 := (Below.refl w.heap.size w).alloc (Nat.le_refl _) (.cells #[.int .i64 s, .int .i64 t, .int .i64 f, .int .i64 l, .int .i64 p] 63)
  refine (A.out _).mono ?_
  rintro e w1 ⟨rfl, hb1⟩
  go_wp2_with fail
  go_ret
  exact ⟨rfl, B0.trans (hb1.mono B0.size)⟩
set_option maxHeartbeats 400000 in
theorem llnk_zero (o  : Int) (w : World) :
    Calls Tryz.prog 29 #[.agg #[.int .i64 0, .int .i64 0, .int .i64 0, .int .i64 0, .int .i64 0], .int .i64 o] w fun e w' => e = .returned (.int .i64 (-1)) ∧ Below w.heap.size w w' := by
  have A := hide (fun w => at_zero 8 o 0 w)
  go_enter Tryz.func29, Tryz.ntmps29
  go_wp2_with fail
  have B0 := (Below.refl w.heap.size w).alloc (Nat.le_refl _) (.cells #[.int .i64 0, .int .i64 0, .int .i64 0, .int .i64 0, .int .i64 0] 63)
  refine (A.out _).mono ?_
  rintro e w1 ⟨rfl, hb1⟩
  go_wp2_with fail
  go_ret
  exact ⟨rfl, B0.trans (hb1.mono B0.size)⟩
set_option maxHeartbeats 400000 in
theorem lver_any (s t f l p o  : Int) (w : World) (hs : 1 ≤ s ∧ s ≤ 1000) (ht : 1 ≤ t ∧ t ≤ 64) (hf : 4 ≤ f ∧ f ≤ 64) :
    Calls Tryz.prog 27 #[.agg #[.int .i64 s, .int .i64 t, .int .i64 f, .int .i64 l, .int .i64 p], .int .i64 o] w fun e w' => e = .returned (.int .i64 (atp s t f 6 o 0)) ∧ Below w.heap.size w w' := by
  have A := hide (fun w => at_any s t f l p 6 o 0 w hs ht hf)
  generalize atp s t f 6 o 0 = R at *
  go_enter Tryz.func27, Tryz.ntmps27
  go_wp2_with fail
  have B0 := (Below.refl w.heap.size w).alloc (Nat.le_refl _) (.cells #[.int .i64 s, .int .i64 t, .int .i64 f, .int .i64 l, .int .i64 p] 63)
  refine (A.out _).mono ?_
  rintro e w1 ⟨rfl, hb1⟩
  go_wp2_with fail
  go_ret
  exact ⟨rfl, B0.trans (hb1.mono B0.size)⟩
set_option maxHeartbeats 400000 in
theorem lver_zero (o  : Int) (w : World) :
    Calls Tryz.prog 27 #[.agg #[.int .i64 0, .int .i64 0, .int .i64 0, .int .i64 0, .int .i64 0], .int .i64 o] w fun e w' => e = .returned (.int .i64 (-1)) ∧ Below w.heap.size w w' := by
  have A := hide (fun w => at_zero 6 o 0 w)
  go_enter Tryz.func27, Tryz.ntmps27
  go_wp2_with fail
  have B0 := (Below.refl w.heap.size w).alloc (Nat.le_refl _) (.cells #[.int .i64 0, .int .i64 0, .int .i64 0, .int .i64 0, .int .i64 0] 63)
  refine (A.out _).mono ?_
  rintro e w1 ⟨rfl, hb1⟩
  go_wp2_with fail
  go_ret
  exact ⟨rfl, B0.trans (hb1.mono B0.size)⟩
set_option maxHeartbeats 400000 in
theorem lshp_any (s t f l p o  : Int) (w : World) (hs : 1 ≤ s ∧ s ≤ 1000) (ht : 1 ≤ t ∧ t ≤ 64) (hf : 4 ≤ f ∧ f ≤ 64) :
    Calls Tryz.prog 23 #[.agg #[.int .i64 s, .int .i64 t, .int .i64 f, .int .i64 l, .int .i64 p], .int .i64 o] w fun e w' => e = .returned (.int .i64 (atp s t f 7 o 0)) ∧ Below w.heap.size w w' := by
  have A := hide (fun w => at_any s t f l p 7 o 0 w hs ht hf)
  generalize atp s t f 7 o 0 = R at *
  go_enter Tryz.func23, Tryz.ntmps23
  go_wp2_with fail
  have B0 := (Below.refl w.heap.size w).alloc (Nat.le_refl _) (.cells #[.int .i64 s, .int .i64 t, .int .i64 f, .int .i64 l, .int .i64 p] 63)
  refine (A.out _).mono ?_
  rintro e w1 ⟨rfl, hb1⟩
  go_wp2_with fail
  go_ret
  exact ⟨rfl, B0.trans (hb1.mono B0.size)⟩
set_option maxHeartbeats 400000 in
theorem lshp_zero (o  : Int) (w : World) :
    Calls Tryz.prog 23 #[.agg #[.int .i64 0, .int .i64 0, .int .i64 0, .int .i64 0, .int .i64 0], .int .i64 o] w fun e w' => e = .returned (.int .i64 (-1)) ∧ Below w.heap.size w w' := by
  have A := hide (fun w => at_zero 7 o 0 w)
  go_enter Tryz.func23, Tryz.ntmps23
  go_wp2_with fail
  have B0 := (Below.refl w.heap.size w).alloc (Nat.le_refl _) (.cells #[.int .i64 0, .int .i64 0, .int .i64 0, .int .i64 0, .int .i64 0] 63)
  refine (A.out _).mono ?_
  rintro e w1 ⟨rfl, hb1⟩
  go_wp2_with fail
  go_ret
  exact ⟨rfl, B0.trans (hb1.mono B0.size)⟩
set_option maxHeartbeats 400000 in
theorem lkey_any (s t f l p o i : Int) (w : World) (hs : 1 ≤ s ∧ s ≤ 1000) (ht : 1 ≤ t ∧ t ≤ 64) (hf : 4 ≤ f ∧ f ≤ 64) :
    Calls Tryz.prog 82 #[.agg #[.int .i64 s, .int .i64 t, .int .i64 f, .int .i64 l, .int .i64 p], .int .i64 o, .int .i64 i] w fun e w' => e = .returned (.int .i64 (atp s t f 9 o i)) ∧ Below w.heap.size w w' := by
  have A := hide (fun w => at_any s t f l p 9 o i w hs ht hf)
  generalize atp s t f 9 o i = R at *
  go_enter Tryz.func82, Tryz.ntmps82
  go_wp2_with fail
  have B0 := (Below.refl w.heap.size w).alloc (Nat.le_refl _) (.cells #[.int .i64 s, .int .i64 t, .int .i64 f, .int .i64 l, .int .i64 p] 63)
  refine (A.out _).mono ?_
  rintro e w1 ⟨rfl, hb1⟩
  go_wp2_with fail
  go_ret
  exact ⟨rfl, B0.trans (hb1.mono B0.size)⟩
set_option maxHeartbeats 400000 in
theorem lkey_zero (o i : Int) (w : World) :
    Calls Tryz.prog 82 #[.agg #[.int .i64 0, .int .i64 0, .int .i64 0, .int .i64 0, .int .i64 0], .int .i64 o, .int .i64 i] w fun e w' => e = .returned (.int .i64 (-1)) ∧ Below w.heap.size w w' := by
  have A := hide (fun w => at_zero 9 o i w)
  go_enter Tryz.func82, Tryz.ntmps82
  go_wp2_with fail
  have B0 := (Below.refl w.heap.size w).alloc (Nat.le_refl _) (.cells #[.int .i64 0, .int .i64 0, .int .i64 0, .int .i64 0, .int .i64 0] 63)
  refine (A.out _).mono ?_
  rintro e w1 ⟨rfl, hb1⟩
  go_wp2_with fail
  go_ret
  exact ⟨rfl, B0.trans (hb1.mono B0.size)⟩
set_option maxHeartbeats 400000 in
theorem lval_any (s t f l p o i : Int) (w : World) (hs : 1 ≤ s ∧ s ≤ 1000) (ht : 1 ≤ t ∧ t ≤ 64) (hf : 4 ≤ f ∧ f ≤ 64) :
    Calls Tryz.prog 25 #[.agg #[.int .i64 s, .int .i64 t, .int .i64 f, .int .i64 l, .int .i64 p], .int .i64 o, .int .i64 i] w fun e w' => e = .returned (.int .i64 (atp s t f 10 o i)) ∧ Below w.heap.size w w' := by
  have A := hide (fun w => at_any s t f l p 10 o i w hs ht hf)
  generalize atp s t f 10 o i = R at *
  go_enter Tryz.func25, Tryz.ntmps25
  go_wp2_with fail
  have B0 := (Below.refl w.heap.size w).alloc (Nat.le_refl _) (.cells #[.int .i64 s, .int .i64 t, .int .i64 f, .int .i64 l, .int .i64 p] 63)
  refine (A.out _).mono ?_
  rintro e w1 ⟨rfl, hb1⟩
  go_wp2_with fail
  go_ret
  exact ⟨rfl, B0.trans (hb1.mono B0.size)⟩
set_option maxHeartbeats 400000 in
theorem lval_zero (o i : Int) (w : World) :
    Calls Tryz.prog 25 #[.agg #[.int .i64 0, .int .i64 0, .int .i64 0, .int .i64 0, .int .i64 0], .int .i64 o, .int .i64 i] w fun e w' => e = .returned (.int .i64 (-1)) ∧ Below w.heap.size w w' := by
  have A := hide (fun w => at_zero 10 o i w)
  go_enter Tryz.func25, Tryz.ntmps25
  go_wp2_with fail
  have B0 := (Below.refl w.heap.size w).alloc (Nat.le_refl _) (.cells #[.int .i64 0, .int .i64 0, .int .i64 0, .int .i64 0, .int .i64 0] 63)
  refine (A.out _).mono ?_
  rintro e w1 ⟨rfl, hb1⟩
  go_wp2_with fail
  go_ret
  exact ⟨rfl, B0.trans (hb1.mono B0.size)⟩

theorem atp4 {s t f o : Int} (h : 0 ≤ o ∧ o < t) : atp s t f 4 o 0 = 3 + o := by
  unfold atp
  rw [if_neg (by omega), if_pos (by omega)]
theorem atp4_no {s t f o : Int} (h : o < 0 ∨ t ≤ o) : atp s t f 4 o 0 = -1 := by
  unfold atp
  rw [if_neg (by omega), if_neg (by omega), if_neg (by omega)]
  unfold nod
  rw [if_pos (by omega)]
theorem atp5 {s t f o i : Int} (h : 0 ≤ o ∧ o < t) (hi : 0 ≤ i ∧ i < 2) : atp s t f 5 o i = 3 + t + 2 * o + i := by
  unfold atp
  rw [if_neg (by omega), if_neg (by omega), if_pos (by omega)]
theorem atp8 {s t f o : Int} (h : 0 ≤ o ∧ o ≤ s) : atp s t f 8 o 0 = 3 + 3 * t + o * (3 + 2 * f) + 2 := by
  unfold atp
  rw [if_neg (by omega), if_neg (by omega), if_neg (by omega)]
  unfold nod
  rw [if_neg (by unfold nodMany; simp; omega)]
  simp [nodAt]
theorem atp_first {s t f k : Int} (h : 1 ≤ k ∧ k ≤ 3) : atp s t f k 0 0 = k - 1 := by
  unfold atp
  rw [if_pos (by omega)]
end Go.Proofs.YtlnckjemfabckaaGreatDoor

/-
  An operation that reads no memory may be taken first, whatever is carried out ahead of it.
-/
namespace Go.Proofs.YtlnckjemfabckaaGreatDoor

section
variable {P : Program} {ops : Array Oper} {Q : Exit → Act → World → Prop} {md : Region.Mode} {S : World → Prop} {zs : List Nat}
theorem overZ_set {l : Array Bool} {i : Nat} (hi : i ∉ zs) : overZ zs (l.setIfInBounds i true) = overZ zs l := by
  unfold overZ
  rw [Bool.eq_iff_iff, List.any_eq_true, List.any_eq_true]
  constructor
  · rintro ⟨z, hz, h⟩
    rw [getD_set_ne true (fun e => hi (by rw [e]; exact hz))] at h
    exact ⟨z, hz, h⟩
  · rintro ⟨z, hz, h⟩
    refine ⟨z, hz, ?_⟩
    rw [getD_set_ne true (fun e => hi (by rw [e]; exact hz))]
    exact h
theorem wpAnyZ_firstT {i : Nat} {oi : Oper} {v : Value} (hi : ops[i]? = some oi) (hsel : ∀ (j : Nat) (o : Oper) cs b, ops[j]? = some o → o.op ≠ .select cs b)
    (hQ : ∀ c a w, Q (.panic c) (a.put oi.dst v) w → Q (.panic c) a w) (hiz : i ∉ zs) :
    ∀ (fuel : Nat) (listed : Array Bool) (a : Act) (w : World),
      (∀ j oj, ops[j]? = some oj → j ≠ i → listed.getD j true = false → (∀ e ∈ oj.after, Region.binds md e = true → e.on ≠ i) → oi.apart ops oj = true) →
      i ∈ Region.ready md ops listed → YieldsIf P ops (fun _ => True) oi v a → (overZ zs listed = false → S w) →
      wpAnyZ P md ops Q zs S fuel (listed.setIfInBounds i true) (a.put oi.dst v) w → wpAnyZ P md ops Q zs S (fuel + 1) listed a w := by
  intro fuel
  induction fuel with
  | zero =>
    intro listed a w _ hr hy hS H
    refine ⟨fun h => (by rw [h] at hr; cases hr), fun j hj => ?_⟩
    by_cases hji : j = i
    · subst hji; exact hy.wpOp hi trivial ⟨fun h0 => hS (by rwa [overZ_set hiz] at h0), H⟩
    · have := ready_mono hj hji
      rw [H.1] at this
      cases this
  | succ fuel ih =>
    intro listed a w hfree hr hy hS H
    refine ⟨fun h => (by rw [h] at hr; cases hr), fun j hj => ?_⟩
    by_cases hji : j = i
    · subst hji; exact hy.wpOp hi trivial ⟨fun h0 => hS (by rwa [overZ_set hiz] at h0), H⟩
    · have h1 := H.2 j (ready_mono hj hji)
      obtain ⟨hjun, oj, hoj, hall⟩ := mem_ready.1 hj
      have hnot : ∀ e ∈ oj.after, Region.binds md e = true → e.on ≠ i := fun e he hb heq => by
        have h1 := hall e he hb
        have h0 := (mem_ready.1 hr).1
        rw [heq] at h1
        rcases Nat.lt_or_ge i listed.size with h' | h'
        · simp [h'] at h0 h1; rw [h0] at h1; cases h1
        · simp [Array.getElem?_eq_none h'] at h1
      have h2 := wpOp_putIf hoj (hfree j oj hoj hji hjun hnot) (fun cs b => hsel i oi cs b hi) (fun cs b => hsel j oj cs b hoj) hQ hy h1
      have hfree' : ∀ k ok, ops[k]? = some ok → k ≠ i → (listed.setIfInBounds j true).getD k true = false →
          (∀ e ∈ ok.after, Region.binds md e = true → e.on ≠ i) → oi.apart ops ok = true := fun k ok hk hki hun hno => by
        refine hfree k ok hk hki ?_ hno
        by_cases hjk : j = k
        · subst hjk; exact hjun
        · rw [getD_set_ne true hjk] at hun; exact hun
      have hov : ∀ b, overZ zs (listed.setIfInBounds j true) = b → overZ zs ((listed.setIfInBounds i true).setIfInBounds j true) = b := fun b h0 => by
        rw [Array.setIfInBounds_comm _ _ (Ne.symm hji), overZ_set hiz]
        exact h0
      refine wpOp_mono (fun a' w' h3 => ⟨fun h0 => h3.2.1 (hov _ h0), ih (listed.setIfInBounds j true) a' w' hfree' (ready_mono hr (Ne.symm hji)) h3.1 (fun h0 => h3.2.1 (hov _ h0)) ?_⟩) h2
      rw [Array.setIfInBounds_comm _ _ hji]
      exact h3.2.2
theorem wpAnyZ_takeT {i : Nat} {oi : Oper} {v : Value} {fuel : Nat} {listed : Array Bool} {a : Act} {w : World} (hi : ops[i]? = some oi)
    (hs : Region.noSelect ops = true) (hf : Region.free md ops listed i = true) (hr : (Region.ready md ops listed).contains i = true) (hz : zs.contains i = false)
    (hQ : ∀ c a w, Q (.panic c) (a.put oi.dst v) w → Q (.panic c) a w) (hS : S w) (hw : Region.wanted oi (yielded ops a.tmps) = true) (hy : ∀ w, (execOp a.eval oi).run P w = .ok (.value v) w)
    (h : wpAnyZ P md ops Q zs S fuel (listed.setIfInBounds i true) (a.put oi.dst v) w) : wpAnyZ P md ops Q zs S (fuel + 1) listed a w :=
  wpAnyZ_firstT hi (Region.noSelect_spec hs) hQ (fun h => by rw [← List.contains_iff_mem, hz] at h; cases h) fuel listed a w (Region.free_spec hi hf) (by simpa using hr) (.inl ⟨hw, fun w _ => hy w⟩) (fun _ => hS) h
end
end Go.Proofs.YtlnckjemfabckaaGreatDoor

/-
  Where a slot's words lie, by the document and by the layout.
-/
namespace Go.Proofs.YtlnckjemfabckaaGreatDoor
open Go.RowKit

/-- The number of a slot's first word. -/
def nB (t f sl : Int) : Int := 3 + 3 * t + sl * (3 + 2 * f)
theorem nB_bd {s t f sl : Int} (hs : 1 ≤ s ∧ s ≤ 1000) (ht : 1 ≤ t ∧ t ≤ 64) (hf : 4 ≤ f ∧ f ≤ 64) (hsl : 0 ≤ sl ∧ sl ≤ s) : 3 + 3 * t ≤ nB t f sl ∧ nB t f sl + 3 + 2 * f ≤ laySize s t f ∧ nB t f sl + 3 + 2 * f ≤ 200000 := by
  have h1 : 0 ≤ sl * (3 + 2 * f) := Int.mul_nonneg hsl.1 (by omega)
  have h2 : sl * (3 + 2 * f) + (3 + 2 * f) ≤ (s + 1) * (3 + 2 * f) := by
    have : (sl + 1) * (3 + 2 * f) ≤ (s + 1) * (3 + 2 * f) := Int.mul_le_mul_of_nonneg_right (by omega) (by omega)
    rw [Int.add_mul, Int.one_mul] at this
    exact this
  have h3 : (s + 1) * (3 + 2 * f) ≤ 1001 * 131 := Int.mul_le_mul (by omega) (by omega) (by omega) (by omega)
  unfold nB laySize
  omega
theorem nB_succ (t f sl : Int) : nB t f (sl + 1) = nB t f sl + (3 + 2 * f) := by
  unfold nB
  rw [Int.add_mul, Int.one_mul]
  omega
theorem nB_lt {t f a b : Int} (hf : 4 ≤ f) (h : a < b) : nB t f a + (3 + 2 * f) ≤ nB t f b := by
  unfold nB
  have : (a + 1) * (3 + 2 * f) ≤ b * (3 + 2 * f) := Int.mul_le_mul_of_nonneg_right (by omega) (by omega)
  rw [Int.add_mul, Int.one_mul] at this
  omega
set_option maxRecDepth 100000 in
set_option maxHeartbeats 4000000 in
theorem rnB_any (s t f l p sl : Int) (w : World) (hs : 1 ≤ s ∧ s ≤ 1000) (ht : 1 ≤ t ∧ t ≤ 64) (hf : 4 ≤ f ∧ f ≤ 64) (hsl : 0 ≤ sl ∧ sl ≤ s) :
    Calls Tryz.prog 75 #[.agg #[.int .i64 s, .int .i64 t, .int .i64 f, .int .i64 l, .int .i64 p], .int .i64 sl] w fun e w' => e = .returned (.int .i64 (nB t f sl)) ∧ Below w.heap.size w w' := by
  have b1 : 0 ≤ sl * (3 + 2 * f) := Int.mul_nonneg hsl.1 (by omega)
  have b2 : sl * (3 + 2 * f) ≤ 1000 * 131 := Int.mul_le_mul (by omega) (by omega) (by omega) (by omega)
  have e1 : IntKind.i64.wrap (3 * t) = 3 * t := IntWalk.i64_in _ (by omega)
  have e2 : IntKind.i64.wrap (3 + 3 * t) = 3 + 3 * t := IntWalk.i64_in _ (by omega)
  have e3 : IntKind.i64.wrap (2 * f) = 2 * f := IntWalk.i64_in _ (by omega)
  have e4 : IntKind.i64.wrap (3 + 2 * f) = 3 + 2 * f := IntWalk.i64_in _ (by omega)
  have e5 : IntKind.i64.wrap (sl * (3 + 2 * f)) = sl * (3 + 2 * f) := IntWalk.i64_in _ (by omega)
  have e6 : IntKind.i64.wrap (3 + 3 * t + sl * (3 + 2 * f)) = 3 + 3 * t + sl * (3 + 2 * f) := IntWalk.i64_in _ (by omega)
  have bx := Blk.new w 23 #[.int .i64 s, .int .i64 t, .int .i64 f, .int .i64 l, .int .i64 p]
  have B0 := (Below.refl w.heap.size w).alloc (Nat.le_refl _) (.cells #[.int .i64 s, .int .i64 t, .int .i64 f, .int .i64 l, .int .i64 p] 23)
  go_enter Tryz.func75, Tryz.ntmps75
  go_wp2_with fail
  go_ret
  exact ⟨rfl, B0⟩
set_option maxRecDepth 100000 in
set_option maxHeartbeats 4000000 in
theorem rver_any (s t f l p sl : Int) (w : World) (hs : 1 ≤ s ∧ s ≤ 1000) (ht : 1 ≤ t ∧ t ≤ 64) (hf : 4 ≤ f ∧ f ≤ 64) (hsl : 0 ≤ sl ∧ sl ≤ s) :
    Calls Tryz.prog 36 #[.agg #[.int .i64 s, .int .i64 t, .int .i64 f, .int .i64 l, .int .i64 p], .int .i64 sl] w fun e w' => e = .returned (.int .i64 (nB t f sl)) ∧ Below w.heap.size w w' := by
  have C := hide (fun w2 => rnB_any s t f l p sl w2 hs ht hf hsl)
  have b := nB_bd hs ht hf hsl
  generalize nB t f sl = q at *
  have bx := Blk.new w 23 #[.int .i64 s, .int .i64 t, .int .i64 f, .int .i64 l, .int .i64 p]
  have B0 := (Below.refl w.heap.size w).alloc (Nat.le_refl _) (.cells #[.int .i64 s, .int .i64 t, .int .i64 f, .int .i64 l, .int .i64 p] 23)
  go_enter Tryz.func36, Tryz.ntmps36
  go_wp2_with fail
  refine (C.out _).mono ?_
  rintro e w1 ⟨rfl, hb1⟩
  try replace bx := bx.below hb1 bx.lt
  try replace bo := bo.below hb1 bo.lt
  try replace by_ := by_.below hb1 by_.lt
  replace B0 := B0.trans (hb1.mono B0.size)
  clear hb1
  try clear mx lx
  try clear mo lo zo
  try clear my ly zy
  try have mx := fun i => bx.cell i
  try have lx := bx.lt
  try have mo := fun i => bo.cell i
  try have lo := bo.lt
  try have zo := fun i => bo.frozen i
  try have my := fun i => by_.cell i
  try have ly := by_.lt
  try have zy := fun i => by_.frozen i
  go_wp2_with fail
  go_ret
  exact ⟨rfl, B0⟩
set_option maxRecDepth 100000 in
set_option maxHeartbeats 4000000 in
theorem rshp_any (s t f l p sl : Int) (w : World) (hs : 1 ≤ s ∧ s ≤ 1000) (ht : 1 ≤ t ∧ t ≤ 64) (hf : 4 ≤ f ∧ f ≤ 64) (hsl : 0 ≤ sl ∧ sl ≤ s) :
    Calls Tryz.prog 33 #[.agg #[.int .i64 s, .int .i64 t, .int .i64 f, .int .i64 l, .int .i64 p], .int .i64 sl] w fun e w' => e = .returned (.int .i64 (nB t f sl + 1)) ∧ Below w.heap.size w w' := by
  have C := hide (fun w2 => rnB_any s t f l p sl w2 hs ht hf hsl)
  have b := nB_bd hs ht hf hsl
  generalize nB t f sl = q at *
  have e7 : IntKind.i64.wrap (q + 1) = q + 1 := IntWalk.i64_in _ (by omega)
  have bx := Blk.new w 23 #[.int .i64 s, .int .i64 t, .int .i64 f, .int .i64 l, .int .i64 p]
  have B0 := (Below.refl w.heap.size w).alloc (Nat.le_refl _) (.cells #[.int .i64 s, .int .i64 t, .int .i64 f, .int .i64 l, .int .i64 p] 23)
  go_enter Tryz.func33, Tryz.ntmps33
  go_wp2_with fail
  refine (C.out _).mono ?_
  rintro e w1 ⟨rfl, hb1⟩
  try replace bx := bx.below hb1 bx.lt
  try replace bo := bo.below hb1 bo.lt
  try replace by_ := by_.below hb1 by_.lt
  replace B0 := B0.trans (hb1.mono B0.size)
  clear hb1
  try clear mx lx
  try clear mo lo zo
  try clear my ly zy
  try have mx := fun i => bx.cell i
  try have lx := bx.lt
  try have mo := fun i => bo.cell i
  try have lo := bo.lt
  try have zo := fun i => bo.frozen i
  try have my := fun i => by_.cell i
  try have ly := by_.lt
  try have zy := fun i => by_.frozen i
  go_wp2_with fail
  go_ret
  exact ⟨rfl, B0⟩
set_option maxRecDepth 100000 in
set_option maxHeartbeats 4000000 in
theorem rlnkB_any (s t f l p sl : Int) (w : World) (hs : 1 ≤ s ∧ s ≤ 1000) (ht : 1 ≤ t ∧ t ≤ 64) (hf : 4 ≤ f ∧ f ≤ 64) (hsl : 0 ≤ sl ∧ sl ≤ s) :
    Calls Tryz.prog 37 #[.agg #[.int .i64 s, .int .i64 t, .int .i64 f, .int .i64 l, .int .i64 p], .int .i64 sl] w fun e w' => e = .returned (.int .i64 (nB t f sl + 2)) ∧ Below w.heap.size w w' := by
  have C := hide (fun w2 => rnB_any s t f l p sl w2 hs ht hf hsl)
  have b := nB_bd hs ht hf hsl
  generalize nB t f sl = q at *
  have e7 : IntKind.i64.wrap (q + 2) = q + 2 := IntWalk.i64_in _ (by omega)
  have bx := Blk.new w 23 #[.int .i64 s, .int .i64 t, .int .i64 f, .int .i64 l, .int .i64 p]
  have B0 := (Below.refl w.heap.size w).alloc (Nat.le_refl _) (.cells #[.int .i64 s, .int .i64 t, .int .i64 f, .int .i64 l, .int .i64 p] 23)
  go_enter Tryz.func37, Tryz.ntmps37
  go_wp2_with fail
  refine (C.out _).mono ?_
  rintro e w1 ⟨rfl, hb1⟩
  try replace bx := bx.below hb1 bx.lt
  try replace bo := bo.below hb1 bo.lt
  try replace by_ := by_.below hb1 by_.lt
  replace B0 := B0.trans (hb1.mono B0.size)
  clear hb1
  try clear mx lx
  try clear mo lo zo
  try clear my ly zy
  try have mx := fun i => bx.cell i
  try have lx := bx.lt
  try have mo := fun i => bo.cell i
  try have lo := bo.lt
  try have zo := fun i => bo.frozen i
  try have my := fun i => by_.cell i
  try have ly := by_.lt
  try have zy := fun i => by_.frozen i
  go_wp2_with fail
  go_ret
  exact ⟨rfl, B0⟩
set_option maxRecDepth 100000 in
set_option maxHeartbeats 4000000 in
theorem rkey_any (s t f l p sl i : Int) (w : World) (hs : 1 ≤ s ∧ s ≤ 1000) (ht : 1 ≤ t ∧ t ≤ 64) (hf : 4 ≤ f ∧ f ≤ 64) (hsl : 0 ≤ sl ∧ sl ≤ s) (hi : 0 ≤ i ∧ i ≤ 1000) :
    Calls Tryz.prog 92 #[.agg #[.int .i64 s, .int .i64 t, .int .i64 f, .int .i64 l, .int .i64 p], .int .i64 sl, .int .i64 i] w fun e w' => e = .returned (.int .i64 (nB t f sl + 3 + i)) ∧ Below w.heap.size w w' := by
  have C := hide (fun w2 => rnB_any s t f l p sl w2 hs ht hf hsl)
  have b := nB_bd hs ht hf hsl
  generalize nB t f sl = q at *
  have e7 : IntKind.i64.wrap (q + 3) = q + 3 := IntWalk.i64_in _ (by omega)
  have e8 : IntKind.i64.wrap (q + 3 + i) = q + 3 + i := IntWalk.i64_in _ (by omega)
  have bx := Blk.new w 23 #[.int .i64 s, .int .i64 t, .int .i64 f, .int .i64 l, .int .i64 p]
  have B0 := (Below.refl w.heap.size w).alloc (Nat.le_refl _) (.cells #[.int .i64 s, .int .i64 t, .int .i64 f, .int .i64 l, .int .i64 p] 23)
  go_enter Tryz.func92, Tryz.ntmps92
  go_wp2_with fail
  refine (C.out _).mono ?_
  rintro e w1 ⟨rfl, hb1⟩
  try replace bx := bx.below hb1 bx.lt
  try replace bo := bo.below hb1 bo.lt
  try replace by_ := by_.below hb1 by_.lt
  replace B0 := B0.trans (hb1.mono B0.size)
  clear hb1
  try clear mx lx
  try clear mo lo zo
  try clear my ly zy
  try have mx := fun i => bx.cell i
  try have lx := bx.lt
  try have mo := fun i => bo.cell i
  try have lo := bo.lt
  try have zo := fun i => bo.frozen i
  try have my := fun i => by_.cell i
  try have ly := by_.lt
  try have zy := fun i => by_.frozen i
  go_wp2_with fail
  go_ret
  exact ⟨rfl, B0⟩
set_option maxRecDepth 100000 in
set_option maxHeartbeats 4000000 in
theorem rval_any (s t f l p sl i : Int) (w : World) (hs : 1 ≤ s ∧ s ≤ 1000) (ht : 1 ≤ t ∧ t ≤ 64) (hf : 4 ≤ f ∧ f ≤ 64) (hsl : 0 ≤ sl ∧ sl ≤ s) (hi : 0 ≤ i ∧ i ≤ 1000) :
    Calls Tryz.prog 34 #[.agg #[.int .i64 s, .int .i64 t, .int .i64 f, .int .i64 l, .int .i64 p], .int .i64 sl, .int .i64 i] w fun e w' => e = .returned (.int .i64 (nB t f sl + 3 + f + i)) ∧ Below w.heap.size w w' := by
  have C := hide (fun w2 => rnB_any s t f l p sl w2 hs ht hf hsl)
  have b := nB_bd hs ht hf hsl
  generalize nB t f sl = q at *
  have e7 : IntKind.i64.wrap (q + 3) = q + 3 := IntWalk.i64_in _ (by omega)
  have e8 : IntKind.i64.wrap (q + 3 + f) = q + 3 + f := IntWalk.i64_in _ (by omega)
  have e9 : IntKind.i64.wrap (q + 3 + f + i) = q + 3 + f + i := IntWalk.i64_in _ (by omega)
  have bx := Blk.new w 23 #[.int .i64 s, .int .i64 t, .int .i64 f, .int .i64 l, .int .i64 p]
  have B0 := (Below.refl w.heap.size w).alloc (Nat.le_refl _) (.cells #[.int .i64 s, .int .i64 t, .int .i64 f, .int .i64 l, .int .i64 p] 23)
  go_enter Tryz.func34, Tryz.ntmps34
  go_wp2_with fail
  refine wp_region_heldZ [] (fun w' => w'.cell? ⟨w.heap.size, 0, none⟩ = some (.int .i64 s) ∧ w'.cell? ⟨w.heap.size, 1, none⟩ = some (.int .i64 t) ∧ w'.cell? ⟨w.heap.size, 2, none⟩ = some (.int .i64 f) ∧ w'.cell? ⟨w.heap.size, 3, none⟩ = some (.int .i64 l) ∧ w'.cell? ⟨w.heap.size, 4, none⟩ = some (.int .i64 p)) (by kernel_rfl) (by exact ⟨bx.cell 0, bx.cell 1, bx.cell 2, bx.cell 3, bx.cell 4⟩) (fun hHeld => ?_)
  replace bx := bx.drew
  replace B0 := B0.drew
  generalize (w.alloc (.cells #[.int .i64 s, .int .i64 t, .int .i64 f, .int .i64 l, .int .i64 p] 23)).drew = w0x at *
  refine' wpAnyZ_takeA (i := 0) (v := ?_) (opAt rfl) (by kernel_rfl) (by kernel_rfl) (by kernel_rfl) (by kernel_rfl) (fun _ _ _ h => h) (by assumption) (by rfl) (fun w hSw => ?_) ?_
  rotate_left
  · (try dsimp only at hSw); go_simp; (try with_reducible rfl)
  try simp only [Act.put, List.setIfInBounds_toArray, List.set_cons_zero, List.set_cons_succ]
  refine' wpAnyZ_takeA (i := 1) (v := ?_) (opAt rfl) (by kernel_rfl) (by kernel_rfl) (by kernel_rfl) (by kernel_rfl) (fun _ _ _ h => h) (by assumption) (by rfl) (fun w hSw => ?_) ?_
  rotate_left
  · (try dsimp only at hSw); go_simp; (try with_reducible rfl)
  try simp only [Act.put, List.setIfInBounds_toArray, List.set_cons_zero, List.set_cons_succ]
  refine' wpAnyZ_takeA (i := 4) (v := ?_) (opAt rfl) (by kernel_rfl) (by kernel_rfl) (by kernel_rfl) (by kernel_rfl) (fun _ _ _ h => h) (by assumption) (by rfl) (fun w hSw => ?_) ?_
  rotate_left
  · (try dsimp only at hSw); go_simp; (try with_reducible rfl)
  try simp only [Act.put, List.setIfInBounds_toArray, List.set_cons_zero, List.set_cons_succ]
  refine' wpAnyZ_takeA (i := 5) (v := ?_) (opAt rfl) (by kernel_rfl) (by kernel_rfl) (by kernel_rfl) (by kernel_rfl) (fun _ _ _ h => h) (by assumption) (by rfl) (fun w hSw => ?_) ?_
  rotate_left
  · (try dsimp only at hSw); go_simp; (try with_reducible rfl)
  try simp only [Act.put, List.setIfInBounds_toArray, List.set_cons_zero, List.set_cons_succ]
  refine' wpAnyZ_takeA (i := 7) (v := ?_) (opAt rfl) (by kernel_rfl) (by kernel_rfl) (by kernel_rfl) (by kernel_rfl) (fun _ _ _ h => h) (by assumption) (by rfl) (fun w hSw => ?_) ?_
  rotate_left
  · (try dsimp only at hSw); go_simp; (try with_reducible rfl)
  try simp only [Act.put, List.setIfInBounds_toArray, List.set_cons_zero, List.set_cons_succ]
  refine wpAnyZ_ready (rs := [2]) (by kernel_rfl) (by simp) ?_
  refine AllReadyZ.cons (opAt rfl) (fun K hK => ?_) ?_
  · skip
    go_simp
    refine (C.out _).mono ?_
    rintro e wc ⟨rfl, hb1⟩
    replace bx := bx.below hb1 bx.lt
    replace B0 := B0.trans (hb1.mono B0.size)
    clear hb1
    try go_wp2_with fail
    refine hK.out _ _ (by exact ⟨bx.cell 0, bx.cell 1, bx.cell 2, bx.cell 3, bx.cell 4⟩) (fun hHeld => ?_)
    clear hK K
    try simp only [Act.put, List.setIfInBounds_toArray, List.set_cons_zero, List.set_cons_succ]
    refine' wpAnyZ_takeA (i := 3) (v := ?_) (opAt rfl) (by kernel_rfl) (by kernel_rfl) (by kernel_rfl) (by kernel_rfl) (fun _ _ _ h => h) (by assumption) (by rfl) (fun w hSw => ?_) ?_
    rotate_left
    · (try dsimp only at hSw); go_simp; (try with_reducible rfl)
    try simp only [Act.put, List.setIfInBounds_toArray, List.set_cons_zero, List.set_cons_succ]
    refine' wpAnyZ_takeA (i := 6) (v := ?_) (opAt rfl) (by kernel_rfl) (by kernel_rfl) (by kernel_rfl) (by kernel_rfl) (fun _ _ _ h => h) (by assumption) (by rfl) (fun w hSw => ?_) ?_
    rotate_left
    · (try dsimp only at hSw); go_simp; (try with_reducible rfl)
    try simp only [Act.put, List.setIfInBounds_toArray, List.set_cons_zero, List.set_cons_succ]
    refine' wpAnyZ_takeA (i := 8) (v := ?_) (opAt rfl) (by kernel_rfl) (by kernel_rfl) (by kernel_rfl) (by kernel_rfl) (fun _ _ _ h => h) (by assumption) (by rfl) (fun w hSw => ?_) ?_
    rotate_left
    · (try dsimp only at hSw); go_simp; (try with_reducible rfl)
    try simp only [Act.put, List.setIfInBounds_toArray, List.set_cons_zero, List.set_cons_succ]
    refine' wpAnyZ_takeA (i := 9) (v := ?_) (opAt rfl) (by kernel_rfl) (by kernel_rfl) (by kernel_rfl) (by kernel_rfl) (fun _ _ _ h => h) (by assumption) (by rfl) (fun w hSw => ?_) ?_
    rotate_left
    · (try dsimp only at hSw); go_simp; (try with_reducible rfl)
    try simp only [Act.put, List.setIfInBounds_toArray, List.set_cons_zero, List.set_cons_succ]
    refine wpAnyZ_done (by kernel_rfl) ?_ _
    go_wp2_with fail
    go_ret
    exact ⟨rfl, B0⟩
  exact AllReadyZ.nil
theorem atpB_6 {s t f sl : Int} (hsl : 0 ≤ sl ∧ sl ≤ s) : atp s t f 6 sl 0 = nB t f sl := by
  unfold atp
  rw [if_neg (by omega), if_neg (by omega), if_neg (by omega)]
  unfold nod nodMany nodAt nB
  rw [if_neg (by simp; omega)]
  simp
theorem atpB_6no {s t f sl : Int} (hsl : sl < 0 ∨ s < sl) : atp s t f 6 sl 0 = -1 := by
  unfold atp
  rw [if_neg (by omega), if_neg (by omega), if_neg (by omega)]
  unfold nod
  rw [if_pos (by omega)]
theorem atpB_7 {s t f sl : Int} (hsl : 0 ≤ sl ∧ sl ≤ s) : atp s t f 7 sl 0 = nB t f sl + 1 := by
  unfold atp
  rw [if_neg (by omega), if_neg (by omega), if_neg (by omega)]
  unfold nod nodMany nodAt nB
  rw [if_neg (by simp; omega)]
  simp
theorem atpB_7no {s t f sl : Int} (hsl : sl < 0 ∨ s < sl) : atp s t f 7 sl 0 = -1 := by
  unfold atp
  rw [if_neg (by omega), if_neg (by omega), if_neg (by omega)]
  unfold nod
  rw [if_pos (by omega)]
theorem atpB_8 {s t f sl : Int} (hsl : 0 ≤ sl ∧ sl ≤ s) : atp s t f 8 sl 0 = nB t f sl + 2 := by
  unfold atp
  rw [if_neg (by omega), if_neg (by omega), if_neg (by omega)]
  unfold nod nodMany nodAt nB
  rw [if_neg (by simp; omega)]
  simp
theorem atpB_8no {s t f sl : Int} (hsl : sl < 0 ∨ s < sl) : atp s t f 8 sl 0 = -1 := by
  unfold atp
  rw [if_neg (by omega), if_neg (by omega), if_neg (by omega)]
  unfold nod
  rw [if_pos (by omega)]
theorem atpB_9 {s t f sl i : Int} (hsl : 0 ≤ sl ∧ sl ≤ s) (hi : 0 ≤ i ∧ i < f) : atp s t f 9 sl i = nB t f sl + 3 + i := by
  unfold atp
  rw [if_neg (by omega), if_neg (by omega), if_neg (by omega)]
  unfold nod nodMany nodAt nB
  rw [if_neg (by simp; omega)]
  simp
  try omega
theorem atpB_9no {s t f sl i : Int} (h : sl < 0 ∨ s < sl ∨ i < 0 ∨ f ≤ i) : atp s t f 9 sl i = -1 := by
  unfold atp
  rw [if_neg (by omega), if_neg (by omega), if_neg (by omega)]
  unfold nod nodMany
  rw [if_pos (by simp; omega)]
theorem atpB_10 {s t f sl i : Int} (hsl : 0 ≤ sl ∧ sl ≤ s) (hi : 0 ≤ i ∧ i < f) : atp s t f 10 sl i = nB t f sl + 3 + f + i := by
  unfold atp
  rw [if_neg (by omega), if_neg (by omega), if_neg (by omega)]
  unfold nod nodMany nodAt nB
  rw [if_neg (by simp; omega)]
  simp
  try omega
theorem atpB_10no {s t f sl i : Int} (h : sl < 0 ∨ s < sl ∨ i < 0 ∨ f ≤ i) : atp s t f 10 sl i = -1 := by
  unfold atp
  rw [if_neg (by omega), if_neg (by omega), if_neg (by omega)]
  unfold nod nodMany
  rw [if_pos (by simp; omega)]
end Go.Proofs.YtlnckjemfabckaaGreatDoor

/-
  gleaningref08.Place.
-/
namespace Go.Proofs.YtlnckjemfabckaaGreatDoor
open Go.RowKit

def PlA (t d : Int) (n i : Value) : Prop := ∃ k : Nat, (k : Int) ≤ t ∧ (k : Int) ≤ d ∧ n = .int .i64 (3 + k) ∧ i = .int .i64 k
def PlB (t d : Int) (n i : Value) : Prop := ∃ k : Nat, (k : Int) ≤ t ∧ (k : Int) ≤ d ∧ n = .int .i64 (3 + t + 2 * k) ∧ i = .int .i64 k
def PlC (b : Int) (P : Prop) (m : Int) (n i : Value) : Prop := ∃ j : Nat, (j : Int) ≤ 2 ∧ (P → (j : Int) ≤ m) ∧ n = .int .i64 (b + j) ∧ i = .int .i64 j
end Go.Proofs.YtlnckjemfabckaaGreatDoor

/-
  Package layout: What.
-/
namespace Go.Proofs.YtlnckjemfabckaaGreatDoor
open Go.RowKit
attribute [local go_sem] past_cell past_cell_add

end Go.Proofs.YtlnckjemfabckaaGreatDoor

/-
  The Go functions LayoutTells, LayoutAsks, LayoutNames; the example.
-/
namespace Go.Proofs.YtlnckjemfabckaaGreatDoor
open Go.RowKit
attribute [local go_sem] past_cell past_cell_add

theorem plc_zero {s t f a : Int} (hf : 4 ≤ f) : (plc s t f a).1 = 0 ↔ (a < 0 ∨ laySize s t f ≤ a) := by
  unfold plc
  by_cases c0 : a < 0 ∨ laySize s t f ≤ a
  · rw [if_pos c0]
    simp [c0]
  rw [if_neg c0]
  by_cases c1 : a < 3
  · rw [if_pos c1]
    simp only [c0, iff_false]
    omega
  rw [if_neg c1]
  by_cases c2 : a < 3 + t
  · rw [if_pos c2]
    simp [c0]
  rw [if_neg c2]
  by_cases c3 : a < 3 + 3 * t
  · rw [if_pos c3]
    simp [c0]
  rw [if_neg c3]
  have := Int.emod_nonneg (a - (3 + 3 * t)) (show 3 + 2 * f ≠ 0 by omega)
  split
  · simp only [c0, iff_false]
    omega
  · split <;> simp [c0]

end Go.Proofs.YtlnckjemfabckaaGreatDoor

/-
  Package memory: has, Word, put, Do; gleaningref09.Do.
-/
namespace Go.Proofs.YtlnckjemfabckaaGreatDoor
open Go.RowKit
attribute [local go_sem] past_cell past_cell_add

/-- A memory's words: of which slice, and how many. -/
def WordsAt (w : World) (gm : Nat) (A : Option Addr) (N : Nat) : Prop := w.cell? ⟨gm, 5, none⟩ = some (.slice A N N)
/-- There is no such word. -/
def NoWord (w : World) (m : Value) (a : Int) : Prop := m = .pointer none ∨ ∃ gm A N, m = .pointer (some ⟨gm, 0, none⟩) ∧ WordsAt w gm A N ∧ (a < 0 ∨ (0 ≤ a ∧ (N : Int) ≤ a))

set_option maxHeartbeats 400000 in
theorem has_f (m : Value) (a : Int) (w : World) (h : NoWord w m a) : Calls Tryz.prog 76 #[m, .int .i64 a] w fun e w' => e = .returned (.bool false) ∧ w = w' := by
  rcases h with rfl | ⟨gm, A, N, rfl, hc, h⟩
  · go_enter Tryz.func76, Tryz.ntmps76
    go_wp2_with fail
    go_ret
    exact ⟨rfl, rfl⟩
  · unfold WordsAt at hc
    rcases h with h | ⟨h1, h2⟩
    · go_enter Tryz.func76, Tryz.ntmps76
      go_wp2_with fail
      go_ret
      exact ⟨rfl, rfl⟩
    · have h3 : decide (a < (N : Int)) = false := by simpa using h2
      go_enter Tryz.func76, Tryz.ntmps76
      go_wp2_with fail
      go_ret
      exact ⟨rfl, rfl⟩
set_option maxHeartbeats 400000 in
theorem has_t (gm : Nat) (A : Option Addr) (N : Nat) (a : Int) (w : World) (hc : WordsAt w gm A N) (h0 : 0 ≤ a) (h1 : a < N) : Calls Tryz.prog 76 #[.pointer (some ⟨gm, 0, none⟩), .int .i64 a] w fun e w' => e = .returned (.bool true) ∧ w = w' := by
  unfold WordsAt at hc
  go_enter Tryz.func76, Tryz.ntmps76
  go_wp2_with fail
  go_ret
  exact ⟨rfl, rfl⟩
set_option maxHeartbeats 400000 in
theorem word_f (m : Value) (a : Int) (w : World) (h : NoWord w m a) : Calls Tryz.prog 41 #[m, .int .i64 a] w fun e w' => e = .returned (.int .u64 0) ∧ w = w' := by
  have F := hide (has_f m a w h)
  clear h
  go_enter Tryz.func41, Tryz.ntmps41
  go_wp2_with fail
  refine (F.out).mono ?_
  rintro e w' ⟨rfl, rfl⟩
  go_wp2_with fail
  go_ret
  exact ⟨rfl, rfl⟩
set_option maxHeartbeats 400000 in
theorem word_t (gm gw N j : Nat) (x : Int) (w : World) (hc : WordsAt w gm (some ⟨gw, 0, none⟩) N) (h1 : j < N) (hx : w.cell? ⟨gw, j, none⟩ = some (.int .u64 x)) : Calls Tryz.prog 41 #[.pointer (some ⟨gm, 0, none⟩), .int .i64 j] w fun e w' => e = .returned (.int .u64 x) ∧ w = w' := by
  have F := hide (has_t gm _ N j w hc (by omega) (by omega))
  unfold WordsAt at hc
  go_enter Tryz.func41, Tryz.ntmps41
  go_wp2_with fail
  refine (F.out).mono ?_
  rintro e w' ⟨rfl, rfl⟩
  go_wp2_with fail
  go_ret
  exact ⟨rfl, rfl⟩
set_option maxHeartbeats 400000 in
theorem put_f (m : Value) (a x : Int) (w : World) (h : NoWord w m a) : Calls Tryz.prog 38 #[m, .int .i64 a, .int .u64 x] w fun e w' => (∃ v, e = .returned v) ∧ w = w' := by
  have F := hide (has_f m a w h)
  clear h
  go_enter Tryz.func38, Tryz.ntmps38
  go_wp2_with fail
  refine (F.out).mono ?_
  rintro e w' ⟨rfl, rfl⟩
  go_wp2_with fail
  go_end0
  exact ⟨⟨_, rfl⟩, rfl⟩
set_option maxHeartbeats 400000 in
theorem put_t (gm gw N j : Nat) (x y : Int) (w : World) (hc : WordsAt w gm (some ⟨gw, 0, none⟩) N) (h1 : j < N) (hx : w.cell? ⟨gw, j, none⟩ = some (.int .u64 y)) (hz : w.frozen? ⟨gw, j, none⟩ = false) :
    Calls Tryz.prog 38 #[.pointer (some ⟨gm, 0, none⟩), .int .i64 j, .int .u64 x] w fun e w' => (∃ v, e = .returned v) ∧ w.setCell ⟨gw, j, none⟩ (.int .u64 x) = w' := by
  have F := hide (has_t gm _ N j w hc (by omega) (by omega))
  unfold WordsAt at hc
  go_enter Tryz.func38, Tryz.ntmps38
  go_wp2_with fail
  refine (F.out).mono ?_
  rintro e w' ⟨rfl, rfl⟩
  go_wp2_with fail
  go_end0
  exact ⟨⟨_, rfl⟩, rfl⟩

theorem NoWord.below {w w' : World} {m : Value} {a : Int} (h : NoWord w m a) (hb : Below w.heap.size w w') : NoWord w' m a := by
  rcases h with rfl | ⟨gm, A, N, rfl, hc, h⟩
  · exact .inl rfl
  · exact .inr ⟨gm, A, N, rfl, keepCell hb hc, h⟩

/-- What an access does to words, and tells. -/
def wGet (l : List Int) (a : Int) : Int := if 0 ≤ a ∧ a < l.length then l.getD a.toNat 0 else 0
def wPut (l : List Int) (a x : Int) : List Int := if 0 ≤ a ∧ a < l.length then l.set a.toNat x else l
def mDo (l : List Int) (k a o n : Int) : Int × List Int :=
  if k = 1 then (wGet l a, l) else if k = 2 then (0, wPut l a n) else if k = 3 ∧ 0 ≤ a ∧ a < l.length ∧ wGet l a = o then (1, wPut l a n) else (0, l)
theorem wPut_len (l : List Int) (a x : Int) : (wPut l a x).length = l.length := by unfold wPut; split <;> simp
theorem mDo_len (l : List Int) (k a o n : Int) : (mDo l k a o n).2.length = l.length := by
  unfold mDo
  repeat' split
  all_goals simp [wPut_len]

def AllW64 (l : List Int) : Prop := ∀ x ∈ l, W64 x
theorem wPut_w64 {l : List Int} {a x : Int} (h : AllW64 l) (hx : W64 x) : AllW64 (wPut l a x) := by
  unfold wPut
  split
  · intro y hy
    rcases List.mem_or_eq_of_mem_set hy with hy | rfl
    · exact h y hy
    · exact hx
  · exact h
theorem mDo_w64 {l : List Int} {k a o n : Int} (h : AllW64 l) (hn : W64 n) : AllW64 (mDo l k a o n).2 := by
  unfold mDo
  repeat' split
  · exact h
  · exact wPut_w64 h hn
  · exact wPut_w64 h hn
  · exact h

/-- A memory that the call has made, with its words. -/
def MemOk (w : World) (gm gw : Nat) (s t f l p : Int) (ws : List Int) : Prop :=
  Blk w gm 65 #[.int .i64 s, .int .i64 t, .int .i64 f, .int .i64 l, .int .i64 p, .slice (some ⟨gw, 0, none⟩) ws.length ws.length] ∧ Blk w gw 32 (ints .u64 ws).toArray ∧ gm ≠ gw
section
variable {w w' : World} {gm gw : Nat} {s t f l p : Int} {ws : List Int}
theorem MemOk.words (h : MemOk w gm gw s t f l p ws) : WordsAt w gm (some ⟨gw, 0, none⟩) ws.length := h.1.cell 5
theorem MemOk.at_ (h : MemOk w gm gw s t f l p ws) {j : Nat} (hj : j < ws.length) : w.cell? ⟨gw, j, none⟩ = some (.int .u64 (ws.getD j 0)) := by
  rw [h.2.1.cell j, List.getElem?_toArray, ints_get ws j hj, List.getD_eq_getElem?_getD, List.getElem?_eq_getElem hj]
  rfl
theorem MemOk.grown {row : Option Nat} (h : MemOk w gm gw s t f l p ws) (hg : w.grownBy w' row) (h1 : some gm ≠ row) (h2 : some gw ≠ row) : MemOk w' gm gw s t f l p ws :=
  ⟨h.1.grown hg h1, h.2.1.grown hg h2, h.2.2⟩
theorem grown_below (hb : Below w.heap.size w w') (row : Option Nat) : w.grownBy w' row := ⟨hb.os, hb.tape, hb.output, hb.size, fun k hk _ => hb.block k hk⟩
theorem MemOk.below (h : MemOk w gm gw s t f l p ws) (hb : Below w.heap.size w w') : MemOk w' gm gw s t f l p ws := h.grown (grown_below hb none) (by simp) (by simp)
theorem grown_set (w : World) (g j : Nat) (v : Value) : w.grownBy (w.setCell ⟨g, j, none⟩ v) (some g) :=
  ⟨rfl, rfl, rfl, by simp, fun k _ hk => Below.heap_setCell w ⟨g, j, none⟩ v k (fun e => hk (by rw [e]))⟩
theorem MemOk.set_ (h : MemOk w gm gw s t f l p ws) (j : Nat) (x : Int) : MemOk (w.setCell ⟨gw, j, none⟩ (.int .u64 x)) gm gw s t f l p (ws.set j x) := by
  refine ⟨?_, ?_, h.2.2⟩
  · rw [List.length_set]
    exact h.1.far (p := ⟨gw, j, none⟩) h.2.2 _
  · have := h.2.1.set_ j (.int .u64 x)
    have e : (ints .u64 (ws.set j x)).toArray = (ints .u64 ws).toArray.setIfInBounds j (.int .u64 x) := by
      unfold ints
      rw [List.map_set, List.setIfInBounds_toArray]
    rw [e]
    exact this
end
theorem wGet_at {l : List Int} {j : Nat} (h : j < l.length) : wGet l j = l.getD j 0 := by
  unfold wGet
  rw [if_pos ⟨by omega, by omega⟩, Int.toNat_natCast]
theorem wPut_at {l : List Int} {j : Nat} {x : Int} (h : j < l.length) : wPut l j x = l.set j x := by
  unfold wPut
  rw [if_pos ⟨by omega, by omega⟩, Int.toNat_natCast]

theorem grown_trans {w w1 w2 : World} {row : Option Nat} (h1 : w.grownBy w1 row) (h2 : w1.grownBy w2 row) : w.grownBy w2 row :=
  ⟨h2.os.trans h1.os, h2.tape.trans h1.tape, h2.output.trans h1.output, Nat.le_trans h1.size h2.size, fun k hk hr => (h2.block k (Nat.lt_of_lt_of_le hk h1.size) hr).trans (h1.block k hk hr)⟩
theorem below_grown {B : Nat} {w0 w w' : World} {g : Nat} (hb : Below B w0 w) (hg : w.grownBy w' (some g)) (hB : B ≤ g) (hs : B ≤ w.heap.size) : Below B w0 w' :=
  ⟨hg.os.trans hb.os, hg.tape.trans hb.tape, hg.output.trans hb.output, Nat.le_trans hb.size hg.size, fun k hk => (hg.block k (Nat.lt_of_lt_of_le hk hs) (fun e => by injection e with e; omega)).trans (hb.block k hk)⟩
theorem below_drewN' {w w1 : World} (hb : Below w.heap.size w w1) (n : Nat) : Below w.heap.size w (w1.drewN n) := below_drewN hb n
end Go.Proofs.YtlnckjemfabckaaGreatDoor

/-
  gleaningref09: Do, New; memory.New.
-/
namespace Go.Proofs.YtlnckjemfabckaaGreatDoor
open Go.RowKit
attribute [local go_sem] past_cell past_cell_add

/-- Words that the call has made, as a slice. -/
def RefOk (w : World) (gr : Nat) (ws : List Int) : Prop := Blk w gr 32 (ints .u64 ws).toArray
section
variable {w w' : World} {gr : Nat} {ws : List Int}
theorem RefOk.at_ (h : RefOk w gr ws) {j : Nat} (hj : j < ws.length) : w.cell? ⟨gr, j, none⟩ = some (.int .u64 (ws.getD j 0)) := by
  rw [Blk.cell h j, List.getElem?_toArray, ints_get ws j hj, List.getD_eq_getElem?_getD, List.getElem?_eq_getElem hj]
  rfl
theorem RefOk.grown {row : Option Nat} (h : RefOk w gr ws) (hg : w.grownBy w' row) (h1 : some gr ≠ row) : RefOk w' gr ws := Blk.grown h hg h1
theorem RefOk.below (h : RefOk w gr ws) (hb : Below w.heap.size w w') : RefOk w' gr ws := h.grown (grown_below hb none) (by simp)
theorem RefOk.set_ (h : RefOk w gr ws) (j : Nat) (x : Int) : RefOk (w.setCell ⟨gr, j, none⟩ (.int .u64 x)) gr (ws.set j x) := by
  have := Blk.set_ h j (.int .u64 x)
  have e : (ints .u64 (ws.set j x)).toArray = (ints .u64 ws).toArray.setIfInBounds j (.int .u64 x) := by
    unfold ints
    rw [List.map_set, List.setIfInBounds_toArray]
  unfold RefOk
  rw [e]
  exact this
end

set_option maxHeartbeats 1000000 in
theorem rdo_out (gr c : Nat) (k a o n : Int) (N : Nat) (w : World) (h : a < 0 ∨ (0 ≤ a ∧ (N : Int) ≤ a) ∨ (0 ≤ a ∧ a < N ∧ k < 1) ∨ (0 ≤ a ∧ a < N ∧ 1 ≤ k ∧ 3 < k)) :
    Calls Tryz.prog 10 #[.slice (some ⟨gr, 0, none⟩) N c, .agg #[.int .i64 k, .int .i64 a, .int .u64 o, .int .u64 n]] w fun e w' => e = .returned (.int .u64 0) ∧ Below w.heap.size w w' := by
  have bx := Blk.new w 37 #[.int .i64 k, .int .i64 a, .int .u64 o, .int .u64 n]
  have B0 := (Below.refl w.heap.size w).alloc (Nat.le_refl _) (.cells #[.int .i64 k, .int .i64 a, .int .u64 o, .int .u64 n] 37)
  clear bx
  rcases h with h | ⟨h1, h2⟩ | ⟨h1, h2, h3⟩ | ⟨h1, h2, h3, h4⟩
  all_goals
    go_enter Tryz.func10, Tryz.ntmps10
    go_wp2_with fail
    go_ret
    exact ⟨rfl, B0⟩
set_option maxHeartbeats 1000000 in
theorem rdo_1 (gr c j : Nat) (o n : Int) (ws : List Int) (w : World) (hm : RefOk w gr ws) (hj : j < ws.length)  :
    Calls Tryz.prog 10 #[.slice (some ⟨gr, 0, none⟩) ws.length c, .agg #[.int .i64 1, .int .i64 (j : Int), .int .u64 o, .int .u64 n]] w fun e w' => e = .returned (.int .u64 (ws.getD j 0)) ∧ RefOk w' gr (ws) ∧ w.grownBy w' (some gr) := by
  skip
  have HM := hide hm
  have HJ := hide hj
  have hjz : (j : Int) < (ws.length : Int) := by omega
  have lgr : gr < w.heap.size := Blk.lt hm
  have z := hm.at_ hj
  have zf := Blk.frozen hm j
  have b0 := (Below.refl w.heap.size w).alloc (Nat.le_refl _) (.cells #[.int .i64 1, .int .i64 (j : Int), .int .u64 o, .int .u64 n] 37)
  have HB := hide b0
  clear hm hj b0
  generalize hx : ws.getD j 0 = x at *
  have HX := hide hx
  clear hx
  go_enter Tryz.func10, Tryz.ntmps10
  go_wp2_with fail
  go_ret
  exact ⟨rfl, HM.out.below HB.out, grown_below HB.out _⟩
set_option maxHeartbeats 1000000 in
theorem rdo_3n (gr c j : Nat) (o n : Int) (ws : List Int) (w : World) (hm : RefOk w gr ws) (hj : j < ws.length) (hne : ws.getD j 0 ≠ o) :
    Calls Tryz.prog 10 #[.slice (some ⟨gr, 0, none⟩) ws.length c, .agg #[.int .i64 3, .int .i64 (j : Int), .int .u64 o, .int .u64 n]] w fun e w' => e = .returned (.int .u64 (0)) ∧ RefOk w' gr (ws) ∧ w.grownBy w' (some gr) := by
  have q : (ws.getD j 0 == o) = false := by simpa using hne
  have q2 : (ws.getD j 0 != o) = true := by rw [bne, q]; rfl
  clear hne
  have HM := hide hm
  have HJ := hide hj
  have hjz : (j : Int) < (ws.length : Int) := by omega
  have lgr : gr < w.heap.size := Blk.lt hm
  have z := hm.at_ hj
  have zf := Blk.frozen hm j
  have b0 := (Below.refl w.heap.size w).alloc (Nat.le_refl _) (.cells #[.int .i64 3, .int .i64 (j : Int), .int .u64 o, .int .u64 n] 37)
  have HB := hide b0
  clear hm hj b0
  generalize hx : ws.getD j 0 = x at *
  have HX := hide hx
  clear hx
  go_enter Tryz.func10, Tryz.ntmps10
  go_wp2_with fail
  go_ret
  exact ⟨rfl, HM.out.below HB.out, grown_below HB.out _⟩
set_option maxHeartbeats 1000000 in
theorem rdo_2 (gr c j : Nat) (o n : Int) (ws : List Int) (w : World) (hm : RefOk w gr ws) (hj : j < ws.length)  :
    Calls Tryz.prog 10 #[.slice (some ⟨gr, 0, none⟩) ws.length c, .agg #[.int .i64 2, .int .i64 (j : Int), .int .u64 o, .int .u64 n]] w fun e w' => e = .returned (.int .u64 (0)) ∧ RefOk w' gr (ws.set j n) ∧ w.grownBy w' (some gr) := by
  skip
  have HM := hide hm
  have HJ := hide hj
  have hjz : (j : Int) < (ws.length : Int) := by omega
  have lgr : gr < w.heap.size := Blk.lt hm
  have z := hm.at_ hj
  have zf := Blk.frozen hm j
  have b0 := (Below.refl w.heap.size w).alloc (Nat.le_refl _) (.cells #[.int .i64 2, .int .i64 (j : Int), .int .u64 o, .int .u64 n] 37)
  have HB := hide b0
  clear hm hj b0
  generalize hx : ws.getD j 0 = x at *
  have HX := hide hx
  clear hx
  go_enter Tryz.func10, Tryz.ntmps10
  go_wp2_with fail
  go_ret
  have H1 := HM.out.set_ j n
  exact ⟨rfl, H1.below ((Below.refl _ _).alloc (Nat.le_refl _) _), grown_trans (grown_set w gr j (.int .u64 n)) (grown_below ((Below.refl _ _).alloc (Nat.le_refl _) _) _)⟩
set_option maxHeartbeats 1000000 in
theorem rdo_3y (gr c j : Nat) (o n : Int) (ws : List Int) (w : World) (hm : RefOk w gr ws) (hj : j < ws.length) (heq : ws.getD j 0 = o) :
    Calls Tryz.prog 10 #[.slice (some ⟨gr, 0, none⟩) ws.length c, .agg #[.int .i64 3, .int .i64 (j : Int), .int .u64 o, .int .u64 n]] w fun e w' => e = .returned (.int .u64 (1)) ∧ RefOk w' gr (ws.set j n) ∧ w.grownBy w' (some gr) := by
  have q : (ws.getD j 0 == o) = true := by simpa using heq
  have q2 : (ws.getD j 0 != o) = false := by rw [bne, q]; rfl
  clear heq
  have HM := hide hm
  have HJ := hide hj
  have hjz : (j : Int) < (ws.length : Int) := by omega
  have lgr : gr < w.heap.size := Blk.lt hm
  have z := hm.at_ hj
  have zf := Blk.frozen hm j
  have b0 := (Below.refl w.heap.size w).alloc (Nat.le_refl _) (.cells #[.int .i64 3, .int .i64 (j : Int), .int .u64 o, .int .u64 n] 37)
  have HB := hide b0
  clear hm hj b0
  generalize hx : ws.getD j 0 = x at *
  have HX := hide hx
  clear hx
  go_enter Tryz.func10, Tryz.ntmps10
  go_wp2_with fail
  go_ret
  have H1 := HM.out.set_ j n
  exact ⟨rfl, H1.below ((Below.refl _ _).alloc (Nat.le_refl _) _), grown_trans (grown_set w gr j (.int .u64 n)) (grown_below ((Below.refl _ _).alloc (Nat.le_refl _) _) _)⟩

theorem rdo_any (gr c : Nat) (k a o n : Int) (ws : List Int) (w : World) (hm : RefOk w gr ws) :
    Calls Tryz.prog 10 #[.slice (some ⟨gr, 0, none⟩) ws.length c, .agg #[.int .i64 k, .int .i64 a, .int .u64 o, .int .u64 n]] w fun e w' => e = .returned (.int .u64 (mDo ws k a o n).1) ∧ RefOk w' gr (mDo ws k a o n).2 ∧ w.grownBy w' (some gr) := by
  have out : ∀ e0, mDo ws k a o n = e0 → e0 = (0, ws) → (a < 0 ∨ (0 ≤ a ∧ (ws.length : Int) ≤ a) ∨ (0 ≤ a ∧ a < ws.length ∧ k < 1) ∨ (0 ≤ a ∧ a < ws.length ∧ 1 ≤ k ∧ 3 < k)) →
      Calls Tryz.prog 10 #[.slice (some ⟨gr, 0, none⟩) ws.length c, .agg #[.int .i64 k, .int .i64 a, .int .u64 o, .int .u64 n]] w fun e w' => e = .returned (.int .u64 (mDo ws k a o n).1) ∧ RefOk w' gr (mDo ws k a o n).2 ∧ w.grownBy w' (some gr) := by
    intro e0 h1 h2 h
    rw [h1, h2]
    exact (rdo_out gr c k a o n ws.length w h).mono fun e w' ⟨he, hb⟩ => ⟨he, hm.below hb, grown_below hb _⟩
  by_cases hin : 0 ≤ a ∧ a < ws.length
  · obtain ⟨j, rfl⟩ := Int.eq_ofNat_of_zero_le hin.1
    have hj : j < ws.length := by omega
    by_cases h1 : k = 1
    · subst h1
      unfold mDo
      rw [wGet_at hj]
      exact rdo_1 gr c j o n ws w hm hj
    by_cases h2 : k = 2
    · subst h2
      unfold mDo
      rw [wPut_at hj]
      exact rdo_2 gr c j o n ws w hm hj
    by_cases h3 : k = 3
    · subst h3
      unfold mDo
      rw [wGet_at hj, wPut_at hj]
      by_cases he : ws.getD j 0 = o
      · rw [if_neg (by omega), if_neg (by omega), if_pos ⟨rfl, by omega, by omega, he⟩]
        exact rdo_3y gr c j o n ws w hm hj he
      · rw [if_neg (by omega), if_neg (by omega), if_neg (fun h => he h.2.2.2)]
        exact rdo_3n gr c j o n ws w hm hj he
    · refine out _ rfl ?_ ?_
      · unfold mDo
        rw [if_neg h1, if_neg h2, if_neg (fun h => h3 h.1)]
      · by_cases hk : k < 1
        · exact .inr (.inr (.inl ⟨by omega, by omega, hk⟩))
        · exact .inr (.inr (.inr ⟨by omega, by omega, by omega, by omega⟩))
  · refine out _ rfl ?_ (by omega)
    unfold mDo wGet wPut
    rw [if_neg hin, if_neg hin]
    split
    · rfl
    · split
      · rfl
      · rw [if_neg (fun h => hin ⟨h.2.1, h.2.2.1⟩)]
end Go.Proofs.YtlnckjemfabckaaGreatDoor

/-
  Slices of words: Clone, part.
-/
namespace Go.Proofs.YtlnckjemfabckaaGreatDoor
open Go.RowKit

theorem infoU64 : (Tryz.prog.info? 32).map (fun i => (i.zero, i.size, i.bytes)) = some (some (.int .u64 0), 1, 8) := by kernel_rfl

/-- v is a slice that reads as these words, its array below block B. -/
def Sl (w : World) (B : Nat) (v : Value) (xs : List Int) : Prop := ∃ A c, v = .slice A xs.length c ∧ xs.length ≤ c ∧ c ≤ 9223372036854775807 ∧ Reads w B 1 A xs.length (ints .u64 xs)
theorem Sl.below {w w' : World} {B : Nat} {v : Value} {xs : List Int} (h : Sl w B v xs) (hb : Below B w w') : Sl w' B v xs := by
  obtain ⟨A, c, h1, h2, h3, h4⟩ := h
  exact ⟨A, c, h1, h2, h3, h4.below hb⟩
theorem Sl.more {w : World} {B B' : Nat} {v : Value} {xs : List Int} (h : Sl w B v xs) (hB : B ≤ B') : Sl w B' v xs := by
  obtain ⟨A, c, h1, h2, h3, h4⟩ := h
  exact ⟨A, c, h1, h2, h3, h4.more hB⟩
theorem Sl.nil (w : World) (B : Nat) : Sl w B (.slice none 0 0) [] := ⟨none, 0, rfl, Nat.le_refl _, by omega, Reads.none_⟩

theorem Sl.of_own {w : World} {B n : Nat} {e : TypeId} {xs : List Int} {v : Value} (h : w.ownsRow B e 1 v n (ints .u64 xs)) : Sl w w.heap.size v xs := by
  have hn : xs.length = n := by have := h.1; rw [ints_len] at this; omega
  subst hn
  rcases h.2 with ⟨rfl, h0⟩ | ⟨g, cap, cur, rfl, _, _, hc, hm, _⟩
  · have : xs = [] := List.eq_nil_of_length_eq_zero h0
    subst this
    exact Sl.nil _ _
  · exact ⟨_, _, rfl, hc, by unfold maxLen at hm; omega, Reads.of_own h⟩

/-- v is a slice of these words, its array in a block from lo on, at its head. -/
def Own (w : World) (lo : Nat) (v : Value) (xs : List Int) : Prop := w.ownsRow lo 32 1 v xs.length (ints .u64 xs)
theorem Own.nil (w : World) (lo : Nat) : Own w lo (.slice none 0 0) [] := World.ownsRow_nil _ _ _ _
theorem Own.of {w : World} {lo n : Nat} {v : Value} {xs : List Int} (h : w.ownsRow lo 32 1 v n (ints .u64 xs)) : Own w lo v xs := by
  have hn : xs.length = n := by have := h.1; rw [ints_len] at this; omega
  unfold Own
  rw [hn]
  exact h
theorem Own.below {w w' : World} {lo : Nat} {v : Value} {xs : List Int} (h : Own w lo v xs) (hb : Below w.heap.size w w') : Own w' lo v xs := own_below h hb
theorem Own.mono {w : World} {lo lo' : Nat} {v : Value} {xs : List Int} (h : Own w lo v xs) (hl : lo' ≤ lo) : Own w lo' v xs := own_mono h hl
theorem Own.far {w : World} {lo : Nat} {v : Value} {xs : List Int} (h : Own w lo v xs) {p : Addr} (hp : p.block < lo) (u : Value) : Own (w.setCell p u) lo v xs := own_setCell_far h hp u
theorem Own.sl {w : World} {lo : Nat} {v : Value} {xs : List Int} (h : Own w lo v xs) : Sl w w.heap.size v xs := Sl.of_own h
theorem Own.drew {w : World} {lo : Nat} {v : Value} {xs : List Int} (h : Own w lo v xs) : Own w.drew lo v xs := h
theorem Own.val {w : World} {lo : Nat} {v : Value} {xs : List Int} (h : Own w lo v xs) : ∃ A c, v = .slice A xs.length c := by
  obtain ⟨A, c, h1, _⟩ := h.sl
  exact ⟨A, c, h1⟩

theorem reads_prefix' {w : World} {B n m : Nat} {A : Option Addr} {l : List Int} {κ : IntKind} (h : Reads w B 1 A n (ints κ l)) (hm : m ≤ n) : Reads w B 1 A m (ints κ (l.take m)) := by
  have hl := h.lenWord
  refine ⟨by rw [ints_len, List.length_take]; omega, fun h0 => ?_⟩
  obtain ⟨ad, e, hb, hc⟩ := h.2 (by omega)
  refine ⟨ad, e, hb, fun j u hu => hc j u ?_⟩
  unfold ints at *
  rw [List.map_take, List.getElem?_take] at hu
  split at hu
  · exact hu
  · cases hu
/-- l[from:to:to], cloned. -/
def cutL (l : List Int) (a b : Nat) : List Int := (l.take b).drop a
theorem cutL_len (l : List Int) (a b : Nat) (h : b ≤ l.length) : (cutL l a b).length = b - a := by unfold cutL; simp; omega
theorem reads_window {w : World} {B n a b : Nat} {A : Option Addr} {l : List Int} {κ : IntKind} (h : Reads w B 1 A n (ints κ l)) (hab : a < b) (hb : b ≤ n) : Reads w B 1 (A.map (·.add a)) (b - a) (ints κ (cutL l a b)) := by
  have h1 := (reads_prefix' h hb).cut (k := a) (cap := b) (by omega) (Nat.le_refl _)
  rw [if_neg (by omega), Nat.mul_one] at h1
  have e : (ints κ (l.take b)).drop a = ints κ (cutL l a b) := by unfold ints cutL; rw [List.map_drop]
  rw [← e]
  exact h1
end Go.Proofs.YtlnckjemfabckaaGreatDoor

/-
  memory.New and gleaningref09.New.
-/
namespace Go.Proofs.YtlnckjemfabckaaGreatDoor
open Go.RowKit
attribute [local go_sem] past_cell past_cell_add

def zs (n : Nat) : List Int := List.replicate n 0
theorem made_zs (n : Nat) : madeCells #[Value.int .u64 0] n = (ints .u64 (zs n)).toArray := by
  apply Array.ext
  · simp [ints, zs, madeCells]
  · intro i h1 h2
    simp [ints, zs, madeCells, Nat.mod_one]
set_option maxHeartbeats 1000000 in
theorem rnew_any (s t f l p : Int) (N : Nat) (w : World) (hN : rSize s t f l p = N) (hb : N ≤ 1000000) :
    Calls Tryz.prog 32 #[.agg #[.int .i64 s, .int .i64 t, .int .i64 f, .int .i64 l, .int .i64 p]] w fun e w' => (∃ g, e = .returned (.slice (some ⟨g, 0, none⟩) N N) ∧ RefOk w' g (zs N) ∧ w.heap.size ≤ g) ∧ Below w.heap.size w w' := by
  have S1 := hide (fun w => rsize_any s t f l p w)
  rw [hN] at S1
  have hmk := run_make_row' (P := Tryz.prog) 29 32 (.int .u64 0) 8 Tryz.underlying29 infoU64 rfl .i64 .i64 N (by omega) (by omega)
  have Z := hide (made_zs N)
  have HN := hide hN
  clear hN
  generalize madeCells #[Value.int .u64 0] N = cs at *
  go_enter Tryz.func32, Tryz.ntmps32
  go_wp2_with fail
  have B0 := (Below.refl w.heap.size w).alloc (Nat.le_refl _) (.cells #[.int .i64 s, .int .i64 t, .int .i64 f, .int .i64 l, .int .i64 p] 23)
  refine (S1.out _).mono ?_
  rintro e w1 ⟨rfl, hb1⟩
  replace B0 := B0.trans (hb1.mono B0.size)
  clear hb1
  go_wp2_with fail
  go_ret
  refine ⟨⟨_, rfl, ?_, B0.size⟩, B0.alloc B0.size _⟩
  have := Blk.new w1 32 cs
  rw [Z.out] at this ⊢
  exact this
set_option maxHeartbeats 1000000 in
theorem mnew_no (s t f l p : Int) (w : World) (hT : Tab w) (hc : cfgOk s t f l p = false) :
    Calls Tryz.prog 22 #[.agg #[.int .i64 s, .int .i64 t, .int .i64 f, .int .i64 l, .int .i64 p]] w fun e w' => e = .returned (.pointer none) ∧ Below w.heap.size w w' := by
  have NW := hide (fun w2 (hb : Below w.heap.size w w2) => new_no s t f l p w2 (hT.below hb) hc)
  have S1 := hide size_zero
  go_enter Tryz.func22, Tryz.ntmps22
  go_wp2_with fail
  have B0 := (Below.refl w.heap.size w).alloc (Nat.le_refl _) (.cells #[.int .i64 s, .int .i64 t, .int .i64 f, .int .i64 l, .int .i64 p] 23)
  refine (NW.out _ B0).mono ?_
  rintro e w1 ⟨rfl, hb1⟩
  replace B0 := B0.trans (hb1.mono B0.size)
  clear hb1
  go_wp2_with fail
  replace B0 := B0.alloc B0.size (.cells #[.int .i64 0, .int .i64 0, .int .i64 0, .int .i64 0, .int .i64 0] 63)
  refine (S1.out _).mono ?_
  rintro e w2 ⟨rfl, hb1⟩
  replace B0 := B0.trans (hb1.mono B0.size)
  go_wp2_with fail
  go_ret
  exact ⟨rfl, B0⟩
set_option maxHeartbeats 2000000 in
theorem mnew_yes (s t f l p : Int) (N : Nat) (w : World) (hT : Tab w) (hc : cfgOk s t f l p = true) (hN : laySize s t f = N) :
    Calls Tryz.prog 22 #[.agg #[.int .i64 s, .int .i64 t, .int .i64 f, .int .i64 l, .int .i64 p]] w fun e w' => (∃ gm gw, e = .returned (.pointer (some ⟨gm, 0, none⟩)) ∧ MemOk w' gm gw s t f l p (zs N) ∧ w.heap.size ≤ gm ∧ w.heap.size ≤ gw) ∧ Below w.heap.size w w' := by
  have hb := cfgOk_iff.1 hc
  have hs : 1 ≤ s ∧ s ≤ 1000 := by omega
  have ht : 1 ≤ t ∧ t ≤ 64 := by omega
  have hf : 4 ≤ f ∧ f ≤ 64 := by omega
  have hz := size_pos hs ht hf
  clear hb
  have NW := hide (fun w2 (hb : Below w.heap.size w w2) => new_yes s t f l p w2 (hT.below hb) hc)
  have S1 := hide (fun w => size_any s t f l p w hs ht hf)
  rw [hN] at S1 hz
  have hmk := run_make_row' (P := Tryz.prog) 29 32 (.int .u64 0) 8 Tryz.underlying29 infoU64 rfl .i64 .i64 N (by omega) (by omega)
  have Z := hide (made_zs N)
  have q : ((N : Int) == 0) = false := by rw [beq_eq_false_iff_ne]; omega
  have zl : (zs N).length = N := by simp [zs]
  have HZ := hide zl
  clear hN hs ht hf hc hz zl
  generalize madeCells #[Value.int .u64 0] N = cs at *
  go_enter Tryz.func22, Tryz.ntmps22
  go_wp2_with fail
  have B0 := (Below.refl w.heap.size w).alloc (Nat.le_refl _) (.cells #[.int .i64 s, .int .i64 t, .int .i64 f, .int .i64 l, .int .i64 p] 23)
  refine (NW.out _ B0).mono ?_
  rintro e w1 ⟨rfl, hb1⟩
  replace B0 := B0.trans (hb1.mono B0.size)
  have hs1 := B0.size
  clear hb1
  go_wp2_with fail
  have bo := Blk.new w1 63 #[.int .i64 s, .int .i64 t, .int .i64 f, .int .i64 l, .int .i64 p]
  replace B0 := B0.alloc B0.size (.cells #[.int .i64 s, .int .i64 t, .int .i64 f, .int .i64 l, .int .i64 p] 63)
  refine (S1.out _).mono ?_
  rintro e w2 ⟨rfl, hb1⟩
  replace bo := bo.below hb1 bo.lt
  replace B0 := B0.trans (hb1.mono B0.size)
  clear hb1
  have mo := fun i => bo.cell i
  have lo := bo.lt
  go_wp2_with fail
  have bd := bo.drew
  have Bd := B0.drew
  have g1 : w1.heap.size < w2.heap.size := bo.lt
  go_region_held3 (fun w' => w'.cell? ⟨w1.heap.size, 0, none⟩ = some (.int .i64 s) ∧ w'.cell? ⟨w1.heap.size, 1, none⟩ = some (.int .i64 t) ∧ w'.cell? ⟨w1.heap.size, 2, none⟩ = some (.int .i64 f) ∧ w'.cell? ⟨w1.heap.size, 3, none⟩ = some (.int .i64 l) ∧ w'.cell? ⟨w1.heap.size, 4, none⟩ = some (.int .i64 p)) (go_keep) ((go_at_call 54; refine (S1.out _).mono ?_; rintro e w3 ⟨rfl, hb3⟩; have b3 := bd.below hb3 bd.lt; have m3 := fun i => b3.cell i; have B3 := Bd.trans (hb3.mono Bd.size); have l3 := b3.lt))
  all_goals
    go_wp2_with fail
    go_ret
    have M1 := (Blk.new w3 32 cs).alloc (.cells #[.int .i64 s, .int .i64 t, .int .i64 f, .int .i64 l, .int .i64 p, .slice (some ⟨w3.heap.size, 0, none⟩) N N] 65)
    have M2 := Blk.new (w3.alloc (.cells cs 32)) 65 #[.int .i64 s, .int .i64 t, .int .i64 f, .int .i64 l, .int .i64 p, .slice (some ⟨w3.heap.size, 0, none⟩) N N]
    rw [World.size_alloc] at M2
    have MM : MemOk ((w3.alloc (.cells cs 32)).alloc (.cells #[.int .i64 s, .int .i64 t, .int .i64 f, .int .i64 l, .int .i64 p, .slice (some ⟨w3.heap.size, 0, none⟩) N N] 65)) (w3.heap.size + 1) w3.heap.size s t f l p (zs N) := by
      unfold MemOk
      rw [HZ.out, ← Z.out]
      exact ⟨M2, M1, by omega⟩
    have hs3 := B3.size
    refine ⟨⟨w3.heap.size + 1, w3.heap.size, rfl, MM, by omega, hs3⟩, ?_⟩
    exact (B3.alloc hs3 _).alloc (by simp only [World.size_alloc]; omega) _
end Go.Proofs.YtlnckjemfabckaaGreatDoor

/-
  The words of a machine that begins, in plain Lean.
-/
namespace Go.Proofs.YtlnckjemfabckaaGreatDoor
open Go.RowKit

/-- The slot of a word, and its place within it. -/
def oOf (t f j : Int) : Int := (j - (3 + 3 * t)) / (3 + 2 * f)
def rOf (t f j : Int) : Int := (j - (3 + 3 * t)) % (3 + 2 * f)
theorem at_or {t f j k c : Int} (hc : 0 ≤ c) (hc2 : c < 3 + 2 * f) : j = nB t f k + c ↔ oOf t f j = k ∧ rOf t f j = c := by
  unfold nB oOf rOf
  constructor
  · rintro rfl
    have e : 3 + 3 * t + k * (3 + 2 * f) + c - (3 + 3 * t) = k * (3 + 2 * f) + c := by omega
    rw [e]
    exact div_back hc hc2
  · rintro ⟨h1, h2⟩
    have e := Int.mul_ediv_add_emod (j - (3 + 3 * t)) (3 + 2 * f)
    rw [h1, h2, Int.mul_comm] at e
    omega
theorem r_bd {t f j : Int} (hf : 4 ≤ f) : 0 ≤ rOf t f j ∧ rOf t f j < 3 + 2 * f := ⟨Int.emod_nonneg _ (by omega), Int.emod_lt_of_pos _ (by omega)⟩
def bOR (s f k o r : Int) : Int :=
  if o = 0 ∧ r = 1 then 3 else if o = 0 ∧ r = 3 + f then 65537 else if o = 1 ∧ r = 0 then 1099511627776
  else if 2 ≤ o ∧ o < k ∧ r = 0 then 2 else if 2 ≤ o ∧ o < k ∧ o < s ∧ r = 2 then o + 1 else 0
/-- The slots below k are laid. -/
def bK (s t f k j : Int) : Int := bOR s f k (oOf t f j) (rOf t f j)
def BegK (s t f k : Int) (ws : List Int) : Prop := ∀ j : Nat, j < ws.length → ws.getD j 0 = bK s t f k j
theorem getD_set (l : List Int) (p j : Nat) (x : Int) (hp : p < l.length) : (l.set p x).getD j 0 = if j = p then x else l.getD j 0 := by
  rw [List.getD_eq_getElem?_getD, List.getElem?_set, List.getD_eq_getElem?_getD]
  by_cases h : p = j
  · subst h
    rw [if_pos rfl, if_pos hp, if_pos rfl]
    rfl
  · rw [if_neg h, if_neg (fun e => h e.symm)]
theorem getD_zs (n j : Nat) : (zs n).getD j 0 = 0 := by
  unfold zs
  rw [List.getD_eq_getElem?_getD, List.getElem?_replicate]
  split <;> rfl
theorem zs_len (n : Nat) : (zs n).length = n := by simp [zs]
theorem bK_step {s t f k j : Int} (hf : 4 ≤ f) (hk : 2 ≤ k) : bK s t f (k + 1) j = if j = nB t f k then 2 else if k < s ∧ j = nB t f k + 2 then k + 1 else bK s t f k j := by
  have h1 := at_or (t := t) (f := f) (j := j) (k := k) (c := 0) (by omega) (by omega)
  have h2 := at_or (t := t) (f := f) (j := j) (k := k) (c := 2) (by omega) (by omega)
  rw [Int.add_zero] at h1
  unfold bK bOR
  simp only [h1, h2]
  generalize oOf t f j = o
  generalize rOf t f j = r
  repeat' split
  all_goals first | rfl | omega
/-- All words. -/
def begAt (s t f j : Int) : Int := if j = 2 then (if 2 ≤ s then 2 else 0) else bK s t f (s + 1) j
def begL (s t f : Int) : List Int := (List.range (laySize s t f).toNat).map fun (j : Nat) => begAt s t f (j : Int)
theorem begL_len (s t f : Int) : (begL s t f).length = (laySize s t f).toNat := by simp [begL]
theorem begL_at {s t f : Int} {j : Nat} (h : j < (begL s t f).length) : (begL s t f).getD j 0 = begAt s t f j := by
  rw [List.getD_eq_getElem?_getD, List.getElem?_eq_getElem h]
  simp [begL]
theorem begL_of {s t f : Int} {ws : List Int} (hl : ws.length = (laySize s t f).toNat) (h : ∀ j : Nat, j < ws.length → ws.getD j 0 = begAt s t f j) : ws = begL s t f := by
  apply List.ext_getElem (by rw [hl, begL_len])
  intro j h1 h2
  have e1 := h j h1
  have e2 := begL_at h2
  rw [List.getD_eq_getElem?_getD, List.getElem?_eq_getElem h1] at e1
  rw [List.getD_eq_getElem?_getD, List.getElem?_eq_getElem h2] at e2
  exact e1.trans e2.symm
theorem bOR_bd {s f k o r : Int} (hs : s ≤ 1000) : 0 ≤ bOR s f k o r ∧ bOR s f k o r ≤ 1099511627776 := by
  unfold bOR
  repeat' split
  all_goals omega
theorem begL_w64 {s t f : Int} (hs : s ≤ 1000) : AllW64 (begL s t f) := by
  intro x hx
  simp only [begL, List.mem_map] at hx
  obtain ⟨j, _, rfl⟩ := hx
  unfold begAt bK
  have := bOR_bd (s := s) (f := f) (k := s + 1) (o := oOf t f j) (r := rOf t f j) hs
  constructor
  · repeat' split
    all_goals omega
  · repeat' split
    all_goals omega
end Go.Proofs.YtlnckjemfabckaaGreatDoor

/-
  Fields of bits, in plain numbers.
-/
namespace Go.Proofs.YtlnckjemfabckaaGreatDoor

/-- How many bits a field has; what it tells; a word with another field. -/
def fcut (at_ size : Int) : Int := if at_ < 0 ∨ 63 < at_ ∨ size < 1 then 0 else min size (64 - at_)
def fget (w at_ size : Int) : Int := if at_ < 0 ∨ 63 < at_ ∨ size < 1 then 0 else w / 2 ^ at_.toNat % 2 ^ (min size (64 - at_)).toNat
def fput (w at_ size v : Int) : Int :=
  if at_ < 0 ∨ 63 < at_ ∨ size < 1 then w else w - w / 2 ^ at_.toNat % 2 ^ (min size (64 - at_)).toNat * 2 ^ at_.toNat + v % 2 ^ (min size (64 - at_)).toNat * 2 ^ at_.toNat
def fmask (size : Int) : Int := if size < 1 then 0 else if 64 ≤ size then 18446744073709551615 else 2 ^ size.toNat - 1

theorem pow_split {a n : Nat} (h : a + n ≤ 64) : (2 : Nat) ^ a * 2 ^ n * 2 ^ (64 - a - n) = 18446744073709551616 := by
  rw [← Nat.pow_add, ← Nat.pow_add]
  have : a + n + (64 - a - n) = 64 := by omega
  rw [this]

/-- The middle of a word: below, the field, above. -/
theorem nat_parts (w a n : Nat) : w = 2 ^ a * (2 ^ n * (w / 2 ^ a / 2 ^ n) + w / 2 ^ a % 2 ^ n) + w % 2 ^ a := by
  rw [Nat.div_add_mod (w / 2 ^ a) (2 ^ n), Nat.div_add_mod w (2 ^ a)]

theorem nat_put_sum (w v a n : Nat) : w - w / 2 ^ a % 2 ^ n * 2 ^ a + v % 2 ^ n * 2 ^ a = 2 ^ a * (2 ^ n * (w / 2 ^ a / 2 ^ n) + v % 2 ^ n) + w % 2 ^ a := by
  have h := nat_parts w a n
  generalize w / 2 ^ a / 2 ^ n = p at *
  generalize w / 2 ^ a % 2 ^ n = q at *
  generalize w % 2 ^ a = r at *
  generalize v % 2 ^ n = s at *
  generalize 2 ^ n * p = t at *
  rw [Nat.mul_add] at *
  rw [Nat.mul_comm q, Nat.mul_comm s]
  omega

theorem nat_put_bit (w v a n i : Nat) : (2 ^ a * (2 ^ n * (w / 2 ^ a / 2 ^ n) + v % 2 ^ n) + w % 2 ^ a).testBit i = if a ≤ i ∧ i < a + n then v.testBit (i - a) else w.testBit i := by
  rw [Nat.testBit_two_pow_mul_add _ (Nat.mod_lt _ (Nat.two_pow_pos a))]
  by_cases h : i < a
  · rw [if_pos h, if_neg (by omega), Nat.testBit_mod_two_pow]
    simp [h]
  · rw [if_neg h, Nat.testBit_two_pow_mul_add _ (Nat.mod_lt _ (Nat.two_pow_pos n))]
    by_cases h2 : i - a < n
    · rw [if_pos h2, if_pos (by omega), Nat.testBit_mod_two_pow]
      simp [h2]
    · rw [if_neg h2, if_neg (by omega), Nat.testBit_div_two_pow, Nat.testBit_div_two_pow]
      congr 1
      omega

theorem mask_bit (a n i : Nat) : (2 ^ a * (2 ^ n - 1)).testBit i = (decide (a ≤ i) && decide (i < a + n)) := by
  rw [Nat.testBit_two_pow_mul, Nat.testBit_two_pow_sub_one]
  by_cases h : a ≤ i
  · have : (i - a < n) = (i < a + n) := by simp; omega
    simp [h, this]
  · simp [h]

theorem nat_put (w v a n : Nat) (hw : w < 18446744073709551616) (h : a + n ≤ 64) :
    ((w &&& (18446744073709551615 - 2 ^ a * (2 ^ n - 1))) ||| ((v * 2 ^ a % 18446744073709551616) &&& 2 ^ a * (2 ^ n - 1))) = w - w / 2 ^ a % 2 ^ n * 2 ^ a + v % 2 ^ n * 2 ^ a := by
  rw [nat_put_sum]
  have hm : 2 ^ a * (2 ^ n - 1) < 2 ^ 64 := by
    have h1 : 2 ^ a * (2 ^ n - 1) < 2 ^ a * 2 ^ n := Nat.mul_lt_mul_of_pos_left (by have := Nat.two_pow_pos n; omega) (Nat.two_pow_pos a)
    rw [← Nat.pow_add] at h1
    exact Nat.lt_of_lt_of_le h1 (Nat.pow_le_pow_right (by omega) h)
  apply Nat.eq_of_testBit_eq
  intro i
  have e1 : (18446744073709551615 : Nat) - 2 ^ a * (2 ^ n - 1) = 2 ^ 64 - (2 ^ a * (2 ^ n - 1) + 1) := by omega
  have e2 : (18446744073709551616 : Nat) = 2 ^ 64 := by decide
  rw [nat_put_bit, Nat.testBit_or, Nat.testBit_and, Nat.testBit_and, e1, Nat.testBit_two_pow_sub_succ hm, mask_bit, e2, Nat.testBit_mod_two_pow, Nat.mul_comm v, Nat.testBit_two_pow_mul]
  have hwi : 64 ≤ i → w.testBit i = false := fun hi => Nat.testBit_lt_two_pow (Nat.lt_of_lt_of_le (by rw [← e2]; exact hw) (Nat.pow_le_pow_right (by omega) hi))
  by_cases c1 : a ≤ i <;> by_cases c2 : i < a + n <;> simp [c1, c2]
  · intro _; omega
  · intro hb; by_cases hi : i < 64
    · exact hi
    · rw [hwi (by omega)] at hb; cases hb
  · intro hb; by_cases hi : i < 64
    · exact hi
    · rw [hwi (by omega)] at hb; cases hb
  · intro hb; by_cases hi : i < 64
    · exact hi
    · rw [hwi (by omega)] at hb; cases hb

theorem fmask_nat {n : Nat} (h1 : 1 ≤ n) (h2 : n ≤ 64) : fmask (n : Int) = ((2 ^ n - 1 : Nat) : Int) := by
  unfold fmask
  rw [if_neg (by omega)]
  by_cases h : n = 64
  · subst h; rw [if_pos (by decide)]; decide
  · rw [if_neg (by omega), Int.toNat_natCast]
    have := Nat.two_pow_pos n
    rw [Int.natCast_sub (by omega)]
    simp

/-- A field that is there, in natural numbers. -/
theorem field_nat {at_ size : Int} (hc : ¬ (at_ < 0 ∨ 63 < at_ ∨ size < 1)) : ∃ a n : Nat, at_ = a ∧ a ≤ 63 ∧ 1 ≤ n ∧ a + n ≤ 64 ∧ min size (64 - at_) = n ∧ fcut at_ size = n := by
  refine ⟨at_.toNat, (min size (64 - at_)).toNat, by omega, by omega, by omega, by omega, by omega, ?_⟩
  unfold fcut
  rw [if_neg hc]
  omega

theorem fput_nat {a n : Nat} {size : Int} (x v : Nat) (hc : ¬ ((a : Int) < 0 ∨ 63 < (a : Int) ∨ size < 1)) (hn : min size (64 - (a : Int)) = n) :
    fput x a size v = ((x - x / 2 ^ a % 2 ^ n * 2 ^ a + v % 2 ^ n * 2 ^ a : Nat) : Int) := by
  unfold fput
  rw [if_neg hc, hn, Int.toNat_natCast, Int.toNat_natCast]
  have hle : x / 2 ^ a % 2 ^ n * 2 ^ a ≤ x := by
    have h := nat_parts x a n
    rw [Nat.mul_add] at h
    rw [Nat.mul_comm]
    omega
  rw [Int.natCast_add, Int.natCast_sub hle]
  simp
theorem fget_nat {a n : Nat} {size : Int} (x : Nat) (hc : ¬ ((a : Int) < 0 ∨ 63 < (a : Int) ∨ size < 1)) (hn : min size (64 - (a : Int)) = n) :
    fget x a size = ((x / 2 ^ a % 2 ^ n : Nat) : Int) := by
  unfold fget
  rw [if_neg hc, hn, Int.toNat_natCast, Int.toNat_natCast]
  simp

theorem mask_shift {a n : Nat} (h1 : 1 ≤ n) (h : a + n ≤ 64) : IntKind.u64.wrap (fmask (n : Int) * 2 ^ a) = ((2 ^ a * (2 ^ n - 1) : Nat) : Int) := by
  rw [fmask_nat h1 (by omega), IntKind.wrap_u64]
  have hm : 2 ^ a * (2 ^ n - 1) < 2 ^ 64 := by
    have h1 : 2 ^ a * (2 ^ n - 1) < 2 ^ a * 2 ^ n := Nat.mul_lt_mul_of_pos_left (by have := Nat.two_pow_pos n; omega) (Nat.two_pow_pos a)
    rw [← Nat.pow_add] at h1
    exact Nat.lt_of_lt_of_le h1 (Nat.pow_le_pow_right (by omega) h)
  have e : ((2 ^ n - 1 : Nat) : Int) * 2 ^ a = ((2 ^ a * (2 ^ n - 1) : Nat) : Int) := by
    rw [Nat.mul_comm]; simp
  rw [e]
  omega
theorem word_shift (v a : Nat) : IntKind.u64.wrap ((v : Int) * 2 ^ a) = ((v * 2 ^ a % 18446744073709551616 : Nat) : Int) := by
  rw [IntKind.wrap_u64]
  simp

theorem put_bits {x at_ size v : Int} (hx : W64 x) (hv : W64 v) (hc : ¬ (at_ < 0 ∨ 63 < at_ ∨ size < 1)) :
    bits .or .u64 (bits .andNot .u64 x (IntKind.u64.wrap (fmask (fcut at_ size) * 2 ^ at_.toNat))) (bits .and .u64 (IntKind.u64.wrap (v * 2 ^ at_.toNat)) (IntKind.u64.wrap (fmask (fcut at_ size) * 2 ^ at_.toNat))) = fput x at_ size v := by
  obtain ⟨a, n, rfl, ha, hn, han, hmin, hcut⟩ := field_nat hc
  obtain ⟨x, rfl⟩ := Int.eq_ofNat_of_zero_le hx.1
  obtain ⟨v, rfl⟩ := Int.eq_ofNat_of_zero_le hv.1
  have hx2 := hx.2
  have hm : 2 ^ a * (2 ^ n - 1) < 2 ^ 64 := by
    have h1 : 2 ^ a * (2 ^ n - 1) < 2 ^ a * 2 ^ n := Nat.mul_lt_mul_of_pos_left (by have := Nat.two_pow_pos n; omega) (Nat.two_pow_pos a)
    rw [← Nat.pow_add] at h1
    exact Nat.lt_of_lt_of_le h1 (Nat.pow_le_pow_right (by omega) han)
  rw [fput_nat x v hc hmin, hcut, Int.toNat_natCast, mask_shift hn han, word_shift, u64_andNot_nat _ _ (by omega) (by omega), u64_and_nat _ _ (by omega) (by omega), u64_or_nat, nat_put x v a n (by omega) han]
  · exact Nat.lt_of_le_of_lt Nat.and_le_left (by omega)
  · exact Nat.lt_of_le_of_lt Nat.and_le_left (by omega)

theorem get_bits {x at_ size : Int} (hx : W64 x) (hc : ¬ (at_ < 0 ∨ 63 < at_ ∨ size < 1)) :
    bits .and .u64 (x / 2 ^ at_.toNat) (fmask (fcut at_ size)) = fget x at_ size := by
  obtain ⟨a, n, rfl, ha, hn, han, hmin, hcut⟩ := field_nat hc
  obtain ⟨x, rfl⟩ := Int.eq_ofNat_of_zero_le hx.1
  have hx2 := hx.2
  have h1 : x / 2 ^ a ≤ x := Nat.div_le_self _ _
  have h2 : (2 : Nat) ^ n ≤ 2 ^ 64 := Nat.pow_le_pow_right (by omega) (by omega)
  rw [fget_nat x hc hmin, hcut, Int.toNat_natCast, fmask_nat hn (by omega)]
  have e : (x : Int) / 2 ^ a = ((x / 2 ^ a : Nat) : Int) := by simp
  rw [e, u64_and_nat _ _ (by omega) (by omega), Nat.and_two_pow_sub_one_eq_mod]

theorem fget_bound {x at_ size : Int} (hx : W64 x) : W64 (fget x at_ size) := by
  by_cases hc : at_ < 0 ∨ 63 < at_ ∨ size < 1
  · have : fget x at_ size = 0 := if_pos hc
    rw [this]; exact ⟨by omega, by omega⟩
  · obtain ⟨a, n, rfl, ha, hn, han, hmin, hcut⟩ := field_nat hc
    obtain ⟨x, rfl⟩ := Int.eq_ofNat_of_zero_le hx.1
    rw [fget_nat x hc hmin]
    have h1 : x / 2 ^ a ≤ x := Nat.div_le_self _ _
    have h2 : x / 2 ^ a % 2 ^ n ≤ x / 2 ^ a := Nat.mod_le _ _
    have := hx.2
    exact ⟨by omega, by omega⟩
theorem fput_bound {x at_ size v : Int} (hx : W64 x) (hv : W64 v) : W64 (fput x at_ size v) := by
  by_cases hc : at_ < 0 ∨ 63 < at_ ∨ size < 1
  · have : fput x at_ size v = x := if_pos hc
    rw [this]; exact hx
  · obtain ⟨a, n, rfl, ha, hn, han, hmin, hcut⟩ := field_nat hc
    obtain ⟨x, rfl⟩ := Int.eq_ofNat_of_zero_le hx.1
    obtain ⟨v, rfl⟩ := Int.eq_ofNat_of_zero_le hv.1
    rw [fput_nat x v hc hmin, nat_put_sum]
    have h2 : 2 ^ a * (2 ^ n * (x / 2 ^ a / 2 ^ n) + v % 2 ^ n) + x % 2 ^ a < 2 ^ 64 := by
      apply Nat.lt_pow_two_of_testBit
      intro i hi
      rw [nat_put_bit, if_neg (by omega)]
      have := hx.2
      exact Nat.testBit_lt_two_pow (Nat.lt_of_lt_of_le (show x < 2 ^ 64 by omega) (Nat.pow_le_pow_right (by omega) hi))
    exact ⟨by omega, by omega⟩
theorem fmask_bound (n : Int) : W64 (fmask n) := by
  unfold fmask
  by_cases h : n < 1
  · rw [if_pos h]; exact ⟨by omega, by omega⟩
  · rw [if_neg h]
    by_cases h2 : 64 ≤ n
    · rw [if_pos h2]; exact ⟨by omega, by omega⟩
    · rw [if_neg h2]
      have h3 : (2 : Nat) ^ n.toNat ≤ 2 ^ 63 := Nat.pow_le_pow_right (by omega) (by omega)
      have h0 : 0 < (2 : Nat) ^ n.toNat := Nat.two_pow_pos _
      have e : (2 : Int) ^ n.toNat = ((2 ^ n.toNat : Nat) : Int) := by simp
      rw [e]
      exact ⟨by omega, by omega⟩

/-- Fields at given places: 'by simpa using fget_at w 16 48 (by omega)'. -/
theorem fget_at (w : Int) (a n : Nat) (h : 1 ≤ n ∧ a + n ≤ 64) : fget w a n = w / 2 ^ a % 2 ^ n := by
  unfold fget
  rw [if_neg (by omega)]
  have e : (min (n : Int) (64 - (a : Int))).toNat = n := by omega
  rw [e, Int.toNat_natCast]
theorem fput_at (w v : Int) (a n : Nat) (h : 1 ≤ n ∧ a + n ≤ 64) : fput w a n v = w - w / 2 ^ a % 2 ^ n * 2 ^ a + v % 2 ^ n * 2 ^ a := by
  unfold fput
  rw [if_neg (by omega)]
  have e : (min (n : Int) (64 - (a : Int))).toNat = n := by omega
  rw [e, Int.toNat_natCast]
end Go.Proofs.YtlnckjemfabckaaGreatDoor

/-
  Package field: contracts.
-/
namespace Go.Proofs.YtlnckjemfabckaaGreatDoor
open Go.RowKit

set_option maxHeartbeats 400000 in
theorem cut_any (at_ size : Int) (w : World) (ha : I64 at_) (hs : I64 size) :
    Calls Tryz.prog 108 #[.int .i64 at_, .int .i64 size] w fun r w' => r = .returned (.int .i64 (fcut at_ size)) ∧ w = w' := by
  obtain ⟨h0, h1⟩ := ha
  obtain ⟨h2, h3⟩ := hs
  by_cases hc : at_ < 0 ∨ 63 < at_ ∨ size < 1
  · have e : fcut at_ size = 0 := if_pos hc
    rw [e]
    clear e
    rcases hc with hc | hc | hc
    · go_enter Tryz.func108, Tryz.ntmps108
      go_wp2
      go_ret
      exact ⟨rfl, rfl⟩
    · by_cases h : at_ < 0
      · omega
      go_enter Tryz.func108, Tryz.ntmps108
      go_wp2
      go_ret
      exact ⟨rfl, rfl⟩
    · by_cases h : at_ < 0
      · go_enter Tryz.func108, Tryz.ntmps108
        go_wp2
        go_ret
        exact ⟨rfl, rfl⟩
      by_cases h' : 63 < at_
      · go_enter Tryz.func108, Tryz.ntmps108
        go_wp2
        go_ret
        exact ⟨rfl, rfl⟩
      go_enter Tryz.func108, Tryz.ntmps108
      go_wp2
      go_ret
      exact ⟨rfl, rfl⟩
  · have e : fcut at_ size = min size (64 - at_) := if_neg hc
    have E := hide e
    clear e
    have h4 : 0 ≤ at_ := by omega
    have h5 : at_ ≤ 63 := by omega
    have h6 : 1 ≤ size := by omega
    clear hc
    by_cases hm : size ≤ 64 - at_
    · go_enter Tryz.func108, Tryz.ntmps108
      go_wp2
      go_ret
      exact ⟨by rw [E.out, Int.min_eq_left hm]; rfl, rfl⟩
    · go_enter Tryz.func108, Tryz.ntmps108
      go_wp2
      go_ret
      exact ⟨by rw [E.out, Int.min_eq_right (by omega)]; rfl, rfl⟩

set_option maxHeartbeats 400000 in
theorem mask_any (size : Int) (w : World) (hs : I64 size) :
    Calls Tryz.prog 109 #[.int .i64 size] w fun r w' => r = .returned (.int .u64 (fmask size)) ∧ w = w' := by
  obtain ⟨h2, h3⟩ := hs
  by_cases h0 : size < 1
  · have E := hide (show fmask size = 0 from if_pos h0)
    go_enter Tryz.func109, Tryz.ntmps109
    go_wp2
    go_ret
    exact ⟨by rw [E.out]; rfl, rfl⟩
  by_cases h1 : 64 ≤ size
  · have E := hide (show fmask size = 18446744073709551615 by unfold fmask; rw [if_neg h0, if_pos h1])
    go_enter Tryz.func109, Tryz.ntmps109
    go_wp2
    go_ret
    exact ⟨by rw [E.out]; rfl, rfl⟩
  · have E := hide (show fmask size = 2 ^ size.toNat - 1 by unfold fmask; rw [if_neg h0, if_neg h1])
    have h4 : 1 ≤ size := by omega
    have h5 : size ≤ 63 := by omega
    have B := hide (show IntKind.u64.wrap (IntKind.u64.wrap (2 ^ size.toNat) - 1) = 2 ^ size.toNat - 1 by
      have : (2 : Nat) ^ size.toNat ≤ 2 ^ 63 := Nat.pow_le_pow_right (by omega) (by omega)
      have h0 : 0 < (2 : Nat) ^ size.toNat := Nat.two_pow_pos _
      have e : (2 : Int) ^ size.toNat = ((2 ^ size.toNat : Nat) : Int) := by simp
      rw [e]
      generalize (2 : Nat) ^ size.toNat = p at *
      simp only [IntKind.wrap_u64]
      omega)
    go_enter Tryz.func109, Tryz.ntmps109
    go_wp2
    go_ret
    exact ⟨by rw [E.out, ← B.out]; rfl, rfl⟩

set_option maxHeartbeats 400000 in
theorem put_any (x at_ size v : Int) (w : World) (hx : W64 x) (ha : I64 at_) (hs : I64 size) (hv : W64 v) :
    Calls Tryz.prog 69 #[.int .u64 x, .int .i64 at_, .int .i64 size, .int .u64 v] w fun r w' => r = .returned (.int .u64 (fput x at_ size v)) ∧ w = w' := by
  by_cases hc : at_ < 0 ∨ 63 < at_ ∨ size < 1
  · have e : fcut at_ size = 0 := if_pos hc
    have e2 : fput x at_ size v = x := if_pos hc
    rw [e2]
    clear e2
    have C := hide (cut_any at_ size)
    rw [e] at C
    clear e
    go_enter Tryz.func69, Tryz.ntmps69
    go_wp2_with fail
    refine (C.out _ ha hs).mono ?_
    rintro e w' ⟨rfl, rfl⟩
    go_wp2_with fail
    go_ret
    exact ⟨rfl, rfl⟩
  · have P := hide (put_bits hx hv hc)
    have C := hide (cut_any at_ size w ha hs)
    have n1 : 1 ≤ fcut at_ size := by unfold fcut; rw [if_neg hc]; omega
    have n2 : fcut at_ size ≤ 64 := by unfold fcut; rw [if_neg hc]; omega
    generalize fcut at_ size = n at *
    have M := hide (mask_any n w ⟨by omega, by omega⟩)
    have h4 : 0 ≤ at_ := by omega
    have h5 : at_ ≤ 63 := by omega
    obtain ⟨m1, m2⟩ := fmask_bound n
    generalize fmask n = m at *
    obtain ⟨h6, h7⟩ := hx
    obtain ⟨h8, h9⟩ := hv
    go_enter Tryz.func69, Tryz.ntmps69
    go_wp2_with fail
    refine C.out.mono ?_
    rintro e w' ⟨rfl, rfl⟩
    go_wp2_with fail
    refine M.out.mono ?_
    rintro e w' ⟨rfl, rfl⟩
    go_wp2_with fail
    go_ret
    exact ⟨by rw [← P.out]; rfl, rfl⟩

set_option maxHeartbeats 400000 in
theorem get_any (x at_ size : Int) (w : World) (hx : W64 x) (ha : I64 at_) (hs : I64 size) :
    Calls Tryz.prog 110 #[.int .u64 x, .int .i64 at_, .int .i64 size] w fun r w' => r = .returned (.int .u64 (fget x at_ size)) ∧ w = w' := by
  by_cases hc : at_ < 0 ∨ 63 < at_ ∨ size < 1
  · have e : fcut at_ size = 0 := if_pos hc
    have e2 : fget x at_ size = 0 := if_pos hc
    rw [e2]
    clear e2
    have C := hide (cut_any at_ size)
    rw [e] at C
    clear e
    go_enter Tryz.func110, Tryz.ntmps110
    go_wp2_with fail
    refine (C.out _ ha hs).mono ?_
    rintro e w' ⟨rfl, rfl⟩
    go_wp2_with fail
    go_ret
    exact ⟨rfl, rfl⟩
  · have P := hide (get_bits hx hc)
    have C := hide (cut_any at_ size w ha hs)
    have n1 : 1 ≤ fcut at_ size := by unfold fcut; rw [if_neg hc]; omega
    have n2 : fcut at_ size ≤ 64 := by unfold fcut; rw [if_neg hc]; omega
    generalize fcut at_ size = n at *
    have M := hide (mask_any n w ⟨by omega, by omega⟩)
    have h4 : 0 ≤ at_ := by omega
    have h5 : at_ ≤ 63 := by omega
    obtain ⟨m1, m2⟩ := fmask_bound n
    generalize fmask n = m at *
    obtain ⟨h6, h7⟩ := hx
    go_enter Tryz.func110, Tryz.ntmps110
    go_wp2_with fail
    refine C.out.mono ?_
    rintro e w' ⟨rfl, rfl⟩
    go_wp2_with fail
    refine M.out.mono ?_
    rintro e w' ⟨rfl, rfl⟩
    go_wp2_with fail
    go_ret
    exact ⟨by rw [← P.out]; rfl, rfl⟩

set_option maxHeartbeats 400000 in
theorem bit_any (x at_ : Int) (w : World) (hx : W64 x) (ha : I64 at_) :
    Calls Tryz.prog 87 #[.int .u64 x, .int .i64 at_] w fun r w' => r = .returned (.bool (fget x at_ 1 == 1)) ∧ w = w' := by
  have G := hide (get_any x at_ 1 w hx ha ⟨by omega, by omega⟩)
  generalize fget x at_ 1 = y at *
  go_enter Tryz.func87, Tryz.ntmps87
  go_wp2_with fail
  refine G.out.mono ?_
  rintro e w' ⟨rfl, rfl⟩
  go_wp2_with fail
  go_ret
  exact ⟨rfl, rfl⟩
end Go.Proofs.YtlnckjemfabckaaGreatDoor

/-
  Version words, plainly.
-/
namespace Go.Proofs.YtlnckjemfabckaaGreatDoor
open Go.RowKit

def b2i (b : Bool) : Int := if b = true then 1 else 0
def vgen (w : Int) : Int := w / 1099511627776
def vcnt (w : Int) : Int := w / 4 % 274877906944
def vdead (w : Int) : Bool := w / 2 % 2 == 1
def vlocked (w : Int) : Bool := w % 2 == 1
def vpack (g c : Int) (d l : Bool) : Int := g % 16777216 * 1099511627776 + c % 274877906944 * 4 + b2i d * 2 + b2i l

theorem b2i_bound (b : Bool) : 0 ≤ b2i b ∧ b2i b ≤ 1 := by cases b <;> decide
theorem vpack_bound (g c : Int) (d l : Bool) : W64 (vpack g c d l) := by
  have := b2i_bound d
  have := b2i_bound l
  unfold vpack
  exact ⟨by omega, by omega⟩
theorem vgen_pack (g c : Int) (d l : Bool) : vgen (vpack g c d l) = g % 16777216 := by
  have := b2i_bound d
  have := b2i_bound l
  unfold vgen vpack
  omega
theorem vcnt_pack (g c : Int) (d l : Bool) : vcnt (vpack g c d l) = c % 274877906944 := by
  have := b2i_bound d
  have := b2i_bound l
  unfold vcnt vpack
  omega
theorem vdead_pack (g c : Int) (d l : Bool) : vdead (vpack g c d l) = d := by
  have h : vpack g c d l / 2 % 2 = b2i d := by
    have := b2i_bound d
    have := b2i_bound l
    unfold vpack
    omega
  unfold vdead
  rw [h]
  cases d <;> rfl
theorem vlocked_pack (g c : Int) (d l : Bool) : vlocked (vpack g c d l) = l := by
  have h : vpack g c d l % 2 = b2i l := by
    have := b2i_bound d
    have := b2i_bound l
    unfold vpack
    omega
  unfold vlocked
  rw [h]
  cases l <;> rfl
theorem vpack_gen (g c : Int) (d l : Bool) : vpack (g % 16777216) c d l = vpack g c d l := by unfold vpack; omega
theorem vpack_cnt (g c : Int) (d l : Bool) : vpack g (c % 274877906944) d l = vpack g c d l := by unfold vpack; omega
theorem vpack_gen1 (g c : Int) (d l : Bool) : vpack (g % 16777216 + 1) c d l = vpack (g + 1) c d l := by unfold vpack; omega
theorem vpack_cnt1 (g c : Int) (d l : Bool) : vpack g (c % 274877906944 + 1) d l = vpack g (c + 1) d l := by unfold vpack; omega
theorem b2i_dead (w : Int) : b2i (vdead w) = w / 2 % 2 := by
  unfold b2i vdead
  by_cases h : w / 2 % 2 = 1
  · simp [h]
  · simp [h]; omega
theorem b2i_locked (w : Int) : b2i (vlocked w) = w % 2 := by
  unfold b2i vlocked
  by_cases h : w % 2 = 1
  · simp [h]
  · simp [h]; omega
/-- A word is its parts. -/
theorem vpack_self {w : Int} (h : W64 w) : vpack (vgen w) (vcnt w) (vdead w) (vlocked w) = w := by
  obtain ⟨h1, h2⟩ := h
  unfold vpack
  rw [b2i_dead, b2i_locked]
  unfold vgen vcnt
  omega

def vlock (w : Int) : Int := vpack (vgen w) (vcnt w) (vdead w) true
def vundo (w : Int) : Int := vpack (vgen w) (vcnt w) (vdead w) false
def vcounted (w : Int) : Int := vpack (vgen w) (vcnt w + 1) (vdead w) (vlocked w)
def vbump (w : Int) : Int := vpack (vgen w) (vcnt w + 1) (vdead w) false
def vdie (w : Int) : Int := vpack (vgen w) (vcnt w) true (vlocked w)
def vkill (w : Int) : Int := vpack (vgen w) (vcnt w + 1) true false
def vlive (w : Int) : Int := vpack (vgen w) (vcnt w) false (vlocked w)
def vanew (w : Int) : Int := vpack (vgen w + 1) (vcnt w) false (vlocked w)
def vrenew (w : Int) : Int := vpack (vgen w + 1) (vcnt w + 1) false true

theorem vbump_eq (w : Int) : vundo (vcounted w) = vbump w := by
  unfold vundo vcounted vbump
  rw [vgen_pack, vcnt_pack, vdead_pack, vpack_gen, vpack_cnt]
theorem vkill_eq (w : Int) : vdie (vbump w) = vkill w := by
  unfold vdie vbump vkill
  rw [vgen_pack, vcnt_pack, vlocked_pack, vpack_gen, vpack_cnt]
theorem vrenew_eq (w : Int) : vanew (vlock (vcounted w)) = vrenew w := by
  unfold vanew vlock vcounted vrenew
  rw [vgen_pack, vcnt_pack, vlocked_pack, vgen_pack, vcnt_pack, vpack_cnt, vpack_cnt]
  unfold vpack
  omega

theorem put_lock {w : Int} (h : W64 w) : fput w 0 1 1 = vlock w := by
  have h1 := fput_at w 1 0 1 (by omega)
  obtain ⟨h2, h3⟩ := h
  unfold vlock vpack
  rw [b2i_dead, show b2i true = 1 from rfl]
  unfold vgen vcnt
  simp at h1
  rw [h1]
  omega
theorem put_undo {w : Int} (h : W64 w) : fput w 0 1 0 = vundo w := by
  have h1 := fput_at w 0 0 1 (by omega)
  obtain ⟨h2, h3⟩ := h
  unfold vundo vpack
  rw [b2i_dead, show b2i false = 0 from rfl]
  unfold vgen vcnt
  simp at h1
  rw [h1]
  omega
theorem get_cnt (w : Int) : fget w 2 38 = vcnt w := by
  have h1 := fget_at w 2 38 (by omega)
  unfold vcnt
  simpa using h1
theorem get_gen {w : Int} (h : W64 w) : fget w 40 24 = vgen w := by
  have h1 := fget_at w 40 24 (by omega)
  obtain ⟨h2, h3⟩ := h
  unfold vgen
  simp at h1
  rw [h1]
  omega
theorem get_dead (w : Int) : fget w 1 1 = w / 2 % 2 := by
  have h1 := fget_at w 1 1 (by omega)
  simpa using h1
theorem get_locked (w : Int) : fget w 0 1 = w % 2 := by
  have h1 := fget_at w 0 1 (by omega)
  simpa using h1
theorem put_cnt {w : Int} (h : W64 w) : fput w 2 38 (vcnt w + 1) = vcounted w := by
  have h1 := fput_at w (vcnt w + 1) 2 38 (by omega)
  obtain ⟨h2, h3⟩ := h
  unfold vcounted vpack
  rw [b2i_dead, b2i_locked]
  unfold vgen vcnt at *
  simp at h1
  rw [h1]
  omega
theorem put_dead {w : Int} (h : W64 w) : fput w 1 1 1 = vdie w := by
  have h1 := fput_at w 1 1 1 (by omega)
  obtain ⟨h2, h3⟩ := h
  unfold vdie vpack
  rw [b2i_locked, show b2i true = 1 from rfl]
  unfold vgen vcnt
  simp at h1
  rw [h1]
  omega
theorem put_live {w : Int} (h : W64 w) : fput w 1 1 0 = vlive w := by
  have h1 := fput_at w 0 1 1 (by omega)
  obtain ⟨h2, h3⟩ := h
  unfold vlive vpack
  rw [b2i_locked, show b2i false = 0 from rfl]
  unfold vgen vcnt
  simp at h1
  rw [h1]
  omega
theorem put_anew {w : Int} (h : W64 w) : fput (vlive w) 40 24 (vgen w + 1) = vanew w := by
  have h1 := fput_at (vlive w) (vgen w + 1) 40 24 (by omega)
  obtain ⟨h2, h3⟩ := h
  unfold vlive vanew vpack at *
  rw [b2i_locked, show b2i false = 0 from rfl] at *
  unfold vgen vcnt at *
  simp at h1
  simp
  omega
theorem put_mk1 (g : Int) : fput 0 40 24 g = g % 16777216 * 1099511627776 := by
  have h1 := fput_at 0 g 40 24 (by omega)
  simp at h1
  rw [h1]
theorem put_mk2 (G c : Int) (_h : 0 ≤ G ∧ G < 16777216) : fput (G * 1099511627776) 2 38 c = G * 1099511627776 + c % 274877906944 * 4 := by
  have h1 := fput_at (G * 1099511627776) c 2 38 (by omega)
  simp at h1
  rw [h1]
  omega
theorem put_mk3 (G C d : Int) (_h : 0 ≤ G ∧ G < 16777216) (_hc : 0 ≤ C ∧ C < 274877906944) (hd : 0 ≤ d ∧ d ≤ 1) : fput (G * 1099511627776 + C * 4) 1 1 d = G * 1099511627776 + C * 4 + d * 2 := by
  have h1 := fput_at (G * 1099511627776 + C * 4) d 1 1 (by omega)
  simp at h1
  rw [h1]
  omega
theorem put_mk4 (G C d l : Int) (_h : 0 ≤ G ∧ G < 16777216) (_hc : 0 ≤ C ∧ C < 274877906944) (_hd : 0 ≤ d ∧ d ≤ 1) (hl : 0 ≤ l ∧ l ≤ 1) :
    fput (G * 1099511627776 + C * 4 + d * 2) 0 1 l = G * 1099511627776 + C * 4 + d * 2 + l := by
  have h1 := fput_at (G * 1099511627776 + C * 4 + d * 2) l 0 1 (by omega)
  simp at h1
  rw [h1]
  omega
theorem put_make (g c : Int) (d l : Bool) : fput (fput (fput (fput 0 40 24 g) 2 38 c) 1 1 (b2i d)) 0 1 (b2i l) = vpack g c d l := by
  have hg : 0 ≤ g % 16777216 ∧ g % 16777216 < 16777216 := by omega
  have hc : 0 ≤ c % 274877906944 ∧ c % 274877906944 < 274877906944 := by omega
  rw [put_mk1, put_mk2 _ _ hg, put_mk3 _ _ _ hg hc (b2i_bound d), put_mk4 _ _ _ _ hg hc (b2i_bound d) (b2i_bound l)]
  rfl
end Go.Proofs.YtlnckjemfabckaaGreatDoor

/-
  Package vword: contracts.
-/
namespace Go.Proofs.YtlnckjemfabckaaGreatDoor
open Go.RowKit

theorem W64.small {x : Int} (h : 0 ≤ x ∧ x ≤ 1) : W64 x := ⟨h.1, by omega⟩
theorem b2i_w (b : Bool) : W64 (b2i b) := W64.small (b2i_bound b)

set_option maxHeartbeats 400000 in
theorem vone_any (b : Bool) (w : World) : Calls Tryz.prog 70 #[.bool b] w fun e w' => e = .returned (.int .u64 (b2i b)) ∧ w = w' := by
  cases b
  · go_enter Tryz.func70, Tryz.ntmps70
    go_wp2
    go_ret
    exact ⟨rfl, rfl⟩
  · go_enter Tryz.func70, Tryz.ntmps70
    go_wp2
    go_ret
    exact ⟨rfl, rfl⟩

set_option maxHeartbeats 400000 in
theorem vmake_any (g c : Int) (d l : Bool) (w : World) (hg : W64 g) (hc : W64 c) :
    Calls Tryz.prog 28 #[.int .u64 g, .int .u64 c, .bool d, .bool l] w fun e w' => e = .returned (.int .u64 (vpack g c d l)) ∧ w = w' := by
  have z : W64 0 := ⟨by omega, by omega⟩
  have i0 : I64 0 := ⟨by omega, by omega⟩
  have i1 : I64 1 := ⟨by omega, by omega⟩
  have P1 := hide (fun w => put_any 0 40 24 g w z ⟨by omega, by omega⟩ ⟨by omega, by omega⟩ hg)
  have P2 := hide (fun w => put_any (fput 0 40 24 g) 2 38 c w (fput_bound z hg) ⟨by omega, by omega⟩ ⟨by omega, by omega⟩ hc)
  have P3 := hide (fun w => put_any (fput (fput 0 40 24 g) 2 38 c) 1 1 (b2i d) w (fput_bound (fput_bound z hg) hc) i1 i1 (b2i_w d))
  have P4 := hide (fun w => put_any (fput (fput (fput 0 40 24 g) 2 38 c) 1 1 (b2i d)) 0 1 (b2i l) w (fput_bound (fput_bound (fput_bound z hg) hc) (b2i_w d)) i0 i1 (b2i_w l))
  rw [put_make] at P4
  have O1 := hide (fun w => vone_any d w)
  have O2 := hide (fun w => vone_any l w)
  generalize fput (fput (fput 0 40 24 g) 2 38 c) 1 1 (b2i d) = x3 at *
  generalize fput (fput 0 40 24 g) 2 38 c = x2 at *
  generalize fput 0 40 24 g = x1 at *
  generalize vpack g c d l = r at *
  generalize b2i d = d1 at *
  generalize b2i l = l1 at *
  go_enter Tryz.func28, Tryz.ntmps28
  go_wp2_with fail
  refine (P1.out _).mono ?_
  rintro e w' ⟨rfl, rfl⟩
  go_wp2_with fail
  refine (P2.out _).mono ?_
  rintro e w' ⟨rfl, rfl⟩
  go_wp2_with fail
  refine (O1.out _).mono ?_
  rintro e w' ⟨rfl, rfl⟩
  go_wp2_with fail
  refine (P3.out _).mono ?_
  rintro e w' ⟨rfl, rfl⟩
  go_wp2_with fail
  refine (O2.out _).mono ?_
  rintro e w' ⟨rfl, rfl⟩
  go_wp2_with fail
  refine (P4.out _).mono ?_
  rintro e w' ⟨rfl, rfl⟩
  go_wp2_with fail
  go_ret
  exact ⟨rfl, rfl⟩

set_option maxHeartbeats 400000 in
theorem vgen_any (x : Int) (w : World) (hx : W64 x) : Calls Tryz.prog 86 #[.int .u64 x] w fun e w' => e = .returned (.int .u64 (vgen x)) ∧ w = w' := by
  have P := hide (fun w => get_any x 40 24 w hx ⟨by omega, by omega⟩ ⟨by omega, by omega⟩)
  rw [get_gen hx] at P
  generalize vgen x = r at *
  go_enter Tryz.func86, Tryz.ntmps86
  go_wp2_with fail
  refine (P.out _).mono ?_
  rintro e w' ⟨rfl, rfl⟩
  go_wp2_with fail
  go_ret
  exact ⟨rfl, rfl⟩
set_option maxHeartbeats 400000 in
theorem vlocked_any (x : Int) (w : World) (hx : W64 x) : Calls Tryz.prog 44 #[.int .u64 x] w fun e w' => e = .returned (.bool (vlocked x)) ∧ w = w' := by
  have P := hide (fun w => bit_any x 0 w hx ⟨by omega, by omega⟩)
  rw [show (fget x 0 1 == 1) = vlocked x by rw [get_locked]; rfl] at P
  generalize vlocked x = r at *
  go_enter Tryz.func44, Tryz.ntmps44
  go_wp2_with fail
  refine (P.out _).mono ?_
  rintro e w' ⟨rfl, rfl⟩
  go_wp2_with fail
  go_ret
  exact ⟨rfl, rfl⟩
set_option maxHeartbeats 400000 in
theorem vdead_any (x : Int) (w : World) (hx : W64 x) : Calls Tryz.prog 45 #[.int .u64 x] w fun e w' => e = .returned (.bool (vdead x)) ∧ w = w' := by
  have P := hide (fun w => bit_any x 1 w hx ⟨by omega, by omega⟩)
  rw [show (fget x 1 1 == 1) = vdead x by rw [get_dead]; rfl] at P
  generalize vdead x = r at *
  go_enter Tryz.func45, Tryz.ntmps45
  go_wp2_with fail
  refine (P.out _).mono ?_
  rintro e w' ⟨rfl, rfl⟩
  go_wp2_with fail
  go_ret
  exact ⟨rfl, rfl⟩

theorem vcnt_bound (x : Int) : 0 ≤ vcnt x ∧ vcnt x < 274877906944 := by unfold vcnt; omega
theorem vgen_bound {x : Int} (h : W64 x) : 0 ≤ vgen x ∧ vgen x < 16777216 := by obtain ⟨h1, h2⟩ := h; unfold vgen; omega

def AfterIn (vs : Nat → Int) (n : Nat) (w : World) (x i : Value) (wr : World) : Prop :=
  ∃ k : Nat, k ≤ n ∧ i = .int .i64 k ∧ x = .int .u64 (vs k) ∧ Below w.heap.size w wr

theorem same_below {r : Value} {w : World} {e : Ending} {w' : World} (h : e = .returned r ∧ w = w') : e = .returned r ∧ Below w.heap.size w w' := ⟨h.1, h.2 ▸ Below.refl _ _⟩

end Go.Proofs.YtlnckjemfabckaaGreatDoor

/-
  Package gleaningref04: contracts.
-/
namespace Go.Proofs.YtlnckjemfabckaaGreatDoor
open Go.RowKit

def vagg (w : Int) : Value := .agg #[.bool (vlocked w), .bool (vdead w), .int .u64 (vcnt w), .int .u64 (vgen w)]

set_option maxHeartbeats 400000 in
theorem rof_any (x : Int) (w : World) (hx : W64 x) : Calls Tryz.prog 50 #[.int .u64 x] w fun e w' => e = .returned (vagg x) ∧ Below w.heap.size w w' := by
  obtain ⟨h1, h2⟩ := hx
  have t1 : x.tmod 2 = x % 2 := Int.tmod_eq_emod_of_nonneg h1
  have t2 : x.tdiv 2 = x / 2 := Int.tdiv_eq_ediv_of_nonneg h1
  have t3 : (x / 2).tmod 2 = x / 2 % 2 := Int.tmod_eq_emod_of_nonneg (by omega)
  have t4 : x.tdiv 4 = x / 4 := Int.tdiv_eq_ediv_of_nonneg h1
  have t5 : (x / 4).tmod 274877906944 = x / 4 % 274877906944 := Int.tmod_eq_emod_of_nonneg (by omega)
  have t6 : x.tdiv 1099511627776 = x / 1099511627776 := Int.tdiv_eq_ediv_of_nonneg h1
  have E := hide (show vagg x = .agg #[.bool (x % 2 == 1), .bool (x / 2 % 2 == 1), .int .u64 (x / 4 % 274877906944), .int .u64 (x / 1099511627776)] from rfl)
  have b1 : 0 ≤ x % 2 ∧ x % 2 < 2 := by omega
  have b2 : 0 ≤ x / 2 % 2 ∧ x / 2 % 2 < 2 := by omega
  have b3 : 0 ≤ x / 4 % 274877906944 ∧ x / 4 % 274877906944 < 274877906944 := by omega
  have b4 : 0 ≤ x / 2 ∧ x / 2 < 18446744073709551616 := by omega
  have b5 : 0 ≤ x / 4 ∧ x / 4 < 18446744073709551616 := by omega
  have b6 : 0 ≤ x / 1099511627776 ∧ x / 1099511627776 < 18446744073709551616 := by omega
  generalize vagg x = R at *
  generalize x / 2 % 2 = q at *
  generalize x / 4 % 274877906944 = r at *
  generalize x / 2 = y at *
  generalize x / 4 = z at *
  generalize x / 1099511627776 = u at *
  generalize x % 2 = v at *
  go_enter Tryz.func50, Tryz.ntmps50
  go_wp2_with fail
  refine bodyPost_ret (v := .agg #[.bool (v == 1), .bool (q == 1), .int .u64 r, .int .u64 u]) (by simp [results, Tryz.results50, go_sem]) rfl ⟨by rw [E.out], ?_⟩
  exact ((Below.refl _ _).alloc (Nat.le_refl _) _)

set_option maxHeartbeats 400000 in
theorem rword_any (l d : Bool) (c g : Int) (w : World) (hc : W64 c) (hg : W64 g) :
    Calls Tryz.prog 35 #[.agg #[.bool l, .bool d, .int .u64 c, .int .u64 g]] w fun e w' => e = .returned (.int .u64 (vpack g c d l)) ∧ Below w.heap.size w w' := by
  obtain ⟨h1, h2⟩ := hc
  obtain ⟨h3, h4⟩ := hg
  have t1 : g.tmod 16777216 = g % 16777216 := Int.tmod_eq_emod_of_nonneg h3
  have t2 : c.tmod 274877906944 = c % 274877906944 := Int.tmod_eq_emod_of_nonneg h1
  have b3 : 0 ≤ c % 274877906944 ∧ c % 274877906944 < 274877906944 := by omega
  have b4 : 0 ≤ g % 16777216 ∧ g % 16777216 < 16777216 := by omega
  have E := hide (show vpack g c d l = g % 16777216 * 1099511627776 + c % 274877906944 * 4 + b2i d * 2 + b2i l from rfl)
  generalize vpack g c d l = R at *
  generalize g % 16777216 = G at *
  generalize c % 274877906944 = C at *
  cases l <;> cases d
  all_goals
    go_enter Tryz.func35, Tryz.ntmps35
    go_wp2_with fail
    go_ret
    refine ⟨?_, (Below.refl _ _).alloc (Nat.le_refl _) _⟩
    rw [E.out]
    simp [b2i]
    try omega
end Go.Proofs.YtlnckjemfabckaaGreatDoor

/-
  gleaningref10.New: the words of a machine that begins.
-/
namespace Go.Proofs.YtlnckjemfabckaaGreatDoor
open Go.RowKit

def RbIn (g gc N : Nat) (s t f l p : Int) (w : World) (i : Value) (wr : World) : Prop :=
  ∃ (k : Nat) (ws : List Int), i = .int .i64 k ∧ 2 ≤ k ∧ (k : Int) ≤ max 2 (s + 1) ∧ RefOk wr g ws ∧ ws.length = N ∧ BegK s t f k ws ∧ Blk wr gc 23 #[.int .i64 s, .int .i64 t, .int .i64 f, .int .i64 l, .int .i64 p] ∧ Below w.heap.size w wr
theorem set_begK {s t f k x : Int} {ws : List Int} {p : Nat} (hp : p < ws.length) (h : ∀ j : Nat, j < ws.length → (if j = p then x else ws.getD j 0) = bK s t f k j) : BegK s t f k (ws.set p x) := by
  intro j hj
  rw [List.length_set] at hj
  rw [getD_set _ _ _ _ hp]
  exact h j hj
theorem begK_zs (s t f : Int) (n : Nat) (p1 p2 p3 : Nat) (h1 : (p1 : Int) = nB t f 0 + 1) (h2 : (p2 : Int) = nB t f 0 + 3 + f) (h3 : (p3 : Int) = nB t f 1) (hf : 4 ≤ f) (hl : p1 < n ∧ p2 < n ∧ p3 < n) : BegK s t f 2 ((((zs n).set p1 3).set p2 65537).set p3 1099511627776) := by
  intro j hj
  simp only [List.length_set] at hj
  rw [getD_set _ _ _ _ (by simp only [List.length_set, zs_len]; omega), getD_set _ _ _ _ (by simp only [List.length_set, zs_len]; omega), getD_set _ _ _ _ (by rw [zs_len]; omega), getD_zs]
  have a1 := at_or (t := t) (f := f) (j := j) (k := 0) (c := 1) (by omega) (by omega)
  have a2 := at_or (t := t) (f := f) (j := j) (k := 0) (c := 3 + f) (by omega) (by omega)
  have a3 := at_or (t := t) (f := f) (j := j) (k := 1) (c := 0) (by omega) (by omega)
  have e1 : (j = p1) ↔ (j : Int) = nB t f 0 + 1 := by omega
  have e2 : (j = p2) ↔ (j : Int) = nB t f 0 + (3 + f) := by omega
  have e3 : (j = p3) ↔ (j : Int) = nB t f 1 + 0 := by omega
  unfold bK bOR
  simp only [e1, e2, e3, a1, a2, a3]
  generalize oOf t f j = o
  generalize rOf t f j = r
  repeat' split
  all_goals first | rfl | omega
set_option maxRecDepth 100000 in
set_option maxHeartbeats 4000000 in
theorem rnew10_any (s t f l p : Int) (N : Nat) (w : World) (hc : cfgOk s t f l p = true) (hN : laySize s t f = N) :
    Calls Tryz.prog 8 #[.agg #[.int .i64 s, .int .i64 t, .int .i64 f, .int .i64 l, .int .i64 p]] w fun e w' => (∃ g, e = .returned (.slice (some ⟨g, 0, none⟩) N N) ∧ RefOk w' g (begL s t f) ∧ w.heap.size ≤ g) ∧ Below w.heap.size w w' := by
  have hb := cfgOk_iff.1 hc
  have hs : 1 ≤ s ∧ s ≤ 1000 := by omega
  have ht : 1 ≤ t ∧ t ≤ 64 := by omega
  have hf : 4 ≤ f ∧ f ≤ 64 := by omega
  have hsp := size_pos hs ht hf
  have b0 := nB_bd hs ht hf (sl := 0) (by omega)
  have b1 := nB_bd hs ht hf (sl := 1) (by omega)
  obtain ⟨p1, hp1⟩ : ∃ p1 : Nat, nB t f 0 + 1 = p1 := Int.eq_ofNat_of_zero_le (by omega)
  obtain ⟨p2, hp2⟩ : ∃ p2 : Nat, nB t f 0 + 3 + f = p2 := Int.eq_ofNat_of_zero_le (by omega)
  obtain ⟨p3, hp3⟩ : ∃ p3 : Nat, nB t f 1 = p3 := Int.eq_ofNat_of_zero_le (by omega)
  have RN := hide (rnew_any s t f l p N · (by unfold rSize; rw [if_pos hc]; exact hN) (by omega))
  have C1 := hide (fun w2 => rshp_any s t f l p 0 w2 hs ht hf (by omega))
  have C2 := hide (fun w2 => rval_any s t f l p 0 0 w2 hs ht hf (by omega) (by omega))
  have C3 := hide (fun w2 => rver_any s t f l p 1 w2 hs ht hf (by omega))
  have C4 := hide (fun w2 => rword_any false false 0 1 w2 ⟨by omega, by omega⟩ ⟨by omega, by omega⟩)
  rw [show vpack 1 0 false false = 1099511627776 by rfl] at C4
  rw [hp1] at C1
  rw [show nB t f 0 + 3 + f + 0 = nB t f 0 + 3 + f by omega, hp2] at C2
  rw [hp3] at C3
  have CV := hide (fun (k : Nat) (hk : (k : Int) ≤ s) w2 => rver_any s t f l p k w2 hs ht hf (by omega))
  have CL := hide (fun (k : Nat) (hk : (k : Int) ≤ s) w2 => rlnkB_any s t f l p k w2 hs ht hf (by omega))
  have BG := hide (begK_zs s t f N p1 p2 p3 hp1.symm hp2.symm hp3.symm (by omega) (by omega))
  have q1 : (p1 : Int) < (N : Int) := by omega
  have q2 : (p2 : Int) < (N : Int) := by omega
  have q3 : (p3 : Int) < (N : Int) := by omega
  have qN : (N == 0) = false := by rw [beq_eq_false_iff_ne]; omega
  have qN2 : ((N : Int) == 0) = false := by rw [beq_eq_false_iff_ne]; omega
  have HNN := hide hN
  have HP := hide (And.intro hp1 (And.intro hp2 hp3))
  have HB := hide hb
  clear hp1 hp2 hp3 hN hb hc b0 b1 hsp
  have B0 := (Below.refl w.heap.size w).alloc (Nat.le_refl _) (.cells #[.int .i64 s, .int .i64 t, .int .i64 f, .int .i64 l, .int .i64 p] 23)
  have bc := Blk.new w 23 #[.int .i64 s, .int .i64 t, .int .i64 f, .int .i64 l, .int .i64 p]
  have mc := fun i => bc.cell i
  go_enter Tryz.func8, Tryz.ntmps8
  go_wp2_with fail
  refine (RN.out _).mono ?_
  rintro e w1 ⟨⟨g, rfl, R, hg⟩, hb1⟩
  replace bc := bc.below hb1 bc.lt
  replace B0 := B0.trans (hb1.mono B0.size)
  have HG := hide (show w.heap.size ≤ g by rw [World.size_alloc] at hg; omega)
  have HCG := hide (show w.heap.size ≠ g by rw [World.size_alloc] at hg; omega)
  have ne1 := HCG.out
  have ne2 := HCG.out.symm
  clear hb1 mc hg
  have mc := fun i => bc.cell i
  go_wp2_with fail
  refine (C1.out _).mono ?_
  rintro e w2 ⟨rfl, hb1⟩
  replace bc := bc.below hb1 bc.lt
  replace R := R.below hb1
  replace B0 := B0.trans (hb1.mono B0.size)
  clear hb1 mc
  have mc := fun i => bc.cell i
  have z1 := R.at_ (j := p1) (by rw [zs_len]; omega)
  have f1 := Blk.frozen R p1
  go_wp2_with fail
  clear z1 f1 mc
  replace R := R.set_ p1 3
  replace bc := bc.far (p := ⟨g, p1, none⟩) HCG.out (.int .u64 3)
  replace B0 := B0.setCell (p := ⟨g, p1, none⟩) HG.out (.int .u64 3)
  generalize w2.setCell ⟨g, p1, none⟩ (.int .u64 3) = w3 at *
  refine (C2.out _).mono ?_
  rintro e w4 ⟨rfl, hb1⟩
  replace bc := bc.below hb1 bc.lt
  replace R := R.below hb1
  replace B0 := B0.trans (hb1.mono B0.size)
  clear hb1
  have mc := fun i => bc.cell i
  have z1 := R.at_ (j := p2) (by rw [List.length_set, zs_len]; omega)
  have f1 := Blk.frozen R p2
  go_wp2_with fail
  clear z1 f1 mc
  replace R := R.set_ p2 65537
  replace bc := bc.far (p := ⟨g, p2, none⟩) HCG.out (.int .u64 65537)
  replace B0 := B0.setCell (p := ⟨g, p2, none⟩) HG.out (.int .u64 65537)
  generalize w4.setCell ⟨g, p2, none⟩ (.int .u64 65537) = w5 at *
  have mc := fun i => bc.cell i
  refine (C3.out _).mono ?_
  rintro e w6 ⟨rfl, hb1⟩
  replace bc := bc.below hb1 bc.lt
  replace R := R.below hb1
  replace B0 := B0.trans (hb1.mono B0.size)
  clear hb1 mc
  have mc := fun i => bc.cell i
  go_wp2_with fail
  refine (C4.out _).mono ?_
  rintro e w7 ⟨rfl, hb1⟩
  replace bc := bc.below hb1 bc.lt
  replace R := R.below hb1
  replace B0 := B0.trans (hb1.mono B0.size)
  clear hb1 mc
  have mc := fun i => bc.cell i
  have z1 := R.at_ (j := p3) (by simp only [List.length_set, zs_len]; omega)
  have f1 := Blk.frozen R p3
  go_wp2_with fail
  clear z1 f1 mc
  replace R := R.set_ p3 1099511627776
  replace bc := bc.far (p := ⟨g, p3, none⟩) HCG.out (.int .u64 1099511627776)
  replace B0 := B0.setCell (p := ⟨g, p3, none⟩) HG.out (.int .u64 1099511627776)
  generalize w7.setCell ⟨g, p3, none⟩ (.int .u64 1099511627776) = w8 at *
  have hwl : ((((zs N).set p1 3).set p2 65537).set p3 1099511627776).length = N := by simp only [List.length_set, zs_len]
  generalize (((zs N).set p1 3).set p2 65537).set p3 1099511627776 = ws0 at *
  clear q1 q2 q3 C1 C2 C3 C4 RN HP
  go_loopw [4] (RbIn g w.heap.size N s t f l p w) (fun i _ => (s + 1).toNat - (intOf i).toNat)
  case atStart => exact ⟨2, ws0, rfl, by omega, by omega, R, hwl, BG.out, bc, B0⟩
  case round =>
    clear R hwl BG bc B0
    obtain ⟨k, ws, rfl, hk2, hks, R, hwl, BG, bc, B0⟩ := hrel
    have mc := fun i => bc.cell i
    by_cases hle : (k : Int) ≤ s
    · have bk := nB_bd hs ht hf (sl := (k : Int)) (by omega)
      obtain ⟨q, hq⟩ : ∃ q : Nat, nB t f k = q := Int.eq_ofNat_of_zero_le (by omega)
      have CVk := hide (CV.out k hle)
      have CLk := hide (CL.out k hle)
      rw [hq] at CVk
      rw [show nB t f (k : Int) + 2 = ((q + 2 : Nat) : Int) by omega] at CLk
      have hqN := HNN.out
      have hq1 : (q : Int) < (N : Int) := by omega
      have hq2 : ((q + 2 : Nat) : Int) < (N : Int) := by omega
      have HQ := hide hq
      have HW1 := hide (show q < ws.length by omega)
      have HW2 := hide (show q + 2 < (ws.set q 2).length by rw [List.length_set]; omega)
      have hk64 : IntKind.u64.wrap (k : Int) = (k : Int) := IntWalk.u64_in _ (by omega)
      have hk65 : IntKind.u64.wrap ((k : Int) + 1) = (k : Int) + 1 := IntWalk.u64_in _ (by omega)
      have hmf := hide (show (s + 1).toNat - (k + 1) < (s + 1).toNat - k by omega)
      clear bk hq hqN
      generalize hq2e : q + 2 = q2 at *
      replace hq2e := hide hq2e
      by_cases hlt : (k : Int) < s
      · go_wp2_with fail
        refine (CVk.out _).mono ?_
        rintro e w9 ⟨rfl, hb1⟩
        replace bc := bc.below hb1 bc.lt
        replace R := R.below hb1
        replace B0 := B0.trans (hb1.mono B0.size)
        clear hb1 mc
        have mc := fun i => bc.cell i
        have z1 := R.at_ (j := q) HW1.out
        have f1 := Blk.frozen R q
        go_wp2_with fail
        clear z1 f1 mc
        replace R := R.set_ q 2
        replace bc := bc.far (p := ⟨g, q, none⟩) HCG.out (.int .u64 2)
        replace B0 := B0.setCell (p := ⟨g, q, none⟩) HG.out (.int .u64 2)
        generalize w9.setCell ⟨g, q, none⟩ (.int .u64 2) = wA at *
        have mc := fun i => bc.cell i
        refine (CLk.out _).mono ?_
        rintro e wB ⟨rfl, hb1⟩
        replace bc := bc.below hb1 bc.lt
        replace R := R.below hb1
        replace B0 := B0.trans (hb1.mono B0.size)
        clear hb1 mc
        have mc := fun i => bc.cell i
        have z1 := R.at_ (j := q2) HW2.out
        have f1 := Blk.frozen R q2
        go_wp2_with fail
        have R9 := R.set_ q2 ((k : Int) + 1)
        have bc9 := bc.far (p := ⟨g, q2, none⟩) HCG.out (.int .u64 ((k : Int) + 1))
        have B9 := B0.setCell (p := ⟨g, q2, none⟩) HG.out (.int .u64 ((k : Int) + 1))
        go_roundw
        case measure => simp [intOf]; omega
        case rel =>
          refine ⟨k + 1, _, by go_num, by omega, by omega, R9, by rw [List.length_set, List.length_set]; exact hwl, ?_, bc9, B9⟩
          rw [show ((k + 1 : Nat) : Int) = (k : Int) + 1 by omega]
          refine set_begK HW2.out fun j hj => ?_
          rw [List.length_set] at hj
          rw [getD_set _ _ _ _ HW1.out, bK_step (by omega) (by omega), BG j hj]
          have h1 := HQ.out
          have h2 := hq2e.out
          have e1 : (j = q) ↔ (j : Int) = nB t f k := by omega
          have e2 : (j = q2) ↔ (j : Int) = nB t f k + 2 := by omega
          simp only [e1, e2]
          by_cases c1 : (j : Int) = nB t f k
          · rw [if_neg (by omega), if_pos c1, if_pos c1]
          · rw [if_neg c1, if_neg c1]
            by_cases c2 : (j : Int) = nB t f k + 2
            · rw [if_pos c2, if_pos ⟨hlt, c2⟩]
            · rw [if_neg c2, if_neg (fun h => c2 h.2)]
      · go_wp2_with fail
        refine (CVk.out _).mono ?_
        rintro e w9 ⟨rfl, hb1⟩
        replace bc := bc.below hb1 bc.lt
        replace R := R.below hb1
        replace B0 := B0.trans (hb1.mono B0.size)
        clear hb1 mc
        have mc := fun i => bc.cell i
        have z1 := R.at_ (j := q) HW1.out
        have f1 := Blk.frozen R q
        go_wp2_with fail
        have R9 := R.set_ q 2
        have bc9 := bc.far (p := ⟨g, q, none⟩) HCG.out (.int .u64 2)
        have B9 := B0.setCell (p := ⟨g, q, none⟩) HG.out (.int .u64 2)
        go_roundw
        case measure => simp [intOf]; omega
        case rel =>
          refine ⟨k + 1, _, by go_num, by omega, by omega, R9, by rw [List.length_set]; exact hwl, ?_, bc9, B9⟩
          rw [show ((k + 1 : Nat) : Int) = (k : Int) + 1 by omega]
          refine set_begK HW1.out fun j hj => ?_
          rw [bK_step (by omega) (by omega), BG j hj]
          have h1 := HQ.out
          have e1 : (j = q) ↔ (j : Int) = nB t f k := by omega
          simp only [e1]
          by_cases c1 : (j : Int) = nB t f k
          · rw [if_pos c1, if_pos c1]
          · rw [if_neg c1, if_neg c1, if_neg (fun h => absurd h.1 (by omega))]
    · have h2N : 2 < N := by have := HNN.out; have := size_pos hs ht hf; omega
      by_cases hs2 : 2 ≤ s
      · have hks2 : (k : Int) = s + 1 := by omega
        have HKS := hide hks2
        have z1 := R.at_ (j := 2) (by omega)
        have f1 := Blk.frozen R 2
        have i2 : (2 : Int) < (N : Int) := by omega
        clear hks2
        go_wp2_with fail
        have R9 := R.set_ 2 2
        have B9 := B0.setCell (p := ⟨g, 2, none⟩) HG.out (.int .u64 2)
        go_ret
        refine ⟨⟨g, rfl, ?_, HG.out⟩, B9⟩
        have e : ws.set 2 2 = begL s t f := by
          refine begL_of (by rw [List.length_set, hwl]; have := HNN.out; omega) fun j hj => ?_
          rw [List.length_set] at hj
          rw [getD_set _ _ _ _ (by omega), BG j hj, HKS.out]
          unfold begAt
          by_cases hj2 : j = 2
          · rw [if_pos hj2, if_pos (by omega), if_pos hs2]
          · rw [if_neg hj2, if_neg (by omega)]
        rw [← e]
        exact R9
      · have hs1 : s = 1 := by omega
        have HS1 := hide hs1
        clear hs1
        go_wp2_with fail
        go_ret
        refine ⟨⟨g, rfl, ?_, HG.out⟩, B0⟩
        have e : ws = begL s t f := by
          refine begL_of (by rw [hwl]; have := HNN.out; omega) fun j hj => ?_
          rw [BG j hj]
          have hs1 := HS1.out
          have hk3 : (k : Int) = 2 := by omega
          rw [hk3]
          unfold begAt
          by_cases hj2 : (j : Int) = 2
          · rw [if_pos hj2, if_neg (by omega)]
            unfold bK bOR
            have ho : oOf t f j < 0 := by
              unfold oOf
              rw [hj2]
              exact Int.ediv_neg_of_neg_of_pos (by omega) (by omega)
            generalize oOf t f j = o at *
            rw [if_neg (by omega), if_neg (by omega), if_neg (by omega), if_neg (by omega), if_neg (by omega)]
          · rw [if_neg hj2, show s + 1 = 2 by omega]
        rw [← e]
        exact R
end Go.Proofs.YtlnckjemfabckaaGreatDoor

/-
  Package handle and its reference: Make, Slot, Gen, Right, in part.
-/
namespace Go.Proofs.YtlnckjemfabckaaGreatDoor
open Go.RowKit

def hmk (gen slot : Int) : Int := if slot < 1 ∨ 65535 < slot then 0 else gen % 16777216 * 65536 + slot
def hsl (h : Int) : Int := h % 65536
def hgn (h : Int) : Int := h / 65536 % 16777216
def hrt (h slots : Int) : Bool := decide (1 ≤ hsl h) && decide (hsl h ≤ slots) && decide (h < 1099511627776)
theorem hmk_bound (gen slot : Int) : W64 (hmk gen slot) := by
  unfold hmk
  split
  · exact ⟨by omega, by omega⟩
  · exact ⟨by omega, by omega⟩

set_option maxHeartbeats 400000 in
theorem hnmake_any (gen slot : Int) (w : World) (hg : W64 gen) (hs : I64 slot) :
    Calls Tryz.prog 26 #[.int .u64 gen, .int .i64 slot] w fun e w' => e = .returned (.int .u64 (hmk gen slot)) ∧ w = w' := by
  obtain ⟨h1, h2⟩ := hs
  by_cases c1 : slot < 1
  · have E := hide (show hmk gen slot = 0 from if_pos (.inl c1))
    go_enter Tryz.func26, Tryz.ntmps26
    go_wp2_with fail
    go_ret
    exact ⟨by rw [E.out]; rfl, rfl⟩
  by_cases c2 : 65535 < slot
  · have E := hide (show hmk gen slot = 0 from if_pos (.inr c2))
    have c3 : 1 ≤ slot := by omega
    go_enter Tryz.func26, Tryz.ntmps26
    go_wp2_with fail
    go_ret
    exact ⟨by rw [E.out]; rfl, rfl⟩
  have e : fput slot 16 24 gen = hmk gen slot := by
    have h := fput_at slot gen 16 24 (by omega)
    simp at h
    rw [h]
    unfold hmk
    rw [if_neg (by omega)]
    omega
  have P := hide (fun w => put_any slot 16 24 gen w ⟨by omega, by omega⟩ ⟨by omega, by omega⟩ ⟨by omega, by omega⟩ hg)
  rw [e] at P
  generalize hmk gen slot = r at *
  clear e
  have c3 : 1 ≤ slot := by omega
  have c4 : slot ≤ 65535 := by omega
  clear c1 c2
  go_enter Tryz.func26, Tryz.ntmps26
  go_wp2_with fail
  refine (P.out _).mono ?_
  rintro e w' ⟨rfl, rfl⟩
  go_wp2_with fail
  go_ret
  exact ⟨rfl, rfl⟩

set_option maxHeartbeats 400000 in
theorem hnslot_any (h : Int) (w : World) (hh : W64 h) : Calls Tryz.prog 84 #[.int .u64 h] w fun e w' => e = .returned (.int .i64 (hsl h)) ∧ w = w' := by
  have P := hide (fun w => get_any h 0 16 w hh ⟨by omega, by omega⟩ ⟨by omega, by omega⟩)
  have e : fget h 0 16 = hsl h := by
    have h1 := fget_at h 0 16 (by omega)
    simpa [hsl] using h1
  rw [e] at P
  have b : 0 ≤ hsl h ∧ hsl h < 65536 := by unfold hsl; omega
  generalize hsl h = r at *
  clear e
  obtain ⟨b1, b2⟩ := b
  go_enter Tryz.func84, Tryz.ntmps84
  go_wp2_with fail
  refine (P.out _).mono ?_
  rintro e w' ⟨rfl, rfl⟩
  go_wp2_with fail
  go_ret
  exact ⟨rfl, rfl⟩
set_option maxHeartbeats 400000 in
theorem hngen_any (h : Int) (w : World) (hh : W64 h) : Calls Tryz.prog 85 #[.int .u64 h] w fun e w' => e = .returned (.int .u64 (hgn h)) ∧ w = w' := by
  have P := hide (fun w => get_any h 16 24 w hh ⟨by omega, by omega⟩ ⟨by omega, by omega⟩)
  have e : fget h 16 24 = hgn h := by
    have h1 := fget_at h 16 24 (by omega)
    unfold hgn
    simpa using h1
  rw [e] at P
  generalize hgn h = r at *
  clear e
  go_enter Tryz.func85, Tryz.ntmps85
  go_wp2_with fail
  refine (P.out _).mono ?_
  rintro e w' ⟨rfl, rfl⟩
  go_wp2_with fail
  go_ret
  exact ⟨rfl, rfl⟩

set_option maxHeartbeats 400000 in
theorem hnright_any (h slots : Int) (w : World) (hh : W64 h) : Calls Tryz.prog 115 #[.int .u64 h, .int .i64 slots] w fun e w' => e = .returned (.bool (hrt h slots)) ∧ w = w' := by
  have Sl := hide (fun w => hnslot_any h w hh)
  have E := hide (show hrt h slots = (decide (1 ≤ hsl h) && decide (hsl h ≤ slots) && decide (h < 1099511627776)) from rfl)
  obtain ⟨h1, h2⟩ := hh
  generalize hrt h slots = R at *
  generalize hsl h = s at *
  by_cases c1 : 1 ≤ s
  · by_cases c2 : s ≤ slots
    · go_enter Tryz.func115, Tryz.ntmps115
      go_wp2_with fail
      refine (Sl.out _).mono ?_
      rintro e w' ⟨rfl, rfl⟩
      go_wp2_with fail
      refine (Sl.out _).mono ?_
      rintro e w' ⟨rfl, rfl⟩
      go_wp2_with fail
      go_ret
      have k : (h / 1099511627776 == 0) = decide (h < 1099511627776) := by
        rw [Bool.eq_iff_iff]
        simp only [beq_iff_eq, decide_eq_true_eq]
        omega
      exact ⟨by rw [E.out, ← k]; simp [c1, c2], rfl⟩
    · go_enter Tryz.func115, Tryz.ntmps115
      go_wp2_with fail
      refine (Sl.out _).mono ?_
      rintro e w' ⟨rfl, rfl⟩
      go_wp2_with fail
      refine (Sl.out _).mono ?_
      rintro e w' ⟨rfl, rfl⟩
      go_wp2_with fail
      go_ret
      exact ⟨by rw [E.out, show decide (s ≤ slots) = false by simpa using c2]; simp, rfl⟩
  · go_enter Tryz.func115, Tryz.ntmps115
    go_wp2_with fail
    refine (Sl.out _).mono ?_
    rintro e w' ⟨rfl, rfl⟩
    go_wp2_with fail
    go_ret
    exact ⟨by rw [E.out, show decide (1 ≤ s) = false by simpa using c1]; simp, rfl⟩

/-! The reference. -/
set_option maxHeartbeats 400000 in
theorem rhm_any (gen slot : Int) (w : World) (hg : W64 gen) (hs : I64 slot) :
    Calls Tryz.prog 52 #[.int .u64 gen, .int .i64 slot] w fun e w' => e = .returned (.int .u64 (hmk gen slot)) ∧ w = w' := by
  obtain ⟨h1, h2⟩ := hs
  obtain ⟨g1, g2⟩ := hg
  by_cases c1 : slot < 1
  · have E := hide (show hmk gen slot = 0 from if_pos (.inl c1))
    go_enter Tryz.func52, Tryz.ntmps52
    go_wp2_with fail
    go_ret
    exact ⟨by rw [E.out]; rfl, rfl⟩
  by_cases c2 : 65535 < slot
  · have E := hide (show hmk gen slot = 0 from if_pos (.inr c2))
    have c3 : 1 ≤ slot := by omega
    go_enter Tryz.func52, Tryz.ntmps52
    go_wp2_with fail
    go_ret
    exact ⟨by rw [E.out]; rfl, rfl⟩
  have E := hide (show hmk gen slot = gen % 16777216 * 65536 + slot from if_neg (by omega))
  have t1 : gen.tmod 16777216 = gen % 16777216 := Int.tmod_eq_emod_of_nonneg g1
  have t2 : 0 ≤ gen % 16777216 ∧ gen % 16777216 < 16777216 := by omega
  generalize gen % 16777216 = p at *
  have c3 : 1 ≤ slot := by omega
  have c4 : slot ≤ 65535 := by omega
  clear c1 c2
  go_enter Tryz.func52, Tryz.ntmps52
  go_wp2_with fail
  go_ret
  exact ⟨by rw [E.out]; rfl, rfl⟩
set_option maxHeartbeats 400000 in
theorem rhs_any (h : Int) (w : World) (hh : W64 h) : Calls Tryz.prog 116 #[.int .u64 h] w fun e w' => e = .returned (.int .i64 (hsl h)) ∧ w = w' := by
  obtain ⟨h1, h2⟩ := hh
  have t1 : h.tmod 65536 = hsl h := Int.tmod_eq_emod_of_nonneg h1
  have b : 0 ≤ hsl h ∧ hsl h < 65536 := by unfold hsl; omega
  obtain ⟨b1, b2⟩ := b
  generalize hsl h = r at *
  go_enter Tryz.func116, Tryz.ntmps116
  go_wp2_with fail
  go_ret
  exact ⟨rfl, rfl⟩
set_option maxHeartbeats 400000 in
theorem rhg_any (h : Int) (w : World) (hh : W64 h) : Calls Tryz.prog 94 #[.int .u64 h] w fun e w' => e = .returned (.int .u64 (hgn h)) ∧ w = w' := by
  obtain ⟨h1, h2⟩ := hh
  have t1 : h.tdiv 65536 = h / 65536 := Int.tdiv_eq_ediv_of_nonneg h1
  have t2 : (h / 65536).tmod 16777216 = hgn h := Int.tmod_eq_emod_of_nonneg (by omega)
  have b3 : 0 ≤ h / 65536 ∧ h / 65536 ≤ 18446744073709551615 := by omega
  generalize hgn h = r at *
  generalize h / 65536 = y at *
  go_enter Tryz.func94, Tryz.ntmps94
  go_wp2_with fail
  go_ret
  exact ⟨rfl, rfl⟩
set_option maxHeartbeats 400000 in
theorem rhr_any (h slots : Int) (w : World) (hh : W64 h) : Calls Tryz.prog 117 #[.int .u64 h, .int .i64 slots] w fun e w' => e = .returned (.bool (hrt h slots)) ∧ w = w' := by
  have Sl := hide (fun w => rhs_any h w hh)
  have E := hide (show hrt h slots = (decide (1 ≤ hsl h) && decide (hsl h ≤ slots) && decide (h < 1099511627776)) from rfl)
  obtain ⟨h1, h2⟩ := hh
  generalize hrt h slots = R at *
  generalize hsl h = s at *
  by_cases c1 : 1 ≤ s
  · by_cases c2 : s ≤ slots
    · go_enter Tryz.func117, Tryz.ntmps117
      go_wp2_with fail
      refine (Sl.out _).mono ?_
      rintro e w' ⟨rfl, rfl⟩
      go_wp2_with fail
      refine (Sl.out _).mono ?_
      rintro e w' ⟨rfl, rfl⟩
      go_wp2_with fail
      go_ret
      exact ⟨by rw [E.out]; simp [c1, c2], rfl⟩
    · go_enter Tryz.func117, Tryz.ntmps117
      go_wp2_with fail
      refine (Sl.out _).mono ?_
      rintro e w' ⟨rfl, rfl⟩
      go_wp2_with fail
      refine (Sl.out _).mono ?_
      rintro e w' ⟨rfl, rfl⟩
      go_wp2_with fail
      go_ret
      exact ⟨by rw [E.out, show decide (s ≤ slots) = false by simpa using c2]; simp, rfl⟩
  · go_enter Tryz.func117, Tryz.ntmps117
    go_wp2_with fail
    refine (Sl.out _).mono ?_
    rintro e w' ⟨rfl, rfl⟩
    go_wp2_with fail
    go_ret
    exact ⟨by rw [E.out, show decide (1 ≤ s) = false by simpa using c1]; simp, rfl⟩

/-! Texts. -/
end Go.Proofs.YtlnckjemfabckaaGreatDoor

