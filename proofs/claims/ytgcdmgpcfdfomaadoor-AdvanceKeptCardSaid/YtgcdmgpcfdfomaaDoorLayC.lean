/-
  Package layout: At, and the words of threads and slots.
-/
import Derived.Test.YtgcdmgpcfdfomaaDoorLayB
namespace Go.Proofs.YtgcdmgpcfdfomaaDoor
open Go.RowKit
attribute [local go_sem] past_cell past_cell_add

set_option maxHeartbeats 1000000 in
theorem at_first1 (s t f l p : Int) (w : World) (hs : 1 ≤ s) :
    Calls Tryd.prog 42 #[.agg #[.int .i64 s, .int .i64 t, .int .i64 f, .int .i64 l, .int .i64 p], .agg #[.int .i64 1, .int .i64 0, .int .i64 0]] w fun e w' => e = .returned (.int .i64 0) ∧ Below w.heap.size w w' := by
  have N := hide (fun w => none_no s t f l p w hs)
  go_enter Tryd.func42, Tryd.ntmps42
  go_wp2_with fail
  have bx := Blk.new w 37 #[.int .i64 s, .int .i64 t, .int .i64 f, .int .i64 l, .int .i64 p]
  have B0 := (Below.refl w.heap.size w).alloc (Nat.le_refl _) (.cells #[.int .i64 s, .int .i64 t, .int .i64 f, .int .i64 l, .int .i64 p] 37)
  have bo := Blk.new (w.alloc (.cells #[.int .i64 s, .int .i64 t, .int .i64 f, .int .i64 l, .int .i64 p] 37)) 71 #[.int .i64 1, .int .i64 0, .int .i64 0]
  replace bx := bx.alloc (.cells #[.int .i64 1, .int .i64 0, .int .i64 0] 71)
  replace B0 := B0.alloc B0.size (.cells #[.int .i64 1, .int .i64 0, .int .i64 0] 71)
  rw [World.size_alloc] at bo
  refine (N.out _).mono ?_
  rintro e w1 ⟨rfl, hb1⟩
  replace bx := bx.below hb1 bx.lt
  replace bo := bo.below hb1 bo.lt
  replace B0 := B0.trans (hb1.mono B0.size)
  clear hb1
  have lx := bx.lt
  have lo := bo.lt
  have mx := fun i => bx.cell i
  have mo := fun i => bo.cell i
  go_wp2_with fail
  go_ret
  exact ⟨rfl, B0⟩
set_option maxHeartbeats 1000000 in
theorem at_first2 (s t f l p : Int) (w : World) (hs : 1 ≤ s) :
    Calls Tryd.prog 42 #[.agg #[.int .i64 s, .int .i64 t, .int .i64 f, .int .i64 l, .int .i64 p], .agg #[.int .i64 2, .int .i64 0, .int .i64 0]] w fun e w' => e = .returned (.int .i64 1) ∧ Below w.heap.size w w' := by
  have N := hide (fun w => none_no s t f l p w hs)
  go_enter Tryd.func42, Tryd.ntmps42
  go_wp2_with fail
  have bx := Blk.new w 37 #[.int .i64 s, .int .i64 t, .int .i64 f, .int .i64 l, .int .i64 p]
  have B0 := (Below.refl w.heap.size w).alloc (Nat.le_refl _) (.cells #[.int .i64 s, .int .i64 t, .int .i64 f, .int .i64 l, .int .i64 p] 37)
  have bo := Blk.new (w.alloc (.cells #[.int .i64 s, .int .i64 t, .int .i64 f, .int .i64 l, .int .i64 p] 37)) 71 #[.int .i64 2, .int .i64 0, .int .i64 0]
  replace bx := bx.alloc (.cells #[.int .i64 2, .int .i64 0, .int .i64 0] 71)
  replace B0 := B0.alloc B0.size (.cells #[.int .i64 2, .int .i64 0, .int .i64 0] 71)
  rw [World.size_alloc] at bo
  refine (N.out _).mono ?_
  rintro e w1 ⟨rfl, hb1⟩
  replace bx := bx.below hb1 bx.lt
  replace bo := bo.below hb1 bo.lt
  replace B0 := B0.trans (hb1.mono B0.size)
  clear hb1
  have lx := bx.lt
  have lo := bo.lt
  have mx := fun i => bx.cell i
  have mo := fun i => bo.cell i
  go_wp2_with fail
  go_ret
  exact ⟨rfl, B0⟩
set_option maxHeartbeats 1000000 in
theorem at_first3 (s t f l p : Int) (w : World) (hs : 1 ≤ s) :
    Calls Tryd.prog 42 #[.agg #[.int .i64 s, .int .i64 t, .int .i64 f, .int .i64 l, .int .i64 p], .agg #[.int .i64 3, .int .i64 0, .int .i64 0]] w fun e w' => e = .returned (.int .i64 2) ∧ Below w.heap.size w w' := by
  have N := hide (fun w => none_no s t f l p w hs)
  go_enter Tryd.func42, Tryd.ntmps42
  go_wp2_with fail
  have bx := Blk.new w 37 #[.int .i64 s, .int .i64 t, .int .i64 f, .int .i64 l, .int .i64 p]
  have B0 := (Below.refl w.heap.size w).alloc (Nat.le_refl _) (.cells #[.int .i64 s, .int .i64 t, .int .i64 f, .int .i64 l, .int .i64 p] 37)
  have bo := Blk.new (w.alloc (.cells #[.int .i64 s, .int .i64 t, .int .i64 f, .int .i64 l, .int .i64 p] 37)) 71 #[.int .i64 3, .int .i64 0, .int .i64 0]
  replace bx := bx.alloc (.cells #[.int .i64 3, .int .i64 0, .int .i64 0] 71)
  replace B0 := B0.alloc B0.size (.cells #[.int .i64 3, .int .i64 0, .int .i64 0] 71)
  rw [World.size_alloc] at bo
  refine (N.out _).mono ?_
  rintro e w1 ⟨rfl, hb1⟩
  replace bx := bx.below hb1 bx.lt
  replace bo := bo.below hb1 bo.lt
  replace B0 := B0.trans (hb1.mono B0.size)
  clear hb1
  have lx := bx.lt
  have lo := bo.lt
  have mx := fun i => bx.cell i
  have mo := fun i => bo.cell i
  go_wp2_with fail
  go_ret
  exact ⟨rfl, B0⟩
set_option maxHeartbeats 1000000 in
theorem at_node (s t f l p k o i : Int) (w : World) (hs : 1 ≤ s ∧ s ≤ 1000) (ht : 1 ≤ t ∧ t ≤ 64) (hf : 4 ≤ f ∧ f ≤ 64) (hk : k < 1 ∨ 5 < k) :
    Calls Tryd.prog 42 #[.agg #[.int .i64 s, .int .i64 t, .int .i64 f, .int .i64 l, .int .i64 p], .agg #[.int .i64 k, .int .i64 o, .int .i64 i]] w fun e w' => e = .returned (.int .i64 (nod s t f k o i)) ∧ Below w.heap.size w w' := by
  have N := hide (fun w => none_no s t f l p w hs.1)
  have D := hide (fun w => node_any s t f l p (k) (o) (i) w hs ht hf)
  have k1 : (k == 1) = false := by rw [beq_eq_false_iff_ne]; omega
  have k2 : (k == 2) = false := by rw [beq_eq_false_iff_ne]; omega
  have k3 : (k == 3) = false := by rw [beq_eq_false_iff_ne]; omega
  have k4 : (k == 4) = false := by rw [beq_eq_false_iff_ne]; omega
  have k5 : (k == 5) = false := by rw [beq_eq_false_iff_ne]; omega
  clear hk
  generalize nod s t f k o i = R at *
  go_enter Tryd.func42, Tryd.ntmps42
  go_wp2_with fail
  have bx := Blk.new w 37 #[.int .i64 s, .int .i64 t, .int .i64 f, .int .i64 l, .int .i64 p]
  have B0 := (Below.refl w.heap.size w).alloc (Nat.le_refl _) (.cells #[.int .i64 s, .int .i64 t, .int .i64 f, .int .i64 l, .int .i64 p] 37)
  have bo := Blk.new (w.alloc (.cells #[.int .i64 s, .int .i64 t, .int .i64 f, .int .i64 l, .int .i64 p] 37)) 71 #[.int .i64 k, .int .i64 o, .int .i64 i]
  replace bx := bx.alloc (.cells #[.int .i64 k, .int .i64 o, .int .i64 i] 71)
  replace B0 := B0.alloc B0.size (.cells #[.int .i64 k, .int .i64 o, .int .i64 i] 71)
  rw [World.size_alloc] at bo
  refine (N.out _).mono ?_
  rintro e w1 ⟨rfl, hb1⟩
  replace bx := bx.below hb1 bx.lt
  replace bo := bo.below hb1 bo.lt
  replace B0 := B0.trans (hb1.mono B0.size)
  clear hb1
  have lx := bx.lt
  have lo := bo.lt
  have mx := fun i => bx.cell i
  have mo := fun i => bo.cell i
  go_wp2_with fail
  refine (D.out _).mono ?_
  rintro e w2 ⟨rfl, hb2⟩
  go_wp2_with fail
  go_ret
  exact ⟨rfl, B0.trans (hb2.mono B0.size)⟩
set_option maxHeartbeats 1000000 in
theorem at_b1 (s t f l p o i : Int) (w : World) (hs : 1 ≤ s ∧ s ≤ 1000) (ht : 1 ≤ t ∧ t ≤ 64) (hf : 4 ≤ f ∧ f ≤ 64) (ho : (o == 0) = false) :
    Calls Tryd.prog 42 #[.agg #[.int .i64 s, .int .i64 t, .int .i64 f, .int .i64 l, .int .i64 p], .agg #[.int .i64 1, .int .i64 o, .int .i64 i]] w fun e w' => e = .returned (.int .i64 (nod s t f 1 o i)) ∧ Below w.heap.size w w' := by
  have N := hide (fun w => none_no s t f l p w hs.1)
  have D := hide (fun w => node_any s t f l p (1) (o) (i) w hs ht hf)
  generalize nod s t f 1 o i = R at *
  go_enter Tryd.func42, Tryd.ntmps42
  go_wp2_with fail
  have bx := Blk.new w 37 #[.int .i64 s, .int .i64 t, .int .i64 f, .int .i64 l, .int .i64 p]
  have B0 := (Below.refl w.heap.size w).alloc (Nat.le_refl _) (.cells #[.int .i64 s, .int .i64 t, .int .i64 f, .int .i64 l, .int .i64 p] 37)
  have bo := Blk.new (w.alloc (.cells #[.int .i64 s, .int .i64 t, .int .i64 f, .int .i64 l, .int .i64 p] 37)) 71 #[.int .i64 1, .int .i64 o, .int .i64 i]
  replace bx := bx.alloc (.cells #[.int .i64 1, .int .i64 o, .int .i64 i] 71)
  replace B0 := B0.alloc B0.size (.cells #[.int .i64 1, .int .i64 o, .int .i64 i] 71)
  rw [World.size_alloc] at bo
  refine (N.out _).mono ?_
  rintro e w1 ⟨rfl, hb1⟩
  replace bx := bx.below hb1 bx.lt
  replace bo := bo.below hb1 bo.lt
  replace B0 := B0.trans (hb1.mono B0.size)
  clear hb1
  have lx := bx.lt
  have lo := bo.lt
  have mx := fun i => bx.cell i
  have mo := fun i => bo.cell i
  go_wp2_with fail
  refine (D.out _).mono ?_
  rintro e w2 ⟨rfl, hb2⟩
  go_wp2_with fail
  go_ret
  exact ⟨rfl, B0.trans (hb2.mono B0.size)⟩
set_option maxHeartbeats 1000000 in
theorem at_c1 (s t f l p i : Int) (w : World) (hs : 1 ≤ s ∧ s ≤ 1000) (ht : 1 ≤ t ∧ t ≤ 64) (hf : 4 ≤ f ∧ f ≤ 64) (hi : (i == 0) = false) :
    Calls Tryd.prog 42 #[.agg #[.int .i64 s, .int .i64 t, .int .i64 f, .int .i64 l, .int .i64 p], .agg #[.int .i64 1, .int .i64 0, .int .i64 i]] w fun e w' => e = .returned (.int .i64 (nod s t f 1 0 i)) ∧ Below w.heap.size w w' := by
  have N := hide (fun w => none_no s t f l p w hs.1)
  have D := hide (fun w => node_any s t f l p (1) (0) (i) w hs ht hf)
  generalize nod s t f 1 0 i = R at *
  go_enter Tryd.func42, Tryd.ntmps42
  go_wp2_with fail
  have bx := Blk.new w 37 #[.int .i64 s, .int .i64 t, .int .i64 f, .int .i64 l, .int .i64 p]
  have B0 := (Below.refl w.heap.size w).alloc (Nat.le_refl _) (.cells #[.int .i64 s, .int .i64 t, .int .i64 f, .int .i64 l, .int .i64 p] 37)
  have bo := Blk.new (w.alloc (.cells #[.int .i64 s, .int .i64 t, .int .i64 f, .int .i64 l, .int .i64 p] 37)) 71 #[.int .i64 1, .int .i64 0, .int .i64 i]
  replace bx := bx.alloc (.cells #[.int .i64 1, .int .i64 0, .int .i64 i] 71)
  replace B0 := B0.alloc B0.size (.cells #[.int .i64 1, .int .i64 0, .int .i64 i] 71)
  rw [World.size_alloc] at bo
  refine (N.out _).mono ?_
  rintro e w1 ⟨rfl, hb1⟩
  replace bx := bx.below hb1 bx.lt
  replace bo := bo.below hb1 bo.lt
  replace B0 := B0.trans (hb1.mono B0.size)
  clear hb1
  have lx := bx.lt
  have lo := bo.lt
  have mx := fun i => bx.cell i
  have mo := fun i => bo.cell i
  go_wp2_with fail
  refine (D.out _).mono ?_
  rintro e w2 ⟨rfl, hb2⟩
  go_wp2_with fail
  go_ret
  exact ⟨rfl, B0.trans (hb2.mono B0.size)⟩
set_option maxHeartbeats 1000000 in
theorem at_b2 (s t f l p o i : Int) (w : World) (hs : 1 ≤ s ∧ s ≤ 1000) (ht : 1 ≤ t ∧ t ≤ 64) (hf : 4 ≤ f ∧ f ≤ 64) (ho : (o == 0) = false) :
    Calls Tryd.prog 42 #[.agg #[.int .i64 s, .int .i64 t, .int .i64 f, .int .i64 l, .int .i64 p], .agg #[.int .i64 2, .int .i64 o, .int .i64 i]] w fun e w' => e = .returned (.int .i64 (nod s t f 2 o i)) ∧ Below w.heap.size w w' := by
  have N := hide (fun w => none_no s t f l p w hs.1)
  have D := hide (fun w => node_any s t f l p (2) (o) (i) w hs ht hf)
  generalize nod s t f 2 o i = R at *
  go_enter Tryd.func42, Tryd.ntmps42
  go_wp2_with fail
  have bx := Blk.new w 37 #[.int .i64 s, .int .i64 t, .int .i64 f, .int .i64 l, .int .i64 p]
  have B0 := (Below.refl w.heap.size w).alloc (Nat.le_refl _) (.cells #[.int .i64 s, .int .i64 t, .int .i64 f, .int .i64 l, .int .i64 p] 37)
  have bo := Blk.new (w.alloc (.cells #[.int .i64 s, .int .i64 t, .int .i64 f, .int .i64 l, .int .i64 p] 37)) 71 #[.int .i64 2, .int .i64 o, .int .i64 i]
  replace bx := bx.alloc (.cells #[.int .i64 2, .int .i64 o, .int .i64 i] 71)
  replace B0 := B0.alloc B0.size (.cells #[.int .i64 2, .int .i64 o, .int .i64 i] 71)
  rw [World.size_alloc] at bo
  refine (N.out _).mono ?_
  rintro e w1 ⟨rfl, hb1⟩
  replace bx := bx.below hb1 bx.lt
  replace bo := bo.below hb1 bo.lt
  replace B0 := B0.trans (hb1.mono B0.size)
  clear hb1
  have lx := bx.lt
  have lo := bo.lt
  have mx := fun i => bx.cell i
  have mo := fun i => bo.cell i
  go_wp2_with fail
  refine (D.out _).mono ?_
  rintro e w2 ⟨rfl, hb2⟩
  go_wp2_with fail
  go_ret
  exact ⟨rfl, B0.trans (hb2.mono B0.size)⟩
set_option maxHeartbeats 1000000 in
theorem at_c2 (s t f l p i : Int) (w : World) (hs : 1 ≤ s ∧ s ≤ 1000) (ht : 1 ≤ t ∧ t ≤ 64) (hf : 4 ≤ f ∧ f ≤ 64) (hi : (i == 0) = false) :
    Calls Tryd.prog 42 #[.agg #[.int .i64 s, .int .i64 t, .int .i64 f, .int .i64 l, .int .i64 p], .agg #[.int .i64 2, .int .i64 0, .int .i64 i]] w fun e w' => e = .returned (.int .i64 (nod s t f 2 0 i)) ∧ Below w.heap.size w w' := by
  have N := hide (fun w => none_no s t f l p w hs.1)
  have D := hide (fun w => node_any s t f l p (2) (0) (i) w hs ht hf)
  generalize nod s t f 2 0 i = R at *
  go_enter Tryd.func42, Tryd.ntmps42
  go_wp2_with fail
  have bx := Blk.new w 37 #[.int .i64 s, .int .i64 t, .int .i64 f, .int .i64 l, .int .i64 p]
  have B0 := (Below.refl w.heap.size w).alloc (Nat.le_refl _) (.cells #[.int .i64 s, .int .i64 t, .int .i64 f, .int .i64 l, .int .i64 p] 37)
  have bo := Blk.new (w.alloc (.cells #[.int .i64 s, .int .i64 t, .int .i64 f, .int .i64 l, .int .i64 p] 37)) 71 #[.int .i64 2, .int .i64 0, .int .i64 i]
  replace bx := bx.alloc (.cells #[.int .i64 2, .int .i64 0, .int .i64 i] 71)
  replace B0 := B0.alloc B0.size (.cells #[.int .i64 2, .int .i64 0, .int .i64 i] 71)
  rw [World.size_alloc] at bo
  refine (N.out _).mono ?_
  rintro e w1 ⟨rfl, hb1⟩
  replace bx := bx.below hb1 bx.lt
  replace bo := bo.below hb1 bo.lt
  replace B0 := B0.trans (hb1.mono B0.size)
  clear hb1
  have lx := bx.lt
  have lo := bo.lt
  have mx := fun i => bx.cell i
  have mo := fun i => bo.cell i
  go_wp2_with fail
  refine (D.out _).mono ?_
  rintro e w2 ⟨rfl, hb2⟩
  go_wp2_with fail
  go_ret
  exact ⟨rfl, B0.trans (hb2.mono B0.size)⟩
set_option maxHeartbeats 1000000 in
theorem at_b3 (s t f l p o i : Int) (w : World) (hs : 1 ≤ s ∧ s ≤ 1000) (ht : 1 ≤ t ∧ t ≤ 64) (hf : 4 ≤ f ∧ f ≤ 64) (ho : (o == 0) = false) :
    Calls Tryd.prog 42 #[.agg #[.int .i64 s, .int .i64 t, .int .i64 f, .int .i64 l, .int .i64 p], .agg #[.int .i64 3, .int .i64 o, .int .i64 i]] w fun e w' => e = .returned (.int .i64 (nod s t f 3 o i)) ∧ Below w.heap.size w w' := by
  have N := hide (fun w => none_no s t f l p w hs.1)
  have D := hide (fun w => node_any s t f l p (3) (o) (i) w hs ht hf)
  generalize nod s t f 3 o i = R at *
  go_enter Tryd.func42, Tryd.ntmps42
  go_wp2_with fail
  have bx := Blk.new w 37 #[.int .i64 s, .int .i64 t, .int .i64 f, .int .i64 l, .int .i64 p]
  have B0 := (Below.refl w.heap.size w).alloc (Nat.le_refl _) (.cells #[.int .i64 s, .int .i64 t, .int .i64 f, .int .i64 l, .int .i64 p] 37)
  have bo := Blk.new (w.alloc (.cells #[.int .i64 s, .int .i64 t, .int .i64 f, .int .i64 l, .int .i64 p] 37)) 71 #[.int .i64 3, .int .i64 o, .int .i64 i]
  replace bx := bx.alloc (.cells #[.int .i64 3, .int .i64 o, .int .i64 i] 71)
  replace B0 := B0.alloc B0.size (.cells #[.int .i64 3, .int .i64 o, .int .i64 i] 71)
  rw [World.size_alloc] at bo
  refine (N.out _).mono ?_
  rintro e w1 ⟨rfl, hb1⟩
  replace bx := bx.below hb1 bx.lt
  replace bo := bo.below hb1 bo.lt
  replace B0 := B0.trans (hb1.mono B0.size)
  clear hb1
  have lx := bx.lt
  have lo := bo.lt
  have mx := fun i => bx.cell i
  have mo := fun i => bo.cell i
  go_wp2_with fail
  refine (D.out _).mono ?_
  rintro e w2 ⟨rfl, hb2⟩
  go_wp2_with fail
  go_ret
  exact ⟨rfl, B0.trans (hb2.mono B0.size)⟩
set_option maxHeartbeats 1000000 in
theorem at_c3 (s t f l p i : Int) (w : World) (hs : 1 ≤ s ∧ s ≤ 1000) (ht : 1 ≤ t ∧ t ≤ 64) (hf : 4 ≤ f ∧ f ≤ 64) (hi : (i == 0) = false) :
    Calls Tryd.prog 42 #[.agg #[.int .i64 s, .int .i64 t, .int .i64 f, .int .i64 l, .int .i64 p], .agg #[.int .i64 3, .int .i64 0, .int .i64 i]] w fun e w' => e = .returned (.int .i64 (nod s t f 3 0 i)) ∧ Below w.heap.size w w' := by
  have N := hide (fun w => none_no s t f l p w hs.1)
  have D := hide (fun w => node_any s t f l p (3) (0) (i) w hs ht hf)
  generalize nod s t f 3 0 i = R at *
  go_enter Tryd.func42, Tryd.ntmps42
  go_wp2_with fail
  have bx := Blk.new w 37 #[.int .i64 s, .int .i64 t, .int .i64 f, .int .i64 l, .int .i64 p]
  have B0 := (Below.refl w.heap.size w).alloc (Nat.le_refl _) (.cells #[.int .i64 s, .int .i64 t, .int .i64 f, .int .i64 l, .int .i64 p] 37)
  have bo := Blk.new (w.alloc (.cells #[.int .i64 s, .int .i64 t, .int .i64 f, .int .i64 l, .int .i64 p] 37)) 71 #[.int .i64 3, .int .i64 0, .int .i64 i]
  replace bx := bx.alloc (.cells #[.int .i64 3, .int .i64 0, .int .i64 i] 71)
  replace B0 := B0.alloc B0.size (.cells #[.int .i64 3, .int .i64 0, .int .i64 i] 71)
  rw [World.size_alloc] at bo
  refine (N.out _).mono ?_
  rintro e w1 ⟨rfl, hb1⟩
  replace bx := bx.below hb1 bx.lt
  replace bo := bo.below hb1 bo.lt
  replace B0 := B0.trans (hb1.mono B0.size)
  clear hb1
  have lx := bx.lt
  have lo := bo.lt
  have mx := fun i => bx.cell i
  have mo := fun i => bo.cell i
  go_wp2_with fail
  refine (D.out _).mono ?_
  rintro e w2 ⟨rfl, hb2⟩
  go_wp2_with fail
  go_ret
  exact ⟨rfl, B0.trans (hb2.mono B0.size)⟩
set_option maxHeartbeats 1000000 in
theorem at_4i (s t f l p o i : Int) (w : World) (hs : 1 ≤ s ∧ s ≤ 1000) (ht : 1 ≤ t ∧ t ≤ 64) (hf : 4 ≤ f ∧ f ≤ 64) (hi : (i == 0) = false) :
    Calls Tryd.prog 42 #[.agg #[.int .i64 s, .int .i64 t, .int .i64 f, .int .i64 l, .int .i64 p], .agg #[.int .i64 4, .int .i64 o, .int .i64 i]] w fun e w' => e = .returned (.int .i64 (nod s t f 4 o i)) ∧ Below w.heap.size w w' := by
  have N := hide (fun w => none_no s t f l p w hs.1)
  have D := hide (fun w => node_any s t f l p (4) (o) (i) w hs ht hf)
  generalize nod s t f 4 o i = R at *
  go_enter Tryd.func42, Tryd.ntmps42
  go_wp2_with fail
  have bx := Blk.new w 37 #[.int .i64 s, .int .i64 t, .int .i64 f, .int .i64 l, .int .i64 p]
  have B0 := (Below.refl w.heap.size w).alloc (Nat.le_refl _) (.cells #[.int .i64 s, .int .i64 t, .int .i64 f, .int .i64 l, .int .i64 p] 37)
  have bo := Blk.new (w.alloc (.cells #[.int .i64 s, .int .i64 t, .int .i64 f, .int .i64 l, .int .i64 p] 37)) 71 #[.int .i64 4, .int .i64 o, .int .i64 i]
  replace bx := bx.alloc (.cells #[.int .i64 4, .int .i64 o, .int .i64 i] 71)
  replace B0 := B0.alloc B0.size (.cells #[.int .i64 4, .int .i64 o, .int .i64 i] 71)
  rw [World.size_alloc] at bo
  refine (N.out _).mono ?_
  rintro e w1 ⟨rfl, hb1⟩
  replace bx := bx.below hb1 bx.lt
  replace bo := bo.below hb1 bo.lt
  replace B0 := B0.trans (hb1.mono B0.size)
  clear hb1
  have lx := bx.lt
  have lo := bo.lt
  have mx := fun i => bx.cell i
  have mo := fun i => bo.cell i
  go_wp2_with fail
  refine (D.out _).mono ?_
  rintro e w2 ⟨rfl, hb2⟩
  go_wp2_with fail
  go_ret
  exact ⟨rfl, B0.trans (hb2.mono B0.size)⟩
set_option maxHeartbeats 1000000 in
theorem at_4o (s t f l p o : Int) (w : World) (hs : 1 ≤ s ∧ s ≤ 1000) (ht : 1 ≤ t ∧ t ≤ 64) (hf : 4 ≤ f ∧ f ≤ 64) (ho : o < 0 ∨ t ≤ o) :
    Calls Tryd.prog 42 #[.agg #[.int .i64 s, .int .i64 t, .int .i64 f, .int .i64 l, .int .i64 p], .agg #[.int .i64 4, .int .i64 o, .int .i64 0]] w fun e w' => e = .returned (.int .i64 (nod s t f 4 o 0)) ∧ Below w.heap.size w w' := by
  have N := hide (fun w => none_no s t f l p w hs.1)
  have D := hide (fun w => node_any s t f l p (4) (o) (0) w hs ht hf)
  have W1 := hide (fun w => within_f o t w ho)
  clear ho
  generalize nod s t f 4 o 0 = R at *
  go_enter Tryd.func42, Tryd.ntmps42
  go_wp2_with fail
  have bx := Blk.new w 37 #[.int .i64 s, .int .i64 t, .int .i64 f, .int .i64 l, .int .i64 p]
  have B0 := (Below.refl w.heap.size w).alloc (Nat.le_refl _) (.cells #[.int .i64 s, .int .i64 t, .int .i64 f, .int .i64 l, .int .i64 p] 37)
  have bo := Blk.new (w.alloc (.cells #[.int .i64 s, .int .i64 t, .int .i64 f, .int .i64 l, .int .i64 p] 37)) 71 #[.int .i64 4, .int .i64 o, .int .i64 0]
  replace bx := bx.alloc (.cells #[.int .i64 4, .int .i64 o, .int .i64 0] 71)
  replace B0 := B0.alloc B0.size (.cells #[.int .i64 4, .int .i64 o, .int .i64 0] 71)
  rw [World.size_alloc] at bo
  refine (N.out _).mono ?_
  rintro e w1 ⟨rfl, hb1⟩
  replace bx := bx.below hb1 bx.lt
  replace bo := bo.below hb1 bo.lt
  replace B0 := B0.trans (hb1.mono B0.size)
  clear hb1
  have lx := bx.lt
  have lo := bo.lt
  have mx := fun i => bx.cell i
  have mo := fun i => bo.cell i
  go_wp2_with fail
  refine (W1.out _).mono ?_
  rintro e w' ⟨rfl, rfl⟩
  go_wp2_with fail
  refine (D.out _).mono ?_
  rintro e w2 ⟨rfl, hb2⟩
  go_wp2_with fail
  go_ret
  exact ⟨rfl, B0.trans (hb2.mono B0.size)⟩
set_option maxHeartbeats 1000000 in
theorem at_4 (s t f l p o : Int) (w : World) (hs : 1 ≤ s ∧ s ≤ 1000) (ht : 1 ≤ t ∧ t ≤ 64) (ho : 0 ≤ o ∧ o < t) :
    Calls Tryd.prog 42 #[.agg #[.int .i64 s, .int .i64 t, .int .i64 f, .int .i64 l, .int .i64 p], .agg #[.int .i64 4, .int .i64 o, .int .i64 0]] w fun e w' => e = .returned (.int .i64 (3 + o)) ∧ Below w.heap.size w w' := by
  have N := hide (fun w => none_no s t f l p w hs.1)
  have W1 := hide (fun w => within_t o t w ho.1 ho.2)
  have h3 : IntKind.i64.wrap (3 + o) = 3 + o := IntWalk.i64_in _ (by omega)
  clear ho hs ht
  go_enter Tryd.func42, Tryd.ntmps42
  go_wp2_with fail
  have bx := Blk.new w 37 #[.int .i64 s, .int .i64 t, .int .i64 f, .int .i64 l, .int .i64 p]
  have B0 := (Below.refl w.heap.size w).alloc (Nat.le_refl _) (.cells #[.int .i64 s, .int .i64 t, .int .i64 f, .int .i64 l, .int .i64 p] 37)
  have bo := Blk.new (w.alloc (.cells #[.int .i64 s, .int .i64 t, .int .i64 f, .int .i64 l, .int .i64 p] 37)) 71 #[.int .i64 4, .int .i64 o, .int .i64 0]
  replace bx := bx.alloc (.cells #[.int .i64 4, .int .i64 o, .int .i64 0] 71)
  replace B0 := B0.alloc B0.size (.cells #[.int .i64 4, .int .i64 o, .int .i64 0] 71)
  rw [World.size_alloc] at bo
  refine (N.out _).mono ?_
  rintro e w1 ⟨rfl, hb1⟩
  replace bx := bx.below hb1 bx.lt
  replace bo := bo.below hb1 bo.lt
  replace B0 := B0.trans (hb1.mono B0.size)
  clear hb1
  have lx := bx.lt
  have lo := bo.lt
  have mx := fun i => bx.cell i
  have mo := fun i => bo.cell i
  go_wp2_with fail
  refine (W1.out _).mono ?_
  rintro e w' ⟨rfl, rfl⟩
  go_wp2_with fail
  refine wp_region_past (by kernel_rfl) (by kernel_rfl) ?_
  repeat (quiet_step ((first | ((exact calls_past (announces_any _ _ _ _ _ _))))))
  refine wpQuiet_nil ?_
  intro _ hw'
  obtain ⟨y, hw''⟩ := hw'
  subst hw''
  have hy := past_below w1 y
  go_wp2_with fail
  go_ret
  exact ⟨rfl, B0.trans (hy.mono B0.size)⟩
set_option maxHeartbeats 1000000 in
theorem at_5i (s t f l p o i : Int) (w : World) (hs : 1 ≤ s ∧ s ≤ 1000) (ht : 1 ≤ t ∧ t ≤ 64) (hf : 4 ≤ f ∧ f ≤ 64) (hi : i < 0 ∨ 2 ≤ i) :
    Calls Tryd.prog 42 #[.agg #[.int .i64 s, .int .i64 t, .int .i64 f, .int .i64 l, .int .i64 p], .agg #[.int .i64 5, .int .i64 o, .int .i64 i]] w fun e w' => e = .returned (.int .i64 (nod s t f 5 o i)) ∧ Below w.heap.size w w' := by
  have N := hide (fun w => none_no s t f l p w hs.1)
  have D := hide (fun w => node_any s t f l p (5) (o) (i) w hs ht hf)
  have W1 := hide (fun w => within_f i 2 w hi)
  clear hi
  generalize nod s t f 5 o i = R at *
  go_enter Tryd.func42, Tryd.ntmps42
  go_wp2_with fail
  have bx := Blk.new w 37 #[.int .i64 s, .int .i64 t, .int .i64 f, .int .i64 l, .int .i64 p]
  have B0 := (Below.refl w.heap.size w).alloc (Nat.le_refl _) (.cells #[.int .i64 s, .int .i64 t, .int .i64 f, .int .i64 l, .int .i64 p] 37)
  have bo := Blk.new (w.alloc (.cells #[.int .i64 s, .int .i64 t, .int .i64 f, .int .i64 l, .int .i64 p] 37)) 71 #[.int .i64 5, .int .i64 o, .int .i64 i]
  replace bx := bx.alloc (.cells #[.int .i64 5, .int .i64 o, .int .i64 i] 71)
  replace B0 := B0.alloc B0.size (.cells #[.int .i64 5, .int .i64 o, .int .i64 i] 71)
  rw [World.size_alloc] at bo
  refine (N.out _).mono ?_
  rintro e w1 ⟨rfl, hb1⟩
  replace bx := bx.below hb1 bx.lt
  replace bo := bo.below hb1 bo.lt
  replace B0 := B0.trans (hb1.mono B0.size)
  clear hb1
  have lx := bx.lt
  have lo := bo.lt
  have mx := fun i => bx.cell i
  have mo := fun i => bo.cell i
  go_wp2_with fail
  refine (W1.out _).mono ?_
  rintro e w' ⟨rfl, rfl⟩
  go_wp2_with fail
  refine (D.out _).mono ?_
  rintro e w2 ⟨rfl, hb2⟩
  go_wp2_with fail
  go_ret
  exact ⟨rfl, B0.trans (hb2.mono B0.size)⟩
set_option maxHeartbeats 1000000 in
theorem at_5o (s t f l p o i : Int) (w : World) (hs : 1 ≤ s ∧ s ≤ 1000) (ht : 1 ≤ t ∧ t ≤ 64) (hf : 4 ≤ f ∧ f ≤ 64) (hi : 0 ≤ i ∧ i < 2) (ho : o < 0 ∨ t ≤ o) :
    Calls Tryd.prog 42 #[.agg #[.int .i64 s, .int .i64 t, .int .i64 f, .int .i64 l, .int .i64 p], .agg #[.int .i64 5, .int .i64 o, .int .i64 i]] w fun e w' => e = .returned (.int .i64 (nod s t f 5 o i)) ∧ Below w.heap.size w w' := by
  have N := hide (fun w => none_no s t f l p w hs.1)
  have D := hide (fun w => node_any s t f l p (5) (o) (i) w hs ht hf)
  have W1 := hide (fun w => within_t i 2 w hi.1 hi.2)
  have W2 := hide (fun w => within_f o t w ho)
  clear hi ho
  generalize nod s t f 5 o i = R at *
  go_enter Tryd.func42, Tryd.ntmps42
  go_wp2_with fail
  have bx := Blk.new w 37 #[.int .i64 s, .int .i64 t, .int .i64 f, .int .i64 l, .int .i64 p]
  have B0 := (Below.refl w.heap.size w).alloc (Nat.le_refl _) (.cells #[.int .i64 s, .int .i64 t, .int .i64 f, .int .i64 l, .int .i64 p] 37)
  have bo := Blk.new (w.alloc (.cells #[.int .i64 s, .int .i64 t, .int .i64 f, .int .i64 l, .int .i64 p] 37)) 71 #[.int .i64 5, .int .i64 o, .int .i64 i]
  replace bx := bx.alloc (.cells #[.int .i64 5, .int .i64 o, .int .i64 i] 71)
  replace B0 := B0.alloc B0.size (.cells #[.int .i64 5, .int .i64 o, .int .i64 i] 71)
  rw [World.size_alloc] at bo
  refine (N.out _).mono ?_
  rintro e w1 ⟨rfl, hb1⟩
  replace bx := bx.below hb1 bx.lt
  replace bo := bo.below hb1 bo.lt
  replace B0 := B0.trans (hb1.mono B0.size)
  clear hb1
  have lx := bx.lt
  have lo := bo.lt
  have mx := fun i => bx.cell i
  have mo := fun i => bo.cell i
  go_wp2_with fail
  refine (W1.out _).mono ?_
  rintro e w' ⟨rfl, rfl⟩
  go_wp2_with fail
  refine (W2.out _).mono ?_
  rintro e w' ⟨rfl, rfl⟩
  go_wp2_with fail
  refine (D.out _).mono ?_
  rintro e w2 ⟨rfl, hb2⟩
  go_wp2_with fail
  go_ret
  exact ⟨rfl, B0.trans (hb2.mono B0.size)⟩
set_option maxHeartbeats 1000000 in
theorem at_5 (s t f l p o i : Int) (w : World) (hs : 1 ≤ s ∧ s ≤ 1000) (ht : 1 ≤ t ∧ t ≤ 64) (hi : 0 ≤ i ∧ i < 2) (ho : 0 ≤ o ∧ o < t) :
    Calls Tryd.prog 42 #[.agg #[.int .i64 s, .int .i64 t, .int .i64 f, .int .i64 l, .int .i64 p], .agg #[.int .i64 5, .int .i64 o, .int .i64 i]] w fun e w' => e = .returned (.int .i64 (3 + t + 2 * o + i)) ∧ Below w.heap.size w w' := by
  have N := hide (fun w => none_no s t f l p w hs.1)
  have W1 := hide (fun w => within_t i 2 w hi.1 hi.2)
  have W2 := hide (fun w => within_t o t w ho.1 ho.2)
  have H := hide (fun w => hazards_any s t f l p w ht)
  have h2 : IntKind.i64.wrap (2 * o) = 2 * o := IntWalk.i64_in _ (by omega)
  have h3 : IntKind.i64.wrap (3 + t + 2 * o) = 3 + t + 2 * o := IntWalk.i64_in _ (by omega)
  have h4 : IntKind.i64.wrap (3 + t + 2 * o + i) = 3 + t + 2 * o + i := IntWalk.i64_in _ (by omega)
  clear ho hs ht hi
  go_enter Tryd.func42, Tryd.ntmps42
  go_wp2_with fail
  have bx := Blk.new w 37 #[.int .i64 s, .int .i64 t, .int .i64 f, .int .i64 l, .int .i64 p]
  have B0 := (Below.refl w.heap.size w).alloc (Nat.le_refl _) (.cells #[.int .i64 s, .int .i64 t, .int .i64 f, .int .i64 l, .int .i64 p] 37)
  have bo := Blk.new (w.alloc (.cells #[.int .i64 s, .int .i64 t, .int .i64 f, .int .i64 l, .int .i64 p] 37)) 71 #[.int .i64 5, .int .i64 o, .int .i64 i]
  replace bx := bx.alloc (.cells #[.int .i64 5, .int .i64 o, .int .i64 i] 71)
  replace B0 := B0.alloc B0.size (.cells #[.int .i64 5, .int .i64 o, .int .i64 i] 71)
  rw [World.size_alloc] at bo
  refine (N.out _).mono ?_
  rintro e w1 ⟨rfl, hb1⟩
  replace bx := bx.below hb1 bx.lt
  replace bo := bo.below hb1 bo.lt
  replace B0 := B0.trans (hb1.mono B0.size)
  clear hb1
  have lx := bx.lt
  have lo := bo.lt
  have mx := fun i => bx.cell i
  have mo := fun i => bo.cell i
  go_wp2_with fail
  refine (W1.out _).mono ?_
  rintro e w' ⟨rfl, rfl⟩
  go_wp2_with fail
  refine (W2.out _).mono ?_
  rintro e w' ⟨rfl, rfl⟩
  go_wp2_with fail
  refine wp_region_past (by kernel_rfl) (by kernel_rfl) ?_
  repeat (quiet_step ((first | ((exact calls_past (H.out _))))))
  refine wpQuiet_nil ?_
  intro _ hw'
  obtain ⟨y, hw''⟩ := hw'
  subst hw''
  have hy := past_below w1 y
  go_wp2_with fail
  go_ret
  exact ⟨rfl, B0.trans (hy.mono B0.size)⟩
set_option maxHeartbeats 1000000 in
theorem at_zero (k o i : Int) (w : World) :
    Calls Tryd.prog 42 #[.agg #[.int .i64 0, .int .i64 0, .int .i64 0, .int .i64 0, .int .i64 0], .agg #[.int .i64 k, .int .i64 o, .int .i64 i]] w fun e w' => e = .returned (.int .i64 (-1)) ∧ Below w.heap.size w w' := by
  have N := hide none_yes
  go_enter Tryd.func42, Tryd.ntmps42
  go_wp2_with fail
  have B0 := (Below.refl w.heap.size w).alloc (Nat.le_refl _) (.cells #[.int .i64 0, .int .i64 0, .int .i64 0, .int .i64 0, .int .i64 0] 37)
  replace B0 := B0.alloc B0.size (.cells #[.int .i64 k, .int .i64 o, .int .i64 i] 71)
  refine (N.out _).mono ?_
  rintro e w1 ⟨rfl, hb1⟩
  go_wp2_with fail
  go_ret
  exact ⟨rfl, B0.trans (hb1.mono B0.size)⟩

/-- At, whatever the place. -/
theorem at_any (s t f l p k o i : Int) (w : World) (hs : 1 ≤ s ∧ s ≤ 1000) (ht : 1 ≤ t ∧ t ≤ 64) (hf : 4 ≤ f ∧ f ≤ 64) :
    Calls Tryd.prog 42 #[.agg #[.int .i64 s, .int .i64 t, .int .i64 f, .int .i64 l, .int .i64 p], .agg #[.int .i64 k, .int .i64 o, .int .i64 i]] w fun e w' => e = .returned (.int .i64 (atp s t f k o i)) ∧ Below w.heap.size w w' := by
  by_cases c1 : 1 ≤ k ∧ k ≤ 3 ∧ o = 0 ∧ i = 0
  · rw [show atp s t f k o i = k - 1 from if_pos c1]
    obtain ⟨h1, h2, rfl, rfl⟩ := c1
    have hk : k = 1 ∨ k = 2 ∨ k = 3 := by omega
    rcases hk with rfl | rfl | rfl
    · exact at_first1 s t f l p w hs.1
    · exact at_first2 s t f l p w hs.1
    · exact at_first3 s t f l p w hs.1
  by_cases c2 : k = 4 ∧ i = 0 ∧ 0 ≤ o ∧ o < t
  · rw [show atp s t f k o i = 3 + o by unfold atp; rw [if_neg c1, if_pos c2]]
    obtain ⟨rfl, rfl, h1, h2⟩ := c2
    exact at_4 s t f l p o w hs ht ⟨h1, h2⟩
  by_cases c3 : k = 5 ∧ 0 ≤ i ∧ i < 2 ∧ 0 ≤ o ∧ o < t
  · rw [show atp s t f k o i = 3 + t + 2 * o + i by unfold atp; rw [if_neg c1, if_neg c2, if_pos c3]]
    obtain ⟨rfl, h1, h2, h3, h4⟩ := c3
    exact at_5 s t f l p o i w hs ht ⟨h1, h2⟩ ⟨h3, h4⟩
  rw [show atp s t f k o i = nod s t f k o i by unfold atp; rw [if_neg c1, if_neg c2, if_neg c3]]
  by_cases hk : k < 1 ∨ 5 < k
  · exact at_node s t f l p k o i w hs ht hf hk
  have hk5 : k = 1 ∨ k = 2 ∨ k = 3 ∨ k = 4 ∨ k = 5 := by omega
  rcases hk5 with rfl | rfl | rfl | rfl | rfl
  · by_cases ho : o = 0
    · subst ho
      exact at_c1 s t f l p i w hs ht hf (by simp; omega)
    · exact at_b1 s t f l p o i w hs ht hf (by simpa using ho)
  · by_cases ho : o = 0
    · subst ho
      exact at_c2 s t f l p i w hs ht hf (by simp; omega)
    · exact at_b2 s t f l p o i w hs ht hf (by simpa using ho)
  · by_cases ho : o = 0
    · subst ho
      exact at_c3 s t f l p i w hs ht hf (by simp; omega)
    · exact at_b3 s t f l p o i w hs ht hf (by simpa using ho)
  · by_cases hi : i = 0
    · subst hi
      exact at_4o s t f l p o w hs ht hf (by omega)
    · exact at_4i s t f l p o i w hs ht hf (by simpa using hi)
  · by_cases hi : i < 0 ∨ 2 ≤ i
    · exact at_5i s t f l p o i w hs ht hf hi
    · exact at_5o s t f l p o i w hs ht hf (by omega) (by omega)
end Go.Proofs.YtgcdmgpcfdfomaaDoor
