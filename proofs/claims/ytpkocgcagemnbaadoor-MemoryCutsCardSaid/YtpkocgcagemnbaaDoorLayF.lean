/-
  Package layout: What.
-/
import Derived.Test.YtpkocgcagemnbaaDoorLay
import Derived.RegionTactic
namespace Go.Proofs.YtpkocgcagemnbaaDoor
open Go.RowKit
attribute [local go_sem] past_cell past_cell_add

set_option maxHeartbeats 1000000 in
theorem what_zero (a : Int) (w : World) :
    Calls Tryd.prog 35 #[.agg #[.int .i64 0, .int .i64 0, .int .i64 0, .int .i64 0, .int .i64 0], .int .i64 a] w fun e w' => e = .returned (.agg #[.int .i64 0, .int .i64 0, .int .i64 0]) ∧ Below w.heap.size w w' := by
  have S1 := hide size_zero
  have W1 := hide (fun w => within_f a 0 w (by omega))
  go_enter Tryd.func35, Tryd.ntmps35
  go_wp2_with fail
  have bx := Blk.new w 27 #[.int .i64 0, .int .i64 0, .int .i64 0, .int .i64 0, .int .i64 0]
  have B0 := (Below.refl w.heap.size w).alloc (Nat.le_refl _) (.cells #[.int .i64 0, .int .i64 0, .int .i64 0, .int .i64 0, .int .i64 0] 27)
  have bo := Blk.new (w.alloc (.cells #[.int .i64 0, .int .i64 0, .int .i64 0, .int .i64 0, .int .i64 0] 27)) 25 #[.int .i64 0, .int .i64 0, .int .i64 0]
  replace bx := bx.alloc (.cells #[.int .i64 0, .int .i64 0, .int .i64 0] 25)
  replace B0 := B0.alloc B0.size (.cells #[.int .i64 0, .int .i64 0, .int .i64 0] 25)
  rw [World.size_alloc] at bo
  refine (S1.out _).mono ?_
  rintro e w1 ⟨rfl, hb1⟩
  replace bx := bx.below hb1 bx.lt
  replace bo := bo.below hb1 bo.lt
  replace B0 := B0.trans (hb1.mono B0.size)
  clear hb1
  try clear mx mo zo lx lo
  have mx := fun i => bx.cell i
  have mo := fun i => bo.cell i
  have zo := fun i => bo.frozen i
  have lx := bx.lt
  have lo := bo.lt
  go_wp2_with fail
  refine (W1.out _).mono ?_
  rintro e w' ⟨rfl, rfl⟩
  go_wp2_with fail
  have b9 := ((bo.set_ 0 (.int .i64 (0))).set_ 1 (.int .i64 (0))).set_ 2 (.int .i64 (0))
  simp only [List.setIfInBounds_toArray, List.set_cons_zero, List.set_cons_succ] at b9
  have B9 := ((B0.setCell (p := ⟨w.heap.size + 1, 0, none⟩) (by show w.heap.size ≤ w.heap.size + 1; omega) (.int .i64 (0))).setCell (p := ⟨w.heap.size + 1, 1, none⟩) (by show w.heap.size ≤ w.heap.size + 1; omega) (.int .i64 (0))).setCell (p := ⟨w.heap.size + 1, 2, none⟩) (by show w.heap.size ≤ w.heap.size + 1; omega) (.int .i64 (0))
  have m9 := fun i => b9.cell i
  refine bodyPost_ret (v := .agg #[.int .i64 (0), .int .i64 (0), .int .i64 (0)]) (by simp [results, Tryd.results35, go_sem, m9]) rfl ⟨rfl, by first | exact B9 | exact B9.drew⟩
set_option maxHeartbeats 1000000 in
theorem what_out (s t f l p a : Int) (w : World) (hs : 1 ≤ s ∧ s ≤ 1000) (ht : 1 ≤ t ∧ t ≤ 64) (hf : 4 ≤ f ∧ f ≤ 64) (h : a < 0 ∨ laySize s t f ≤ a) :
    Calls Tryd.prog 35 #[.agg #[.int .i64 s, .int .i64 t, .int .i64 f, .int .i64 l, .int .i64 p], .int .i64 a] w fun e w' => e = .returned (.agg #[.int .i64 0, .int .i64 0, .int .i64 0]) ∧ Below w.heap.size w w' := by
  have S1 := hide (fun w => size_any s t f l p w hs ht hf)
  have A1 := hide (fun w => announces_any s t f l p w)
  have H1 := hide (fun w => hazards_any s t f l p w ht)
  have L1 := hide (fun w => slots_any s t f l p w ht)
  have D1 := hide (fun w => width_any s t f l p w hf)
  have z := size_pos hs ht hf
  have W1 := hide (fun w => within_f a (laySize s t f) w h)
  clear h z hs ht hf A1 H1 L1 D1
  generalize laySize s t f = R at *
  go_enter Tryd.func35, Tryd.ntmps35
  go_wp2_with fail
  have bx := Blk.new w 27 #[.int .i64 s, .int .i64 t, .int .i64 f, .int .i64 l, .int .i64 p]
  have B0 := (Below.refl w.heap.size w).alloc (Nat.le_refl _) (.cells #[.int .i64 s, .int .i64 t, .int .i64 f, .int .i64 l, .int .i64 p] 27)
  have bo := Blk.new (w.alloc (.cells #[.int .i64 s, .int .i64 t, .int .i64 f, .int .i64 l, .int .i64 p] 27)) 25 #[.int .i64 0, .int .i64 0, .int .i64 0]
  replace bx := bx.alloc (.cells #[.int .i64 0, .int .i64 0, .int .i64 0] 25)
  replace B0 := B0.alloc B0.size (.cells #[.int .i64 0, .int .i64 0, .int .i64 0] 25)
  rw [World.size_alloc] at bo
  refine (S1.out _).mono ?_
  rintro e w1 ⟨rfl, hb1⟩
  replace bx := bx.below hb1 bx.lt
  replace bo := bo.below hb1 bo.lt
  replace B0 := B0.trans (hb1.mono B0.size)
  clear hb1
  try clear mx mo zo lx lo
  have mx := fun i => bx.cell i
  have mo := fun i => bo.cell i
  have zo := fun i => bo.frozen i
  have lx := bx.lt
  have lo := bo.lt
  go_wp2_with fail
  refine (W1.out _).mono ?_
  rintro e w' ⟨rfl, rfl⟩
  go_wp2_with fail
  have b9 := ((bo.set_ 0 (.int .i64 (0))).set_ 1 (.int .i64 (0))).set_ 2 (.int .i64 (0))
  simp only [List.setIfInBounds_toArray, List.set_cons_zero, List.set_cons_succ] at b9
  have B9 := ((B0.setCell (p := ⟨w.heap.size + 1, 0, none⟩) (by show w.heap.size ≤ w.heap.size + 1; omega) (.int .i64 (0))).setCell (p := ⟨w.heap.size + 1, 1, none⟩) (by show w.heap.size ≤ w.heap.size + 1; omega) (.int .i64 (0))).setCell (p := ⟨w.heap.size + 1, 2, none⟩) (by show w.heap.size ≤ w.heap.size + 1; omega) (.int .i64 (0))
  have m9 := fun i => b9.cell i
  refine bodyPost_ret (v := .agg #[.int .i64 (0), .int .i64 (0), .int .i64 (0)]) (by simp [results, Tryd.results35, go_sem, m9]) rfl ⟨rfl, by first | exact B9 | exact B9.drew⟩
set_option maxHeartbeats 1000000 in
theorem what_3 (s t f l p a : Int) (w : World) (hs : 1 ≤ s ∧ s ≤ 1000) (ht : 1 ≤ t ∧ t ≤ 64) (hf : 4 ≤ f ∧ f ≤ 64) (h0 : 0 ≤ a) (h1 : a < 3) :
    Calls Tryd.prog 35 #[.agg #[.int .i64 s, .int .i64 t, .int .i64 f, .int .i64 l, .int .i64 p], .int .i64 a] w fun e w' => e = .returned (.agg #[.int .i64 (1 + a), .int .i64 0, .int .i64 0]) ∧ Below w.heap.size w w' := by
  have S1 := hide (fun w => size_any s t f l p w hs ht hf)
  have A1 := hide (fun w => announces_any s t f l p w)
  have H1 := hide (fun w => hazards_any s t f l p w ht)
  have L1 := hide (fun w => slots_any s t f l p w ht)
  have D1 := hide (fun w => width_any s t f l p w hf)
  have z := size_pos hs ht hf
  have W1 := hide (fun w => within_t (a) (laySize s t f) w (by omega) (by omega))
  clear z hs ht hf H1 L1 D1
  generalize laySize s t f = R at *
  go_enter Tryd.func35, Tryd.ntmps35
  go_wp2_with fail
  have bx := Blk.new w 27 #[.int .i64 s, .int .i64 t, .int .i64 f, .int .i64 l, .int .i64 p]
  have B0 := (Below.refl w.heap.size w).alloc (Nat.le_refl _) (.cells #[.int .i64 s, .int .i64 t, .int .i64 f, .int .i64 l, .int .i64 p] 27)
  have bo := Blk.new (w.alloc (.cells #[.int .i64 s, .int .i64 t, .int .i64 f, .int .i64 l, .int .i64 p] 27)) 25 #[.int .i64 0, .int .i64 0, .int .i64 0]
  replace bx := bx.alloc (.cells #[.int .i64 0, .int .i64 0, .int .i64 0] 25)
  replace B0 := B0.alloc B0.size (.cells #[.int .i64 0, .int .i64 0, .int .i64 0] 25)
  rw [World.size_alloc] at bo
  refine (S1.out _).mono ?_
  rintro e w1 ⟨rfl, hb1⟩
  replace bx := bx.below hb1 bx.lt
  replace bo := bo.below hb1 bo.lt
  replace B0 := B0.trans (hb1.mono B0.size)
  clear hb1
  try clear mx mo zo lx lo
  have mx := fun i => bx.cell i
  have mo := fun i => bo.cell i
  have zo := fun i => bo.frozen i
  have lx := bx.lt
  have lo := bo.lt
  go_wp2_with fail
  refine (W1.out _).mono ?_
  rintro e w' ⟨rfl, rfl⟩
  go_wp2_with fail
  refine (A1.out _).mono ?_
  rintro e w2 ⟨rfl, hb1⟩
  replace bx := bx.below hb1 bx.lt
  replace bo := bo.below hb1 bo.lt
  replace B0 := B0.trans (hb1.mono B0.size)
  clear hb1
  try clear mx mo zo lx lo
  have mx := fun i => bx.cell i
  have mo := fun i => bo.cell i
  have zo := fun i => bo.frozen i
  have lx := bx.lt
  have lo := bo.lt
  go_wp2_with fail
  have b9 := ((bo.set_ 0 (.int .i64 (1 + a))).set_ 1 (.int .i64 (0))).set_ 2 (.int .i64 (0))
  simp only [List.setIfInBounds_toArray, List.set_cons_zero, List.set_cons_succ] at b9
  have B9 := ((B0.setCell (p := ⟨w.heap.size + 1, 0, none⟩) (by show w.heap.size ≤ w.heap.size + 1; omega) (.int .i64 (1 + a))).setCell (p := ⟨w.heap.size + 1, 1, none⟩) (by show w.heap.size ≤ w.heap.size + 1; omega) (.int .i64 (0))).setCell (p := ⟨w.heap.size + 1, 2, none⟩) (by show w.heap.size ≤ w.heap.size + 1; omega) (.int .i64 (0))
  have m9 := fun i => b9.cell i
  refine bodyPost_ret (v := .agg #[.int .i64 (1 + a), .int .i64 (0), .int .i64 (0)]) (by simp [results, Tryd.results35, go_sem, m9]) rfl ⟨rfl, by first | exact B9 | exact B9.drew⟩
set_option maxHeartbeats 1000000 in
theorem what_4 (s t f l p d : Int) (w : World) (hs : 1 ≤ s ∧ s ≤ 1000) (ht : 1 ≤ t ∧ t ≤ 64) (hf : 4 ≤ f ∧ f ≤ 64) (h0 : 0 ≤ d) (h1 : d < t) :
    Calls Tryd.prog 35 #[.agg #[.int .i64 s, .int .i64 t, .int .i64 f, .int .i64 l, .int .i64 p], .int .i64 (3 + d)] w fun e w' => e = .returned (.agg #[.int .i64 4, .int .i64 d, .int .i64 0]) ∧ Below w.heap.size w w' := by
  have S1 := hide (fun w => size_any s t f l p w hs ht hf)
  have A1 := hide (fun w => announces_any s t f l p w)
  have H1 := hide (fun w => hazards_any s t f l p w ht)
  have L1 := hide (fun w => slots_any s t f l p w ht)
  have D1 := hide (fun w => width_any s t f l p w hf)
  have z := size_pos hs ht hf
  have W1 := hide (fun w => within_t (3 + d) (laySize s t f) w (by omega) (by omega))
  have ht2 : t ≤ 64 := ht.2
  have q : 3 + d - 3 = d := by omega
  clear z hs ht hf L1 D1
  generalize laySize s t f = R at *
  go_enter Tryd.func35, Tryd.ntmps35
  go_wp2_with fail
  have bx := Blk.new w 27 #[.int .i64 s, .int .i64 t, .int .i64 f, .int .i64 l, .int .i64 p]
  have B0 := (Below.refl w.heap.size w).alloc (Nat.le_refl _) (.cells #[.int .i64 s, .int .i64 t, .int .i64 f, .int .i64 l, .int .i64 p] 27)
  have bo := Blk.new (w.alloc (.cells #[.int .i64 s, .int .i64 t, .int .i64 f, .int .i64 l, .int .i64 p] 27)) 25 #[.int .i64 0, .int .i64 0, .int .i64 0]
  replace bx := bx.alloc (.cells #[.int .i64 0, .int .i64 0, .int .i64 0] 25)
  replace B0 := B0.alloc B0.size (.cells #[.int .i64 0, .int .i64 0, .int .i64 0] 25)
  rw [World.size_alloc] at bo
  refine (S1.out _).mono ?_
  rintro e w1 ⟨rfl, hb1⟩
  replace bx := bx.below hb1 bx.lt
  replace bo := bo.below hb1 bo.lt
  replace B0 := B0.trans (hb1.mono B0.size)
  clear hb1
  try clear mx mo zo lx lo
  have mx := fun i => bx.cell i
  have mo := fun i => bo.cell i
  have zo := fun i => bo.frozen i
  have lx := bx.lt
  have lo := bo.lt
  go_wp2_with fail
  refine (W1.out _).mono ?_
  rintro e w' ⟨rfl, rfl⟩
  go_wp2_with fail
  refine (A1.out _).mono ?_
  rintro e w2 ⟨rfl, hb1⟩
  replace bx := bx.below hb1 bx.lt
  replace bo := bo.below hb1 bo.lt
  replace B0 := B0.trans (hb1.mono B0.size)
  clear hb1
  try clear mx mo zo lx lo
  have mx := fun i => bx.cell i
  have mo := fun i => bo.cell i
  have zo := fun i => bo.frozen i
  have lx := bx.lt
  have lo := bo.lt
  go_wp2_with fail
  refine (H1.out _).mono ?_
  rintro e w3 ⟨rfl, hb1⟩
  replace bx := bx.below hb1 bx.lt
  replace bo := bo.below hb1 bo.lt
  replace B0 := B0.trans (hb1.mono B0.size)
  clear hb1
  try clear mx mo zo lx lo
  have mx := fun i => bx.cell i
  have mo := fun i => bo.cell i
  have zo := fun i => bo.frozen i
  have lx := bx.lt
  have lo := bo.lt
  go_wp2_with fail
  refine (A1.out _).mono ?_
  rintro e w4 ⟨rfl, hb1⟩
  replace bx := bx.below hb1 bx.lt
  replace bo := bo.below hb1 bo.lt
  replace B0 := B0.trans (hb1.mono B0.size)
  clear hb1
  try clear mx mo zo lx lo
  have mx := fun i => bx.cell i
  have mo := fun i => bo.cell i
  have zo := fun i => bo.frozen i
  have lx := bx.lt
  have lo := bo.lt
  go_wp2_with fail
  have b9 := ((bo.set_ 0 (.int .i64 (4))).set_ 1 (.int .i64 (d))).set_ 2 (.int .i64 (0))
  simp only [List.setIfInBounds_toArray, List.set_cons_zero, List.set_cons_succ] at b9
  have B9 := ((B0.setCell (p := ⟨w.heap.size + 1, 0, none⟩) (by show w.heap.size ≤ w.heap.size + 1; omega) (.int .i64 (4))).setCell (p := ⟨w.heap.size + 1, 1, none⟩) (by show w.heap.size ≤ w.heap.size + 1; omega) (.int .i64 (d))).setCell (p := ⟨w.heap.size + 1, 2, none⟩) (by show w.heap.size ≤ w.heap.size + 1; omega) (.int .i64 (0))
  have m9 := fun i => b9.cell i
  refine bodyPost_ret (v := .agg #[.int .i64 (4), .int .i64 (d), .int .i64 (0)]) (by simp [results, Tryd.results35, go_sem, m9]) rfl ⟨rfl, by first | exact B9 | exact B9.drew⟩
set_option maxHeartbeats 1000000 in
theorem what_5 (s t f l p d : Int) (w : World) (hs : 1 ≤ s ∧ s ≤ 1000) (ht : 1 ≤ t ∧ t ≤ 64) (hf : 4 ≤ f ∧ f ≤ 64) (h0 : 0 ≤ d) (h1 : d < 2 * t) :
    Calls Tryd.prog 35 #[.agg #[.int .i64 s, .int .i64 t, .int .i64 f, .int .i64 l, .int .i64 p], .int .i64 (3 + t + d)] w fun e w' => e = .returned (.agg #[.int .i64 5, .int .i64 (d / 2), .int .i64 (d % 2)]) ∧ Below w.heap.size w w' := by
  have S1 := hide (fun w => size_any s t f l p w hs ht hf)
  have A1 := hide (fun w => announces_any s t f l p w)
  have H1 := hide (fun w => hazards_any s t f l p w ht)
  have L1 := hide (fun w => slots_any s t f l p w ht)
  have D1 := hide (fun w => width_any s t f l p w hf)
  have z := size_pos hs ht hf
  have W1 := hide (fun w => within_t (3 + t + d) (laySize s t f) w (by omega) (by omega))
  have ht2 : t ≤ 64 := ht.2
  have ht1 : 1 ≤ t := ht.1
  have q : 3 + t + d - (3 + t) = d := by omega
  clear z hs ht hf D1
  generalize laySize s t f = R at *
  go_enter Tryd.func35, Tryd.ntmps35
  go_wp2_with fail
  have bx := Blk.new w 27 #[.int .i64 s, .int .i64 t, .int .i64 f, .int .i64 l, .int .i64 p]
  have B0 := (Below.refl w.heap.size w).alloc (Nat.le_refl _) (.cells #[.int .i64 s, .int .i64 t, .int .i64 f, .int .i64 l, .int .i64 p] 27)
  have bo := Blk.new (w.alloc (.cells #[.int .i64 s, .int .i64 t, .int .i64 f, .int .i64 l, .int .i64 p] 27)) 25 #[.int .i64 0, .int .i64 0, .int .i64 0]
  replace bx := bx.alloc (.cells #[.int .i64 0, .int .i64 0, .int .i64 0] 25)
  replace B0 := B0.alloc B0.size (.cells #[.int .i64 0, .int .i64 0, .int .i64 0] 25)
  rw [World.size_alloc] at bo
  refine (S1.out _).mono ?_
  rintro e w1 ⟨rfl, hb1⟩
  replace bx := bx.below hb1 bx.lt
  replace bo := bo.below hb1 bo.lt
  replace B0 := B0.trans (hb1.mono B0.size)
  clear hb1
  try clear mx mo zo lx lo
  have mx := fun i => bx.cell i
  have mo := fun i => bo.cell i
  have zo := fun i => bo.frozen i
  have lx := bx.lt
  have lo := bo.lt
  go_wp2_with fail
  refine (W1.out _).mono ?_
  rintro e w' ⟨rfl, rfl⟩
  go_wp2_with fail
  refine (A1.out _).mono ?_
  rintro e w2 ⟨rfl, hb1⟩
  replace bx := bx.below hb1 bx.lt
  replace bo := bo.below hb1 bo.lt
  replace B0 := B0.trans (hb1.mono B0.size)
  clear hb1
  try clear mx mo zo lx lo
  have mx := fun i => bx.cell i
  have mo := fun i => bo.cell i
  have zo := fun i => bo.frozen i
  have lx := bx.lt
  have lo := bo.lt
  go_wp2_with fail
  refine (H1.out _).mono ?_
  rintro e w3 ⟨rfl, hb1⟩
  replace bx := bx.below hb1 bx.lt
  replace bo := bo.below hb1 bo.lt
  replace B0 := B0.trans (hb1.mono B0.size)
  clear hb1
  try clear mx mo zo lx lo
  have mx := fun i => bx.cell i
  have mo := fun i => bo.cell i
  have zo := fun i => bo.frozen i
  have lx := bx.lt
  have lo := bo.lt
  go_wp2_with fail
  refine (L1.out _).mono ?_
  rintro e w4 ⟨rfl, hb1⟩
  replace bx := bx.below hb1 bx.lt
  replace bo := bo.below hb1 bo.lt
  replace B0 := B0.trans (hb1.mono B0.size)
  clear hb1
  try clear mx mo zo lx lo
  have mx := fun i => bx.cell i
  have mo := fun i => bo.cell i
  have zo := fun i => bo.frozen i
  have lx := bx.lt
  have lo := bo.lt
  go_wp2_with fail
  refine (H1.out _).mono ?_
  rintro e w5 ⟨rfl, hb1⟩
  replace bx := bx.below hb1 bx.lt
  replace bo := bo.below hb1 bo.lt
  replace B0 := B0.trans (hb1.mono B0.size)
  clear hb1
  try clear mx mo zo lx lo
  have mx := fun i => bx.cell i
  have mo := fun i => bo.cell i
  have zo := fun i => bo.frozen i
  have lx := bx.lt
  have lo := bo.lt
  go_wp2_with fail
  have b9 := ((bo.set_ 0 (.int .i64 (5))).set_ 1 (.int .i64 (d / 2))).set_ 2 (.int .i64 (d % 2))
  simp only [List.setIfInBounds_toArray, List.set_cons_zero, List.set_cons_succ] at b9
  have B9 := ((B0.setCell (p := ⟨w.heap.size + 1, 0, none⟩) (by show w.heap.size ≤ w.heap.size + 1; omega) (.int .i64 (5))).setCell (p := ⟨w.heap.size + 1, 1, none⟩) (by show w.heap.size ≤ w.heap.size + 1; omega) (.int .i64 (d / 2))).setCell (p := ⟨w.heap.size + 1, 2, none⟩) (by show w.heap.size ≤ w.heap.size + 1; omega) (.int .i64 (d % 2))
  have m9 := fun i => b9.cell i
  refine bodyPost_ret (v := .agg #[.int .i64 (5), .int .i64 (d / 2), .int .i64 (d % 2)]) (by simp [results, Tryd.results35, go_sem, m9]) rfl ⟨rfl, by first | exact B9 | exact B9.drew⟩
set_option maxHeartbeats 2000000 in
theorem what_6 (s t f l p m : Int) (w : World) (hs : 1 ≤ s ∧ s ≤ 1000) (ht : 1 ≤ t ∧ t ≤ 64) (hf : 4 ≤ f ∧ f ≤ 64) (h0 : 0 ≤ m) (h1 : m < (s + 1) * (3 + 2 * f)) (hm : m % (3 + 2 * f) < 3) :
    Calls Tryd.prog 35 #[.agg #[.int .i64 s, .int .i64 t, .int .i64 f, .int .i64 l, .int .i64 p], .int .i64 (3 + 3 * t + m)] w fun e w' => e = .returned (.agg #[.int .i64 (6 + m % (3 + 2 * f)), .int .i64 (m / (3 + 2 * f)), .int .i64 (0)]) ∧ Below w.heap.size w w' := by
  have S1 := hide (fun w => size_any s t f l p w hs ht hf)
  have A1 := hide (fun w => announces_any s t f l p w)
  have H1 := hide (fun w => hazards_any s t f l p w ht)
  have L1 := hide (fun w => slots_any s t f l p w ht)
  have D1 := hide (fun w => width_any s t f l p w hf)
  have z := size_pos hs ht hf
  have hz : 3 + 3 * t + m < laySize s t f := by unfold laySize; omega
  have W1 := hide (fun w => within_t (3 + 3 * t + m) (laySize s t f) w (by omega) (by omega))
  have hR2 : 3 + 3 * t + m ≤ 200000 := by omega
  have ht2 : t ≤ 64 := ht.2
  have ht1 : 1 ≤ t := ht.1
  have f1 : 4 ≤ f := hf.1
  have f2 : f ≤ 64 := hf.2
  have q0 : 0 ≤ m % (3 + 2 * f) := Int.emod_nonneg _ (by omega)
  have q1 : m % (3 + 2 * f) < 3 + 2 * f := Int.emod_lt_of_pos _ (by omega)
  have q2 : 0 ≤ m / (3 + 2 * f) := Int.ediv_nonneg h0 (by omega)
  have q3 : m / (3 + 2 * f) ≤ m := Int.ediv_le_self _ h0
  have q4 : m.tdiv (3 + 2 * f) = m / (3 + 2 * f) := Int.tdiv_eq_ediv_of_nonneg h0
  have q5 : m.tmod (3 + 2 * f) = m % (3 + 2 * f) := Int.tmod_eq_emod_of_nonneg h0
  have q6 : (3 + 2 * f == 0) = false := by rw [beq_eq_false_iff_ne]; omega
  have q7 : ¬ (3 + 2 * f = 0) := by omega
  have q8 : 3 + 3 * t + m - (3 + 3 * t) = m := by omega
  skip
  clear z hz hs ht hf h1
  generalize laySize s t f = R at *
  generalize m % (3 + 2 * f) = j at *
  generalize m / (3 + 2 * f) = o at *
  go_enter Tryd.func35, Tryd.ntmps35
  go_wp2_with fail
  have bx := Blk.new w 27 #[.int .i64 s, .int .i64 t, .int .i64 f, .int .i64 l, .int .i64 p]
  have B0 := (Below.refl w.heap.size w).alloc (Nat.le_refl _) (.cells #[.int .i64 s, .int .i64 t, .int .i64 f, .int .i64 l, .int .i64 p] 27)
  have bo := Blk.new (w.alloc (.cells #[.int .i64 s, .int .i64 t, .int .i64 f, .int .i64 l, .int .i64 p] 27)) 25 #[.int .i64 0, .int .i64 0, .int .i64 0]
  replace bx := bx.alloc (.cells #[.int .i64 0, .int .i64 0, .int .i64 0] 25)
  replace B0 := B0.alloc B0.size (.cells #[.int .i64 0, .int .i64 0, .int .i64 0] 25)
  rw [World.size_alloc] at bo
  refine (S1.out _).mono ?_
  rintro e w1 ⟨rfl, hb1⟩
  replace bx := bx.below hb1 bx.lt
  replace bo := bo.below hb1 bo.lt
  replace B0 := B0.trans (hb1.mono B0.size)
  clear hb1
  try clear mx mo zo lx lo
  have mx := fun i => bx.cell i
  have mo := fun i => bo.cell i
  have zo := fun i => bo.frozen i
  have lx := bx.lt
  have lo := bo.lt
  go_wp2_with fail
  refine (W1.out _).mono ?_
  rintro e w' ⟨rfl, rfl⟩
  go_wp2_with fail
  refine (A1.out _).mono ?_
  rintro e w2 ⟨rfl, hb1⟩
  replace bx := bx.below hb1 bx.lt
  replace bo := bo.below hb1 bo.lt
  replace B0 := B0.trans (hb1.mono B0.size)
  clear hb1
  try clear mx mo zo lx lo
  have mx := fun i => bx.cell i
  have mo := fun i => bo.cell i
  have zo := fun i => bo.frozen i
  have lx := bx.lt
  have lo := bo.lt
  go_wp2_with fail
  refine (H1.out _).mono ?_
  rintro e w3 ⟨rfl, hb1⟩
  replace bx := bx.below hb1 bx.lt
  replace bo := bo.below hb1 bo.lt
  replace B0 := B0.trans (hb1.mono B0.size)
  clear hb1
  try clear mx mo zo lx lo
  have mx := fun i => bx.cell i
  have mo := fun i => bo.cell i
  have zo := fun i => bo.frozen i
  have lx := bx.lt
  have lo := bo.lt
  go_wp2_with fail
  refine (L1.out _).mono ?_
  rintro e w4 ⟨rfl, hb1⟩
  replace bx := bx.below hb1 bx.lt
  replace bo := bo.below hb1 bo.lt
  replace B0 := B0.trans (hb1.mono B0.size)
  clear hb1
  try clear mx mo zo lx lo
  have mx := fun i => bx.cell i
  have mo := fun i => bo.cell i
  have zo := fun i => bo.frozen i
  have lx := bx.lt
  have lo := bo.lt
  go_wp2_with fail
  refine (L1.out _).mono ?_
  rintro e w5 ⟨rfl, hb1⟩
  replace bx := bx.below hb1 bx.lt
  replace bo := bo.below hb1 bo.lt
  replace B0 := B0.trans (hb1.mono B0.size)
  clear hb1
  try clear mx mo zo lx lo
  have mx := fun i => bx.cell i
  have mo := fun i => bo.cell i
  have zo := fun i => bo.frozen i
  have lx := bx.lt
  have lo := bo.lt
  go_wp2_with fail
  refine (D1.out _).mono ?_
  rintro e w6 ⟨rfl, hb1⟩
  replace bx := bx.below hb1 bx.lt
  replace bo := bo.below hb1 bo.lt
  replace B0 := B0.trans (hb1.mono B0.size)
  clear hb1
  try clear mx mo zo lx lo
  have mx := fun i => bx.cell i
  have mo := fun i => bo.cell i
  have zo := fun i => bo.frozen i
  have lx := bx.lt
  have lo := bo.lt
  go_wp2_with fail
  have by_ := Blk.new w6 25 #[.int .i64 0, .int .i64 o, .int .i64 0]
  have lo6 : w.heap.size + 1 < w6.heap.size := bo.lt
  have lx6 : w.heap.size < w6.heap.size := bx.lt
  replace bx := bx.alloc (.cells #[.int .i64 0, .int .i64 o, .int .i64 0] 25)
  replace bo := bo.alloc (.cells #[.int .i64 0, .int .i64 o, .int .i64 0] 25)
  replace B0 := B0.alloc B0.size (.cells #[.int .i64 0, .int .i64 o, .int .i64 0] 25)
  refine (D1.out _).mono ?_
  rintro e w7 ⟨rfl, hb1⟩
  replace bx := bx.below hb1 bx.lt
  replace bo := bo.below hb1 bo.lt
  replace by_ := by_.below hb1 by_.lt
  replace B0 := B0.trans (hb1.mono B0.size)
  clear hb1
  try clear mx mo zo lx lo
  have mx := fun i => bx.cell i
  have mo := fun i => bo.cell i
  have zo := fun i => bo.frozen i
  have my := fun i => by_.cell i
  have zy := fun i => by_.frozen i
  have ly := by_.lt
  go_wp2_with fail
  skip
  replace bo := bo.far (p := ⟨w6.heap.size, 0, none⟩) (by show w.heap.size + 1 ≠ w6.heap.size; omega) (.int .i64 (6 + j))
  replace B0 := B0.setCell (p := ⟨w6.heap.size, 0, none⟩) (by show w.heap.size ≤ w6.heap.size; omega) (.int .i64 (6 + j))
  skip
  have b9 := ((bo.set_ 0 (.int .i64 (6 + j))).set_ 1 (.int .i64 (o))).set_ 2 (.int .i64 (0))
  simp only [List.setIfInBounds_toArray, List.set_cons_zero, List.set_cons_succ] at b9
  have B9 := ((B0.setCell (p := ⟨w.heap.size + 1, 0, none⟩) (by show w.heap.size ≤ w.heap.size + 1; omega) (.int .i64 (6 + j))).setCell (p := ⟨w.heap.size + 1, 1, none⟩) (by show w.heap.size ≤ w.heap.size + 1; omega) (.int .i64 (o))).setCell (p := ⟨w.heap.size + 1, 2, none⟩) (by show w.heap.size ≤ w.heap.size + 1; omega) (.int .i64 (0))
  have m9 := fun i => b9.cell i
  refine bodyPost_ret (v := .agg #[.int .i64 (6 + j), .int .i64 (o), .int .i64 (0)]) (by simp [results, Tryd.results35, go_sem, m9]) rfl ⟨rfl, by first | exact B9 | exact B9.drew⟩
set_option maxHeartbeats 2000000 in
theorem what_9 (s t f l p m : Int) (w : World) (hs : 1 ≤ s ∧ s ≤ 1000) (ht : 1 ≤ t ∧ t ≤ 64) (hf : 4 ≤ f ∧ f ≤ 64) (h0 : 0 ≤ m) (h1 : m < (s + 1) * (3 + 2 * f)) (hm : 3 ≤ m % (3 + 2 * f) ∧ m % (3 + 2 * f) < 3 + f) :
    Calls Tryd.prog 35 #[.agg #[.int .i64 s, .int .i64 t, .int .i64 f, .int .i64 l, .int .i64 p], .int .i64 (3 + 3 * t + m)] w fun e w' => e = .returned (.agg #[.int .i64 (9), .int .i64 (m / (3 + 2 * f)), .int .i64 (m % (3 + 2 * f) - 3)]) ∧ Below w.heap.size w w' := by
  have S1 := hide (fun w => size_any s t f l p w hs ht hf)
  have A1 := hide (fun w => announces_any s t f l p w)
  have H1 := hide (fun w => hazards_any s t f l p w ht)
  have L1 := hide (fun w => slots_any s t f l p w ht)
  have D1 := hide (fun w => width_any s t f l p w hf)
  have z := size_pos hs ht hf
  have hz : 3 + 3 * t + m < laySize s t f := by unfold laySize; omega
  have W1 := hide (fun w => within_t (3 + 3 * t + m) (laySize s t f) w (by omega) (by omega))
  have hR2 : 3 + 3 * t + m ≤ 200000 := by omega
  have ht2 : t ≤ 64 := ht.2
  have ht1 : 1 ≤ t := ht.1
  have f1 : 4 ≤ f := hf.1
  have f2 : f ≤ 64 := hf.2
  have q0 : 0 ≤ m % (3 + 2 * f) := Int.emod_nonneg _ (by omega)
  have q1 : m % (3 + 2 * f) < 3 + 2 * f := Int.emod_lt_of_pos _ (by omega)
  have q2 : 0 ≤ m / (3 + 2 * f) := Int.ediv_nonneg h0 (by omega)
  have q3 : m / (3 + 2 * f) ≤ m := Int.ediv_le_self _ h0
  have q4 : m.tdiv (3 + 2 * f) = m / (3 + 2 * f) := Int.tdiv_eq_ediv_of_nonneg h0
  have q5 : m.tmod (3 + 2 * f) = m % (3 + 2 * f) := Int.tmod_eq_emod_of_nonneg h0
  have q6 : (3 + 2 * f == 0) = false := by rw [beq_eq_false_iff_ne]; omega
  have q7 : ¬ (3 + 2 * f = 0) := by omega
  have q8 : 3 + 3 * t + m - (3 + 3 * t) = m := by omega
  skip
  clear z hz hs ht hf h1
  generalize laySize s t f = R at *
  generalize m % (3 + 2 * f) = j at *
  generalize m / (3 + 2 * f) = o at *
  go_enter Tryd.func35, Tryd.ntmps35
  go_wp2_with fail
  have bx := Blk.new w 27 #[.int .i64 s, .int .i64 t, .int .i64 f, .int .i64 l, .int .i64 p]
  have B0 := (Below.refl w.heap.size w).alloc (Nat.le_refl _) (.cells #[.int .i64 s, .int .i64 t, .int .i64 f, .int .i64 l, .int .i64 p] 27)
  have bo := Blk.new (w.alloc (.cells #[.int .i64 s, .int .i64 t, .int .i64 f, .int .i64 l, .int .i64 p] 27)) 25 #[.int .i64 0, .int .i64 0, .int .i64 0]
  replace bx := bx.alloc (.cells #[.int .i64 0, .int .i64 0, .int .i64 0] 25)
  replace B0 := B0.alloc B0.size (.cells #[.int .i64 0, .int .i64 0, .int .i64 0] 25)
  rw [World.size_alloc] at bo
  refine (S1.out _).mono ?_
  rintro e w1 ⟨rfl, hb1⟩
  replace bx := bx.below hb1 bx.lt
  replace bo := bo.below hb1 bo.lt
  replace B0 := B0.trans (hb1.mono B0.size)
  clear hb1
  try clear mx mo zo lx lo
  have mx := fun i => bx.cell i
  have mo := fun i => bo.cell i
  have zo := fun i => bo.frozen i
  have lx := bx.lt
  have lo := bo.lt
  go_wp2_with fail
  refine (W1.out _).mono ?_
  rintro e w' ⟨rfl, rfl⟩
  go_wp2_with fail
  refine (A1.out _).mono ?_
  rintro e w2 ⟨rfl, hb1⟩
  replace bx := bx.below hb1 bx.lt
  replace bo := bo.below hb1 bo.lt
  replace B0 := B0.trans (hb1.mono B0.size)
  clear hb1
  try clear mx mo zo lx lo
  have mx := fun i => bx.cell i
  have mo := fun i => bo.cell i
  have zo := fun i => bo.frozen i
  have lx := bx.lt
  have lo := bo.lt
  go_wp2_with fail
  refine (H1.out _).mono ?_
  rintro e w3 ⟨rfl, hb1⟩
  replace bx := bx.below hb1 bx.lt
  replace bo := bo.below hb1 bo.lt
  replace B0 := B0.trans (hb1.mono B0.size)
  clear hb1
  try clear mx mo zo lx lo
  have mx := fun i => bx.cell i
  have mo := fun i => bo.cell i
  have zo := fun i => bo.frozen i
  have lx := bx.lt
  have lo := bo.lt
  go_wp2_with fail
  refine (L1.out _).mono ?_
  rintro e w4 ⟨rfl, hb1⟩
  replace bx := bx.below hb1 bx.lt
  replace bo := bo.below hb1 bo.lt
  replace B0 := B0.trans (hb1.mono B0.size)
  clear hb1
  try clear mx mo zo lx lo
  have mx := fun i => bx.cell i
  have mo := fun i => bo.cell i
  have zo := fun i => bo.frozen i
  have lx := bx.lt
  have lo := bo.lt
  go_wp2_with fail
  refine (L1.out _).mono ?_
  rintro e w5 ⟨rfl, hb1⟩
  replace bx := bx.below hb1 bx.lt
  replace bo := bo.below hb1 bo.lt
  replace B0 := B0.trans (hb1.mono B0.size)
  clear hb1
  try clear mx mo zo lx lo
  have mx := fun i => bx.cell i
  have mo := fun i => bo.cell i
  have zo := fun i => bo.frozen i
  have lx := bx.lt
  have lo := bo.lt
  go_wp2_with fail
  refine (D1.out _).mono ?_
  rintro e w6 ⟨rfl, hb1⟩
  replace bx := bx.below hb1 bx.lt
  replace bo := bo.below hb1 bo.lt
  replace B0 := B0.trans (hb1.mono B0.size)
  clear hb1
  try clear mx mo zo lx lo
  have mx := fun i => bx.cell i
  have mo := fun i => bo.cell i
  have zo := fun i => bo.frozen i
  have lx := bx.lt
  have lo := bo.lt
  go_wp2_with fail
  have by_ := Blk.new w6 25 #[.int .i64 0, .int .i64 o, .int .i64 0]
  have lo6 : w.heap.size + 1 < w6.heap.size := bo.lt
  have lx6 : w.heap.size < w6.heap.size := bx.lt
  replace bx := bx.alloc (.cells #[.int .i64 0, .int .i64 o, .int .i64 0] 25)
  replace bo := bo.alloc (.cells #[.int .i64 0, .int .i64 o, .int .i64 0] 25)
  replace B0 := B0.alloc B0.size (.cells #[.int .i64 0, .int .i64 o, .int .i64 0] 25)
  refine (D1.out _).mono ?_
  rintro e w7 ⟨rfl, hb1⟩
  replace bx := bx.below hb1 bx.lt
  replace bo := bo.below hb1 bo.lt
  replace by_ := by_.below hb1 by_.lt
  replace B0 := B0.trans (hb1.mono B0.size)
  clear hb1
  try clear mx mo zo lx lo
  have mx := fun i => bx.cell i
  have mo := fun i => bo.cell i
  have zo := fun i => bo.frozen i
  have my := fun i => by_.cell i
  have zy := fun i => by_.frozen i
  have ly := by_.lt
  go_wp2_with fail
  skip
  replace bo := bo.far (p := ⟨w6.heap.size, 0, none⟩) (by show w.heap.size + 1 ≠ w6.heap.size; omega) (.int .i64 (9))
  replace B0 := B0.setCell (p := ⟨w6.heap.size, 0, none⟩) (by show w.heap.size ≤ w6.heap.size; omega) (.int .i64 (9))
  replace bo := bo.far (p := ⟨w6.heap.size, 2, none⟩) (by show w.heap.size + 1 ≠ w6.heap.size; omega) (.int .i64 (j - 3)); replace B0 := B0.setCell (p := ⟨w6.heap.size, 2, none⟩) (by show w.heap.size ≤ w6.heap.size; omega) (.int .i64 (j - 3))
  have b9 := ((bo.set_ 0 (.int .i64 (9))).set_ 1 (.int .i64 (o))).set_ 2 (.int .i64 (j - 3))
  simp only [List.setIfInBounds_toArray, List.set_cons_zero, List.set_cons_succ] at b9
  have B9 := ((B0.setCell (p := ⟨w.heap.size + 1, 0, none⟩) (by show w.heap.size ≤ w.heap.size + 1; omega) (.int .i64 (9))).setCell (p := ⟨w.heap.size + 1, 1, none⟩) (by show w.heap.size ≤ w.heap.size + 1; omega) (.int .i64 (o))).setCell (p := ⟨w.heap.size + 1, 2, none⟩) (by show w.heap.size ≤ w.heap.size + 1; omega) (.int .i64 (j - 3))
  have m9 := fun i => b9.cell i
  refine bodyPost_ret (v := .agg #[.int .i64 (9), .int .i64 (o), .int .i64 (j - 3)]) (by simp [results, Tryd.results35, go_sem, m9]) rfl ⟨rfl, by first | exact B9 | exact B9.drew⟩
set_option maxHeartbeats 2000000 in
theorem what_10 (s t f l p m : Int) (w : World) (hs : 1 ≤ s ∧ s ≤ 1000) (ht : 1 ≤ t ∧ t ≤ 64) (hf : 4 ≤ f ∧ f ≤ 64) (h0 : 0 ≤ m) (h1 : m < (s + 1) * (3 + 2 * f)) (hm : 3 + f ≤ m % (3 + 2 * f)) :
    Calls Tryd.prog 35 #[.agg #[.int .i64 s, .int .i64 t, .int .i64 f, .int .i64 l, .int .i64 p], .int .i64 (3 + 3 * t + m)] w fun e w' => e = .returned (.agg #[.int .i64 (10), .int .i64 (m / (3 + 2 * f)), .int .i64 (m % (3 + 2 * f) - 3 - f)]) ∧ Below w.heap.size w w' := by
  have S1 := hide (fun w => size_any s t f l p w hs ht hf)
  have A1 := hide (fun w => announces_any s t f l p w)
  have H1 := hide (fun w => hazards_any s t f l p w ht)
  have L1 := hide (fun w => slots_any s t f l p w ht)
  have D1 := hide (fun w => width_any s t f l p w hf)
  have z := size_pos hs ht hf
  have hz : 3 + 3 * t + m < laySize s t f := by unfold laySize; omega
  have W1 := hide (fun w => within_t (3 + 3 * t + m) (laySize s t f) w (by omega) (by omega))
  have hR2 : 3 + 3 * t + m ≤ 200000 := by omega
  have ht2 : t ≤ 64 := ht.2
  have ht1 : 1 ≤ t := ht.1
  have f1 : 4 ≤ f := hf.1
  have f2 : f ≤ 64 := hf.2
  have q0 : 0 ≤ m % (3 + 2 * f) := Int.emod_nonneg _ (by omega)
  have q1 : m % (3 + 2 * f) < 3 + 2 * f := Int.emod_lt_of_pos _ (by omega)
  have q2 : 0 ≤ m / (3 + 2 * f) := Int.ediv_nonneg h0 (by omega)
  have q3 : m / (3 + 2 * f) ≤ m := Int.ediv_le_self _ h0
  have q4 : m.tdiv (3 + 2 * f) = m / (3 + 2 * f) := Int.tdiv_eq_ediv_of_nonneg h0
  have q5 : m.tmod (3 + 2 * f) = m % (3 + 2 * f) := Int.tmod_eq_emod_of_nonneg h0
  have q6 : (3 + 2 * f == 0) = false := by rw [beq_eq_false_iff_ne]; omega
  have q7 : ¬ (3 + 2 * f = 0) := by omega
  have q8 : 3 + 3 * t + m - (3 + 3 * t) = m := by omega
  have k1 : IntKind.i64.wrap (m % (3 + 2 * f) - 3) = m % (3 + 2 * f) - 3 := IntWalk.i64_in _ (by omega); have k2 : IntKind.i64.wrap (m % (3 + 2 * f) - 3 - f) = m % (3 + 2 * f) - 3 - f := IntWalk.i64_in _ (by omega)
  clear z hz hs ht hf h1
  generalize laySize s t f = R at *
  generalize m % (3 + 2 * f) = j at *
  generalize m / (3 + 2 * f) = o at *
  go_enter Tryd.func35, Tryd.ntmps35
  go_wp2_with fail
  have bx := Blk.new w 27 #[.int .i64 s, .int .i64 t, .int .i64 f, .int .i64 l, .int .i64 p]
  have B0 := (Below.refl w.heap.size w).alloc (Nat.le_refl _) (.cells #[.int .i64 s, .int .i64 t, .int .i64 f, .int .i64 l, .int .i64 p] 27)
  have bo := Blk.new (w.alloc (.cells #[.int .i64 s, .int .i64 t, .int .i64 f, .int .i64 l, .int .i64 p] 27)) 25 #[.int .i64 0, .int .i64 0, .int .i64 0]
  replace bx := bx.alloc (.cells #[.int .i64 0, .int .i64 0, .int .i64 0] 25)
  replace B0 := B0.alloc B0.size (.cells #[.int .i64 0, .int .i64 0, .int .i64 0] 25)
  rw [World.size_alloc] at bo
  refine (S1.out _).mono ?_
  rintro e w1 ⟨rfl, hb1⟩
  replace bx := bx.below hb1 bx.lt
  replace bo := bo.below hb1 bo.lt
  replace B0 := B0.trans (hb1.mono B0.size)
  clear hb1
  try clear mx mo zo lx lo
  have mx := fun i => bx.cell i
  have mo := fun i => bo.cell i
  have zo := fun i => bo.frozen i
  have lx := bx.lt
  have lo := bo.lt
  go_wp2_with fail
  refine (W1.out _).mono ?_
  rintro e w' ⟨rfl, rfl⟩
  go_wp2_with fail
  refine (A1.out _).mono ?_
  rintro e w2 ⟨rfl, hb1⟩
  replace bx := bx.below hb1 bx.lt
  replace bo := bo.below hb1 bo.lt
  replace B0 := B0.trans (hb1.mono B0.size)
  clear hb1
  try clear mx mo zo lx lo
  have mx := fun i => bx.cell i
  have mo := fun i => bo.cell i
  have zo := fun i => bo.frozen i
  have lx := bx.lt
  have lo := bo.lt
  go_wp2_with fail
  refine (H1.out _).mono ?_
  rintro e w3 ⟨rfl, hb1⟩
  replace bx := bx.below hb1 bx.lt
  replace bo := bo.below hb1 bo.lt
  replace B0 := B0.trans (hb1.mono B0.size)
  clear hb1
  try clear mx mo zo lx lo
  have mx := fun i => bx.cell i
  have mo := fun i => bo.cell i
  have zo := fun i => bo.frozen i
  have lx := bx.lt
  have lo := bo.lt
  go_wp2_with fail
  refine (L1.out _).mono ?_
  rintro e w4 ⟨rfl, hb1⟩
  replace bx := bx.below hb1 bx.lt
  replace bo := bo.below hb1 bo.lt
  replace B0 := B0.trans (hb1.mono B0.size)
  clear hb1
  try clear mx mo zo lx lo
  have mx := fun i => bx.cell i
  have mo := fun i => bo.cell i
  have zo := fun i => bo.frozen i
  have lx := bx.lt
  have lo := bo.lt
  go_wp2_with fail
  refine (L1.out _).mono ?_
  rintro e w5 ⟨rfl, hb1⟩
  replace bx := bx.below hb1 bx.lt
  replace bo := bo.below hb1 bo.lt
  replace B0 := B0.trans (hb1.mono B0.size)
  clear hb1
  try clear mx mo zo lx lo
  have mx := fun i => bx.cell i
  have mo := fun i => bo.cell i
  have zo := fun i => bo.frozen i
  have lx := bx.lt
  have lo := bo.lt
  go_wp2_with fail
  refine (D1.out _).mono ?_
  rintro e w6 ⟨rfl, hb1⟩
  replace bx := bx.below hb1 bx.lt
  replace bo := bo.below hb1 bo.lt
  replace B0 := B0.trans (hb1.mono B0.size)
  clear hb1
  try clear mx mo zo lx lo
  have mx := fun i => bx.cell i
  have mo := fun i => bo.cell i
  have zo := fun i => bo.frozen i
  have lx := bx.lt
  have lo := bo.lt
  go_wp2_with fail
  have by_ := Blk.new w6 25 #[.int .i64 0, .int .i64 o, .int .i64 0]
  have lo6 : w.heap.size + 1 < w6.heap.size := bo.lt
  have lx6 : w.heap.size < w6.heap.size := bx.lt
  replace bx := bx.alloc (.cells #[.int .i64 0, .int .i64 o, .int .i64 0] 25)
  replace bo := bo.alloc (.cells #[.int .i64 0, .int .i64 o, .int .i64 0] 25)
  replace B0 := B0.alloc B0.size (.cells #[.int .i64 0, .int .i64 o, .int .i64 0] 25)
  refine (D1.out _).mono ?_
  rintro e w7 ⟨rfl, hb1⟩
  replace bx := bx.below hb1 bx.lt
  replace bo := bo.below hb1 bo.lt
  replace by_ := by_.below hb1 by_.lt
  replace B0 := B0.trans (hb1.mono B0.size)
  clear hb1
  try clear mx mo zo lx lo
  have mx := fun i => bx.cell i
  have mo := fun i => bo.cell i
  have zo := fun i => bo.frozen i
  have my := fun i => by_.cell i
  have zy := fun i => by_.frozen i
  have ly := by_.lt
  go_wp2_with fail
  go_region; all_goals go_wp2_with fail
  replace bo := bo.far (p := ⟨w6.heap.size, 0, none⟩) (by show w.heap.size + 1 ≠ w6.heap.size; omega) (.int .i64 (10))
  replace B0 := B0.setCell (p := ⟨w6.heap.size, 0, none⟩) (by show w.heap.size ≤ w6.heap.size; omega) (.int .i64 (10))
  replace bo := bo.far (p := ⟨w6.heap.size, 2, none⟩) (by show w.heap.size + 1 ≠ w6.heap.size; omega) (.int .i64 (j - 3 - f)); replace B0 := B0.setCell (p := ⟨w6.heap.size, 2, none⟩) (by show w.heap.size ≤ w6.heap.size; omega) (.int .i64 (j - 3 - f))
  have b9 := ((bo.set_ 0 (.int .i64 (10))).set_ 1 (.int .i64 (o))).set_ 2 (.int .i64 (j - 3 - f))
  simp only [List.setIfInBounds_toArray, List.set_cons_zero, List.set_cons_succ] at b9
  have B9 := ((B0.setCell (p := ⟨w.heap.size + 1, 0, none⟩) (by show w.heap.size ≤ w.heap.size + 1; omega) (.int .i64 (10))).setCell (p := ⟨w.heap.size + 1, 1, none⟩) (by show w.heap.size ≤ w.heap.size + 1; omega) (.int .i64 (o))).setCell (p := ⟨w.heap.size + 1, 2, none⟩) (by show w.heap.size ≤ w.heap.size + 1; omega) (.int .i64 (j - 3 - f))
  have m9 := fun i => b9.cell i
  refine bodyPost_ret (v := .agg #[.int .i64 (10), .int .i64 (o), .int .i64 (j - 3 - f)]) (by simp [results, Tryd.results35, go_sem, m9]) rfl ⟨rfl, by first | exact B9 | exact B9.drew⟩

/-- The place of any word of a layout that there is. -/
theorem what_any (s t f l p a : Int) (w : World) (hs : 1 ≤ s ∧ s ≤ 1000) (ht : 1 ≤ t ∧ t ≤ 64) (hf : 4 ≤ f ∧ f ≤ 64) :
    Calls Tryd.prog 35 #[.agg #[.int .i64 s, .int .i64 t, .int .i64 f, .int .i64 l, .int .i64 p], .int .i64 a] w fun e' w' => e' = .returned (.agg #[.int .i64 (plc s t f a).1, .int .i64 (plc s t f a).2.1, .int .i64 (plc s t f a).2.2]) ∧ Below w.heap.size w w' := by
  unfold plc
  by_cases c0 : a < 0 ∨ laySize s t f ≤ a
  · rw [if_pos c0]
    exact what_out s t f l p a w hs ht hf c0
  rw [if_neg c0]
  by_cases c1 : a < 3
  · rw [if_pos c1]
    have h := what_3 s t f l p a w hs ht hf (by omega) c1
    rw [show 1 + a = a + 1 by omega] at h
    exact h
  rw [if_neg c1]
  by_cases c2 : a < 3 + t
  · rw [if_pos c2]
    have h := what_4 s t f l p (a - 3) w hs ht hf (by omega) (by omega)
    rw [show 3 + (a - 3) = a by omega] at h
    exact h
  rw [if_neg c2]
  by_cases c3 : a < 3 + 3 * t
  · rw [if_pos c3]
    have h := what_5 s t f l p (a - 3 - t) w hs ht hf (by omega) (by omega)
    rw [show 3 + t + (a - 3 - t) = a by omega] at h
    exact h
  rw [if_neg c3]
  obtain ⟨m, rfl⟩ : ∃ m, a = 3 + 3 * t + m := ⟨a - (3 + 3 * t), by omega⟩
  rw [show 3 + 3 * t + m - (3 + 3 * t) = m by omega]
  have h0 : 0 ≤ m := by omega
  have h1 : m < (s + 1) * (3 + 2 * f) := by unfold laySize at c0; omega
  by_cases c4 : m % (3 + 2 * f) < 3
  · rw [if_pos c4]
    exact what_6 s t f l p m w hs ht hf h0 h1 c4
  rw [if_neg c4]
  by_cases c5 : m % (3 + 2 * f) < 3 + f
  · rw [if_pos c5]
    exact what_9 s t f l p m w hs ht hf h0 h1 ⟨by omega, c5⟩
  · rw [if_neg c5]
    exact what_10 s t f l p m w hs ht hf h0 h1 (by omega)
end Go.Proofs.YtpkocgcagemnbaaDoor
