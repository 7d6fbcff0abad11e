/-
  A Pop told what it is told.
-/
import Derived.Test.YthmkhcmgpkngmaaDoorStk
import Derived.Test.YthmkhcmgpkngmaaDoorLayH
import Derived.Deep.RegionHeld3
import Derived.Deep.RegionWith
namespace Go.Proofs.YthmkhcmgpkngmaaDoor
open Go.RowKit
attribute [local go_sem] past_cell past_cell_add

set_option maxRecDepth 100000 in
set_option maxHeartbeats 2000000 in
theorem ptook_0 (s t f l p sl hd tr lk g : Int) (w : World) :
    Calls Tryd.prog 27 #[.agg #[.int .i64 s, .int .i64 t, .int .i64 f, .int .i64 l, .int .i64 p, .int .i64 0, .int .i64 sl, .int .u64 hd, .int .i64 tr, .int .i64 lk], .int .u64 g] w fun e w' => e = .returned (.agg #[.int .i64 s, .int .i64 t, .int .i64 f, .int .i64 l, .int .i64 p, .int .i64 0, .int .i64 sl, .int .u64 hd, .int .i64 tr, .int .i64 lk]) ∧ Below w.heap.size w w' := by
  go_enter Tryd.func27, Tryd.ntmps27
  go_wp2_with fail
  refine bodyPost_ret (v := .agg #[.int .i64 s, .int .i64 t, .int .i64 f, .int .i64 l, .int .i64 p, .int .i64 0, .int .i64 sl, .int .u64 hd, .int .i64 tr, .int .i64 lk]) (by simp [results, Tryd.results27, go_sem]) rfl ⟨rfl, ?_⟩
  repeat (first | exact Below.refl _ _ | exact B0 | (refine Below.setCell ?_ (by first | (show w.heap.size ≤ w.heap.size; omega) | (show w.heap.size ≤ w.heap.size + 1; omega) | (show w.heap.size ≤ w.heap.size + 2; omega) | (show w.heap.size ≤ _; simp)) _) | (refine Below.alloc ?_ (by first | exact Nat.le_refl _ | (simp <;> omega)) _))
set_option maxRecDepth 100000 in
set_option maxHeartbeats 2000000 in
theorem ptook_1y (s t f l p sl hd tr lk g : Int) (w : World) (hg : W64 g) (h0 : 1 ≤ g % 65536) (h1 : g % 65536 ≤ s) :
    Calls Tryd.prog 27 #[.agg #[.int .i64 s, .int .i64 t, .int .i64 f, .int .i64 l, .int .i64 p, .int .i64 1, .int .i64 sl, .int .u64 hd, .int .i64 tr, .int .i64 lk], .int .u64 g] w fun e w' => e = .returned (.agg #[.int .i64 s, .int .i64 t, .int .i64 f, .int .i64 l, .int .i64 p, .int .i64 2, .int .i64 (g % 65536), .int .u64 g, .int .i64 tr, .int .i64 lk]) ∧ Below w.heap.size w w' := by
  have C := hide (fun w2 => htell_slot g w2 hg)
  generalize g % 65536 = q at *
  have D := hide (fun w2 => bwithin_t s t f l p q g tr 2 q w2 h0 h1)
  have bx := Blk.new w 50 #[.int .i64 s, .int .i64 t, .int .i64 f, .int .i64 l, .int .i64 p, .int .i64 1, .int .i64 sl, .int .u64 hd, .int .i64 tr, .int .i64 lk]
  have B0 := (Below.refl w.heap.size w).alloc (Nat.le_refl _) (.cells #[.int .i64 s, .int .i64 t, .int .i64 f, .int .i64 l, .int .i64 p, .int .i64 1, .int .i64 sl, .int .u64 hd, .int .i64 tr, .int .i64 lk] 50)
  have bo := Blk.new (w.alloc (.cells #[.int .i64 s, .int .i64 t, .int .i64 f, .int .i64 l, .int .i64 p, .int .i64 1, .int .i64 sl, .int .u64 hd, .int .i64 tr, .int .i64 lk] 50)) 50 #[.int .i64 0, .int .i64 0, .int .i64 0, .int .i64 0, .int .i64 0, .int .i64 0, .int .i64 0, .int .u64 0, .int .i64 0, .int .i64 0]
  replace B0 := B0.alloc B0.size (.cells #[.int .i64 0, .int .i64 0, .int .i64 0, .int .i64 0, .int .i64 0, .int .i64 0, .int .i64 0, .int .u64 0, .int .i64 0, .int .i64 0] 50)
  replace bx := bx.alloc (.cells #[.int .i64 0, .int .i64 0, .int .i64 0, .int .i64 0, .int .i64 0, .int .i64 0, .int .i64 0, .int .u64 0, .int .i64 0, .int .i64 0] 50)
  rw [World.size_alloc] at bo
  go_enter Tryd.func27, Tryd.ntmps27
  go_wp2_with fail
  refine (C.out _).mono ?_
  rintro e w1 ⟨rfl, hb1⟩
  replace bx := bx.below hb1 bx.lt
  replace bo := bo.below hb1 bo.lt
  replace B0 := B0.trans (hb1.mono B0.size)
  clear hb1
  have zx := fun i => bx.frozen i
  try clear mx lx
  try clear mo lo zo
  try clear my ly zy
  try have mx := fun i => bx.cell i
  try have lx := bx.lt
  try have mo := fun i => bo.cell i
  try have lo := bo.lt
  try have zo := fun i => bo.frozen i
  try have my := fun i => by_.cell i
  try have ly := by_.lt
  try have zy := fun i => by_.frozen i
  go_wp2_with fail
  have b2 := ((bx.set_ 7 (.int .u64 g)).set_ 6 (.int .i64 q)).set_ 5 (.int .i64 2)
  simp only [List.setIfInBounds_toArray, List.set_cons_zero, List.set_cons_succ] at b2
  have o2 := ((bo.far (p := ⟨w.heap.size, 7, none⟩) (by show w.heap.size + 1 ≠ w.heap.size; omega) (.int .u64 g)).far (p := ⟨w.heap.size, 6, none⟩) (by show w.heap.size + 1 ≠ w.heap.size; omega) (.int .i64 q)).far (p := ⟨w.heap.size, 5, none⟩) (by show w.heap.size + 1 ≠ w.heap.size; omega) (.int .i64 2)
  have C2 := ((B0.setCell (p := ⟨w.heap.size, 7, none⟩) (Nat.le_refl _) (.int .u64 g)).setCell (p := ⟨w.heap.size, 6, none⟩) (Nat.le_refl _) (.int .i64 q)).setCell (p := ⟨w.heap.size, 5, none⟩) (Nat.le_refl _) (.int .i64 2)
  clear bx bo B0 zx mx lx mo lo zo
  generalize ((w1.setCell ⟨w.heap.size, 7, none⟩ (.int .u64 g)).setCell ⟨w.heap.size, 6, none⟩ (.int .i64 q)).setCell ⟨w.heap.size, 5, none⟩ (.int .i64 2) = w2 at *
  have bx := b2
  have bo := o2
  have B0 := C2
  clear b2 o2 C2
  have zx := fun i => bx.frozen i
  try clear mx lx
  try clear mo lo zo
  try clear my ly zy
  try have mx := fun i => bx.cell i
  try have lx := bx.lt
  try have mo := fun i => bo.cell i
  try have lo := bo.lt
  try have zo := fun i => bo.frozen i
  try have my := fun i => by_.cell i
  try have ly := by_.lt
  try have zy := fun i => by_.frozen i
  go_wp2_with fail
  refine (D.out _).mono ?_
  rintro e w3 ⟨rfl, hb1⟩
  replace bx := bx.below hb1 bx.lt
  replace bo := bo.below hb1 bo.lt
  replace B0 := B0.trans (hb1.mono B0.size)
  clear hb1 zx
  have zx := fun i => bx.frozen i
  try clear mx lx
  try clear mo lo zo
  try clear my ly zy
  try have mx := fun i => bx.cell i
  try have lx := bx.lt
  try have mo := fun i => bo.cell i
  try have lo := bo.lt
  try have zo := fun i => bo.frozen i
  try have my := fun i => by_.cell i
  try have ly := by_.lt
  try have zy := fun i => by_.frozen i
  go_wp2_with fail
  have b9 := bo.put10 (.int .i64 s) (.int .i64 t) (.int .i64 f) (.int .i64 l) (.int .i64 p) (.int .i64 2) (.int .i64 q) (.int .u64 g) (.int .i64 tr) (.int .i64 lk)
  have B9 := below_put10 B0 (g := w.heap.size + 1) (by omega) (.int .i64 s) (.int .i64 t) (.int .i64 f) (.int .i64 l) (.int .i64 p) (.int .i64 2) (.int .i64 q) (.int .u64 g) (.int .i64 tr) (.int .i64 lk)
  have m9 := fun i => b9.cell i
  refine bodyPost_ret (v := .agg #[.int .i64 s, .int .i64 t, .int .i64 f, .int .i64 l, .int .i64 p, .int .i64 2, .int .i64 q, .int .u64 g, .int .i64 tr, .int .i64 lk]) (by simp [results, Tryd.results27, go_sem, m9]) rfl ⟨rfl, B9⟩
set_option maxRecDepth 100000 in
set_option maxHeartbeats 2000000 in
theorem ptook_1l (s t f l p sl hd tr lk g : Int) (w : World) (hg : W64 g) (h0 : g % 65536 < 1) :
    Calls Tryd.prog 27 #[.agg #[.int .i64 s, .int .i64 t, .int .i64 f, .int .i64 l, .int .i64 p, .int .i64 1, .int .i64 sl, .int .u64 hd, .int .i64 tr, .int .i64 lk], .int .u64 g] w fun e w' => e = .returned (.agg #[.int .i64 s, .int .i64 t, .int .i64 f, .int .i64 l, .int .i64 p, .int .i64 0, .int .i64 0, .int .u64 g, .int .i64 tr, .int .i64 lk]) ∧ Below w.heap.size w w' := by
  have C := hide (fun w2 => htell_slot g w2 hg)
  generalize g % 65536 = q at *
  have D := hide (fun w2 => bwithin_f1 s t f l p q g tr 2 q w2 h0)
  have bx := Blk.new w 50 #[.int .i64 s, .int .i64 t, .int .i64 f, .int .i64 l, .int .i64 p, .int .i64 1, .int .i64 sl, .int .u64 hd, .int .i64 tr, .int .i64 lk]
  have B0 := (Below.refl w.heap.size w).alloc (Nat.le_refl _) (.cells #[.int .i64 s, .int .i64 t, .int .i64 f, .int .i64 l, .int .i64 p, .int .i64 1, .int .i64 sl, .int .u64 hd, .int .i64 tr, .int .i64 lk] 50)
  have bo := Blk.new (w.alloc (.cells #[.int .i64 s, .int .i64 t, .int .i64 f, .int .i64 l, .int .i64 p, .int .i64 1, .int .i64 sl, .int .u64 hd, .int .i64 tr, .int .i64 lk] 50)) 50 #[.int .i64 0, .int .i64 0, .int .i64 0, .int .i64 0, .int .i64 0, .int .i64 0, .int .i64 0, .int .u64 0, .int .i64 0, .int .i64 0]
  replace B0 := B0.alloc B0.size (.cells #[.int .i64 0, .int .i64 0, .int .i64 0, .int .i64 0, .int .i64 0, .int .i64 0, .int .i64 0, .int .u64 0, .int .i64 0, .int .i64 0] 50)
  replace bx := bx.alloc (.cells #[.int .i64 0, .int .i64 0, .int .i64 0, .int .i64 0, .int .i64 0, .int .i64 0, .int .i64 0, .int .u64 0, .int .i64 0, .int .i64 0] 50)
  rw [World.size_alloc] at bo
  go_enter Tryd.func27, Tryd.ntmps27
  go_wp2_with fail
  refine (C.out _).mono ?_
  rintro e w1 ⟨rfl, hb1⟩
  replace bx := bx.below hb1 bx.lt
  replace bo := bo.below hb1 bo.lt
  replace B0 := B0.trans (hb1.mono B0.size)
  clear hb1
  have zx := fun i => bx.frozen i
  try clear mx lx
  try clear mo lo zo
  try clear my ly zy
  try have mx := fun i => bx.cell i
  try have lx := bx.lt
  try have mo := fun i => bo.cell i
  try have lo := bo.lt
  try have zo := fun i => bo.frozen i
  try have my := fun i => by_.cell i
  try have ly := by_.lt
  try have zy := fun i => by_.frozen i
  go_wp2_with fail
  have b2 := ((bx.set_ 7 (.int .u64 g)).set_ 6 (.int .i64 q)).set_ 5 (.int .i64 2)
  simp only [List.setIfInBounds_toArray, List.set_cons_zero, List.set_cons_succ] at b2
  have o2 := ((bo.far (p := ⟨w.heap.size, 7, none⟩) (by show w.heap.size + 1 ≠ w.heap.size; omega) (.int .u64 g)).far (p := ⟨w.heap.size, 6, none⟩) (by show w.heap.size + 1 ≠ w.heap.size; omega) (.int .i64 q)).far (p := ⟨w.heap.size, 5, none⟩) (by show w.heap.size + 1 ≠ w.heap.size; omega) (.int .i64 2)
  have C2 := ((B0.setCell (p := ⟨w.heap.size, 7, none⟩) (Nat.le_refl _) (.int .u64 g)).setCell (p := ⟨w.heap.size, 6, none⟩) (Nat.le_refl _) (.int .i64 q)).setCell (p := ⟨w.heap.size, 5, none⟩) (Nat.le_refl _) (.int .i64 2)
  clear bx bo B0 zx mx lx mo lo zo
  generalize ((w1.setCell ⟨w.heap.size, 7, none⟩ (.int .u64 g)).setCell ⟨w.heap.size, 6, none⟩ (.int .i64 q)).setCell ⟨w.heap.size, 5, none⟩ (.int .i64 2) = w2 at *
  have bx := b2
  have bo := o2
  have B0 := C2
  clear b2 o2 C2
  have zx := fun i => bx.frozen i
  try clear mx lx
  try clear mo lo zo
  try clear my ly zy
  try have mx := fun i => bx.cell i
  try have lx := bx.lt
  try have mo := fun i => bo.cell i
  try have lo := bo.lt
  try have zo := fun i => bo.frozen i
  try have my := fun i => by_.cell i
  try have ly := by_.lt
  try have zy := fun i => by_.frozen i
  go_wp2_with fail
  refine (D.out _).mono ?_
  rintro e w3 ⟨rfl, hb1⟩
  replace bx := bx.below hb1 bx.lt
  replace bo := bo.below hb1 bo.lt
  replace B0 := B0.trans (hb1.mono B0.size)
  clear hb1 zx
  have zx := fun i => bx.frozen i
  try clear mx lx
  try clear mo lo zo
  try clear my ly zy
  try have mx := fun i => bx.cell i
  try have lx := bx.lt
  try have mo := fun i => bo.cell i
  try have lo := bo.lt
  try have zo := fun i => bo.frozen i
  try have my := fun i => by_.cell i
  try have ly := by_.lt
  try have zy := fun i => by_.frozen i
  go_wp2_with fail
  have o9 := (bo.far (p := ⟨w.heap.size, 6, none⟩) (by show w.heap.size + 1 ≠ w.heap.size; omega) (.int .i64 0)).far (p := ⟨w.heap.size, 5, none⟩) (by show w.heap.size + 1 ≠ w.heap.size; omega) (.int .i64 0)
  have C9 := (B0.setCell (p := ⟨w.heap.size, 6, none⟩) (Nat.le_refl _) (.int .i64 0)).setCell (p := ⟨w.heap.size, 5, none⟩) (Nat.le_refl _) (.int .i64 0)
  have b9 := o9.put10 (.int .i64 s) (.int .i64 t) (.int .i64 f) (.int .i64 l) (.int .i64 p) (.int .i64 0) (.int .i64 0) (.int .u64 g) (.int .i64 tr) (.int .i64 lk)
  have B9 := below_put10 C9 (g := w.heap.size + 1) (by omega) (.int .i64 s) (.int .i64 t) (.int .i64 f) (.int .i64 l) (.int .i64 p) (.int .i64 0) (.int .i64 0) (.int .u64 g) (.int .i64 tr) (.int .i64 lk)
  have m9 := fun i => b9.cell i
  refine bodyPost_ret (v := .agg #[.int .i64 s, .int .i64 t, .int .i64 f, .int .i64 l, .int .i64 p, .int .i64 0, .int .i64 0, .int .u64 g, .int .i64 tr, .int .i64 lk]) (by simp [results, Tryd.results27, go_sem, m9]) rfl ⟨rfl, B9⟩
set_option maxRecDepth 100000 in
set_option maxHeartbeats 2000000 in
theorem ptook_1h (s t f l p sl hd tr lk g : Int) (w : World) (hg : W64 g) (h0 : 1 ≤ g % 65536) (h1 : s < g % 65536) :
    Calls Tryd.prog 27 #[.agg #[.int .i64 s, .int .i64 t, .int .i64 f, .int .i64 l, .int .i64 p, .int .i64 1, .int .i64 sl, .int .u64 hd, .int .i64 tr, .int .i64 lk], .int .u64 g] w fun e w' => e = .returned (.agg #[.int .i64 s, .int .i64 t, .int .i64 f, .int .i64 l, .int .i64 p, .int .i64 0, .int .i64 0, .int .u64 g, .int .i64 tr, .int .i64 lk]) ∧ Below w.heap.size w w' := by
  have C := hide (fun w2 => htell_slot g w2 hg)
  generalize g % 65536 = q at *
  have D := hide (fun w2 => bwithin_f2 s t f l p q g tr 2 q w2 h0 h1)
  have bx := Blk.new w 50 #[.int .i64 s, .int .i64 t, .int .i64 f, .int .i64 l, .int .i64 p, .int .i64 1, .int .i64 sl, .int .u64 hd, .int .i64 tr, .int .i64 lk]
  have B0 := (Below.refl w.heap.size w).alloc (Nat.le_refl _) (.cells #[.int .i64 s, .int .i64 t, .int .i64 f, .int .i64 l, .int .i64 p, .int .i64 1, .int .i64 sl, .int .u64 hd, .int .i64 tr, .int .i64 lk] 50)
  have bo := Blk.new (w.alloc (.cells #[.int .i64 s, .int .i64 t, .int .i64 f, .int .i64 l, .int .i64 p, .int .i64 1, .int .i64 sl, .int .u64 hd, .int .i64 tr, .int .i64 lk] 50)) 50 #[.int .i64 0, .int .i64 0, .int .i64 0, .int .i64 0, .int .i64 0, .int .i64 0, .int .i64 0, .int .u64 0, .int .i64 0, .int .i64 0]
  replace B0 := B0.alloc B0.size (.cells #[.int .i64 0, .int .i64 0, .int .i64 0, .int .i64 0, .int .i64 0, .int .i64 0, .int .i64 0, .int .u64 0, .int .i64 0, .int .i64 0] 50)
  replace bx := bx.alloc (.cells #[.int .i64 0, .int .i64 0, .int .i64 0, .int .i64 0, .int .i64 0, .int .i64 0, .int .i64 0, .int .u64 0, .int .i64 0, .int .i64 0] 50)
  rw [World.size_alloc] at bo
  go_enter Tryd.func27, Tryd.ntmps27
  go_wp2_with fail
  refine (C.out _).mono ?_
  rintro e w1 ⟨rfl, hb1⟩
  replace bx := bx.below hb1 bx.lt
  replace bo := bo.below hb1 bo.lt
  replace B0 := B0.trans (hb1.mono B0.size)
  clear hb1
  have zx := fun i => bx.frozen i
  try clear mx lx
  try clear mo lo zo
  try clear my ly zy
  try have mx := fun i => bx.cell i
  try have lx := bx.lt
  try have mo := fun i => bo.cell i
  try have lo := bo.lt
  try have zo := fun i => bo.frozen i
  try have my := fun i => by_.cell i
  try have ly := by_.lt
  try have zy := fun i => by_.frozen i
  go_wp2_with fail
  have b2 := ((bx.set_ 7 (.int .u64 g)).set_ 6 (.int .i64 q)).set_ 5 (.int .i64 2)
  simp only [List.setIfInBounds_toArray, List.set_cons_zero, List.set_cons_succ] at b2
  have o2 := ((bo.far (p := ⟨w.heap.size, 7, none⟩) (by show w.heap.size + 1 ≠ w.heap.size; omega) (.int .u64 g)).far (p := ⟨w.heap.size, 6, none⟩) (by show w.heap.size + 1 ≠ w.heap.size; omega) (.int .i64 q)).far (p := ⟨w.heap.size, 5, none⟩) (by show w.heap.size + 1 ≠ w.heap.size; omega) (.int .i64 2)
  have C2 := ((B0.setCell (p := ⟨w.heap.size, 7, none⟩) (Nat.le_refl _) (.int .u64 g)).setCell (p := ⟨w.heap.size, 6, none⟩) (Nat.le_refl _) (.int .i64 q)).setCell (p := ⟨w.heap.size, 5, none⟩) (Nat.le_refl _) (.int .i64 2)
  clear bx bo B0 zx mx lx mo lo zo
  generalize ((w1.setCell ⟨w.heap.size, 7, none⟩ (.int .u64 g)).setCell ⟨w.heap.size, 6, none⟩ (.int .i64 q)).setCell ⟨w.heap.size, 5, none⟩ (.int .i64 2) = w2 at *
  have bx := b2
  have bo := o2
  have B0 := C2
  clear b2 o2 C2
  have zx := fun i => bx.frozen i
  try clear mx lx
  try clear mo lo zo
  try clear my ly zy
  try have mx := fun i => bx.cell i
  try have lx := bx.lt
  try have mo := fun i => bo.cell i
  try have lo := bo.lt
  try have zo := fun i => bo.frozen i
  try have my := fun i => by_.cell i
  try have ly := by_.lt
  try have zy := fun i => by_.frozen i
  go_wp2_with fail
  refine (D.out _).mono ?_
  rintro e w3 ⟨rfl, hb1⟩
  replace bx := bx.below hb1 bx.lt
  replace bo := bo.below hb1 bo.lt
  replace B0 := B0.trans (hb1.mono B0.size)
  clear hb1 zx
  have zx := fun i => bx.frozen i
  try clear mx lx
  try clear mo lo zo
  try clear my ly zy
  try have mx := fun i => bx.cell i
  try have lx := bx.lt
  try have mo := fun i => bo.cell i
  try have lo := bo.lt
  try have zo := fun i => bo.frozen i
  try have my := fun i => by_.cell i
  try have ly := by_.lt
  try have zy := fun i => by_.frozen i
  go_wp2_with fail
  have o9 := (bo.far (p := ⟨w.heap.size, 6, none⟩) (by show w.heap.size + 1 ≠ w.heap.size; omega) (.int .i64 0)).far (p := ⟨w.heap.size, 5, none⟩) (by show w.heap.size + 1 ≠ w.heap.size; omega) (.int .i64 0)
  have C9 := (B0.setCell (p := ⟨w.heap.size, 6, none⟩) (Nat.le_refl _) (.int .i64 0)).setCell (p := ⟨w.heap.size, 5, none⟩) (Nat.le_refl _) (.int .i64 0)
  have b9 := o9.put10 (.int .i64 s) (.int .i64 t) (.int .i64 f) (.int .i64 l) (.int .i64 p) (.int .i64 0) (.int .i64 0) (.int .u64 g) (.int .i64 tr) (.int .i64 lk)
  have B9 := below_put10 C9 (g := w.heap.size + 1) (by omega) (.int .i64 s) (.int .i64 t) (.int .i64 f) (.int .i64 l) (.int .i64 p) (.int .i64 0) (.int .i64 0) (.int .u64 g) (.int .i64 tr) (.int .i64 lk)
  have m9 := fun i => b9.cell i
  refine bodyPost_ret (v := .agg #[.int .i64 s, .int .i64 t, .int .i64 f, .int .i64 l, .int .i64 p, .int .i64 0, .int .i64 0, .int .u64 g, .int .i64 tr, .int .i64 lk]) (by simp [results, Tryd.results27, go_sem, m9]) rfl ⟨rfl, B9⟩
set_option maxRecDepth 100000 in
set_option maxHeartbeats 2000000 in
theorem ptook_2y (s t f l p sl hd tr lk g : Int) (w : World) (hg : W64 g) (hs0 : 0 ≤ s ∧ s ≤ 1000) (h0 : g ≤ s) :
    Calls Tryd.prog 27 #[.agg #[.int .i64 s, .int .i64 t, .int .i64 f, .int .i64 l, .int .i64 p, .int .i64 2, .int .i64 sl, .int .u64 hd, .int .i64 tr, .int .i64 lk], .int .u64 g] w fun e w' => e = .returned (.agg #[.int .i64 s, .int .i64 t, .int .i64 f, .int .i64 l, .int .i64 p, .int .i64 3, .int .i64 sl, .int .u64 hd, .int .i64 tr, .int .i64 g]) ∧ Below w.heap.size w w' := by
  have C := hide (fun w2 => lconfig_any s t f l p w2)
  have hf : ∀ w : World, (Instr.field 23 (.agg #[.int .i64 s, .int .i64 t, .int .i64 f, .int .i64 l, .int .i64 p]) 0).run Tryd.prog w = .ok (.int .i64 s) w := fun _ => by kernel_rfl
  have q1 : IntKind.u64.wrap s = s := IntWalk.u64_in _ (by omega)
  have q2 : IntKind.i64.wrap g = g := IntWalk.i64_in _ (by have := hg.1; omega)
  have bx := Blk.new w 50 #[.int .i64 s, .int .i64 t, .int .i64 f, .int .i64 l, .int .i64 p, .int .i64 3, .int .i64 sl, .int .u64 hd, .int .i64 tr, .int .i64 0]
  have B0 := (Below.refl w.heap.size w).alloc (Nat.le_refl _) (.cells #[.int .i64 s, .int .i64 t, .int .i64 f, .int .i64 l, .int .i64 p, .int .i64 3, .int .i64 sl, .int .u64 hd, .int .i64 tr, .int .i64 0] 50)
  have bo := Blk.new (w.alloc (.cells #[.int .i64 s, .int .i64 t, .int .i64 f, .int .i64 l, .int .i64 p, .int .i64 3, .int .i64 sl, .int .u64 hd, .int .i64 tr, .int .i64 0] 50)) 50 #[.int .i64 0, .int .i64 0, .int .i64 0, .int .i64 0, .int .i64 0, .int .i64 0, .int .i64 0, .int .u64 0, .int .i64 0, .int .i64 0]
  replace B0 := B0.alloc B0.size (.cells #[.int .i64 0, .int .i64 0, .int .i64 0, .int .i64 0, .int .i64 0, .int .i64 0, .int .i64 0, .int .u64 0, .int .i64 0, .int .i64 0] 50)
  replace bx := bx.alloc (.cells #[.int .i64 0, .int .i64 0, .int .i64 0, .int .i64 0, .int .i64 0, .int .i64 0, .int .i64 0, .int .u64 0, .int .i64 0, .int .i64 0] 50)
  rw [World.size_alloc] at bo
  go_enter Tryd.func27, Tryd.ntmps27
  go_wp2_with fail
  generalize (w.alloc (.cells #[.int .i64 s, .int .i64 t, .int .i64 f, .int .i64 l, .int .i64 p, .int .i64 3, .int .i64 sl, .int .u64 hd, .int .i64 tr, .int .i64 0] 50)).alloc (.cells #[.int .i64 0, .int .i64 0, .int .i64 0, .int .i64 0, .int .i64 0, .int .i64 0, .int .i64 0, .int .u64 0, .int .i64 0, .int .i64 0] 50) = w0 at *
  refine (C.out _).mono ?_
  rintro e w3 ⟨rfl, hb1⟩
  replace bx := bx.below hb1 bx.lt
  replace bo := bo.below hb1 bo.lt
  replace B0 := B0.trans (hb1.mono B0.size)
  clear hb1
  have zx := fun i => bx.frozen i
  try clear mx lx
  try clear mo lo zo
  try clear my ly zy
  try have mx := fun i => bx.cell i
  try have lx := bx.lt
  try have mo := fun i => bo.cell i
  try have lo := bo.lt
  try have zo := fun i => bo.frozen i
  try have my := fun i => by_.cell i
  try have ly := by_.lt
  try have zy := fun i => by_.frozen i
  go_wp2_with fail
  have o9 := (bo.far (p := ⟨w.heap.size, 9, none⟩) (by show w.heap.size + 1 ≠ w.heap.size; omega) (.int .i64 g))
  have C9 := (B0.setCell (p := ⟨w.heap.size, 9, none⟩) (Nat.le_refl _) (.int .i64 g))
  have b9 := o9.put10 (.int .i64 s) (.int .i64 t) (.int .i64 f) (.int .i64 l) (.int .i64 p) (.int .i64 3) (.int .i64 sl) (.int .u64 hd) (.int .i64 tr) (.int .i64 g)
  have B9 := below_put10 C9 (g := w.heap.size + 1) (by omega) (.int .i64 s) (.int .i64 t) (.int .i64 f) (.int .i64 l) (.int .i64 p) (.int .i64 3) (.int .i64 sl) (.int .u64 hd) (.int .i64 tr) (.int .i64 g)
  have m9 := fun i => b9.cell i
  refine bodyPost_ret (v := .agg #[.int .i64 s, .int .i64 t, .int .i64 f, .int .i64 l, .int .i64 p, .int .i64 3, .int .i64 sl, .int .u64 hd, .int .i64 tr, .int .i64 g]) (by simp [results, Tryd.results27, go_sem, m9]) rfl ⟨rfl, B9⟩
set_option maxRecDepth 100000 in
set_option maxHeartbeats 2000000 in
theorem ptook_2n (s t f l p sl hd tr lk g : Int) (w : World) (_hg : W64 g) (hs0 : 0 ≤ s ∧ s ≤ 1000) (h0 : s < g) :
    Calls Tryd.prog 27 #[.agg #[.int .i64 s, .int .i64 t, .int .i64 f, .int .i64 l, .int .i64 p, .int .i64 2, .int .i64 sl, .int .u64 hd, .int .i64 tr, .int .i64 lk], .int .u64 g] w fun e w' => e = .returned (.agg #[.int .i64 s, .int .i64 t, .int .i64 f, .int .i64 l, .int .i64 p, .int .i64 3, .int .i64 sl, .int .u64 hd, .int .i64 tr, .int .i64 0]) ∧ Below w.heap.size w w' := by
  have C := hide (fun w2 => lconfig_any s t f l p w2)
  have hf : ∀ w : World, (Instr.field 23 (.agg #[.int .i64 s, .int .i64 t, .int .i64 f, .int .i64 l, .int .i64 p]) 0).run Tryd.prog w = .ok (.int .i64 s) w := fun _ => by kernel_rfl
  have q1 : IntKind.u64.wrap s = s := IntWalk.u64_in _ (by omega)
  have q2 : ¬ g ≤ s := by omega
  have bx := Blk.new w 50 #[.int .i64 s, .int .i64 t, .int .i64 f, .int .i64 l, .int .i64 p, .int .i64 3, .int .i64 sl, .int .u64 hd, .int .i64 tr, .int .i64 0]
  have B0 := (Below.refl w.heap.size w).alloc (Nat.le_refl _) (.cells #[.int .i64 s, .int .i64 t, .int .i64 f, .int .i64 l, .int .i64 p, .int .i64 3, .int .i64 sl, .int .u64 hd, .int .i64 tr, .int .i64 0] 50)
  have bo := Blk.new (w.alloc (.cells #[.int .i64 s, .int .i64 t, .int .i64 f, .int .i64 l, .int .i64 p, .int .i64 3, .int .i64 sl, .int .u64 hd, .int .i64 tr, .int .i64 0] 50)) 50 #[.int .i64 0, .int .i64 0, .int .i64 0, .int .i64 0, .int .i64 0, .int .i64 0, .int .i64 0, .int .u64 0, .int .i64 0, .int .i64 0]
  replace B0 := B0.alloc B0.size (.cells #[.int .i64 0, .int .i64 0, .int .i64 0, .int .i64 0, .int .i64 0, .int .i64 0, .int .i64 0, .int .u64 0, .int .i64 0, .int .i64 0] 50)
  replace bx := bx.alloc (.cells #[.int .i64 0, .int .i64 0, .int .i64 0, .int .i64 0, .int .i64 0, .int .i64 0, .int .i64 0, .int .u64 0, .int .i64 0, .int .i64 0] 50)
  rw [World.size_alloc] at bo
  go_enter Tryd.func27, Tryd.ntmps27
  go_wp2_with fail
  generalize (w.alloc (.cells #[.int .i64 s, .int .i64 t, .int .i64 f, .int .i64 l, .int .i64 p, .int .i64 3, .int .i64 sl, .int .u64 hd, .int .i64 tr, .int .i64 0] 50)).alloc (.cells #[.int .i64 0, .int .i64 0, .int .i64 0, .int .i64 0, .int .i64 0, .int .i64 0, .int .i64 0, .int .u64 0, .int .i64 0, .int .i64 0] 50) = w0 at *
  refine (C.out _).mono ?_
  rintro e w3 ⟨rfl, hb1⟩
  replace bx := bx.below hb1 bx.lt
  replace bo := bo.below hb1 bo.lt
  replace B0 := B0.trans (hb1.mono B0.size)
  clear hb1
  have zx := fun i => bx.frozen i
  try clear mx lx
  try clear mo lo zo
  try clear my ly zy
  try have mx := fun i => bx.cell i
  try have lx := bx.lt
  try have mo := fun i => bo.cell i
  try have lo := bo.lt
  try have zo := fun i => bo.frozen i
  try have my := fun i => by_.cell i
  try have ly := by_.lt
  try have zy := fun i => by_.frozen i
  go_wp2_with fail
  have o9 := bo
  have C9 := B0
  have b9 := o9.put10 (.int .i64 s) (.int .i64 t) (.int .i64 f) (.int .i64 l) (.int .i64 p) (.int .i64 3) (.int .i64 sl) (.int .u64 hd) (.int .i64 tr) (.int .i64 0)
  have B9 := below_put10 C9 (g := w.heap.size + 1) (by omega) (.int .i64 s) (.int .i64 t) (.int .i64 f) (.int .i64 l) (.int .i64 p) (.int .i64 3) (.int .i64 sl) (.int .u64 hd) (.int .i64 tr) (.int .i64 0)
  have m9 := fun i => b9.cell i
  refine bodyPost_ret (v := .agg #[.int .i64 s, .int .i64 t, .int .i64 f, .int .i64 l, .int .i64 p, .int .i64 3, .int .i64 sl, .int .u64 hd, .int .i64 tr, .int .i64 0]) (by simp [results, Tryd.results27, go_sem, m9]) rfl ⟨rfl, B9⟩
set_option maxRecDepth 100000 in
set_option maxHeartbeats 2000000 in
theorem ptook_3y (s t f l p sl hd tr lk : Int) (w : World)  :
    Calls Tryd.prog 27 #[.agg #[.int .i64 s, .int .i64 t, .int .i64 f, .int .i64 l, .int .i64 p, .int .i64 3, .int .i64 sl, .int .u64 hd, .int .i64 tr, .int .i64 lk], .int .u64 1] w fun e w' => e = .returned (.agg #[.int .i64 s, .int .i64 t, .int .i64 f, .int .i64 l, .int .i64 p, .int .i64 0, .int .i64 sl, .int .u64 hd, .int .i64 tr, .int .i64 lk]) ∧ Below w.heap.size w w' := by
  have C := hide (fun w2 => swapped_1 s t f l p sl hd tr 3 w2)

  have bx := Blk.new w 50 #[.int .i64 s, .int .i64 t, .int .i64 f, .int .i64 l, .int .i64 p, .int .i64 3, .int .i64 sl, .int .u64 hd, .int .i64 tr, .int .i64 lk]
  have B0 := (Below.refl w.heap.size w).alloc (Nat.le_refl _) (.cells #[.int .i64 s, .int .i64 t, .int .i64 f, .int .i64 l, .int .i64 p, .int .i64 3, .int .i64 sl, .int .u64 hd, .int .i64 tr, .int .i64 lk] 50)
  have bo := Blk.new (w.alloc (.cells #[.int .i64 s, .int .i64 t, .int .i64 f, .int .i64 l, .int .i64 p, .int .i64 3, .int .i64 sl, .int .u64 hd, .int .i64 tr, .int .i64 lk] 50)) 50 #[.int .i64 0, .int .i64 0, .int .i64 0, .int .i64 0, .int .i64 0, .int .i64 0, .int .i64 0, .int .u64 0, .int .i64 0, .int .i64 0]
  replace B0 := B0.alloc B0.size (.cells #[.int .i64 0, .int .i64 0, .int .i64 0, .int .i64 0, .int .i64 0, .int .i64 0, .int .i64 0, .int .u64 0, .int .i64 0, .int .i64 0] 50)
  replace bx := bx.alloc (.cells #[.int .i64 0, .int .i64 0, .int .i64 0, .int .i64 0, .int .i64 0, .int .i64 0, .int .i64 0, .int .u64 0, .int .i64 0, .int .i64 0] 50)
  rw [World.size_alloc] at bo
  go_enter Tryd.func27, Tryd.ntmps27
  go_wp2_with fail
  refine (C.out _).mono ?_
  rintro e w1 ⟨rfl, hb1⟩
  replace bx := bx.below hb1 bx.lt
  replace bo := bo.below hb1 bo.lt
  replace B0 := B0.trans (hb1.mono B0.size)
  clear hb1
  have zx := fun i => bx.frozen i
  try clear mx lx
  try clear mo lo zo
  try clear my ly zy
  try have mx := fun i => bx.cell i
  try have lx := bx.lt
  try have mo := fun i => bo.cell i
  try have lo := bo.lt
  try have zo := fun i => bo.frozen i
  try have my := fun i => by_.cell i
  try have ly := by_.lt
  try have zy := fun i => by_.frozen i
  go_wp2_with fail
  have o9 := (((((((((bo.far (p := ⟨w.heap.size, 0, none⟩) (by show w.heap.size + 1 ≠ w.heap.size; omega) (.int .i64 s)).far (p := ⟨w.heap.size, 1, none⟩) (by show w.heap.size + 1 ≠ w.heap.size; omega) (.int .i64 t)).far (p := ⟨w.heap.size, 2, none⟩) (by show w.heap.size + 1 ≠ w.heap.size; omega) (.int .i64 f)).far (p := ⟨w.heap.size, 3, none⟩) (by show w.heap.size + 1 ≠ w.heap.size; omega) (.int .i64 l)).far (p := ⟨w.heap.size, 4, none⟩) (by show w.heap.size + 1 ≠ w.heap.size; omega) (.int .i64 p)).far (p := ⟨w.heap.size, 5, none⟩) (by show w.heap.size + 1 ≠ w.heap.size; omega) (.int .i64 0)).far (p := ⟨w.heap.size, 6, none⟩) (by show w.heap.size + 1 ≠ w.heap.size; omega) (.int .i64 sl)).far (p := ⟨w.heap.size, 7, none⟩) (by show w.heap.size + 1 ≠ w.heap.size; omega) (.int .u64 hd)).far (p := ⟨w.heap.size, 8, none⟩) (by show w.heap.size + 1 ≠ w.heap.size; omega) (.int .i64 tr))
  have C9 := below_put9 B0 (g := w.heap.size) (Nat.le_refl _) (.int .i64 s) (.int .i64 t) (.int .i64 f) (.int .i64 l) (.int .i64 p) (.int .i64 0) (.int .i64 sl) (.int .u64 hd) (.int .i64 tr)
  have b9 := o9.put10 (.int .i64 s) (.int .i64 t) (.int .i64 f) (.int .i64 l) (.int .i64 p) (.int .i64 0) (.int .i64 sl) (.int .u64 hd) (.int .i64 tr) (.int .i64 lk)
  have B9 := below_put10 C9 (g := w.heap.size + 1) (by omega) (.int .i64 s) (.int .i64 t) (.int .i64 f) (.int .i64 l) (.int .i64 p) (.int .i64 0) (.int .i64 sl) (.int .u64 hd) (.int .i64 tr) (.int .i64 lk)
  have m9 := fun i => b9.cell i
  refine bodyPost_ret (v := .agg #[.int .i64 s, .int .i64 t, .int .i64 f, .int .i64 l, .int .i64 p, .int .i64 0, .int .i64 sl, .int .u64 hd, .int .i64 tr, .int .i64 lk]) (by simp [results, Tryd.results27, go_sem, m9]) rfl ⟨rfl, B9⟩
set_option maxRecDepth 100000 in
set_option maxHeartbeats 2000000 in
theorem ptook_3n (s t f l p sl hd tr lk g : Int) (w : World) (hg : (g == 1) = false) :
    Calls Tryd.prog 27 #[.agg #[.int .i64 s, .int .i64 t, .int .i64 f, .int .i64 l, .int .i64 p, .int .i64 3, .int .i64 sl, .int .u64 hd, .int .i64 tr, .int .i64 lk], .int .u64 g] w fun e w' => e = .returned (.agg #[.int .i64 s, .int .i64 t, .int .i64 f, .int .i64 l, .int .i64 p, .int .i64 1, .int .i64 sl, .int .u64 hd, .int .i64 (wrap64 (tr + 1)), .int .i64 lk]) ∧ Below w.heap.size w w' := by
  have C := hide (fun w2 => swapped_n s t f l p sl hd tr 3 g w2 hg)
  generalize wrap64 (tr + 1) = tr2 at *
  have bx := Blk.new w 50 #[.int .i64 s, .int .i64 t, .int .i64 f, .int .i64 l, .int .i64 p, .int .i64 3, .int .i64 sl, .int .u64 hd, .int .i64 tr, .int .i64 lk]
  have B0 := (Below.refl w.heap.size w).alloc (Nat.le_refl _) (.cells #[.int .i64 s, .int .i64 t, .int .i64 f, .int .i64 l, .int .i64 p, .int .i64 3, .int .i64 sl, .int .u64 hd, .int .i64 tr, .int .i64 lk] 50)
  have bo := Blk.new (w.alloc (.cells #[.int .i64 s, .int .i64 t, .int .i64 f, .int .i64 l, .int .i64 p, .int .i64 3, .int .i64 sl, .int .u64 hd, .int .i64 tr, .int .i64 lk] 50)) 50 #[.int .i64 0, .int .i64 0, .int .i64 0, .int .i64 0, .int .i64 0, .int .i64 0, .int .i64 0, .int .u64 0, .int .i64 0, .int .i64 0]
  replace B0 := B0.alloc B0.size (.cells #[.int .i64 0, .int .i64 0, .int .i64 0, .int .i64 0, .int .i64 0, .int .i64 0, .int .i64 0, .int .u64 0, .int .i64 0, .int .i64 0] 50)
  replace bx := bx.alloc (.cells #[.int .i64 0, .int .i64 0, .int .i64 0, .int .i64 0, .int .i64 0, .int .i64 0, .int .i64 0, .int .u64 0, .int .i64 0, .int .i64 0] 50)
  rw [World.size_alloc] at bo
  go_enter Tryd.func27, Tryd.ntmps27
  go_wp2_with fail
  refine (C.out _).mono ?_
  rintro e w1 ⟨rfl, hb1⟩
  replace bx := bx.below hb1 bx.lt
  replace bo := bo.below hb1 bo.lt
  replace B0 := B0.trans (hb1.mono B0.size)
  clear hb1
  have zx := fun i => bx.frozen i
  try clear mx lx
  try clear mo lo zo
  try clear my ly zy
  try have mx := fun i => bx.cell i
  try have lx := bx.lt
  try have mo := fun i => bo.cell i
  try have lo := bo.lt
  try have zo := fun i => bo.frozen i
  try have my := fun i => by_.cell i
  try have ly := by_.lt
  try have zy := fun i => by_.frozen i
  go_wp2_with fail
  have o9 := (((((((((bo.far (p := ⟨w.heap.size, 0, none⟩) (by show w.heap.size + 1 ≠ w.heap.size; omega) (.int .i64 s)).far (p := ⟨w.heap.size, 1, none⟩) (by show w.heap.size + 1 ≠ w.heap.size; omega) (.int .i64 t)).far (p := ⟨w.heap.size, 2, none⟩) (by show w.heap.size + 1 ≠ w.heap.size; omega) (.int .i64 f)).far (p := ⟨w.heap.size, 3, none⟩) (by show w.heap.size + 1 ≠ w.heap.size; omega) (.int .i64 l)).far (p := ⟨w.heap.size, 4, none⟩) (by show w.heap.size + 1 ≠ w.heap.size; omega) (.int .i64 p)).far (p := ⟨w.heap.size, 5, none⟩) (by show w.heap.size + 1 ≠ w.heap.size; omega) (.int .i64 1)).far (p := ⟨w.heap.size, 6, none⟩) (by show w.heap.size + 1 ≠ w.heap.size; omega) (.int .i64 sl)).far (p := ⟨w.heap.size, 7, none⟩) (by show w.heap.size + 1 ≠ w.heap.size; omega) (.int .u64 hd)).far (p := ⟨w.heap.size, 8, none⟩) (by show w.heap.size + 1 ≠ w.heap.size; omega) (.int .i64 tr2))
  have C9 := below_put9 B0 (g := w.heap.size) (Nat.le_refl _) (.int .i64 s) (.int .i64 t) (.int .i64 f) (.int .i64 l) (.int .i64 p) (.int .i64 1) (.int .i64 sl) (.int .u64 hd) (.int .i64 tr2)
  have b9 := o9.put10 (.int .i64 s) (.int .i64 t) (.int .i64 f) (.int .i64 l) (.int .i64 p) (.int .i64 1) (.int .i64 sl) (.int .u64 hd) (.int .i64 tr2) (.int .i64 lk)
  have B9 := below_put10 C9 (g := w.heap.size + 1) (by omega) (.int .i64 s) (.int .i64 t) (.int .i64 f) (.int .i64 l) (.int .i64 p) (.int .i64 1) (.int .i64 sl) (.int .u64 hd) (.int .i64 tr2) (.int .i64 lk)
  have m9 := fun i => b9.cell i
  refine bodyPost_ret (v := .agg #[.int .i64 s, .int .i64 t, .int .i64 f, .int .i64 l, .int .i64 p, .int .i64 1, .int .i64 sl, .int .u64 hd, .int .i64 tr2, .int .i64 lk]) (by simp [results, Tryd.results27, go_sem, m9]) rfl ⟨rfl, B9⟩
end Go.Proofs.YthmkhcmgpkngmaaDoor
