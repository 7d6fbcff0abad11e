/-
  A Push: what it becomes of what it is told.
-/
import Derived.Test.YteiidfklepjpmaaDoorZ3
import Derived.Laws.StructEq
import Derived.Deep.RegionHeld3
import Derived.Deep.RegionWith
namespace Go.Proofs.YteiidfklepjpmaaDoor
open Go.RowKit
attribute [local go_sem] past_cell past_cell_add

set_option maxRecDepth 100000 in
set_option maxHeartbeats 2000000 in
theorem pstook_0 (s t f l p sl hd tr g : Int) (w : World) :
    Calls Tryd.prog 26 #[.agg #[.int .i64 s, .int .i64 t, .int .i64 f, .int .i64 l, .int .i64 p, .int .i64 0, .int .i64 sl, .int .u64 hd, .int .i64 tr], .int .u64 g] w fun e w' => e = .returned (.agg #[.int .i64 s, .int .i64 t, .int .i64 f, .int .i64 l, .int .i64 p, .int .i64 0, .int .i64 sl, .int .u64 hd, .int .i64 tr]) ∧ Below w.heap.size w w' := by
  go_enter Tryd.func26, Tryd.ntmps26
  go_wp2_with fail
  refine bodyPost_ret (v := .agg #[.int .i64 s, .int .i64 t, .int .i64 f, .int .i64 l, .int .i64 p, .int .i64 0, .int .i64 sl, .int .u64 hd, .int .i64 tr]) (by simp [results, Tryd.results26, go_sem]) rfl ⟨rfl, ?_⟩
  repeat (first | exact Below.refl _ _ | exact B0 | (refine Below.setCell ?_ (by first | (show w.heap.size ≤ w.heap.size; omega) | (show w.heap.size ≤ w.heap.size + 1; omega) | (show w.heap.size ≤ w.heap.size + 2; omega) | (show w.heap.size ≤ _; simp)) _) | (refine Below.alloc ?_ (by first | exact Nat.le_refl _ | (simp <;> omega)) _))
set_option maxRecDepth 100000 in
set_option maxHeartbeats 2000000 in
theorem pstook_1 (s t f l p sl hd tr g : Int) (w : World) :
    Calls Tryd.prog 26 #[.agg #[.int .i64 s, .int .i64 t, .int .i64 f, .int .i64 l, .int .i64 p, .int .i64 1, .int .i64 sl, .int .u64 hd, .int .i64 tr], .int .u64 g] w fun e w' => e = .returned (.agg #[.int .i64 s, .int .i64 t, .int .i64 f, .int .i64 l, .int .i64 p, .int .i64 2, .int .i64 sl, .int .u64 g, .int .i64 tr]) ∧ Below w.heap.size w w' := by
  go_enter Tryd.func26, Tryd.ntmps26
  go_wp2_with fail
  refine bodyPost_ret (v := .agg #[.int .i64 s, .int .i64 t, .int .i64 f, .int .i64 l, .int .i64 p, .int .i64 2, .int .i64 sl, .int .u64 g, .int .i64 tr]) (by simp [results, Tryd.results26, go_sem]) rfl ⟨rfl, ?_⟩
  repeat (first | exact Below.refl _ _ | exact B0 | (refine Below.setCell ?_ (by first | (show w.heap.size ≤ w.heap.size; omega) | (show w.heap.size ≤ w.heap.size + 1; omega) | (show w.heap.size ≤ w.heap.size + 2; omega) | (show w.heap.size ≤ _; simp)) _) | (refine Below.alloc ?_ (by first | exact Nat.le_refl _ | (simp <;> omega)) _))
set_option maxRecDepth 100000 in
set_option maxHeartbeats 2000000 in
theorem pstook_2 (s t f l p sl hd tr g : Int) (w : World) :
    Calls Tryd.prog 26 #[.agg #[.int .i64 s, .int .i64 t, .int .i64 f, .int .i64 l, .int .i64 p, .int .i64 2, .int .i64 sl, .int .u64 hd, .int .i64 tr], .int .u64 g] w fun e w' => e = .returned (.agg #[.int .i64 s, .int .i64 t, .int .i64 f, .int .i64 l, .int .i64 p, .int .i64 3, .int .i64 sl, .int .u64 hd, .int .i64 tr]) ∧ Below w.heap.size w w' := by
  go_enter Tryd.func26, Tryd.ntmps26
  go_wp2_with fail
  refine bodyPost_ret (v := .agg #[.int .i64 s, .int .i64 t, .int .i64 f, .int .i64 l, .int .i64 p, .int .i64 3, .int .i64 sl, .int .u64 hd, .int .i64 tr]) (by simp [results, Tryd.results26, go_sem]) rfl ⟨rfl, ?_⟩
  repeat (first | exact Below.refl _ _ | exact B0 | (refine Below.setCell ?_ (by first | (show w.heap.size ≤ w.heap.size; omega) | (show w.heap.size ≤ w.heap.size + 1; omega) | (show w.heap.size ≤ w.heap.size + 2; omega) | (show w.heap.size ≤ _; simp)) _) | (refine Below.alloc ?_ (by first | exact Nat.le_refl _ | (simp <;> omega)) _))
set_option maxRecDepth 100000 in
set_option maxHeartbeats 2000000 in
theorem pstook_3y (s t f l p sl hd tr : Int) (w : World)  :
    Calls Tryd.prog 26 #[.agg #[.int .i64 s, .int .i64 t, .int .i64 f, .int .i64 l, .int .i64 p, .int .i64 3, .int .i64 sl, .int .u64 hd, .int .i64 tr], .int .u64 1] w fun e w' => e = .returned (.agg #[.int .i64 s, .int .i64 t, .int .i64 f, .int .i64 l, .int .i64 p, .int .i64 0, .int .i64 sl, .int .u64 hd, .int .i64 tr]) ∧ Below w.heap.size w w' := by
  have C := hide (fun w2 => swapped_1 s t f l p sl hd tr 3 w2)

  have bx := Blk.new w 39 #[.int .i64 s, .int .i64 t, .int .i64 f, .int .i64 l, .int .i64 p, .int .i64 3, .int .i64 sl, .int .u64 hd, .int .i64 tr]
  have B0 := (Below.refl w.heap.size w).alloc (Nat.le_refl _) (.cells #[.int .i64 s, .int .i64 t, .int .i64 f, .int .i64 l, .int .i64 p, .int .i64 3, .int .i64 sl, .int .u64 hd, .int .i64 tr] 39)
  have bo := Blk.new (w.alloc (.cells #[.int .i64 s, .int .i64 t, .int .i64 f, .int .i64 l, .int .i64 p, .int .i64 3, .int .i64 sl, .int .u64 hd, .int .i64 tr] 39)) 39 #[.int .i64 0, .int .i64 0, .int .i64 0, .int .i64 0, .int .i64 0, .int .i64 0, .int .i64 0, .int .u64 0, .int .i64 0]
  replace B0 := B0.alloc B0.size (.cells #[.int .i64 0, .int .i64 0, .int .i64 0, .int .i64 0, .int .i64 0, .int .i64 0, .int .i64 0, .int .u64 0, .int .i64 0] 39)
  replace bx := bx.alloc (.cells #[.int .i64 0, .int .i64 0, .int .i64 0, .int .i64 0, .int .i64 0, .int .i64 0, .int .i64 0, .int .u64 0, .int .i64 0] 39)
  rw [World.size_alloc] at bo
  go_enter Tryd.func26, Tryd.ntmps26
  go_wp2_with fail
  refine (C.out _).mono ?_
  rintro e w1 ⟨rfl, hb1⟩
  replace bx := bx.below hb1 bx.lt
  replace bo := bo.below hb1 bo.lt
  replace B0 := B0.trans (hb1.mono B0.size)
  clear hb1
  have zx := fun i => bx.frozen i
  try clear mx lx
  try clear mo lo zo
  try clear my ly zy
  try have mx := fun i => bx.cell i
  try have lx := bx.lt
  try have mo := fun i => bo.cell i
  try have lo := bo.lt
  try have zo := fun i => bo.frozen i
  try have my := fun i => by_.cell i
  try have ly := by_.lt
  try have zy := fun i => by_.frozen i
  go_wp2_with fail
  have o9 := (((((((((bo.far (p := ⟨w.heap.size, 0, none⟩) (by show w.heap.size + 1 ≠ w.heap.size; omega) (.int .i64 s)).far (p := ⟨w.heap.size, 1, none⟩) (by show w.heap.size + 1 ≠ w.heap.size; omega) (.int .i64 t)).far (p := ⟨w.heap.size, 2, none⟩) (by show w.heap.size + 1 ≠ w.heap.size; omega) (.int .i64 f)).far (p := ⟨w.heap.size, 3, none⟩) (by show w.heap.size + 1 ≠ w.heap.size; omega) (.int .i64 l)).far (p := ⟨w.heap.size, 4, none⟩) (by show w.heap.size + 1 ≠ w.heap.size; omega) (.int .i64 p)).far (p := ⟨w.heap.size, 5, none⟩) (by show w.heap.size + 1 ≠ w.heap.size; omega) (.int .i64 0)).far (p := ⟨w.heap.size, 6, none⟩) (by show w.heap.size + 1 ≠ w.heap.size; omega) (.int .i64 sl)).far (p := ⟨w.heap.size, 7, none⟩) (by show w.heap.size + 1 ≠ w.heap.size; omega) (.int .u64 hd)).far (p := ⟨w.heap.size, 8, none⟩) (by show w.heap.size + 1 ≠ w.heap.size; omega) (.int .i64 tr))
  have C9 := below_put9 B0 (g := w.heap.size) (Nat.le_refl _) (.int .i64 s) (.int .i64 t) (.int .i64 f) (.int .i64 l) (.int .i64 p) (.int .i64 0) (.int .i64 sl) (.int .u64 hd) (.int .i64 tr)
  have b9 := o9.put9 (.int .i64 s) (.int .i64 t) (.int .i64 f) (.int .i64 l) (.int .i64 p) (.int .i64 0) (.int .i64 sl) (.int .u64 hd) (.int .i64 tr)
  have B9 := below_put9 C9 (g := w.heap.size + 1) (by omega) (.int .i64 s) (.int .i64 t) (.int .i64 f) (.int .i64 l) (.int .i64 p) (.int .i64 0) (.int .i64 sl) (.int .u64 hd) (.int .i64 tr)
  have m9 := fun i => b9.cell i
  refine bodyPost_ret (v := .agg #[.int .i64 s, .int .i64 t, .int .i64 f, .int .i64 l, .int .i64 p, .int .i64 0, .int .i64 sl, .int .u64 hd, .int .i64 tr]) (by simp [results, Tryd.results26, go_sem, m9]) rfl ⟨rfl, B9⟩
set_option maxRecDepth 100000 in
set_option maxHeartbeats 2000000 in
theorem pstook_3n (s t f l p sl hd tr g : Int) (w : World) (hg : (g == 1) = false) :
    Calls Tryd.prog 26 #[.agg #[.int .i64 s, .int .i64 t, .int .i64 f, .int .i64 l, .int .i64 p, .int .i64 3, .int .i64 sl, .int .u64 hd, .int .i64 tr], .int .u64 g] w fun e w' => e = .returned (.agg #[.int .i64 s, .int .i64 t, .int .i64 f, .int .i64 l, .int .i64 p, .int .i64 1, .int .i64 sl, .int .u64 hd, .int .i64 (wrap64 (tr + 1))]) ∧ Below w.heap.size w w' := by
  have C := hide (fun w2 => swapped_n s t f l p sl hd tr 3 g w2 hg)
  generalize wrap64 (tr + 1) = tr2 at *
  have bx := Blk.new w 39 #[.int .i64 s, .int .i64 t, .int .i64 f, .int .i64 l, .int .i64 p, .int .i64 3, .int .i64 sl, .int .u64 hd, .int .i64 tr]
  have B0 := (Below.refl w.heap.size w).alloc (Nat.le_refl _) (.cells #[.int .i64 s, .int .i64 t, .int .i64 f, .int .i64 l, .int .i64 p, .int .i64 3, .int .i64 sl, .int .u64 hd, .int .i64 tr] 39)
  have bo := Blk.new (w.alloc (.cells #[.int .i64 s, .int .i64 t, .int .i64 f, .int .i64 l, .int .i64 p, .int .i64 3, .int .i64 sl, .int .u64 hd, .int .i64 tr] 39)) 39 #[.int .i64 0, .int .i64 0, .int .i64 0, .int .i64 0, .int .i64 0, .int .i64 0, .int .i64 0, .int .u64 0, .int .i64 0]
  replace B0 := B0.alloc B0.size (.cells #[.int .i64 0, .int .i64 0, .int .i64 0, .int .i64 0, .int .i64 0, .int .i64 0, .int .i64 0, .int .u64 0, .int .i64 0] 39)
  replace bx := bx.alloc (.cells #[.int .i64 0, .int .i64 0, .int .i64 0, .int .i64 0, .int .i64 0, .int .i64 0, .int .i64 0, .int .u64 0, .int .i64 0] 39)
  rw [World.size_alloc] at bo
  go_enter Tryd.func26, Tryd.ntmps26
  go_wp2_with fail
  refine (C.out _).mono ?_
  rintro e w1 ⟨rfl, hb1⟩
  replace bx := bx.below hb1 bx.lt
  replace bo := bo.below hb1 bo.lt
  replace B0 := B0.trans (hb1.mono B0.size)
  clear hb1
  have zx := fun i => bx.frozen i
  try clear mx lx
  try clear mo lo zo
  try clear my ly zy
  try have mx := fun i => bx.cell i
  try have lx := bx.lt
  try have mo := fun i => bo.cell i
  try have lo := bo.lt
  try have zo := fun i => bo.frozen i
  try have my := fun i => by_.cell i
  try have ly := by_.lt
  try have zy := fun i => by_.frozen i
  go_wp2_with fail
  have o9 := (((((((((bo.far (p := ⟨w.heap.size, 0, none⟩) (by show w.heap.size + 1 ≠ w.heap.size; omega) (.int .i64 s)).far (p := ⟨w.heap.size, 1, none⟩) (by show w.heap.size + 1 ≠ w.heap.size; omega) (.int .i64 t)).far (p := ⟨w.heap.size, 2, none⟩) (by show w.heap.size + 1 ≠ w.heap.size; omega) (.int .i64 f)).far (p := ⟨w.heap.size, 3, none⟩) (by show w.heap.size + 1 ≠ w.heap.size; omega) (.int .i64 l)).far (p := ⟨w.heap.size, 4, none⟩) (by show w.heap.size + 1 ≠ w.heap.size; omega) (.int .i64 p)).far (p := ⟨w.heap.size, 5, none⟩) (by show w.heap.size + 1 ≠ w.heap.size; omega) (.int .i64 1)).far (p := ⟨w.heap.size, 6, none⟩) (by show w.heap.size + 1 ≠ w.heap.size; omega) (.int .i64 sl)).far (p := ⟨w.heap.size, 7, none⟩) (by show w.heap.size + 1 ≠ w.heap.size; omega) (.int .u64 hd)).far (p := ⟨w.heap.size, 8, none⟩) (by show w.heap.size + 1 ≠ w.heap.size; omega) (.int .i64 tr2))
  have C9 := below_put9 B0 (g := w.heap.size) (Nat.le_refl _) (.int .i64 s) (.int .i64 t) (.int .i64 f) (.int .i64 l) (.int .i64 p) (.int .i64 1) (.int .i64 sl) (.int .u64 hd) (.int .i64 tr2)
  have b9 := o9.put9 (.int .i64 s) (.int .i64 t) (.int .i64 f) (.int .i64 l) (.int .i64 p) (.int .i64 1) (.int .i64 sl) (.int .u64 hd) (.int .i64 tr2)
  have B9 := below_put9 C9 (g := w.heap.size + 1) (by omega) (.int .i64 s) (.int .i64 t) (.int .i64 f) (.int .i64 l) (.int .i64 p) (.int .i64 1) (.int .i64 sl) (.int .u64 hd) (.int .i64 tr2)
  have m9 := fun i => b9.cell i
  refine bodyPost_ret (v := .agg #[.int .i64 s, .int .i64 t, .int .i64 f, .int .i64 l, .int .i64 p, .int .i64 1, .int .i64 sl, .int .u64 hd, .int .i64 tr2]) (by simp [results, Tryd.results26, go_sem, m9]) rfl ⟨rfl, B9⟩
set_option maxRecDepth 100000 in
set_option maxHeartbeats 2000000 in
theorem psdone_0 (s t f l p sl hd tr : Int) (w : World)  :
    Calls Tryd.prog 28 #[.agg #[.int .i64 s, .int .i64 t, .int .i64 f, .int .i64 l, .int .i64 p, .int .i64 0, .int .i64 sl, .int .u64 hd, .int .i64 tr]] w fun e w' => e = .returned (.bool true) ∧ Below w.heap.size w w' := by
  have bx := Blk.new w 39 #[.int .i64 s, .int .i64 t, .int .i64 f, .int .i64 l, .int .i64 p, .int .i64 0, .int .i64 sl, .int .u64 hd, .int .i64 tr]
  have B0 := (Below.refl w.heap.size w).alloc (Nat.le_refl _) (.cells #[.int .i64 s, .int .i64 t, .int .i64 f, .int .i64 l, .int .i64 p, .int .i64 0, .int .i64 sl, .int .u64 hd, .int .i64 tr] 39)
  go_enter Tryd.func28, Tryd.ntmps28
  go_wp2_with fail
  go_ret
  exact ⟨rfl, B0⟩
set_option maxRecDepth 100000 in
set_option maxHeartbeats 2000000 in
theorem pswant_0 (s t f l p sl hd tr : Int) (w : World) :
    Calls Tryd.prog 27 #[.agg #[.int .i64 s, .int .i64 t, .int .i64 f, .int .i64 l, .int .i64 p, .int .i64 0, .int .i64 sl, .int .u64 hd, .int .i64 tr]] w fun e w' => e = .returned (.agg #[.int .i64 0, .int .i64 0, .int .u64 0, .int .u64 0]) ∧ Below w.heap.size w w' := by
  have hmf : ∀ (fn : Fn) (first cap : Array Value) (w : World), (Instr.makeFunc fn first cap).run Tryd.prog w = .ok (.func fn first cap) w := fun _ _ _ _ => rfl
  go_enter Tryd.func27, Tryd.ntmps27
  go_wp2_with fail
  refine bodyPost_ret (v := .agg #[.int .i64 0, .int .i64 0, .int .u64 0, .int .u64 0]) (by simp [results, Tryd.results27, go_sem]) rfl ⟨rfl, ?_⟩
  repeat (first | exact Below.refl _ _ | exact B0 | (refine Below.setCell ?_ (by first | (show w.heap.size ≤ w.heap.size; omega) | (show w.heap.size ≤ w.heap.size + 1; omega) | (show w.heap.size ≤ w.heap.size + 2; omega) | (show w.heap.size ≤ _; simp)) _) | (refine Below.alloc ?_ (by first | exact Nat.le_refl _ | (simp <;> omega)) _))
set_option maxRecDepth 100000 in
set_option maxHeartbeats 2000000 in
theorem psnew_yes (s t f l p n : Int) (w : World) (hs : 1 ≤ s ∧ s ≤ 1000) (ht : 1 ≤ t ∧ t ≤ 64) (hf : 4 ≤ f ∧ f ≤ 64) (h0 : 1 ≤ n) (h1 : n ≤ s) :
    Calls Tryd.prog 24 #[.agg #[.int .i64 s, .int .i64 t, .int .i64 f, .int .i64 l, .int .i64 p], .int .i64 n] w fun e w' => e = .returned (.agg #[.int .i64 s, .int .i64 t, .int .i64 f, .int .i64 l, .int .i64 p, .int .i64 1, .int .i64 n, .int .u64 0, .int .i64 0]) ∧ Below w.heap.size w w' := by
  have C := hide (fun w2 => size_any s t f l p w2 hs ht hf)
  have hz := size_pos hs ht hf
  have q0 : (laySize s t f == 0) = false := by rw [beq_eq_false_iff_ne]; omega
  clear hz
  generalize laySize s t f = q at *
  have D := hide (fun w2 => bwithin_t s t f l p n 0 0 1 n w2 h0 h1)
  have bx := Blk.new w 28 #[.int .i64 s, .int .i64 t, .int .i64 f, .int .i64 l, .int .i64 p]
  have B0 := (Below.refl w.heap.size w).alloc (Nat.le_refl _) (.cells #[.int .i64 s, .int .i64 t, .int .i64 f, .int .i64 l, .int .i64 p] 28)
  have bo := Blk.new (w.alloc (.cells #[.int .i64 s, .int .i64 t, .int .i64 f, .int .i64 l, .int .i64 p] 28)) 39 #[.int .i64 0, .int .i64 0, .int .i64 0, .int .i64 0, .int .i64 0, .int .i64 0, .int .i64 0, .int .u64 0, .int .i64 0]
  replace B0 := B0.alloc B0.size (.cells #[.int .i64 0, .int .i64 0, .int .i64 0, .int .i64 0, .int .i64 0, .int .i64 0, .int .i64 0, .int .u64 0, .int .i64 0] 39)
  replace bx := bx.alloc (.cells #[.int .i64 0, .int .i64 0, .int .i64 0, .int .i64 0, .int .i64 0, .int .i64 0, .int .i64 0, .int .u64 0, .int .i64 0] 39)
  have by_ := Blk.new ((w.alloc (.cells #[.int .i64 s, .int .i64 t, .int .i64 f, .int .i64 l, .int .i64 p] 28)).alloc (.cells #[.int .i64 0, .int .i64 0, .int .i64 0, .int .i64 0, .int .i64 0, .int .i64 0, .int .i64 0, .int .u64 0, .int .i64 0] 39)) 39 #[.int .i64 s, .int .i64 t, .int .i64 f, .int .i64 l, .int .i64 p, .int .i64 1, .int .i64 n, .int .u64 0, .int .i64 0]
  replace B0 := B0.alloc B0.size (.cells #[.int .i64 s, .int .i64 t, .int .i64 f, .int .i64 l, .int .i64 p, .int .i64 1, .int .i64 n, .int .u64 0, .int .i64 0] 39)
  replace bx := bx.alloc (.cells #[.int .i64 s, .int .i64 t, .int .i64 f, .int .i64 l, .int .i64 p, .int .i64 1, .int .i64 n, .int .u64 0, .int .i64 0] 39)
  replace bo := bo.alloc (.cells #[.int .i64 s, .int .i64 t, .int .i64 f, .int .i64 l, .int .i64 p, .int .i64 1, .int .i64 n, .int .u64 0, .int .i64 0] 39)
  rw [World.size_alloc] at bo by_
  rw [World.size_alloc] at by_
  go_enter Tryd.func24, Tryd.ntmps24
  go_wp2_with fail
  refine (C.out _).mono ?_
  rintro e w1 ⟨rfl, hb1⟩
  try replace bx := bx.below hb1 bx.lt
  try replace bo := bo.below hb1 bo.lt
  try replace by_ := by_.below hb1 by_.lt
  replace B0 := B0.trans (hb1.mono B0.size)
  clear hb1
  try clear mx lx
  try clear mo lo zo
  try clear my ly zy
  try have mx := fun i => bx.cell i
  try have lx := bx.lt
  try have mo := fun i => bo.cell i
  try have lo := bo.lt
  try have zo := fun i => bo.frozen i
  try have my := fun i => by_.cell i
  try have ly := by_.lt
  try have zy := fun i => by_.frozen i
  go_wp2_with fail
  refine (D.out _).mono ?_
  rintro e w2 ⟨rfl, hb1⟩
  try replace bx := bx.below hb1 bx.lt
  try replace bo := bo.below hb1 bo.lt
  try replace by_ := by_.below hb1 by_.lt
  replace B0 := B0.trans (hb1.mono B0.size)
  clear hb1
  try clear mx lx
  try clear mo lo zo
  try clear my ly zy
  try have mx := fun i => bx.cell i
  try have lx := bx.lt
  try have mo := fun i => bo.cell i
  try have lo := bo.lt
  try have zo := fun i => bo.frozen i
  try have my := fun i => by_.cell i
  try have ly := by_.lt
  try have zy := fun i => by_.frozen i
  go_wp2_with fail
  have b9 := bo.put9 (.int .i64 s) (.int .i64 t) (.int .i64 f) (.int .i64 l) (.int .i64 p) (.int .i64 1) (.int .i64 n) (.int .u64 0) (.int .i64 0)
  have B9 := below_put9 B0 (g := w.heap.size + 1) (by omega) (.int .i64 s) (.int .i64 t) (.int .i64 f) (.int .i64 l) (.int .i64 p) (.int .i64 1) (.int .i64 n) (.int .u64 0) (.int .i64 0)
  have m9 := fun i => b9.cell i
  refine bodyPost_ret (v := .agg #[.int .i64 s, .int .i64 t, .int .i64 f, .int .i64 l, .int .i64 p, .int .i64 1, .int .i64 n, .int .u64 0, .int .i64 0]) (by simp [results, Tryd.results24, go_sem, m9]) rfl ⟨rfl, by first | exact B9 | exact B9.drew⟩
set_option maxRecDepth 100000 in
set_option maxHeartbeats 2000000 in
theorem psnew_lo (s t f l p n : Int) (w : World) (hs : 1 ≤ s ∧ s ≤ 1000) (ht : 1 ≤ t ∧ t ≤ 64) (hf : 4 ≤ f ∧ f ≤ 64) (h0 : n < 1) :
    Calls Tryd.prog 24 #[.agg #[.int .i64 s, .int .i64 t, .int .i64 f, .int .i64 l, .int .i64 p], .int .i64 n] w fun e w' => e = .returned (.agg #[.int .i64 0, .int .i64 0, .int .i64 0, .int .i64 0, .int .i64 0, .int .i64 0, .int .i64 0, .int .u64 0, .int .i64 0]) ∧ Below w.heap.size w w' := by
  have C := hide (fun w2 => size_any s t f l p w2 hs ht hf)
  have hz := size_pos hs ht hf
  have q0 : (laySize s t f == 0) = false := by rw [beq_eq_false_iff_ne]; omega
  clear hz
  generalize laySize s t f = q at *
  have D := hide (fun w2 => bwithin_f1 s t f l p n 0 0 1 n w2 h0)
  have bx := Blk.new w 28 #[.int .i64 s, .int .i64 t, .int .i64 f, .int .i64 l, .int .i64 p]
  have B0 := (Below.refl w.heap.size w).alloc (Nat.le_refl _) (.cells #[.int .i64 s, .int .i64 t, .int .i64 f, .int .i64 l, .int .i64 p] 28)
  have bo := Blk.new (w.alloc (.cells #[.int .i64 s, .int .i64 t, .int .i64 f, .int .i64 l, .int .i64 p] 28)) 39 #[.int .i64 0, .int .i64 0, .int .i64 0, .int .i64 0, .int .i64 0, .int .i64 0, .int .i64 0, .int .u64 0, .int .i64 0]
  replace B0 := B0.alloc B0.size (.cells #[.int .i64 0, .int .i64 0, .int .i64 0, .int .i64 0, .int .i64 0, .int .i64 0, .int .i64 0, .int .u64 0, .int .i64 0] 39)
  replace bx := bx.alloc (.cells #[.int .i64 0, .int .i64 0, .int .i64 0, .int .i64 0, .int .i64 0, .int .i64 0, .int .i64 0, .int .u64 0, .int .i64 0] 39)
  have by_ := Blk.new ((w.alloc (.cells #[.int .i64 s, .int .i64 t, .int .i64 f, .int .i64 l, .int .i64 p] 28)).alloc (.cells #[.int .i64 0, .int .i64 0, .int .i64 0, .int .i64 0, .int .i64 0, .int .i64 0, .int .i64 0, .int .u64 0, .int .i64 0] 39)) 39 #[.int .i64 s, .int .i64 t, .int .i64 f, .int .i64 l, .int .i64 p, .int .i64 1, .int .i64 n, .int .u64 0, .int .i64 0]
  replace B0 := B0.alloc B0.size (.cells #[.int .i64 s, .int .i64 t, .int .i64 f, .int .i64 l, .int .i64 p, .int .i64 1, .int .i64 n, .int .u64 0, .int .i64 0] 39)
  replace bx := bx.alloc (.cells #[.int .i64 s, .int .i64 t, .int .i64 f, .int .i64 l, .int .i64 p, .int .i64 1, .int .i64 n, .int .u64 0, .int .i64 0] 39)
  replace bo := bo.alloc (.cells #[.int .i64 s, .int .i64 t, .int .i64 f, .int .i64 l, .int .i64 p, .int .i64 1, .int .i64 n, .int .u64 0, .int .i64 0] 39)
  rw [World.size_alloc] at bo by_
  rw [World.size_alloc] at by_
  go_enter Tryd.func24, Tryd.ntmps24
  go_wp2_with fail
  refine (C.out _).mono ?_
  rintro e w1 ⟨rfl, hb1⟩
  try replace bx := bx.below hb1 bx.lt
  try replace bo := bo.below hb1 bo.lt
  try replace by_ := by_.below hb1 by_.lt
  replace B0 := B0.trans (hb1.mono B0.size)
  clear hb1
  try clear mx lx
  try clear mo lo zo
  try clear my ly zy
  try have mx := fun i => bx.cell i
  try have lx := bx.lt
  try have mo := fun i => bo.cell i
  try have lo := bo.lt
  try have zo := fun i => bo.frozen i
  try have my := fun i => by_.cell i
  try have ly := by_.lt
  try have zy := fun i => by_.frozen i
  go_wp2_with fail
  refine (D.out _).mono ?_
  rintro e w2 ⟨rfl, hb1⟩
  try replace bx := bx.below hb1 bx.lt
  try replace bo := bo.below hb1 bo.lt
  try replace by_ := by_.below hb1 by_.lt
  replace B0 := B0.trans (hb1.mono B0.size)
  clear hb1
  try clear mx lx
  try clear mo lo zo
  try clear my ly zy
  try have mx := fun i => bx.cell i
  try have lx := bx.lt
  try have mo := fun i => bo.cell i
  try have lo := bo.lt
  try have zo := fun i => bo.frozen i
  try have my := fun i => by_.cell i
  try have ly := by_.lt
  try have zy := fun i => by_.frozen i
  go_wp2_with fail
  have b9 := bo.put9 (.int .i64 0) (.int .i64 0) (.int .i64 0) (.int .i64 0) (.int .i64 0) (.int .i64 0) (.int .i64 0) (.int .u64 0) (.int .i64 0)
  have B9 := below_put9 B0 (g := w.heap.size + 1) (by omega) (.int .i64 0) (.int .i64 0) (.int .i64 0) (.int .i64 0) (.int .i64 0) (.int .i64 0) (.int .i64 0) (.int .u64 0) (.int .i64 0)
  have m9 := fun i => b9.cell i
  refine bodyPost_ret (v := .agg #[.int .i64 0, .int .i64 0, .int .i64 0, .int .i64 0, .int .i64 0, .int .i64 0, .int .i64 0, .int .u64 0, .int .i64 0]) (by simp [results, Tryd.results24, go_sem, m9]) rfl ⟨rfl, by first | exact B9 | exact B9.drew⟩
set_option maxRecDepth 100000 in
set_option maxHeartbeats 2000000 in
theorem psnew_hi (s t f l p n : Int) (w : World) (hs : 1 ≤ s ∧ s ≤ 1000) (ht : 1 ≤ t ∧ t ≤ 64) (hf : 4 ≤ f ∧ f ≤ 64) (h0 : 1 ≤ n) (h1 : s < n) :
    Calls Tryd.prog 24 #[.agg #[.int .i64 s, .int .i64 t, .int .i64 f, .int .i64 l, .int .i64 p], .int .i64 n] w fun e w' => e = .returned (.agg #[.int .i64 0, .int .i64 0, .int .i64 0, .int .i64 0, .int .i64 0, .int .i64 0, .int .i64 0, .int .u64 0, .int .i64 0]) ∧ Below w.heap.size w w' := by
  have C := hide (fun w2 => size_any s t f l p w2 hs ht hf)
  have hz := size_pos hs ht hf
  have q0 : (laySize s t f == 0) = false := by rw [beq_eq_false_iff_ne]; omega
  clear hz
  generalize laySize s t f = q at *
  have D := hide (fun w2 => bwithin_f2 s t f l p n 0 0 1 n w2 h0 h1)
  have bx := Blk.new w 28 #[.int .i64 s, .int .i64 t, .int .i64 f, .int .i64 l, .int .i64 p]
  have B0 := (Below.refl w.heap.size w).alloc (Nat.le_refl _) (.cells #[.int .i64 s, .int .i64 t, .int .i64 f, .int .i64 l, .int .i64 p] 28)
  have bo := Blk.new (w.alloc (.cells #[.int .i64 s, .int .i64 t, .int .i64 f, .int .i64 l, .int .i64 p] 28)) 39 #[.int .i64 0, .int .i64 0, .int .i64 0, .int .i64 0, .int .i64 0, .int .i64 0, .int .i64 0, .int .u64 0, .int .i64 0]
  replace B0 := B0.alloc B0.size (.cells #[.int .i64 0, .int .i64 0, .int .i64 0, .int .i64 0, .int .i64 0, .int .i64 0, .int .i64 0, .int .u64 0, .int .i64 0] 39)
  replace bx := bx.alloc (.cells #[.int .i64 0, .int .i64 0, .int .i64 0, .int .i64 0, .int .i64 0, .int .i64 0, .int .i64 0, .int .u64 0, .int .i64 0] 39)
  have by_ := Blk.new ((w.alloc (.cells #[.int .i64 s, .int .i64 t, .int .i64 f, .int .i64 l, .int .i64 p] 28)).alloc (.cells #[.int .i64 0, .int .i64 0, .int .i64 0, .int .i64 0, .int .i64 0, .int .i64 0, .int .i64 0, .int .u64 0, .int .i64 0] 39)) 39 #[.int .i64 s, .int .i64 t, .int .i64 f, .int .i64 l, .int .i64 p, .int .i64 1, .int .i64 n, .int .u64 0, .int .i64 0]
  replace B0 := B0.alloc B0.size (.cells #[.int .i64 s, .int .i64 t, .int .i64 f, .int .i64 l, .int .i64 p, .int .i64 1, .int .i64 n, .int .u64 0, .int .i64 0] 39)
  replace bx := bx.alloc (.cells #[.int .i64 s, .int .i64 t, .int .i64 f, .int .i64 l, .int .i64 p, .int .i64 1, .int .i64 n, .int .u64 0, .int .i64 0] 39)
  replace bo := bo.alloc (.cells #[.int .i64 s, .int .i64 t, .int .i64 f, .int .i64 l, .int .i64 p, .int .i64 1, .int .i64 n, .int .u64 0, .int .i64 0] 39)
  rw [World.size_alloc] at bo by_
  rw [World.size_alloc] at by_
  go_enter Tryd.func24, Tryd.ntmps24
  go_wp2_with fail
  refine (C.out _).mono ?_
  rintro e w1 ⟨rfl, hb1⟩
  try replace bx := bx.below hb1 bx.lt
  try replace bo := bo.below hb1 bo.lt
  try replace by_ := by_.below hb1 by_.lt
  replace B0 := B0.trans (hb1.mono B0.size)
  clear hb1
  try clear mx lx
  try clear mo lo zo
  try clear my ly zy
  try have mx := fun i => bx.cell i
  try have lx := bx.lt
  try have mo := fun i => bo.cell i
  try have lo := bo.lt
  try have zo := fun i => bo.frozen i
  try have my := fun i => by_.cell i
  try have ly := by_.lt
  try have zy := fun i => by_.frozen i
  go_wp2_with fail
  refine (D.out _).mono ?_
  rintro e w2 ⟨rfl, hb1⟩
  try replace bx := bx.below hb1 bx.lt
  try replace bo := bo.below hb1 bo.lt
  try replace by_ := by_.below hb1 by_.lt
  replace B0 := B0.trans (hb1.mono B0.size)
  clear hb1
  try clear mx lx
  try clear mo lo zo
  try clear my ly zy
  try have mx := fun i => bx.cell i
  try have lx := bx.lt
  try have mo := fun i => bo.cell i
  try have lo := bo.lt
  try have zo := fun i => bo.frozen i
  try have my := fun i => by_.cell i
  try have ly := by_.lt
  try have zy := fun i => by_.frozen i
  go_wp2_with fail
  have b9 := bo.put9 (.int .i64 0) (.int .i64 0) (.int .i64 0) (.int .i64 0) (.int .i64 0) (.int .i64 0) (.int .i64 0) (.int .u64 0) (.int .i64 0)
  have B9 := below_put9 B0 (g := w.heap.size + 1) (by omega) (.int .i64 0) (.int .i64 0) (.int .i64 0) (.int .i64 0) (.int .i64 0) (.int .i64 0) (.int .i64 0) (.int .u64 0) (.int .i64 0)
  have m9 := fun i => b9.cell i
  refine bodyPost_ret (v := .agg #[.int .i64 0, .int .i64 0, .int .i64 0, .int .i64 0, .int .i64 0, .int .i64 0, .int .i64 0, .int .u64 0, .int .i64 0]) (by simp [results, Tryd.results24, go_sem, m9]) rfl ⟨rfl, by first | exact B9 | exact B9.drew⟩
set_option maxRecDepth 100000 in
set_option maxHeartbeats 2000000 in
theorem psnew_zero (n : Int) (w : World) :
    Calls Tryd.prog 24 #[.agg #[.int .i64 0, .int .i64 0, .int .i64 0, .int .i64 0, .int .i64 0], .int .i64 n] w fun e w' => e = .returned (.agg #[.int .i64 0, .int .i64 0, .int .i64 0, .int .i64 0, .int .i64 0, .int .i64 0, .int .i64 0, .int .u64 0, .int .i64 0]) ∧ Below w.heap.size w w' := by
  have C := hide (fun w2 => size_zero w2)
  have bx := Blk.new w 28 #[.int .i64 0, .int .i64 0, .int .i64 0, .int .i64 0, .int .i64 0]
  have B0 := (Below.refl w.heap.size w).alloc (Nat.le_refl _) (.cells #[.int .i64 0, .int .i64 0, .int .i64 0, .int .i64 0, .int .i64 0] 28)
  have bo := Blk.new (w.alloc (.cells #[.int .i64 0, .int .i64 0, .int .i64 0, .int .i64 0, .int .i64 0] 28)) 39 #[.int .i64 0, .int .i64 0, .int .i64 0, .int .i64 0, .int .i64 0, .int .i64 0, .int .i64 0, .int .u64 0, .int .i64 0]
  replace B0 := B0.alloc B0.size (.cells #[.int .i64 0, .int .i64 0, .int .i64 0, .int .i64 0, .int .i64 0, .int .i64 0, .int .i64 0, .int .u64 0, .int .i64 0] 39)
  replace bx := bx.alloc (.cells #[.int .i64 0, .int .i64 0, .int .i64 0, .int .i64 0, .int .i64 0, .int .i64 0, .int .i64 0, .int .u64 0, .int .i64 0] 39)
  have by_ := Blk.new ((w.alloc (.cells #[.int .i64 0, .int .i64 0, .int .i64 0, .int .i64 0, .int .i64 0] 28)).alloc (.cells #[.int .i64 0, .int .i64 0, .int .i64 0, .int .i64 0, .int .i64 0, .int .i64 0, .int .i64 0, .int .u64 0, .int .i64 0] 39)) 39 #[.int .i64 0, .int .i64 0, .int .i64 0, .int .i64 0, .int .i64 0, .int .i64 1, .int .i64 n, .int .u64 0, .int .i64 0]
  replace B0 := B0.alloc B0.size (.cells #[.int .i64 0, .int .i64 0, .int .i64 0, .int .i64 0, .int .i64 0, .int .i64 1, .int .i64 n, .int .u64 0, .int .i64 0] 39)
  replace bx := bx.alloc (.cells #[.int .i64 0, .int .i64 0, .int .i64 0, .int .i64 0, .int .i64 0, .int .i64 1, .int .i64 n, .int .u64 0, .int .i64 0] 39)
  replace bo := bo.alloc (.cells #[.int .i64 0, .int .i64 0, .int .i64 0, .int .i64 0, .int .i64 0, .int .i64 1, .int .i64 n, .int .u64 0, .int .i64 0] 39)
  rw [World.size_alloc] at bo by_
  rw [World.size_alloc] at by_
  go_enter Tryd.func24, Tryd.ntmps24
  go_wp2_with fail
  refine (C.out _).mono ?_
  rintro e w1 ⟨rfl, hb1⟩
  try replace bx := bx.below hb1 bx.lt
  try replace bo := bo.below hb1 bo.lt
  try replace by_ := by_.below hb1 by_.lt
  replace B0 := B0.trans (hb1.mono B0.size)
  clear hb1
  try clear mx lx
  try clear mo lo zo
  try clear my ly zy
  try have mx := fun i => bx.cell i
  try have lx := bx.lt
  try have mo := fun i => bo.cell i
  try have lo := bo.lt
  try have zo := fun i => bo.frozen i
  try have my := fun i => by_.cell i
  try have ly := by_.lt
  try have zy := fun i => by_.frozen i
  go_wp2_with fail
  have b9 := bo.put9 (.int .i64 0) (.int .i64 0) (.int .i64 0) (.int .i64 0) (.int .i64 0) (.int .i64 0) (.int .i64 0) (.int .u64 0) (.int .i64 0)
  have B9 := below_put9 B0 (g := w.heap.size + 1) (by omega) (.int .i64 0) (.int .i64 0) (.int .i64 0) (.int .i64 0) (.int .i64 0) (.int .i64 0) (.int .i64 0) (.int .u64 0) (.int .i64 0)
  have m9 := fun i => b9.cell i
  refine bodyPost_ret (v := .agg #[.int .i64 0, .int .i64 0, .int .i64 0, .int .i64 0, .int .i64 0, .int .i64 0, .int .i64 0, .int .u64 0, .int .i64 0]) (by simp [results, Tryd.results24, go_sem, m9]) rfl ⟨rfl, by first | exact B9 | exact B9.drew⟩
theorem pp_eql (s t f l p sl hd tr lk k : Int) (w : World) : (binOp .eql 37 (.agg #[.int .i64 s, .int .i64 t, .int .i64 f, .int .i64 l, .int .i64 p, .int .i64 k, .int .i64 sl, .int .u64 hd, .int .i64 tr, .int .i64 lk]) (.agg #[.int .i64 s, .int .i64 t, .int .i64 f, .int .i64 l, .int .i64 p, .int .i64 k, .int .i64 sl, .int .u64 hd, .int .i64 tr, .int .i64 lk])).run Tryd.prog w = .ok (.bool true) w := by
  have hs : Tryd.prog.stoodInHeld 37 = false := by kernel_rfl
  rw [run_eql_struct, show (10000 : Nat) = 9999 + 1 from rfl, run_equalIn_agg _ _ _ _ _ (by kernel_rfl) hs]
  simp [Program.fieldsOf, Tryd.underlying37, Tryd.underlying35, Tryd.underlying28, Tryd.underlying23, Tryd.underlying3, Tryd.underlying33, Op.eqFields, run_equalIn_int, go_sem]
theorem ps_eql (s t f l p sl hd tr k : Int) (w : World) : (binOp .eql 39 (.agg #[.int .i64 s, .int .i64 t, .int .i64 f, .int .i64 l, .int .i64 p, .int .i64 k, .int .i64 sl, .int .u64 hd, .int .i64 tr]) (.agg #[.int .i64 s, .int .i64 t, .int .i64 f, .int .i64 l, .int .i64 p, .int .i64 k, .int .i64 sl, .int .u64 hd, .int .i64 tr])).run Tryd.prog w = .ok (.bool true) w := by
  have hs : Tryd.prog.stoodInHeld 39 = false := by kernel_rfl
  rw [run_eql_struct, show (10000 : Nat) = 9999 + 1 from rfl, run_equalIn_agg _ _ _ _ _ (by kernel_rfl) hs]
  simp [Program.fieldsOf, Tryd.underlying39, Tryd.underlying35, Tryd.underlying28, Tryd.underlying23, Tryd.underlying3, Tryd.underlying33, Op.eqFields, run_equalIn_int, go_sem]

/-- The step, the slot, the head, the tries. -/
def psTook (x : Int × Int × Int × Int) (g : Int) : Int × Int × Int × Int :=
  if x.1 = 0 then x
  else if x.1 = 1 then (2, x.2.1, g, x.2.2.2)
  else if x.1 = 2 then (3, x.2.1, x.2.2.1, x.2.2.2)
  else if g = 1 then (0, x.2.1, x.2.2.1, x.2.2.2)
  else (1, x.2.1, x.2.2.1, wrap64 (x.2.2.2 + 1))
def PsOk (x : Int × Int × Int × Int) : Prop := x.1 = 0 ∨ x.1 = 1 ∨ x.1 = 2 ∨ x.1 = 3
theorem psTook_ok {x : Int × Int × Int × Int} {g : Int} (h : PsOk x) : PsOk (psTook x g) := by
  unfold psTook
  split
  · exact h
  · split
    · exact .inr (.inr (.inl rfl))
    · split
      · exact .inr (.inr (.inr rfl))
      · split
        · exact .inl rfl
        · exact .inr (.inl rfl)
def psV (s t f l p : Int) (x : Int × Int × Int × Int) : Value := .agg #[.int .i64 s, .int .i64 t, .int .i64 f, .int .i64 l, .int .i64 p, .int .i64 x.1, .int .i64 x.2.1, .int .u64 x.2.2.1, .int .i64 x.2.2.2]
theorem pstook_any (s t f l p g : Int) (x : Int × Int × Int × Int) (w : World) (hx : PsOk x) :
    Calls Tryd.prog 26 #[psV s t f l p x, .int .u64 g] w fun e w' => e = .returned (psV s t f l p (psTook x g)) ∧ Below w.heap.size w w' := by
  obtain ⟨k, sl, hd, tr⟩ := x
  unfold PsOk at hx
  simp only at hx
  rcases hx with rfl | rfl | rfl | rfl
  · exact pstook_0 s t f l p sl hd tr g w
  · exact pstook_1 s t f l p sl hd tr g w
  · exact pstook_2 s t f l p sl hd tr g w
  · by_cases h0 : g = 1
    · subst h0
      exact pstook_3y s t f l p sl hd tr w
    · rw [show psTook (3, sl, hd, tr) g = (1, sl, hd, wrap64 (tr + 1)) by simp [psTook, h0]]
      exact pstook_3n s t f l p sl hd tr g w (by simpa using h0)
end Go.Proofs.YteiidfklepjpmaaDoor

/-
  A Pop told what it is told.
-/
namespace Go.Proofs.YteiidfklepjpmaaDoor
open Go.RowKit
attribute [local go_sem] past_cell past_cell_add

set_option maxRecDepth 100000 in
set_option maxHeartbeats 2000000 in
theorem ptook_0 (s t f l p sl hd tr lk g : Int) (w : World) :
    Calls Tryd.prog 14 #[.agg #[.int .i64 s, .int .i64 t, .int .i64 f, .int .i64 l, .int .i64 p, .int .i64 0, .int .i64 sl, .int .u64 hd, .int .i64 tr, .int .i64 lk], .int .u64 g] w fun e w' => e = .returned (.agg #[.int .i64 s, .int .i64 t, .int .i64 f, .int .i64 l, .int .i64 p, .int .i64 0, .int .i64 sl, .int .u64 hd, .int .i64 tr, .int .i64 lk]) ∧ Below w.heap.size w w' := by
  go_enter Tryd.func14, Tryd.ntmps14
  go_wp2_with fail
  refine bodyPost_ret (v := .agg #[.int .i64 s, .int .i64 t, .int .i64 f, .int .i64 l, .int .i64 p, .int .i64 0, .int .i64 sl, .int .u64 hd, .int .i64 tr, .int .i64 lk]) (by simp [results, Tryd.results14, go_sem]) rfl ⟨rfl, ?_⟩
  repeat (first | exact Below.refl _ _ | exact B0 | (refine Below.setCell ?_ (by first | (show w.heap.size ≤ w.heap.size; omega) | (show w.heap.size ≤ w.heap.size + 1; omega) | (show w.heap.size ≤ w.heap.size + 2; omega) | (show w.heap.size ≤ _; simp)) _) | (refine Below.alloc ?_ (by first | exact Nat.le_refl _ | (simp <;> omega)) _))
set_option maxRecDepth 100000 in
set_option maxHeartbeats 2000000 in
theorem ptook_1y (s t f l p sl hd tr lk g : Int) (w : World) (hg : W64 g) (h0 : 1 ≤ g % 65536) (h1 : g % 65536 ≤ s) :
    Calls Tryd.prog 14 #[.agg #[.int .i64 s, .int .i64 t, .int .i64 f, .int .i64 l, .int .i64 p, .int .i64 1, .int .i64 sl, .int .u64 hd, .int .i64 tr, .int .i64 lk], .int .u64 g] w fun e w' => e = .returned (.agg #[.int .i64 s, .int .i64 t, .int .i64 f, .int .i64 l, .int .i64 p, .int .i64 2, .int .i64 (g % 65536), .int .u64 g, .int .i64 tr, .int .i64 lk]) ∧ Below w.heap.size w w' := by
  have C := hide (fun w2 => htell_slot g w2 hg)
  generalize g % 65536 = q at *
  have D := hide (fun w2 => bwithin_t s t f l p q g tr 2 q w2 h0 h1)
  have bx := Blk.new w 37 #[.int .i64 s, .int .i64 t, .int .i64 f, .int .i64 l, .int .i64 p, .int .i64 1, .int .i64 sl, .int .u64 hd, .int .i64 tr, .int .i64 lk]
  have B0 := (Below.refl w.heap.size w).alloc (Nat.le_refl _) (.cells #[.int .i64 s, .int .i64 t, .int .i64 f, .int .i64 l, .int .i64 p, .int .i64 1, .int .i64 sl, .int .u64 hd, .int .i64 tr, .int .i64 lk] 37)
  have bo := Blk.new (w.alloc (.cells #[.int .i64 s, .int .i64 t, .int .i64 f, .int .i64 l, .int .i64 p, .int .i64 1, .int .i64 sl, .int .u64 hd, .int .i64 tr, .int .i64 lk] 37)) 37 #[.int .i64 0, .int .i64 0, .int .i64 0, .int .i64 0, .int .i64 0, .int .i64 0, .int .i64 0, .int .u64 0, .int .i64 0, .int .i64 0]
  replace B0 := B0.alloc B0.size (.cells #[.int .i64 0, .int .i64 0, .int .i64 0, .int .i64 0, .int .i64 0, .int .i64 0, .int .i64 0, .int .u64 0, .int .i64 0, .int .i64 0] 37)
  replace bx := bx.alloc (.cells #[.int .i64 0, .int .i64 0, .int .i64 0, .int .i64 0, .int .i64 0, .int .i64 0, .int .i64 0, .int .u64 0, .int .i64 0, .int .i64 0] 37)
  rw [World.size_alloc] at bo
  go_enter Tryd.func14, Tryd.ntmps14
  go_wp2_with fail
  refine (C.out _).mono ?_
  rintro e w1 ⟨rfl, hb1⟩
  replace bx := bx.below hb1 bx.lt
  replace bo := bo.below hb1 bo.lt
  replace B0 := B0.trans (hb1.mono B0.size)
  clear hb1
  have zx := fun i => bx.frozen i
  try clear mx lx
  try clear mo lo zo
  try clear my ly zy
  try have mx := fun i => bx.cell i
  try have lx := bx.lt
  try have mo := fun i => bo.cell i
  try have lo := bo.lt
  try have zo := fun i => bo.frozen i
  try have my := fun i => by_.cell i
  try have ly := by_.lt
  try have zy := fun i => by_.frozen i
  go_wp2_with fail
  have b2 := ((bx.set_ 7 (.int .u64 g)).set_ 6 (.int .i64 q)).set_ 5 (.int .i64 2)
  simp only [List.setIfInBounds_toArray, List.set_cons_zero, List.set_cons_succ] at b2
  have o2 := ((bo.far (p := ⟨w.heap.size, 7, none⟩) (by show w.heap.size + 1 ≠ w.heap.size; omega) (.int .u64 g)).far (p := ⟨w.heap.size, 6, none⟩) (by show w.heap.size + 1 ≠ w.heap.size; omega) (.int .i64 q)).far (p := ⟨w.heap.size, 5, none⟩) (by show w.heap.size + 1 ≠ w.heap.size; omega) (.int .i64 2)
  have C2 := ((B0.setCell (p := ⟨w.heap.size, 7, none⟩) (Nat.le_refl _) (.int .u64 g)).setCell (p := ⟨w.heap.size, 6, none⟩) (Nat.le_refl _) (.int .i64 q)).setCell (p := ⟨w.heap.size, 5, none⟩) (Nat.le_refl _) (.int .i64 2)
  clear bx bo B0 zx mx lx mo lo zo
  generalize ((w1.setCell ⟨w.heap.size, 7, none⟩ (.int .u64 g)).setCell ⟨w.heap.size, 6, none⟩ (.int .i64 q)).setCell ⟨w.heap.size, 5, none⟩ (.int .i64 2) = w2 at *
  have bx := b2
  have bo := o2
  have B0 := C2
  clear b2 o2 C2
  have zx := fun i => bx.frozen i
  try clear mx lx
  try clear mo lo zo
  try clear my ly zy
  try have mx := fun i => bx.cell i
  try have lx := bx.lt
  try have mo := fun i => bo.cell i
  try have lo := bo.lt
  try have zo := fun i => bo.frozen i
  try have my := fun i => by_.cell i
  try have ly := by_.lt
  try have zy := fun i => by_.frozen i
  go_wp2_with fail
  refine (D.out _).mono ?_
  rintro e w3 ⟨rfl, hb1⟩
  replace bx := bx.below hb1 bx.lt
  replace bo := bo.below hb1 bo.lt
  replace B0 := B0.trans (hb1.mono B0.size)
  clear hb1 zx
  have zx := fun i => bx.frozen i
  try clear mx lx
  try clear mo lo zo
  try clear my ly zy
  try have mx := fun i => bx.cell i
  try have lx := bx.lt
  try have mo := fun i => bo.cell i
  try have lo := bo.lt
  try have zo := fun i => bo.frozen i
  try have my := fun i => by_.cell i
  try have ly := by_.lt
  try have zy := fun i => by_.frozen i
  go_wp2_with fail
  have b9 := bo.put10 (.int .i64 s) (.int .i64 t) (.int .i64 f) (.int .i64 l) (.int .i64 p) (.int .i64 2) (.int .i64 q) (.int .u64 g) (.int .i64 tr) (.int .i64 lk)
  have B9 := below_put10 B0 (g := w.heap.size + 1) (by omega) (.int .i64 s) (.int .i64 t) (.int .i64 f) (.int .i64 l) (.int .i64 p) (.int .i64 2) (.int .i64 q) (.int .u64 g) (.int .i64 tr) (.int .i64 lk)
  have m9 := fun i => b9.cell i
  refine bodyPost_ret (v := .agg #[.int .i64 s, .int .i64 t, .int .i64 f, .int .i64 l, .int .i64 p, .int .i64 2, .int .i64 q, .int .u64 g, .int .i64 tr, .int .i64 lk]) (by simp [results, Tryd.results14, go_sem, m9]) rfl ⟨rfl, B9⟩
set_option maxRecDepth 100000 in
set_option maxHeartbeats 2000000 in
theorem ptook_1l (s t f l p sl hd tr lk g : Int) (w : World) (hg : W64 g) (h0 : g % 65536 < 1) :
    Calls Tryd.prog 14 #[.agg #[.int .i64 s, .int .i64 t, .int .i64 f, .int .i64 l, .int .i64 p, .int .i64 1, .int .i64 sl, .int .u64 hd, .int .i64 tr, .int .i64 lk], .int .u64 g] w fun e w' => e = .returned (.agg #[.int .i64 s, .int .i64 t, .int .i64 f, .int .i64 l, .int .i64 p, .int .i64 0, .int .i64 0, .int .u64 g, .int .i64 tr, .int .i64 lk]) ∧ Below w.heap.size w w' := by
  have C := hide (fun w2 => htell_slot g w2 hg)
  generalize g % 65536 = q at *
  have D := hide (fun w2 => bwithin_f1 s t f l p q g tr 2 q w2 h0)
  have bx := Blk.new w 37 #[.int .i64 s, .int .i64 t, .int .i64 f, .int .i64 l, .int .i64 p, .int .i64 1, .int .i64 sl, .int .u64 hd, .int .i64 tr, .int .i64 lk]
  have B0 := (Below.refl w.heap.size w).alloc (Nat.le_refl _) (.cells #[.int .i64 s, .int .i64 t, .int .i64 f, .int .i64 l, .int .i64 p, .int .i64 1, .int .i64 sl, .int .u64 hd, .int .i64 tr, .int .i64 lk] 37)
  have bo := Blk.new (w.alloc (.cells #[.int .i64 s, .int .i64 t, .int .i64 f, .int .i64 l, .int .i64 p, .int .i64 1, .int .i64 sl, .int .u64 hd, .int .i64 tr, .int .i64 lk] 37)) 37 #[.int .i64 0, .int .i64 0, .int .i64 0, .int .i64 0, .int .i64 0, .int .i64 0, .int .i64 0, .int .u64 0, .int .i64 0, .int .i64 0]
  replace B0 := B0.alloc B0.size (.cells #[.int .i64 0, .int .i64 0, .int .i64 0, .int .i64 0, .int .i64 0, .int .i64 0, .int .i64 0, .int .u64 0, .int .i64 0, .int .i64 0] 37)
  replace bx := bx.alloc (.cells #[.int .i64 0, .int .i64 0, .int .i64 0, .int .i64 0, .int .i64 0, .int .i64 0, .int .i64 0, .int .u64 0, .int .i64 0, .int .i64 0] 37)
  rw [World.size_alloc] at bo
  go_enter Tryd.func14, Tryd.ntmps14
  go_wp2_with fail
  refine (C.out _).mono ?_
  rintro e w1 ⟨rfl, hb1⟩
  replace bx := bx.below hb1 bx.lt
  replace bo := bo.below hb1 bo.lt
  replace B0 := B0.trans (hb1.mono B0.size)
  clear hb1
  have zx := fun i => bx.frozen i
  try clear mx lx
  try clear mo lo zo
  try clear my ly zy
  try have mx := fun i => bx.cell i
  try have lx := bx.lt
  try have mo := fun i => bo.cell i
  try have lo := bo.lt
  try have zo := fun i => bo.frozen i
  try have my := fun i => by_.cell i
  try have ly := by_.lt
  try have zy := fun i => by_.frozen i
  go_wp2_with fail
  have b2 := ((bx.set_ 7 (.int .u64 g)).set_ 6 (.int .i64 q)).set_ 5 (.int .i64 2)
  simp only [List.setIfInBounds_toArray, List.set_cons_zero, List.set_cons_succ] at b2
  have o2 := ((bo.far (p := ⟨w.heap.size, 7, none⟩) (by show w.heap.size + 1 ≠ w.heap.size; omega) (.int .u64 g)).far (p := ⟨w.heap.size, 6, none⟩) (by show w.heap.size + 1 ≠ w.heap.size; omega) (.int .i64 q)).far (p := ⟨w.heap.size, 5, none⟩) (by show w.heap.size + 1 ≠ w.heap.size; omega) (.int .i64 2)
  have C2 := ((B0.setCell (p := ⟨w.heap.size, 7, none⟩) (Nat.le_refl _) (.int .u64 g)).setCell (p := ⟨w.heap.size, 6, none⟩) (Nat.le_refl _) (.int .i64 q)).setCell (p := ⟨w.heap.size, 5, none⟩) (Nat.le_refl _) (.int .i64 2)
  clear bx bo B0 zx mx lx mo lo zo
  generalize ((w1.setCell ⟨w.heap.size, 7, none⟩ (.int .u64 g)).setCell ⟨w.heap.size, 6, none⟩ (.int .i64 q)).setCell ⟨w.heap.size, 5, none⟩ (.int .i64 2) = w2 at *
  have bx := b2
  have bo := o2
  have B0 := C2
  clear b2 o2 C2
  have zx := fun i => bx.frozen i
  try clear mx lx
  try clear mo lo zo
  try clear my ly zy
  try have mx := fun i => bx.cell i
  try have lx := bx.lt
  try have mo := fun i => bo.cell i
  try have lo := bo.lt
  try have zo := fun i => bo.frozen i
  try have my := fun i => by_.cell i
  try have ly := by_.lt
  try have zy := fun i => by_.frozen i
  go_wp2_with fail
  refine (D.out _).mono ?_
  rintro e w3 ⟨rfl, hb1⟩
  replace bx := bx.below hb1 bx.lt
  replace bo := bo.below hb1 bo.lt
  replace B0 := B0.trans (hb1.mono B0.size)
  clear hb1 zx
  have zx := fun i => bx.frozen i
  try clear mx lx
  try clear mo lo zo
  try clear my ly zy
  try have mx := fun i => bx.cell i
  try have lx := bx.lt
  try have mo := fun i => bo.cell i
  try have lo := bo.lt
  try have zo := fun i => bo.frozen i
  try have my := fun i => by_.cell i
  try have ly := by_.lt
  try have zy := fun i => by_.frozen i
  go_wp2_with fail
  have o9 := (bo.far (p := ⟨w.heap.size, 6, none⟩) (by show w.heap.size + 1 ≠ w.heap.size; omega) (.int .i64 0)).far (p := ⟨w.heap.size, 5, none⟩) (by show w.heap.size + 1 ≠ w.heap.size; omega) (.int .i64 0)
  have C9 := (B0.setCell (p := ⟨w.heap.size, 6, none⟩) (Nat.le_refl _) (.int .i64 0)).setCell (p := ⟨w.heap.size, 5, none⟩) (Nat.le_refl _) (.int .i64 0)
  have b9 := o9.put10 (.int .i64 s) (.int .i64 t) (.int .i64 f) (.int .i64 l) (.int .i64 p) (.int .i64 0) (.int .i64 0) (.int .u64 g) (.int .i64 tr) (.int .i64 lk)
  have B9 := below_put10 C9 (g := w.heap.size + 1) (by omega) (.int .i64 s) (.int .i64 t) (.int .i64 f) (.int .i64 l) (.int .i64 p) (.int .i64 0) (.int .i64 0) (.int .u64 g) (.int .i64 tr) (.int .i64 lk)
  have m9 := fun i => b9.cell i
  refine bodyPost_ret (v := .agg #[.int .i64 s, .int .i64 t, .int .i64 f, .int .i64 l, .int .i64 p, .int .i64 0, .int .i64 0, .int .u64 g, .int .i64 tr, .int .i64 lk]) (by simp [results, Tryd.results14, go_sem, m9]) rfl ⟨rfl, B9⟩
set_option maxRecDepth 100000 in
set_option maxHeartbeats 2000000 in
theorem ptook_1h (s t f l p sl hd tr lk g : Int) (w : World) (hg : W64 g) (h0 : 1 ≤ g % 65536) (h1 : s < g % 65536) :
    Calls Tryd.prog 14 #[.agg #[.int .i64 s, .int .i64 t, .int .i64 f, .int .i64 l, .int .i64 p, .int .i64 1, .int .i64 sl, .int .u64 hd, .int .i64 tr, .int .i64 lk], .int .u64 g] w fun e w' => e = .returned (.agg #[.int .i64 s, .int .i64 t, .int .i64 f, .int .i64 l, .int .i64 p, .int .i64 0, .int .i64 0, .int .u64 g, .int .i64 tr, .int .i64 lk]) ∧ Below w.heap.size w w' := by
  have C := hide (fun w2 => htell_slot g w2 hg)
  generalize g % 65536 = q at *
  have D := hide (fun w2 => bwithin_f2 s t f l p q g tr 2 q w2 h0 h1)
  have bx := Blk.new w 37 #[.int .i64 s, .int .i64 t, .int .i64 f, .int .i64 l, .int .i64 p, .int .i64 1, .int .i64 sl, .int .u64 hd, .int .i64 tr, .int .i64 lk]
  have B0 := (Below.refl w.heap.size w).alloc (Nat.le_refl _) (.cells #[.int .i64 s, .int .i64 t, .int .i64 f, .int .i64 l, .int .i64 p, .int .i64 1, .int .i64 sl, .int .u64 hd, .int .i64 tr, .int .i64 lk] 37)
  have bo := Blk.new (w.alloc (.cells #[.int .i64 s, .int .i64 t, .int .i64 f, .int .i64 l, .int .i64 p, .int .i64 1, .int .i64 sl, .int .u64 hd, .int .i64 tr, .int .i64 lk] 37)) 37 #[.int .i64 0, .int .i64 0, .int .i64 0, .int .i64 0, .int .i64 0, .int .i64 0, .int .i64 0, .int .u64 0, .int .i64 0, .int .i64 0]
  replace B0 := B0.alloc B0.size (.cells #[.int .i64 0, .int .i64 0, .int .i64 0, .int .i64 0, .int .i64 0, .int .i64 0, .int .i64 0, .int .u64 0, .int .i64 0, .int .i64 0] 37)
  replace bx := bx.alloc (.cells #[.int .i64 0, .int .i64 0, .int .i64 0, .int .i64 0, .int .i64 0, .int .i64 0, .int .i64 0, .int .u64 0, .int .i64 0, .int .i64 0] 37)
  rw [World.size_alloc] at bo
  go_enter Tryd.func14, Tryd.ntmps14
  go_wp2_with fail
  refine (C.out _).mono ?_
  rintro e w1 ⟨rfl, hb1⟩
  replace bx := bx.below hb1 bx.lt
  replace bo := bo.below hb1 bo.lt
  replace B0 := B0.trans (hb1.mono B0.size)
  clear hb1
  have zx := fun i => bx.frozen i
  try clear mx lx
  try clear mo lo zo
  try clear my ly zy
  try have mx := fun i => bx.cell i
  try have lx := bx.lt
  try have mo := fun i => bo.cell i
  try have lo := bo.lt
  try have zo := fun i => bo.frozen i
  try have my := fun i => by_.cell i
  try have ly := by_.lt
  try have zy := fun i => by_.frozen i
  go_wp2_with fail
  have b2 := ((bx.set_ 7 (.int .u64 g)).set_ 6 (.int .i64 q)).set_ 5 (.int .i64 2)
  simp only [List.setIfInBounds_toArray, List.set_cons_zero, List.set_cons_succ] at b2
  have o2 := ((bo.far (p := ⟨w.heap.size, 7, none⟩) (by show w.heap.size + 1 ≠ w.heap.size; omega) (.int .u64 g)).far (p := ⟨w.heap.size, 6, none⟩) (by show w.heap.size + 1 ≠ w.heap.size; omega) (.int .i64 q)).far (p := ⟨w.heap.size, 5, none⟩) (by show w.heap.size + 1 ≠ w.heap.size; omega) (.int .i64 2)
  have C2 := ((B0.setCell (p := ⟨w.heap.size, 7, none⟩) (Nat.le_refl _) (.int .u64 g)).setCell (p := ⟨w.heap.size, 6, none⟩) (Nat.le_refl _) (.int .i64 q)).setCell (p := ⟨w.heap.size, 5, none⟩) (Nat.le_refl _) (.int .i64 2)
  clear bx bo B0 zx mx lx mo lo zo
  generalize ((w1.setCell ⟨w.heap.size, 7, none⟩ (.int .u64 g)).setCell ⟨w.heap.size, 6, none⟩ (.int .i64 q)).setCell ⟨w.heap.size, 5, none⟩ (.int .i64 2) = w2 at *
  have bx := b2
  have bo := o2
  have B0 := C2
  clear b2 o2 C2
  have zx := fun i => bx.frozen i
  try clear mx lx
  try clear mo lo zo
  try clear my ly zy
  try have mx := fun i => bx.cell i
  try have lx := bx.lt
  try have mo := fun i => bo.cell i
  try have lo := bo.lt
  try have zo := fun i => bo.frozen i
  try have my := fun i => by_.cell i
  try have ly := by_.lt
  try have zy := fun i => by_.frozen i
  go_wp2_with fail
  refine (D.out _).mono ?_
  rintro e w3 ⟨rfl, hb1⟩
  replace bx := bx.below hb1 bx.lt
  replace bo := bo.below hb1 bo.lt
  replace B0 := B0.trans (hb1.mono B0.size)
  clear hb1 zx
  have zx := fun i => bx.frozen i
  try clear mx lx
  try clear mo lo zo
  try clear my ly zy
  try have mx := fun i => bx.cell i
  try have lx := bx.lt
  try have mo := fun i => bo.cell i
  try have lo := bo.lt
  try have zo := fun i => bo.frozen i
  try have my := fun i => by_.cell i
  try have ly := by_.lt
  try have zy := fun i => by_.frozen i
  go_wp2_with fail
  have o9 := (bo.far (p := ⟨w.heap.size, 6, none⟩) (by show w.heap.size + 1 ≠ w.heap.size; omega) (.int .i64 0)).far (p := ⟨w.heap.size, 5, none⟩) (by show w.heap.size + 1 ≠ w.heap.size; omega) (.int .i64 0)
  have C9 := (B0.setCell (p := ⟨w.heap.size, 6, none⟩) (Nat.le_refl _) (.int .i64 0)).setCell (p := ⟨w.heap.size, 5, none⟩) (Nat.le_refl _) (.int .i64 0)
  have b9 := o9.put10 (.int .i64 s) (.int .i64 t) (.int .i64 f) (.int .i64 l) (.int .i64 p) (.int .i64 0) (.int .i64 0) (.int .u64 g) (.int .i64 tr) (.int .i64 lk)
  have B9 := below_put10 C9 (g := w.heap.size + 1) (by omega) (.int .i64 s) (.int .i64 t) (.int .i64 f) (.int .i64 l) (.int .i64 p) (.int .i64 0) (.int .i64 0) (.int .u64 g) (.int .i64 tr) (.int .i64 lk)
  have m9 := fun i => b9.cell i
  refine bodyPost_ret (v := .agg #[.int .i64 s, .int .i64 t, .int .i64 f, .int .i64 l, .int .i64 p, .int .i64 0, .int .i64 0, .int .u64 g, .int .i64 tr, .int .i64 lk]) (by simp [results, Tryd.results14, go_sem, m9]) rfl ⟨rfl, B9⟩
set_option maxRecDepth 100000 in
set_option maxHeartbeats 2000000 in
theorem ptook_2y (s t f l p sl hd tr lk g : Int) (w : World) (hg : W64 g) (hs0 : 0 ≤ s ∧ s ≤ 1000) (h0 : g ≤ s) :
    Calls Tryd.prog 14 #[.agg #[.int .i64 s, .int .i64 t, .int .i64 f, .int .i64 l, .int .i64 p, .int .i64 2, .int .i64 sl, .int .u64 hd, .int .i64 tr, .int .i64 lk], .int .u64 g] w fun e w' => e = .returned (.agg #[.int .i64 s, .int .i64 t, .int .i64 f, .int .i64 l, .int .i64 p, .int .i64 3, .int .i64 sl, .int .u64 hd, .int .i64 tr, .int .i64 g]) ∧ Below w.heap.size w w' := by
  have C := hide (fun w2 => lconfig_any s t f l p w2)
  have hf : ∀ w : World, (Instr.field 23 (.agg #[.int .i64 s, .int .i64 t, .int .i64 f, .int .i64 l, .int .i64 p]) 0).run Tryd.prog w = .ok (.int .i64 s) w := fun _ => by kernel_rfl
  have q1 : IntKind.u64.wrap s = s := IntWalk.u64_in _ (by omega)
  have q2 : IntKind.i64.wrap g = g := IntWalk.i64_in _ (by have := hg.1; omega)
  have bx := Blk.new w 37 #[.int .i64 s, .int .i64 t, .int .i64 f, .int .i64 l, .int .i64 p, .int .i64 3, .int .i64 sl, .int .u64 hd, .int .i64 tr, .int .i64 0]
  have B0 := (Below.refl w.heap.size w).alloc (Nat.le_refl _) (.cells #[.int .i64 s, .int .i64 t, .int .i64 f, .int .i64 l, .int .i64 p, .int .i64 3, .int .i64 sl, .int .u64 hd, .int .i64 tr, .int .i64 0] 37)
  have bo := Blk.new (w.alloc (.cells #[.int .i64 s, .int .i64 t, .int .i64 f, .int .i64 l, .int .i64 p, .int .i64 3, .int .i64 sl, .int .u64 hd, .int .i64 tr, .int .i64 0] 37)) 37 #[.int .i64 0, .int .i64 0, .int .i64 0, .int .i64 0, .int .i64 0, .int .i64 0, .int .i64 0, .int .u64 0, .int .i64 0, .int .i64 0]
  replace B0 := B0.alloc B0.size (.cells #[.int .i64 0, .int .i64 0, .int .i64 0, .int .i64 0, .int .i64 0, .int .i64 0, .int .i64 0, .int .u64 0, .int .i64 0, .int .i64 0] 37)
  replace bx := bx.alloc (.cells #[.int .i64 0, .int .i64 0, .int .i64 0, .int .i64 0, .int .i64 0, .int .i64 0, .int .i64 0, .int .u64 0, .int .i64 0, .int .i64 0] 37)
  rw [World.size_alloc] at bo
  go_enter Tryd.func14, Tryd.ntmps14
  go_wp2_with fail
  generalize (w.alloc (.cells #[.int .i64 s, .int .i64 t, .int .i64 f, .int .i64 l, .int .i64 p, .int .i64 3, .int .i64 sl, .int .u64 hd, .int .i64 tr, .int .i64 0] 37)).alloc (.cells #[.int .i64 0, .int .i64 0, .int .i64 0, .int .i64 0, .int .i64 0, .int .i64 0, .int .i64 0, .int .u64 0, .int .i64 0, .int .i64 0] 37) = w0 at *
  refine (C.out _).mono ?_
  rintro e w3 ⟨rfl, hb1⟩
  replace bx := bx.below hb1 bx.lt
  replace bo := bo.below hb1 bo.lt
  replace B0 := B0.trans (hb1.mono B0.size)
  clear hb1
  have zx := fun i => bx.frozen i
  try clear mx lx
  try clear mo lo zo
  try clear my ly zy
  try have mx := fun i => bx.cell i
  try have lx := bx.lt
  try have mo := fun i => bo.cell i
  try have lo := bo.lt
  try have zo := fun i => bo.frozen i
  try have my := fun i => by_.cell i
  try have ly := by_.lt
  try have zy := fun i => by_.frozen i
  go_wp2_with fail
  have o9 := (bo.far (p := ⟨w.heap.size, 9, none⟩) (by show w.heap.size + 1 ≠ w.heap.size; omega) (.int .i64 g))
  have C9 := (B0.setCell (p := ⟨w.heap.size, 9, none⟩) (Nat.le_refl _) (.int .i64 g))
  have b9 := o9.put10 (.int .i64 s) (.int .i64 t) (.int .i64 f) (.int .i64 l) (.int .i64 p) (.int .i64 3) (.int .i64 sl) (.int .u64 hd) (.int .i64 tr) (.int .i64 g)
  have B9 := below_put10 C9 (g := w.heap.size + 1) (by omega) (.int .i64 s) (.int .i64 t) (.int .i64 f) (.int .i64 l) (.int .i64 p) (.int .i64 3) (.int .i64 sl) (.int .u64 hd) (.int .i64 tr) (.int .i64 g)
  have m9 := fun i => b9.cell i
  refine bodyPost_ret (v := .agg #[.int .i64 s, .int .i64 t, .int .i64 f, .int .i64 l, .int .i64 p, .int .i64 3, .int .i64 sl, .int .u64 hd, .int .i64 tr, .int .i64 g]) (by simp [results, Tryd.results14, go_sem, m9]) rfl ⟨rfl, B9⟩
set_option maxRecDepth 100000 in
set_option maxHeartbeats 2000000 in
theorem ptook_2n (s t f l p sl hd tr lk g : Int) (w : World) (_hg : W64 g) (hs0 : 0 ≤ s ∧ s ≤ 1000) (h0 : s < g) :
    Calls Tryd.prog 14 #[.agg #[.int .i64 s, .int .i64 t, .int .i64 f, .int .i64 l, .int .i64 p, .int .i64 2, .int .i64 sl, .int .u64 hd, .int .i64 tr, .int .i64 lk], .int .u64 g] w fun e w' => e = .returned (.agg #[.int .i64 s, .int .i64 t, .int .i64 f, .int .i64 l, .int .i64 p, .int .i64 3, .int .i64 sl, .int .u64 hd, .int .i64 tr, .int .i64 0]) ∧ Below w.heap.size w w' := by
  have C := hide (fun w2 => lconfig_any s t f l p w2)
  have hf : ∀ w : World, (Instr.field 23 (.agg #[.int .i64 s, .int .i64 t, .int .i64 f, .int .i64 l, .int .i64 p]) 0).run Tryd.prog w = .ok (.int .i64 s) w := fun _ => by kernel_rfl
  have q1 : IntKind.u64.wrap s = s := IntWalk.u64_in _ (by omega)
  have q2 : ¬ g ≤ s := by omega
  have bx := Blk.new w 37 #[.int .i64 s, .int .i64 t, .int .i64 f, .int .i64 l, .int .i64 p, .int .i64 3, .int .i64 sl, .int .u64 hd, .int .i64 tr, .int .i64 0]
  have B0 := (Below.refl w.heap.size w).alloc (Nat.le_refl _) (.cells #[.int .i64 s, .int .i64 t, .int .i64 f, .int .i64 l, .int .i64 p, .int .i64 3, .int .i64 sl, .int .u64 hd, .int .i64 tr, .int .i64 0] 37)
  have bo := Blk.new (w.alloc (.cells #[.int .i64 s, .int .i64 t, .int .i64 f, .int .i64 l, .int .i64 p, .int .i64 3, .int .i64 sl, .int .u64 hd, .int .i64 tr, .int .i64 0] 37)) 37 #[.int .i64 0, .int .i64 0, .int .i64 0, .int .i64 0, .int .i64 0, .int .i64 0, .int .i64 0, .int .u64 0, .int .i64 0, .int .i64 0]
  replace B0 := B0.alloc B0.size (.cells #[.int .i64 0, .int .i64 0, .int .i64 0, .int .i64 0, .int .i64 0, .int .i64 0, .int .i64 0, .int .u64 0, .int .i64 0, .int .i64 0] 37)
  replace bx := bx.alloc (.cells #[.int .i64 0, .int .i64 0, .int .i64 0, .int .i64 0, .int .i64 0, .int .i64 0, .int .i64 0, .int .u64 0, .int .i64 0, .int .i64 0] 37)
  rw [World.size_alloc] at bo
  go_enter Tryd.func14, Tryd.ntmps14
  go_wp2_with fail
  generalize (w.alloc (.cells #[.int .i64 s, .int .i64 t, .int .i64 f, .int .i64 l, .int .i64 p, .int .i64 3, .int .i64 sl, .int .u64 hd, .int .i64 tr, .int .i64 0] 37)).alloc (.cells #[.int .i64 0, .int .i64 0, .int .i64 0, .int .i64 0, .int .i64 0, .int .i64 0, .int .i64 0, .int .u64 0, .int .i64 0, .int .i64 0] 37) = w0 at *
  refine (C.out _).mono ?_
  rintro e w3 ⟨rfl, hb1⟩
  replace bx := bx.below hb1 bx.lt
  replace bo := bo.below hb1 bo.lt
  replace B0 := B0.trans (hb1.mono B0.size)
  clear hb1
  have zx := fun i => bx.frozen i
  try clear mx lx
  try clear mo lo zo
  try clear my ly zy
  try have mx := fun i => bx.cell i
  try have lx := bx.lt
  try have mo := fun i => bo.cell i
  try have lo := bo.lt
  try have zo := fun i => bo.frozen i
  try have my := fun i => by_.cell i
  try have ly := by_.lt
  try have zy := fun i => by_.frozen i
  go_wp2_with fail
  have o9 := bo
  have C9 := B0
  have b9 := o9.put10 (.int .i64 s) (.int .i64 t) (.int .i64 f) (.int .i64 l) (.int .i64 p) (.int .i64 3) (.int .i64 sl) (.int .u64 hd) (.int .i64 tr) (.int .i64 0)
  have B9 := below_put10 C9 (g := w.heap.size + 1) (by omega) (.int .i64 s) (.int .i64 t) (.int .i64 f) (.int .i64 l) (.int .i64 p) (.int .i64 3) (.int .i64 sl) (.int .u64 hd) (.int .i64 tr) (.int .i64 0)
  have m9 := fun i => b9.cell i
  refine bodyPost_ret (v := .agg #[.int .i64 s, .int .i64 t, .int .i64 f, .int .i64 l, .int .i64 p, .int .i64 3, .int .i64 sl, .int .u64 hd, .int .i64 tr, .int .i64 0]) (by simp [results, Tryd.results14, go_sem, m9]) rfl ⟨rfl, B9⟩
set_option maxRecDepth 100000 in
set_option maxHeartbeats 2000000 in
theorem ptook_3y (s t f l p sl hd tr lk : Int) (w : World)  :
    Calls Tryd.prog 14 #[.agg #[.int .i64 s, .int .i64 t, .int .i64 f, .int .i64 l, .int .i64 p, .int .i64 3, .int .i64 sl, .int .u64 hd, .int .i64 tr, .int .i64 lk], .int .u64 1] w fun e w' => e = .returned (.agg #[.int .i64 s, .int .i64 t, .int .i64 f, .int .i64 l, .int .i64 p, .int .i64 0, .int .i64 sl, .int .u64 hd, .int .i64 tr, .int .i64 lk]) ∧ Below w.heap.size w w' := by
  have C := hide (fun w2 => swapped_1 s t f l p sl hd tr 3 w2)

  have bx := Blk.new w 37 #[.int .i64 s, .int .i64 t, .int .i64 f, .int .i64 l, .int .i64 p, .int .i64 3, .int .i64 sl, .int .u64 hd, .int .i64 tr, .int .i64 lk]
  have B0 := (Below.refl w.heap.size w).alloc (Nat.le_refl _) (.cells #[.int .i64 s, .int .i64 t, .int .i64 f, .int .i64 l, .int .i64 p, .int .i64 3, .int .i64 sl, .int .u64 hd, .int .i64 tr, .int .i64 lk] 37)
  have bo := Blk.new (w.alloc (.cells #[.int .i64 s, .int .i64 t, .int .i64 f, .int .i64 l, .int .i64 p, .int .i64 3, .int .i64 sl, .int .u64 hd, .int .i64 tr, .int .i64 lk] 37)) 37 #[.int .i64 0, .int .i64 0, .int .i64 0, .int .i64 0, .int .i64 0, .int .i64 0, .int .i64 0, .int .u64 0, .int .i64 0, .int .i64 0]
  replace B0 := B0.alloc B0.size (.cells #[.int .i64 0, .int .i64 0, .int .i64 0, .int .i64 0, .int .i64 0, .int .i64 0, .int .i64 0, .int .u64 0, .int .i64 0, .int .i64 0] 37)
  replace bx := bx.alloc (.cells #[.int .i64 0, .int .i64 0, .int .i64 0, .int .i64 0, .int .i64 0, .int .i64 0, .int .i64 0, .int .u64 0, .int .i64 0, .int .i64 0] 37)
  rw [World.size_alloc] at bo
  go_enter Tryd.func14, Tryd.ntmps14
  go_wp2_with fail
  refine (C.out _).mono ?_
  rintro e w1 ⟨rfl, hb1⟩
  replace bx := bx.below hb1 bx.lt
  replace bo := bo.below hb1 bo.lt
  replace B0 := B0.trans (hb1.mono B0.size)
  clear hb1
  have zx := fun i => bx.frozen i
  try clear mx lx
  try clear mo lo zo
  try clear my ly zy
  try have mx := fun i => bx.cell i
  try have lx := bx.lt
  try have mo := fun i => bo.cell i
  try have lo := bo.lt
  try have zo := fun i => bo.frozen i
  try have my := fun i => by_.cell i
  try have ly := by_.lt
  try have zy := fun i => by_.frozen i
  go_wp2_with fail
  have o9 := (((((((((bo.far (p := ⟨w.heap.size, 0, none⟩) (by show w.heap.size + 1 ≠ w.heap.size; omega) (.int .i64 s)).far (p := ⟨w.heap.size, 1, none⟩) (by show w.heap.size + 1 ≠ w.heap.size; omega) (.int .i64 t)).far (p := ⟨w.heap.size, 2, none⟩) (by show w.heap.size + 1 ≠ w.heap.size; omega) (.int .i64 f)).far (p := ⟨w.heap.size, 3, none⟩) (by show w.heap.size + 1 ≠ w.heap.size; omega) (.int .i64 l)).far (p := ⟨w.heap.size, 4, none⟩) (by show w.heap.size + 1 ≠ w.heap.size; omega) (.int .i64 p)).far (p := ⟨w.heap.size, 5, none⟩) (by show w.heap.size + 1 ≠ w.heap.size; omega) (.int .i64 0)).far (p := ⟨w.heap.size, 6, none⟩) (by show w.heap.size + 1 ≠ w.heap.size; omega) (.int .i64 sl)).far (p := ⟨w.heap.size, 7, none⟩) (by show w.heap.size + 1 ≠ w.heap.size; omega) (.int .u64 hd)).far (p := ⟨w.heap.size, 8, none⟩) (by show w.heap.size + 1 ≠ w.heap.size; omega) (.int .i64 tr))
  have C9 := below_put9 B0 (g := w.heap.size) (Nat.le_refl _) (.int .i64 s) (.int .i64 t) (.int .i64 f) (.int .i64 l) (.int .i64 p) (.int .i64 0) (.int .i64 sl) (.int .u64 hd) (.int .i64 tr)
  have b9 := o9.put10 (.int .i64 s) (.int .i64 t) (.int .i64 f) (.int .i64 l) (.int .i64 p) (.int .i64 0) (.int .i64 sl) (.int .u64 hd) (.int .i64 tr) (.int .i64 lk)
  have B9 := below_put10 C9 (g := w.heap.size + 1) (by omega) (.int .i64 s) (.int .i64 t) (.int .i64 f) (.int .i64 l) (.int .i64 p) (.int .i64 0) (.int .i64 sl) (.int .u64 hd) (.int .i64 tr) (.int .i64 lk)
  have m9 := fun i => b9.cell i
  refine bodyPost_ret (v := .agg #[.int .i64 s, .int .i64 t, .int .i64 f, .int .i64 l, .int .i64 p, .int .i64 0, .int .i64 sl, .int .u64 hd, .int .i64 tr, .int .i64 lk]) (by simp [results, Tryd.results14, go_sem, m9]) rfl ⟨rfl, B9⟩
set_option maxRecDepth 100000 in
set_option maxHeartbeats 2000000 in
theorem ptook_3n (s t f l p sl hd tr lk g : Int) (w : World) (hg : (g == 1) = false) :
    Calls Tryd.prog 14 #[.agg #[.int .i64 s, .int .i64 t, .int .i64 f, .int .i64 l, .int .i64 p, .int .i64 3, .int .i64 sl, .int .u64 hd, .int .i64 tr, .int .i64 lk], .int .u64 g] w fun e w' => e = .returned (.agg #[.int .i64 s, .int .i64 t, .int .i64 f, .int .i64 l, .int .i64 p, .int .i64 1, .int .i64 sl, .int .u64 hd, .int .i64 (wrap64 (tr + 1)), .int .i64 lk]) ∧ Below w.heap.size w w' := by
  have C := hide (fun w2 => swapped_n s t f l p sl hd tr 3 g w2 hg)
  generalize wrap64 (tr + 1) = tr2 at *
  have bx := Blk.new w 37 #[.int .i64 s, .int .i64 t, .int .i64 f, .int .i64 l, .int .i64 p, .int .i64 3, .int .i64 sl, .int .u64 hd, .int .i64 tr, .int .i64 lk]
  have B0 := (Below.refl w.heap.size w).alloc (Nat.le_refl _) (.cells #[.int .i64 s, .int .i64 t, .int .i64 f, .int .i64 l, .int .i64 p, .int .i64 3, .int .i64 sl, .int .u64 hd, .int .i64 tr, .int .i64 lk] 37)
  have bo := Blk.new (w.alloc (.cells #[.int .i64 s, .int .i64 t, .int .i64 f, .int .i64 l, .int .i64 p, .int .i64 3, .int .i64 sl, .int .u64 hd, .int .i64 tr, .int .i64 lk] 37)) 37 #[.int .i64 0, .int .i64 0, .int .i64 0, .int .i64 0, .int .i64 0, .int .i64 0, .int .i64 0, .int .u64 0, .int .i64 0, .int .i64 0]
  replace B0 := B0.alloc B0.size (.cells #[.int .i64 0, .int .i64 0, .int .i64 0, .int .i64 0, .int .i64 0, .int .i64 0, .int .i64 0, .int .u64 0, .int .i64 0, .int .i64 0] 37)
  replace bx := bx.alloc (.cells #[.int .i64 0, .int .i64 0, .int .i64 0, .int .i64 0, .int .i64 0, .int .i64 0, .int .i64 0, .int .u64 0, .int .i64 0, .int .i64 0] 37)
  rw [World.size_alloc] at bo
  go_enter Tryd.func14, Tryd.ntmps14
  go_wp2_with fail
  refine (C.out _).mono ?_
  rintro e w1 ⟨rfl, hb1⟩
  replace bx := bx.below hb1 bx.lt
  replace bo := bo.below hb1 bo.lt
  replace B0 := B0.trans (hb1.mono B0.size)
  clear hb1
  have zx := fun i => bx.frozen i
  try clear mx lx
  try clear mo lo zo
  try clear my ly zy
  try have mx := fun i => bx.cell i
  try have lx := bx.lt
  try have mo := fun i => bo.cell i
  try have lo := bo.lt
  try have zo := fun i => bo.frozen i
  try have my := fun i => by_.cell i
  try have ly := by_.lt
  try have zy := fun i => by_.frozen i
  go_wp2_with fail
  have o9 := (((((((((bo.far (p := ⟨w.heap.size, 0, none⟩) (by show w.heap.size + 1 ≠ w.heap.size; omega) (.int .i64 s)).far (p := ⟨w.heap.size, 1, none⟩) (by show w.heap.size + 1 ≠ w.heap.size; omega) (.int .i64 t)).far (p := ⟨w.heap.size, 2, none⟩) (by show w.heap.size + 1 ≠ w.heap.size; omega) (.int .i64 f)).far (p := ⟨w.heap.size, 3, none⟩) (by show w.heap.size + 1 ≠ w.heap.size; omega) (.int .i64 l)).far (p := ⟨w.heap.size, 4, none⟩) (by show w.heap.size + 1 ≠ w.heap.size; omega) (.int .i64 p)).far (p := ⟨w.heap.size, 5, none⟩) (by show w.heap.size + 1 ≠ w.heap.size; omega) (.int .i64 1)).far (p := ⟨w.heap.size, 6, none⟩) (by show w.heap.size + 1 ≠ w.heap.size; omega) (.int .i64 sl)).far (p := ⟨w.heap.size, 7, none⟩) (by show w.heap.size + 1 ≠ w.heap.size; omega) (.int .u64 hd)).far (p := ⟨w.heap.size, 8, none⟩) (by show w.heap.size + 1 ≠ w.heap.size; omega) (.int .i64 tr2))
  have C9 := below_put9 B0 (g := w.heap.size) (Nat.le_refl _) (.int .i64 s) (.int .i64 t) (.int .i64 f) (.int .i64 l) (.int .i64 p) (.int .i64 1) (.int .i64 sl) (.int .u64 hd) (.int .i64 tr2)
  have b9 := o9.put10 (.int .i64 s) (.int .i64 t) (.int .i64 f) (.int .i64 l) (.int .i64 p) (.int .i64 1) (.int .i64 sl) (.int .u64 hd) (.int .i64 tr2) (.int .i64 lk)
  have B9 := below_put10 C9 (g := w.heap.size + 1) (by omega) (.int .i64 s) (.int .i64 t) (.int .i64 f) (.int .i64 l) (.int .i64 p) (.int .i64 1) (.int .i64 sl) (.int .u64 hd) (.int .i64 tr2) (.int .i64 lk)
  have m9 := fun i => b9.cell i
  refine bodyPost_ret (v := .agg #[.int .i64 s, .int .i64 t, .int .i64 f, .int .i64 l, .int .i64 p, .int .i64 1, .int .i64 sl, .int .u64 hd, .int .i64 tr2, .int .i64 lk]) (by simp [results, Tryd.results14, go_sem, m9]) rfl ⟨rfl, B9⟩
end Go.Proofs.YteiidfklepjpmaaDoor

/-
  What a Pop wants; a Pop that begins; the reference's.
-/
namespace Go.Proofs.YteiidfklepjpmaaDoor
open Go.RowKit
attribute [local go_sem] past_cell past_cell_add

set_option maxRecDepth 100000 in
set_option maxHeartbeats 2000000 in
theorem pwant_0 (s t f l p sl hd tr lk : Int) (w : World)  :
    Calls Tryd.prog 16 #[.agg #[.int .i64 s, .int .i64 t, .int .i64 f, .int .i64 l, .int .i64 p, .int .i64 0, .int .i64 sl, .int .u64 hd, .int .i64 tr, .int .i64 lk]] w fun e w' => e = .returned (.agg #[.int .i64 0, .int .i64 0, .int .u64 0, .int .u64 0]) ∧ Below w.heap.size w w' := by
  go_enter Tryd.func16, Tryd.ntmps16
  go_wp2_with fail
  refine bodyPost_ret (v := .agg #[.int .i64 0, .int .i64 0, .int .u64 0, .int .u64 0]) (by simp [results, Tryd.results16, go_sem]) rfl ⟨rfl, ?_⟩
  repeat (first | exact Below.refl _ _ | exact B0 | (refine Below.setCell ?_ (by first | (show w.heap.size ≤ w.heap.size; omega) | (show w.heap.size ≤ w.heap.size + 1; omega) | (show w.heap.size ≤ w.heap.size + 2; omega) | (show w.heap.size ≤ _; simp)) _) | (refine Below.alloc ?_ (by first | exact Nat.le_refl _ | (simp <;> omega)) _))
set_option maxRecDepth 100000 in
set_option maxHeartbeats 2000000 in
theorem pwant_1 (s t f l p sl hd tr lk : Int) (w : World) (hs : 1 ≤ s ∧ s ≤ 1000) (ht : 1 ≤ t ∧ t ≤ 64) (hf : 4 ≤ f ∧ f ≤ 64) :
    Calls Tryd.prog 16 #[.agg #[.int .i64 s, .int .i64 t, .int .i64 f, .int .i64 l, .int .i64 p, .int .i64 1, .int .i64 sl, .int .u64 hd, .int .i64 tr, .int .i64 lk]] w fun e w' => e = .returned (.agg #[.int .i64 1, .int .i64 2, .int .u64 0, .int .u64 0]) ∧ Below w.heap.size w w' := by
  have C := hide (fun w2 => headAt_any s t f l p sl hd tr 1 w2 hs ht hf)
  have D := hide (fun w2 => sload_any 2 w2)
  have bx := Blk.new w 37 #[.int .i64 s, .int .i64 t, .int .i64 f, .int .i64 l, .int .i64 p, .int .i64 1, .int .i64 sl, .int .u64 hd, .int .i64 tr, .int .i64 lk]
  have B0 := (Below.refl w.heap.size w).alloc (Nat.le_refl _) (.cells #[.int .i64 s, .int .i64 t, .int .i64 f, .int .i64 l, .int .i64 p, .int .i64 1, .int .i64 sl, .int .u64 hd, .int .i64 tr, .int .i64 lk] 37)
  have bo := Blk.new (w.alloc (.cells #[.int .i64 s, .int .i64 t, .int .i64 f, .int .i64 l, .int .i64 p, .int .i64 1, .int .i64 sl, .int .u64 hd, .int .i64 tr, .int .i64 lk] 37)) 52 #[.int .i64 0, .int .i64 0, .int .u64 0, .int .u64 0]
  replace B0 := B0.alloc B0.size (.cells #[.int .i64 0, .int .i64 0, .int .u64 0, .int .u64 0] 52)
  replace bx := bx.alloc (.cells #[.int .i64 0, .int .i64 0, .int .u64 0, .int .u64 0] 52)
  rw [World.size_alloc] at bo
  go_enter Tryd.func16, Tryd.ntmps16
  go_wp2_with fail
  refine (C.out _).mono ?_
  rintro e w1 ⟨rfl, hb1⟩
  try replace bx := bx.below hb1 bx.lt
  try replace bo := bo.below hb1 bo.lt
  try replace by_ := by_.below hb1 by_.lt
  replace B0 := B0.trans (hb1.mono B0.size)
  clear hb1
  try clear mx lx
  try clear mo lo zo
  try clear my ly zy
  try have mx := fun i => bx.cell i
  try have lx := bx.lt
  try have mo := fun i => bo.cell i
  try have lo := bo.lt
  try have zo := fun i => bo.frozen i
  try have my := fun i => by_.cell i
  try have ly := by_.lt
  try have zy := fun i => by_.frozen i
  go_wp2_with fail
  refine (D.out _).mono ?_
  rintro e w2 ⟨rfl, hb1⟩
  try replace bx := bx.below hb1 bx.lt
  try replace bo := bo.below hb1 bo.lt
  try replace by_ := by_.below hb1 by_.lt
  replace B0 := B0.trans (hb1.mono B0.size)
  clear hb1
  try clear mx lx
  try clear mo lo zo
  try clear my ly zy
  try have mx := fun i => bx.cell i
  try have lx := bx.lt
  try have mo := fun i => bo.cell i
  try have lo := bo.lt
  try have zo := fun i => bo.frozen i
  try have my := fun i => by_.cell i
  try have ly := by_.lt
  try have zy := fun i => by_.frozen i
  go_wp2_with fail
  have b9 := bo.put4 (.int .i64 1) (.int .i64 2) (.int .u64 0) (.int .u64 0)
  have B9 := below_put4 B0 (g := w.heap.size + 1) (by omega) (.int .i64 1) (.int .i64 2) (.int .u64 0) (.int .u64 0)
  have m9 := fun i => b9.cell i
  refine bodyPost_ret (v := .agg #[.int .i64 1, .int .i64 2, .int .u64 0, .int .u64 0]) (by simp [results, Tryd.results16, go_sem, m9]) rfl ⟨rfl, by first | exact B9 | exact B9.drew⟩
set_option maxRecDepth 100000 in
set_option maxHeartbeats 2000000 in
theorem pwant_2 (s t f l p sl hd tr lk : Int) (w : World) (hs : 1 ≤ s ∧ s ≤ 1000) (ht : 1 ≤ t ∧ t ≤ 64) (hf : 4 ≤ f ∧ f ≤ 64) (hsl : 1 ≤ sl ∧ sl ≤ s) :
    Calls Tryd.prog 16 #[.agg #[.int .i64 s, .int .i64 t, .int .i64 f, .int .i64 l, .int .i64 p, .int .i64 2, .int .i64 sl, .int .u64 hd, .int .i64 tr, .int .i64 lk]] w fun e w' => e = .returned (.agg #[.int .i64 1, .int .i64 (3 + 3 * t + sl * (3 + 2 * f) + 2), .int .u64 0, .int .u64 0]) ∧ Below w.heap.size w w' := by
  have C := hide (fun w2 => llnk_any s t f l p sl w2 hs ht hf)
  rw [atp8 (by omega)] at C
  generalize 3 + 3 * t + sl * (3 + 2 * f) + 2 = q at *
  have D := hide (fun w2 => sload_any q w2)
  have bx := Blk.new w 37 #[.int .i64 s, .int .i64 t, .int .i64 f, .int .i64 l, .int .i64 p, .int .i64 2, .int .i64 sl, .int .u64 hd, .int .i64 tr, .int .i64 lk]
  have B0 := (Below.refl w.heap.size w).alloc (Nat.le_refl _) (.cells #[.int .i64 s, .int .i64 t, .int .i64 f, .int .i64 l, .int .i64 p, .int .i64 2, .int .i64 sl, .int .u64 hd, .int .i64 tr, .int .i64 lk] 37)
  have bo := Blk.new (w.alloc (.cells #[.int .i64 s, .int .i64 t, .int .i64 f, .int .i64 l, .int .i64 p, .int .i64 2, .int .i64 sl, .int .u64 hd, .int .i64 tr, .int .i64 lk] 37)) 52 #[.int .i64 0, .int .i64 0, .int .u64 0, .int .u64 0]
  replace B0 := B0.alloc B0.size (.cells #[.int .i64 0, .int .i64 0, .int .u64 0, .int .u64 0] 52)
  replace bx := bx.alloc (.cells #[.int .i64 0, .int .i64 0, .int .u64 0, .int .u64 0] 52)
  rw [World.size_alloc] at bo
  go_enter Tryd.func16, Tryd.ntmps16
  go_wp2_with fail
  refine (C.out _).mono ?_
  rintro e w1 ⟨rfl, hb1⟩
  try replace bx := bx.below hb1 bx.lt
  try replace bo := bo.below hb1 bo.lt
  try replace by_ := by_.below hb1 by_.lt
  replace B0 := B0.trans (hb1.mono B0.size)
  clear hb1
  try clear mx lx
  try clear mo lo zo
  try clear my ly zy
  try have mx := fun i => bx.cell i
  try have lx := bx.lt
  try have mo := fun i => bo.cell i
  try have lo := bo.lt
  try have zo := fun i => bo.frozen i
  try have my := fun i => by_.cell i
  try have ly := by_.lt
  try have zy := fun i => by_.frozen i
  go_wp2_with fail
  refine (D.out _).mono ?_
  rintro e w2 ⟨rfl, hb1⟩
  try replace bx := bx.below hb1 bx.lt
  try replace bo := bo.below hb1 bo.lt
  try replace by_ := by_.below hb1 by_.lt
  replace B0 := B0.trans (hb1.mono B0.size)
  clear hb1
  try clear mx lx
  try clear mo lo zo
  try clear my ly zy
  try have mx := fun i => bx.cell i
  try have lx := bx.lt
  try have mo := fun i => bo.cell i
  try have lo := bo.lt
  try have zo := fun i => bo.frozen i
  try have my := fun i => by_.cell i
  try have ly := by_.lt
  try have zy := fun i => by_.frozen i
  go_wp2_with fail
  have b9 := bo.put4 (.int .i64 1) (.int .i64 q) (.int .u64 0) (.int .u64 0)
  have B9 := below_put4 B0 (g := w.heap.size + 1) (by omega) (.int .i64 1) (.int .i64 q) (.int .u64 0) (.int .u64 0)
  have m9 := fun i => b9.cell i
  refine bodyPost_ret (v := .agg #[.int .i64 1, .int .i64 q, .int .u64 0, .int .u64 0]) (by simp [results, Tryd.results16, go_sem, m9]) rfl ⟨rfl, by first | exact B9 | exact B9.drew⟩
set_option maxRecDepth 100000 in
set_option maxHeartbeats 2000000 in
theorem pwant_3 (s t f l p sl hd tr lk : Int) (w : World) (hs : 1 ≤ s ∧ s ≤ 1000) (ht : 1 ≤ t ∧ t ≤ 64) (hf : 4 ≤ f ∧ f ≤ 64) (hh : W64 hd) (hlk : 0 ≤ lk ∧ lk ≤ 1000) :
    Calls Tryd.prog 16 #[.agg #[.int .i64 s, .int .i64 t, .int .i64 f, .int .i64 l, .int .i64 p, .int .i64 3, .int .i64 sl, .int .u64 hd, .int .i64 tr, .int .i64 lk]] w fun e w' => e = .returned (.agg #[.int .i64 3, .int .i64 2, .int .u64 hd, .int .u64 (hturn hd lk)]) ∧ Below w.heap.size w w' := by
  have C := hide (fun w2 => swap_any s t f l p sl hd tr 3 lk w2 hs ht hf hh ⟨by omega, by omega⟩)
  generalize hturn hd lk = y at *
  have bx := Blk.new w 37 #[.int .i64 s, .int .i64 t, .int .i64 f, .int .i64 l, .int .i64 p, .int .i64 3, .int .i64 sl, .int .u64 hd, .int .i64 tr, .int .i64 lk]
  have B0 := (Below.refl w.heap.size w).alloc (Nat.le_refl _) (.cells #[.int .i64 s, .int .i64 t, .int .i64 f, .int .i64 l, .int .i64 p, .int .i64 3, .int .i64 sl, .int .u64 hd, .int .i64 tr, .int .i64 lk] 37)
  have bo := Blk.new (w.alloc (.cells #[.int .i64 s, .int .i64 t, .int .i64 f, .int .i64 l, .int .i64 p, .int .i64 3, .int .i64 sl, .int .u64 hd, .int .i64 tr, .int .i64 lk] 37)) 52 #[.int .i64 0, .int .i64 0, .int .u64 0, .int .u64 0]
  replace B0 := B0.alloc B0.size (.cells #[.int .i64 0, .int .i64 0, .int .u64 0, .int .u64 0] 52)
  replace bx := bx.alloc (.cells #[.int .i64 0, .int .i64 0, .int .u64 0, .int .u64 0] 52)
  rw [World.size_alloc] at bo
  go_enter Tryd.func16, Tryd.ntmps16
  go_wp2_with fail
  refine (C.out _).mono ?_
  rintro e w1 ⟨rfl, hb1⟩
  try replace bx := bx.below hb1 bx.lt
  try replace bo := bo.below hb1 bo.lt
  try replace by_ := by_.below hb1 by_.lt
  replace B0 := B0.trans (hb1.mono B0.size)
  clear hb1
  try clear mx lx
  try clear mo lo zo
  try clear my ly zy
  try have mx := fun i => bx.cell i
  try have lx := bx.lt
  try have mo := fun i => bo.cell i
  try have lo := bo.lt
  try have zo := fun i => bo.frozen i
  try have my := fun i => by_.cell i
  try have ly := by_.lt
  try have zy := fun i => by_.frozen i
  go_wp2_with fail
  have b9 := bo.put4 (.int .i64 3) (.int .i64 2) (.int .u64 hd) (.int .u64 y)
  have B9 := below_put4 B0 (g := w.heap.size + 1) (by omega) (.int .i64 3) (.int .i64 2) (.int .u64 hd) (.int .u64 y)
  have m9 := fun i => b9.cell i
  refine bodyPost_ret (v := .agg #[.int .i64 3, .int .i64 2, .int .u64 hd, .int .u64 y]) (by simp [results, Tryd.results16, go_sem, m9]) rfl ⟨rfl, by first | exact B9 | exact B9.drew⟩
set_option maxRecDepth 100000 in
set_option maxHeartbeats 2000000 in
theorem pdone_0 (s t f l p sl hd tr lk : Int) (w : World)  :
    Calls Tryd.prog 15 #[.agg #[.int .i64 s, .int .i64 t, .int .i64 f, .int .i64 l, .int .i64 p, .int .i64 0, .int .i64 sl, .int .u64 hd, .int .i64 tr, .int .i64 lk]] w fun e w' => e = .returned (.tuple #[.int .i64 sl, .bool true]) ∧ Below w.heap.size w w' := by
  have bx := Blk.new w 37 #[.int .i64 s, .int .i64 t, .int .i64 f, .int .i64 l, .int .i64 p, .int .i64 0, .int .i64 sl, .int .u64 hd, .int .i64 tr, .int .i64 lk]
  have B0 := (Below.refl w.heap.size w).alloc (Nat.le_refl _) (.cells #[.int .i64 s, .int .i64 t, .int .i64 f, .int .i64 l, .int .i64 p, .int .i64 0, .int .i64 sl, .int .u64 hd, .int .i64 tr, .int .i64 lk] 37)
  go_enter Tryd.func15, Tryd.ntmps15
  go_wp2_with fail
  go_ret2
  exact ⟨rfl, B0⟩
set_option maxRecDepth 100000 in
set_option maxHeartbeats 2000000 in
theorem pdone_1 (s t f l p sl hd tr lk k : Int) (w : World) (hk : (k == 0) = false) :
    Calls Tryd.prog 15 #[.agg #[.int .i64 s, .int .i64 t, .int .i64 f, .int .i64 l, .int .i64 p, .int .i64 k, .int .i64 sl, .int .u64 hd, .int .i64 tr, .int .i64 lk]] w fun e w' => e = .returned (.tuple #[.int .i64 0, .bool false]) ∧ Below w.heap.size w w' := by
  have q : (k != 0) = true := by rw [bne, hk]; rfl
  have bx := Blk.new w 37 #[.int .i64 s, .int .i64 t, .int .i64 f, .int .i64 l, .int .i64 p, .int .i64 k, .int .i64 sl, .int .u64 hd, .int .i64 tr, .int .i64 lk]
  have B0 := (Below.refl w.heap.size w).alloc (Nat.le_refl _) (.cells #[.int .i64 s, .int .i64 t, .int .i64 f, .int .i64 l, .int .i64 p, .int .i64 k, .int .i64 sl, .int .u64 hd, .int .i64 tr, .int .i64 lk] 37)
  go_enter Tryd.func15, Tryd.ntmps15
  go_wp2_with fail
  go_ret2
  exact ⟨rfl, B0⟩
set_option maxRecDepth 100000 in
set_option maxHeartbeats 2000000 in
theorem pnew_yes (s t f l p : Int) (w : World) (hs : 1 ≤ s ∧ s ≤ 1000) (ht : 1 ≤ t ∧ t ≤ 64) (hf : 4 ≤ f ∧ f ≤ 64) :
    Calls Tryd.prog 13 #[.agg #[.int .i64 s, .int .i64 t, .int .i64 f, .int .i64 l, .int .i64 p]] w fun e w' => e = .returned (.agg #[.int .i64 s, .int .i64 t, .int .i64 f, .int .i64 l, .int .i64 p, .int .i64 1, .int .i64 0, .int .u64 0, .int .i64 0, .int .i64 0]) ∧ Below w.heap.size w w' := by
  have C := hide (fun w2 => size_any s t f l p w2 hs ht hf)
  have hz := size_pos hs ht hf
  have q0 : (laySize s t f == 0) = false := by rw [beq_eq_false_iff_ne]; omega
  clear hz
  generalize laySize s t f = q at *
  have bx := Blk.new w 28 #[.int .i64 s, .int .i64 t, .int .i64 f, .int .i64 l, .int .i64 p]
  have B0 := (Below.refl w.heap.size w).alloc (Nat.le_refl _) (.cells #[.int .i64 s, .int .i64 t, .int .i64 f, .int .i64 l, .int .i64 p] 28)
  have bo := Blk.new (w.alloc (.cells #[.int .i64 s, .int .i64 t, .int .i64 f, .int .i64 l, .int .i64 p] 28)) 37 #[.int .i64 0, .int .i64 0, .int .i64 0, .int .i64 0, .int .i64 0, .int .i64 0, .int .i64 0, .int .u64 0, .int .i64 0, .int .i64 0]
  replace B0 := B0.alloc B0.size (.cells #[.int .i64 0, .int .i64 0, .int .i64 0, .int .i64 0, .int .i64 0, .int .i64 0, .int .i64 0, .int .u64 0, .int .i64 0, .int .i64 0] 37)
  replace bx := bx.alloc (.cells #[.int .i64 0, .int .i64 0, .int .i64 0, .int .i64 0, .int .i64 0, .int .i64 0, .int .i64 0, .int .u64 0, .int .i64 0, .int .i64 0] 37)
  rw [World.size_alloc] at bo
  go_enter Tryd.func13, Tryd.ntmps13
  go_wp2_with fail
  refine (C.out _).mono ?_
  rintro e w1 ⟨rfl, hb1⟩
  try replace bx := bx.below hb1 bx.lt
  try replace bo := bo.below hb1 bo.lt
  try replace by_ := by_.below hb1 by_.lt
  replace B0 := B0.trans (hb1.mono B0.size)
  clear hb1
  try clear mx lx
  try clear mo lo zo
  try clear my ly zy
  try have mx := fun i => bx.cell i
  try have lx := bx.lt
  try have mo := fun i => bo.cell i
  try have lo := bo.lt
  try have zo := fun i => bo.frozen i
  try have my := fun i => by_.cell i
  try have ly := by_.lt
  try have zy := fun i => by_.frozen i
  go_wp2_with fail
  have b9 := bo.put10 (.int .i64 s) (.int .i64 t) (.int .i64 f) (.int .i64 l) (.int .i64 p) (.int .i64 1) (.int .i64 0) (.int .u64 0) (.int .i64 0) (.int .i64 0)
  have B9 := below_put10 B0 (g := w.heap.size + 1) (by omega) (.int .i64 s) (.int .i64 t) (.int .i64 f) (.int .i64 l) (.int .i64 p) (.int .i64 1) (.int .i64 0) (.int .u64 0) (.int .i64 0) (.int .i64 0)
  have m9 := fun i => b9.cell i
  refine bodyPost_ret (v := .agg #[.int .i64 s, .int .i64 t, .int .i64 f, .int .i64 l, .int .i64 p, .int .i64 1, .int .i64 0, .int .u64 0, .int .i64 0, .int .i64 0]) (by simp [results, Tryd.results13, go_sem, m9]) rfl ⟨rfl, by first | exact B9 | exact B9.drew⟩
set_option maxRecDepth 100000 in
set_option maxHeartbeats 2000000 in
theorem pnew_zero (w : World) :
    Calls Tryd.prog 13 #[.agg #[.int .i64 0, .int .i64 0, .int .i64 0, .int .i64 0, .int .i64 0]] w fun e w' => e = .returned (.agg #[.int .i64 0, .int .i64 0, .int .i64 0, .int .i64 0, .int .i64 0, .int .i64 0, .int .i64 0, .int .u64 0, .int .i64 0, .int .i64 0]) ∧ Below w.heap.size w w' := by
  have C := hide (fun w2 => size_zero w2)
  have bx := Blk.new w 28 #[.int .i64 0, .int .i64 0, .int .i64 0, .int .i64 0, .int .i64 0]
  have B0 := (Below.refl w.heap.size w).alloc (Nat.le_refl _) (.cells #[.int .i64 0, .int .i64 0, .int .i64 0, .int .i64 0, .int .i64 0] 28)
  have bo := Blk.new (w.alloc (.cells #[.int .i64 0, .int .i64 0, .int .i64 0, .int .i64 0, .int .i64 0] 28)) 37 #[.int .i64 0, .int .i64 0, .int .i64 0, .int .i64 0, .int .i64 0, .int .i64 0, .int .i64 0, .int .u64 0, .int .i64 0, .int .i64 0]
  replace B0 := B0.alloc B0.size (.cells #[.int .i64 0, .int .i64 0, .int .i64 0, .int .i64 0, .int .i64 0, .int .i64 0, .int .i64 0, .int .u64 0, .int .i64 0, .int .i64 0] 37)
  replace bx := bx.alloc (.cells #[.int .i64 0, .int .i64 0, .int .i64 0, .int .i64 0, .int .i64 0, .int .i64 0, .int .i64 0, .int .u64 0, .int .i64 0, .int .i64 0] 37)
  rw [World.size_alloc] at bo
  go_enter Tryd.func13, Tryd.ntmps13
  go_wp2_with fail
  refine (C.out _).mono ?_
  rintro e w1 ⟨rfl, hb1⟩
  try replace bx := bx.below hb1 bx.lt
  try replace bo := bo.below hb1 bo.lt
  try replace by_ := by_.below hb1 by_.lt
  replace B0 := B0.trans (hb1.mono B0.size)
  clear hb1
  try clear mx lx
  try clear mo lo zo
  try clear my ly zy
  try have mx := fun i => bx.cell i
  try have lx := bx.lt
  try have mo := fun i => bo.cell i
  try have lo := bo.lt
  try have zo := fun i => bo.frozen i
  try have my := fun i => by_.cell i
  try have ly := by_.lt
  try have zy := fun i => by_.frozen i
  go_wp2_with fail
  have b9 := bo.put10 (.int .i64 0) (.int .i64 0) (.int .i64 0) (.int .i64 0) (.int .i64 0) (.int .i64 0) (.int .i64 0) (.int .u64 0) (.int .i64 0) (.int .i64 0)
  have B9 := below_put10 B0 (g := w.heap.size + 1) (by omega) (.int .i64 0) (.int .i64 0) (.int .i64 0) (.int .i64 0) (.int .i64 0) (.int .i64 0) (.int .i64 0) (.int .u64 0) (.int .i64 0) (.int .i64 0)
  have m9 := fun i => b9.cell i
  refine bodyPost_ret (v := .agg #[.int .i64 0, .int .i64 0, .int .i64 0, .int .i64 0, .int .i64 0, .int .i64 0, .int .i64 0, .int .u64 0, .int .i64 0, .int .i64 0]) (by simp [results, Tryd.results13, go_sem, m9]) rfl ⟨rfl, by first | exact B9 | exact B9.drew⟩
end Go.Proofs.YteiidfklepjpmaaDoor

/-
  The reference's Pop; whatever a Pop's step.
-/
namespace Go.Proofs.YteiidfklepjpmaaDoor
open Go.RowKit
attribute [local go_sem] past_cell past_cell_add

set_option maxRecDepth 100000 in
set_option maxHeartbeats 2000000 in
theorem rnode_any (s t f l p sl : Int) (w : World) (hs : 1 ≤ s ∧ s ≤ 1000) (ht : 1 ≤ t ∧ t ≤ 64) (hf : 4 ≤ f ∧ f ≤ 64) (hsl : 0 ≤ sl ∧ sl ≤ s) :
    Calls Tryd.prog 41 #[.agg #[.int .i64 s, .int .i64 t, .int .i64 f, .int .i64 l, .int .i64 p], .int .i64 sl] w fun e w' => e = .returned (.int .i64 (3 + 3 * t + sl * (3 + 2 * f))) ∧ Below w.heap.size w w' := by
  have b1 : 0 ≤ sl * (3 + 2 * f) := Int.mul_nonneg hsl.1 (by omega)
  have b2 : sl * (3 + 2 * f) ≤ 1000 * 131 := Int.mul_le_mul (by omega) (by omega) (by omega) (by omega)
  have e1 : IntKind.i64.wrap (3 * t) = 3 * t := IntWalk.i64_in _ (by omega)
  have e2 : IntKind.i64.wrap (3 + 3 * t) = 3 + 3 * t := IntWalk.i64_in _ (by omega)
  have e3 : IntKind.i64.wrap (2 * f) = 2 * f := IntWalk.i64_in _ (by omega)
  have e4 : IntKind.i64.wrap (3 + 2 * f) = 3 + 2 * f := IntWalk.i64_in _ (by omega)
  have e5 : IntKind.i64.wrap (sl * (3 + 2 * f)) = sl * (3 + 2 * f) := IntWalk.i64_in _ (by omega)
  have e6 : IntKind.i64.wrap (3 + 3 * t + sl * (3 + 2 * f)) = 3 + 3 * t + sl * (3 + 2 * f) := IntWalk.i64_in _ (by omega)
  have bx := Blk.new w 23 #[.int .i64 s, .int .i64 t, .int .i64 f, .int .i64 l, .int .i64 p]
  have B0 := (Below.refl w.heap.size w).alloc (Nat.le_refl _) (.cells #[.int .i64 s, .int .i64 t, .int .i64 f, .int .i64 l, .int .i64 p] 23)
  go_enter Tryd.func41, Tryd.ntmps41
  go_wp2_with fail
  go_ret
  exact ⟨rfl, B0⟩
set_option maxRecDepth 100000 in
set_option maxHeartbeats 2000000 in
theorem rlnk_any (s t f l p sl : Int) (w : World) (hs : 1 ≤ s ∧ s ≤ 1000) (ht : 1 ≤ t ∧ t ≤ 64) (hf : 4 ≤ f ∧ f ≤ 64) (hsl : 0 ≤ sl ∧ sl ≤ s) :
    Calls Tryd.prog 23 #[.agg #[.int .i64 s, .int .i64 t, .int .i64 f, .int .i64 l, .int .i64 p], .int .i64 sl] w fun e w' => e = .returned (.int .i64 (3 + 3 * t + sl * (3 + 2 * f) + 2)) ∧ Below w.heap.size w w' := by
  have C := hide (fun w2 => rnode_any s t f l p sl w2 hs ht hf hsl)
  have b2 : sl * (3 + 2 * f) ≤ 1000 * 131 := Int.mul_le_mul (by omega) (by omega) (by omega) (by omega)
  have b1 : 0 ≤ sl * (3 + 2 * f) := Int.mul_nonneg hsl.1 (by omega)
  have e7 : IntKind.i64.wrap (3 + 3 * t + sl * (3 + 2 * f) + 2) = 3 + 3 * t + sl * (3 + 2 * f) + 2 := IntWalk.i64_in _ (by omega)
  clear b1 b2
  generalize 3 + 3 * t + sl * (3 + 2 * f) = q at *
  have bx := Blk.new w 23 #[.int .i64 s, .int .i64 t, .int .i64 f, .int .i64 l, .int .i64 p]
  have B0 := (Below.refl w.heap.size w).alloc (Nat.le_refl _) (.cells #[.int .i64 s, .int .i64 t, .int .i64 f, .int .i64 l, .int .i64 p] 23)
  go_enter Tryd.func23, Tryd.ntmps23
  go_wp2_with fail
  refine (C.out _).mono ?_
  rintro e w1 ⟨rfl, hb1⟩
  try replace bx := bx.below hb1 bx.lt
  try replace bo := bo.below hb1 bo.lt
  try replace by_ := by_.below hb1 by_.lt
  replace B0 := B0.trans (hb1.mono B0.size)
  clear hb1
  try clear mx lx
  try clear mo lo zo
  try clear my ly zy
  try have mx := fun i => bx.cell i
  try have lx := bx.lt
  try have mo := fun i => bo.cell i
  try have lo := bo.lt
  try have zo := fun i => bo.frozen i
  try have my := fun i => by_.cell i
  try have ly := by_.lt
  try have zy := fun i => by_.frozen i
  go_wp2_with fail
  go_ret
  exact ⟨rfl, B0⟩
def ppV (s t f l p : Int) (x : Int × Int × Int × Int × Int) : Value := .agg #[.int .i64 s, .int .i64 t, .int .i64 f, .int .i64 l, .int .i64 p, .int .i64 x.1, .int .i64 x.2.1, .int .u64 x.2.2.1, .int .i64 x.2.2.2.1, .int .i64 x.2.2.2.2]
def rppV (x : Int × Int × Int × Int × Int) : Value := .agg #[.int .i64 x.1, .int .u64 x.2.2.1, .int .i64 x.2.1, .int .i64 x.2.2.2.2, .int .i64 x.2.2.2.1]
theorem ptook_any (s t f l p g : Int) (x : Int × Int × Int × Int × Int) (w : World) (hx : PpOk s x) (hg : W64 g) (h : x.1 = 0 ∨ (1 ≤ s ∧ s ≤ 1000)) :
    Calls Tryd.prog 14 #[ppV s t f l p x, .int .u64 g] w fun e w' => e = .returned (ppV s t f l p (pTook s x g)) ∧ Below w.heap.size w w' := by
  obtain ⟨k, sl, hd, tr, lk⟩ := x
  obtain ⟨hk, h1, h2, h3⟩ := hx
  simp only at hk h1 h2 h3 h
  rcases hk with rfl | rfl | rfl | rfl
  · exact ptook_0 s t f l p sl hd tr lk g w
  all_goals
    have hs := h.resolve_left (by decide)
  · by_cases h0 : 1 ≤ g % 65536
    · by_cases h4 : g % 65536 ≤ s
      · rw [show pTook s (1, sl, hd, tr, lk) g = (2, g % 65536, g, tr, lk) by simp [pTook, h0, h4]]
        exact ptook_1y s t f l p sl hd tr lk g w hg h0 h4
      · rw [show pTook s (1, sl, hd, tr, lk) g = (0, 0, g, tr, lk) by simp [pTook, h4]]
        exact ptook_1h s t f l p sl hd tr lk g w hg h0 (by omega)
    · rw [show pTook s (1, sl, hd, tr, lk) g = (0, 0, g, tr, lk) by simp [pTook, h0]]
      exact ptook_1l s t f l p sl hd tr lk g w hg (by omega)
  · by_cases h0 : g ≤ s
    · rw [show pTook s (2, sl, hd, tr, lk) g = (3, sl, hd, tr, g) by simp [pTook, h0]]
      exact ptook_2y s t f l p sl hd tr lk g w hg (by omega) h0
    · rw [show pTook s (2, sl, hd, tr, lk) g = (3, sl, hd, tr, 0) by simp [pTook, h0]]
      exact ptook_2n s t f l p sl hd tr lk g w hg (by omega) (by omega)
  · by_cases h0 : g = 1
    · subst h0
      exact ptook_3y s t f l p sl hd tr lk w
    · rw [show pTook s (3, sl, hd, tr, lk) g = (1, sl, hd, wrap64 (tr + 1), lk) by simp [pTook, h0]]
      exact ptook_3n s t f l p sl hd tr lk g w (by simpa using h0)
theorem pwant_any (s t f l p : Int) (x : Int × Int × Int × Int × Int) (w : World) (hx : PpOk s x) (h : x.1 = 0 ∨ ((1 ≤ s ∧ s ≤ 1000) ∧ (1 ≤ t ∧ t ≤ 64) ∧ (4 ≤ f ∧ f ≤ 64))) :
    Calls Tryd.prog 16 #[ppV s t f l p x] w fun e w' => e = .returned (.agg #[.int .i64 (pAsk t f x).1, .int .i64 (pAsk t f x).2.1, .int .u64 (pAsk t f x).2.2.1, .int .u64 (pAsk t f x).2.2.2]) ∧ Below w.heap.size w w' := by
  obtain ⟨k, sl, hd, tr, lk⟩ := x
  obtain ⟨hk, h1, h2, h3⟩ := hx
  simp only at hk h1 h2 h3 h
  rcases hk with rfl | rfl | rfl | rfl
  · exact pwant_0 s t f l p sl hd tr lk w
  all_goals
    obtain ⟨hs, ht, hf⟩ := h.resolve_left (by decide)
  · exact pwant_1 s t f l p sl hd tr lk w hs ht hf
  · exact pwant_2 s t f l p sl hd tr lk w hs ht hf (h3 (.inl rfl))
  · exact pwant_3 s t f l p sl hd tr lk w hs ht hf h1 h2
end Go.Proofs.YteiidfklepjpmaaDoor

/-
  What a Push wants; the reference's Push.
-/
namespace Go.Proofs.YteiidfklepjpmaaDoor
open Go.RowKit
attribute [local go_sem] past_cell past_cell_add

set_option maxRecDepth 100000 in
set_option maxHeartbeats 2000000 in
theorem pswant_1 (s t f l p sl hd tr : Int) (w : World) (hs : 1 ≤ s ∧ s ≤ 1000) (ht : 1 ≤ t ∧ t ≤ 64) (hf : 4 ≤ f ∧ f ≤ 64) :
    Calls Tryd.prog 27 #[.agg #[.int .i64 s, .int .i64 t, .int .i64 f, .int .i64 l, .int .i64 p, .int .i64 1, .int .i64 sl, .int .u64 hd, .int .i64 tr]] w fun e w' => e = .returned (.agg #[.int .i64 1, .int .i64 2, .int .u64 0, .int .u64 0]) ∧ Below w.heap.size w w' := by
  have C := hide (fun w2 => headAt_any s t f l p sl hd tr 1 w2 hs ht hf)
  have D := hide (fun w2 => sload_any 2 w2)
  have hmf : ∀ (fn : Fn) (first cap : Array Value) (w : World), (Instr.makeFunc fn first cap).run Tryd.prog w = .ok (.func fn first cap) w := fun _ _ _ _ => rfl
  have bx := Blk.new w 39 #[.int .i64 s, .int .i64 t, .int .i64 f, .int .i64 l, .int .i64 p, .int .i64 1, .int .i64 sl, .int .u64 hd, .int .i64 tr]
  have B0 := (Below.refl w.heap.size w).alloc (Nat.le_refl _) (.cells #[.int .i64 s, .int .i64 t, .int .i64 f, .int .i64 l, .int .i64 p, .int .i64 1, .int .i64 sl, .int .u64 hd, .int .i64 tr] 39)
  have bo := Blk.new (w.alloc (.cells #[.int .i64 s, .int .i64 t, .int .i64 f, .int .i64 l, .int .i64 p, .int .i64 1, .int .i64 sl, .int .u64 hd, .int .i64 tr] 39)) 52 #[.int .i64 0, .int .i64 0, .int .u64 0, .int .u64 0]
  replace B0 := B0.alloc B0.size (.cells #[.int .i64 0, .int .i64 0, .int .u64 0, .int .u64 0] 52)
  replace bx := bx.alloc (.cells #[.int .i64 0, .int .i64 0, .int .u64 0, .int .u64 0] 52)
  rw [World.size_alloc] at bo
  go_enter Tryd.func27, Tryd.ntmps27
  go_wp2_with fail
  refine (C.out _).mono ?_
  rintro e w1 ⟨rfl, hb1⟩
  try replace bx := bx.below hb1 bx.lt
  try replace bo := bo.below hb1 bo.lt
  try replace by_ := by_.below hb1 by_.lt
  replace B0 := B0.trans (hb1.mono B0.size)
  clear hb1
  try clear mx lx
  try clear mo lo zo
  try clear my ly zy
  try have mx := fun i => bx.cell i
  try have lx := bx.lt
  try have mo := fun i => bo.cell i
  try have lo := bo.lt
  try have zo := fun i => bo.frozen i
  try have my := fun i => by_.cell i
  try have ly := by_.lt
  try have zy := fun i => by_.frozen i
  go_wp2_with fail
  refine (D.out _).mono ?_
  rintro e w2 ⟨rfl, hb1⟩
  try replace bx := bx.below hb1 bx.lt
  try replace bo := bo.below hb1 bo.lt
  try replace by_ := by_.below hb1 by_.lt
  replace B0 := B0.trans (hb1.mono B0.size)
  clear hb1
  try clear mx lx
  try clear mo lo zo
  try clear my ly zy
  try have mx := fun i => bx.cell i
  try have lx := bx.lt
  try have mo := fun i => bo.cell i
  try have lo := bo.lt
  try have zo := fun i => bo.frozen i
  try have my := fun i => by_.cell i
  try have ly := by_.lt
  try have zy := fun i => by_.frozen i
  go_wp2_with fail
  have b9 := bo.put4 (.int .i64 1) (.int .i64 2) (.int .u64 0) (.int .u64 0)
  have B9 := below_put4 B0 (g := w.heap.size + 1) (by omega) (.int .i64 1) (.int .i64 2) (.int .u64 0) (.int .u64 0)
  have m9 := fun i => b9.cell i
  refine bodyPost_ret (v := .agg #[.int .i64 1, .int .i64 2, .int .u64 0, .int .u64 0]) (by simp [results, Tryd.results27, go_sem, m9]) rfl ⟨rfl, by first | exact B9 | exact B9.drew⟩
set_option maxRecDepth 100000 in
set_option maxHeartbeats 2000000 in
theorem pswant_3 (s t f l p sl hd tr : Int) (w : World) (hs : 1 ≤ s ∧ s ≤ 1000) (ht : 1 ≤ t ∧ t ≤ 64) (hf : 4 ≤ f ∧ f ≤ 64) (hh : W64 hd) (hsl : 1 ≤ sl ∧ sl ≤ s) :
    Calls Tryd.prog 27 #[.agg #[.int .i64 s, .int .i64 t, .int .i64 f, .int .i64 l, .int .i64 p, .int .i64 3, .int .i64 sl, .int .u64 hd, .int .i64 tr]] w fun e w' => e = .returned (.agg #[.int .i64 3, .int .i64 2, .int .u64 hd, .int .u64 (hturn hd sl)]) ∧ Below w.heap.size w w' := by
  have C := hide (fun w2 => swap_any s t f l p sl hd tr 3 sl w2 hs ht hf hh ⟨by omega, by omega⟩)
  generalize hturn hd sl = y at *
  have hmf : ∀ (fn : Fn) (first cap : Array Value) (w : World), (Instr.makeFunc fn first cap).run Tryd.prog w = .ok (.func fn first cap) w := fun _ _ _ _ => rfl
  have bx := Blk.new w 39 #[.int .i64 s, .int .i64 t, .int .i64 f, .int .i64 l, .int .i64 p, .int .i64 3, .int .i64 sl, .int .u64 hd, .int .i64 tr]
  have B0 := (Below.refl w.heap.size w).alloc (Nat.le_refl _) (.cells #[.int .i64 s, .int .i64 t, .int .i64 f, .int .i64 l, .int .i64 p, .int .i64 3, .int .i64 sl, .int .u64 hd, .int .i64 tr] 39)
  have bo := Blk.new (w.alloc (.cells #[.int .i64 s, .int .i64 t, .int .i64 f, .int .i64 l, .int .i64 p, .int .i64 3, .int .i64 sl, .int .u64 hd, .int .i64 tr] 39)) 52 #[.int .i64 0, .int .i64 0, .int .u64 0, .int .u64 0]
  replace B0 := B0.alloc B0.size (.cells #[.int .i64 0, .int .i64 0, .int .u64 0, .int .u64 0] 52)
  replace bx := bx.alloc (.cells #[.int .i64 0, .int .i64 0, .int .u64 0, .int .u64 0] 52)
  rw [World.size_alloc] at bo
  go_enter Tryd.func27, Tryd.ntmps27
  go_wp2_with fail
  refine (C.out _).mono ?_
  rintro e w1 ⟨rfl, hb1⟩
  try replace bx := bx.below hb1 bx.lt
  try replace bo := bo.below hb1 bo.lt
  try replace by_ := by_.below hb1 by_.lt
  replace B0 := B0.trans (hb1.mono B0.size)
  clear hb1
  try clear mx lx
  try clear mo lo zo
  try clear my ly zy
  try have mx := fun i => bx.cell i
  try have lx := bx.lt
  try have mo := fun i => bo.cell i
  try have lo := bo.lt
  try have zo := fun i => bo.frozen i
  try have my := fun i => by_.cell i
  try have ly := by_.lt
  try have zy := fun i => by_.frozen i
  go_wp2_with fail
  have b9 := bo.put4 (.int .i64 3) (.int .i64 2) (.int .u64 hd) (.int .u64 y)
  have B9 := below_put4 B0 (g := w.heap.size + 1) (by omega) (.int .i64 3) (.int .i64 2) (.int .u64 hd) (.int .u64 y)
  have m9 := fun i => b9.cell i
  refine bodyPost_ret (v := .agg #[.int .i64 3, .int .i64 2, .int .u64 hd, .int .u64 y]) (by simp [results, Tryd.results27, go_sem, m9]) rfl ⟨rfl, by first | exact B9 | exact B9.drew⟩
set_option maxRecDepth 100000 in
set_option maxHeartbeats 2000000 in
theorem pswant_2 (s t f l p sl hd tr : Int) (w : World) (hs : 1 ≤ s ∧ s ≤ 1000) (ht : 1 ≤ t ∧ t ≤ 64) (hf : 4 ≤ f ∧ f ≤ 64) (hh : W64 hd) (hsl : 1 ≤ sl ∧ sl ≤ s) :
    Calls Tryd.prog 27 #[.agg #[.int .i64 s, .int .i64 t, .int .i64 f, .int .i64 l, .int .i64 p, .int .i64 2, .int .i64 sl, .int .u64 hd, .int .i64 tr]] w fun e w' => e = .returned (.agg #[.int .i64 2, .int .i64 (3 + 3 * t + sl * (3 + 2 * f) + 2), .int .u64 0, .int .u64 (hd % 65536)]) ∧ Below w.heap.size w w' := by
  have C := hide (fun w2 => llnk_any s t f l p sl w2 hs ht hf)
  rw [atp8 (by omega)] at C
  have M := hide (fun w2 => htell_slot hd w2 hh)
  have e1 : IntKind.u64.wrap (hd % 65536) = hd % 65536 := IntWalk.u64_in _ (by omega)
  generalize hd % 65536 = y at *
  generalize 3 + 3 * t + sl * (3 + 2 * f) + 2 = q at *
  have hmf : ∀ (fn : Fn) (first cap : Array Value) (w : World), (Instr.makeFunc fn first cap).run Tryd.prog w = .ok (.func fn first cap) w := fun _ _ _ _ => rfl
  have bx := Blk.new w 39 #[.int .i64 s, .int .i64 t, .int .i64 f, .int .i64 l, .int .i64 p, .int .i64 2, .int .i64 sl, .int .u64 hd, .int .i64 tr]
  have B0 := (Below.refl w.heap.size w).alloc (Nat.le_refl _) (.cells #[.int .i64 s, .int .i64 t, .int .i64 f, .int .i64 l, .int .i64 p, .int .i64 2, .int .i64 sl, .int .u64 hd, .int .i64 tr] 39)
  have bo := Blk.new (w.alloc (.cells #[.int .i64 s, .int .i64 t, .int .i64 f, .int .i64 l, .int .i64 p, .int .i64 2, .int .i64 sl, .int .u64 hd, .int .i64 tr] 39)) 52 #[.int .i64 0, .int .i64 0, .int .u64 0, .int .u64 0]
  replace B0 := B0.alloc B0.size (.cells #[.int .i64 0, .int .i64 0, .int .u64 0, .int .u64 0] 52)
  replace bx := bx.alloc (.cells #[.int .i64 0, .int .i64 0, .int .u64 0, .int .u64 0] 52)
  rw [World.size_alloc] at bo
  go_enter Tryd.func27, Tryd.ntmps27
  go_wp2_with fail
  generalize (w.alloc (.cells #[.int .i64 s, .int .i64 t, .int .i64 f, .int .i64 l, .int .i64 p, .int .i64 2, .int .i64 sl, .int .u64 hd, .int .i64 tr] 39)).alloc (.cells #[.int .i64 0, .int .i64 0, .int .u64 0, .int .u64 0] 52) = w0 at *
  have bd := bx.drewN 1
  have od := bo.drewN 1
  have Bd := below_drewN B0 1
  try clear mx lx
  try clear mo lo zo
  try clear my ly zy
  try have mx := fun i => bx.cell i
  try have lx := bx.lt
  try have mo := fun i => bo.cell i
  try have lo := bo.lt
  try have zo := fun i => bo.frozen i
  try have my := fun i => by_.cell i
  try have ly := by_.lt
  try have zy := fun i => by_.frozen i
  go_region_held3 (fun w' => w'.cell? ⟨w.heap.size, 0, none⟩ = some (.int .i64 s) ∧ w'.cell? ⟨w.heap.size, 1, none⟩ = some (.int .i64 t) ∧ w'.cell? ⟨w.heap.size, 2, none⟩ = some (.int .i64 f) ∧ w'.cell? ⟨w.heap.size, 3, none⟩ = some (.int .i64 l) ∧ w'.cell? ⟨w.heap.size, 4, none⟩ = some (.int .i64 p) ∧ w'.cell? ⟨w.heap.size, 5, none⟩ = some (.int .i64 2) ∧ w'.cell? ⟨w.heap.size, 6, none⟩ = some (.int .i64 sl) ∧ w'.cell? ⟨w.heap.size, 7, none⟩ = some (.int .u64 hd) ∧ w'.cell? ⟨w.heap.size, 8, none⟩ = some (.int .i64 tr)) (go_keep) ((first | (go_at_call 38; refine (C.out _).mono ?_; rintro e w1 ⟨rfl, hb1⟩; have bd := bd.below hb1 bd.lt; have od := od.below hb1 od.lt; have Bd := Bd.trans (hb1.mono Bd.size); have md := fun i => bd.cell i; have nd := fun i => od.cell i; have zd := fun i => od.frozen i; have ld := bd.lt; have kd := od.lt) | (go_at_call 32; refine (M.out _).mono ?_; rintro e w1 ⟨rfl, hb1⟩; have bd := bd.below hb1 bd.lt; have od := od.below hb1 od.lt; have Bd := Bd.trans (hb1.mono Bd.size); have md := fun i => bd.cell i; have nd := fun i => od.cell i; have zd := fun i => od.frozen i; have ld := bd.lt; have kd := od.lt)))
  all_goals
    go_wp2_with fail
    have b9 := od.put4 (.int .i64 2) (.int .i64 q) (.int .u64 0) (.int .u64 y)
    have B9 := below_put4 Bd (g := w.heap.size + 1) (by omega) (.int .i64 2) (.int .i64 q) (.int .u64 0) (.int .u64 y)
    have m9 := fun i => b9.cell i
    refine bodyPost_ret (v := .agg #[.int .i64 2, .int .i64 q, .int .u64 0, .int .u64 y]) (by simp [results, Tryd.results27, go_sem, m9]) rfl ⟨rfl, B9⟩
set_option maxRecDepth 100000 in
set_option maxHeartbeats 2000000 in
theorem psdone_1 (s t f l p sl hd tr k : Int) (w : World) (hk : (k == 0) = false) :
    Calls Tryd.prog 28 #[.agg #[.int .i64 s, .int .i64 t, .int .i64 f, .int .i64 l, .int .i64 p, .int .i64 k, .int .i64 sl, .int .u64 hd, .int .i64 tr]] w fun e w' => e = .returned (.bool false) ∧ Below w.heap.size w w' := by
  have bx := Blk.new w 39 #[.int .i64 s, .int .i64 t, .int .i64 f, .int .i64 l, .int .i64 p, .int .i64 k, .int .i64 sl, .int .u64 hd, .int .i64 tr]
  have B0 := (Below.refl w.heap.size w).alloc (Nat.le_refl _) (.cells #[.int .i64 s, .int .i64 t, .int .i64 f, .int .i64 l, .int .i64 p, .int .i64 k, .int .i64 sl, .int .u64 hd, .int .i64 tr] 39)
  go_enter Tryd.func28, Tryd.ntmps28
  go_wp2_with fail
  go_ret
  exact ⟨rfl, B0⟩
def rsV (x : Int × Int × Int × Int) : Value := .agg #[.int .i64 x.1, .int .u64 x.2.2.1, .int .i64 x.2.1, .int .i64 x.2.2.2]
def psAsk (t f : Int) (x : Int × Int × Int × Int) : Int × Int × Int × Int :=
  if x.1 = 1 then (1, 2, 0, 0)
  else if x.1 = 2 then (2, 3 + 3 * t + x.2.1 * (3 + 2 * f) + 2, 0, x.2.2.1 % 65536)
  else if x.1 = 3 then (3, 2, x.2.2.1, hturn x.2.2.1 x.2.1)
  else (0, 0, 0, 0)
/-- Where it has not come, its slot is one of the layout's. -/
def PsIn (s : Int) (x : Int × Int × Int × Int) : Prop := PsOk x ∧ W64 x.2.2.1 ∧ (x.1 = 0 ∨ (1 ≤ x.2.1 ∧ x.2.1 ≤ s))
theorem psTook_in {s g : Int} {x : Int × Int × Int × Int} (h : PsIn s x) (hg : W64 g) : PsIn s (psTook x g) := by
  obtain ⟨h1, h2, h3⟩ := h
  refine ⟨psTook_ok h1, ?_, ?_⟩
  · unfold psTook
    split
    · exact h2
    · split
      · exact hg
      · split
        · exact h2
        · split <;> exact h2
  · unfold psTook
    split
    · exact h3
    · next h0 =>
      have h3 := h3.resolve_left h0
      split
      · exact .inr h3
      · split
        · exact .inr h3
        · split <;> exact .inr h3
theorem pswant_any (s t f l p : Int) (x : Int × Int × Int × Int) (w : World) (hx : PsIn s x) (h : x.1 = 0 ∨ ((1 ≤ s ∧ s ≤ 1000) ∧ (1 ≤ t ∧ t ≤ 64) ∧ (4 ≤ f ∧ f ≤ 64))) :
    Calls Tryd.prog 27 #[psV s t f l p x] w fun e w' => e = .returned (.agg #[.int .i64 (psAsk t f x).1, .int .i64 (psAsk t f x).2.1, .int .u64 (psAsk t f x).2.2.1, .int .u64 (psAsk t f x).2.2.2]) ∧ Below w.heap.size w w' := by
  obtain ⟨k, sl, hd, tr⟩ := x
  obtain ⟨hk, h1, h2⟩ := hx
  unfold PsOk at hk
  simp only at hk h1 h2 h
  rcases hk with rfl | rfl | rfl | rfl
  · exact pswant_0 s t f l p sl hd tr w
  all_goals
    obtain ⟨hs, ht, hf⟩ := h.resolve_left (by decide)
    have h2 := h2.resolve_left (by decide)
  · exact pswant_1 s t f l p sl hd tr w hs ht hf
  · exact pswant_2 s t f l p sl hd tr w hs ht hf h1 h2
  · exact pswant_3 s t f l p sl hd tr w hs ht hf h1 h2
end Go.Proofs.YteiidfklepjpmaaDoor

/-
  StackParts in plain Lean: four workers, the list of free slots, and what each step does to them.
-/
namespace Go.Proofs.YteiidfklepjpmaaDoor
open Go.RowKit

/-- A list of slots, each linked to the next. -/
def Ch (nx : Int → Int) : Int → List Int → Prop
  | x, [] => x = 0
  | x, y :: l => x = y ∧ Ch nx (nx y) l
theorem Ch.frN {nx : Int → Int} {s : Int} : ∀ (l : List Int) (n : Nat) (x : Int) (q : List Int), Ch nx x l → Nice s (q ++ l) → l.length < n → frN nx s n x q = (q ++ l, true)
  | [], n, x, q, h, hq, hn => by
    obtain ⟨n, rfl⟩ : ∃ n', n = n' + 1 := ⟨n - 1, by omega⟩
    unfold Proofs.YteiidfklepjpmaaDoor.frN
    rw [if_pos (show x = 0 from h), List.append_nil]
  | y :: l, n, x, q, h, hq, hn => by
    obtain ⟨n, rfl⟩ : ∃ n', n = n' + 1 := ⟨n - 1, by omega⟩
    obtain ⟨rfl, h⟩ := h
    have hy := hq.2 x (by simp)
    have hnq : x ∉ q := fun hm => by
      have := List.nodup_append.1 hq.1
      exact this.2.2 x hm x (by simp) rfl
    unfold Proofs.YteiidfklepjpmaaDoor.frN
    rw [if_neg (by omega), if_neg (by intro h9; rcases h9 with h9 | h9; omega; exact hnq h9)]
    have e : q ++ x :: l = (q ++ [x]) ++ l := by simp
    rw [e] at hq ⊢
    simp only [List.length_cons] at hn
    exact Ch.frN l n (nx x) (q ++ [x]) h hq (by omega)
theorem Ch.congr {nx nx' : Int → Int} : ∀ {l : List Int} {x : Int}, Ch nx x l → (∀ y ∈ l, nx y = nx' y) → Ch nx' x l
  | [], _, h, _ => h
  | y :: l, _, h, hy => ⟨h.1, by rw [← hy y (by simp)]; exact Ch.congr h.2 (fun z hz => hy z (by simp [hz]))⟩
/-- These are the free slots. -/
def FreeAre (ws : List Int) (s t f : Int) (l : List Int) : Prop := Ch (nxt ws t f) (wGet ws 2 % 65536) l ∧ Nice s l
theorem FreeAre.frR {ws : List Int} {s t f : Int} {l : List Int} (h : FreeAre ws s t f l) (hs : 0 ≤ s) : frR ws s t f = (l, true) := by
  unfold Proofs.YteiidfklepjpmaaDoor.frR
  have hl := nice_len s.toNat l (by rw [show ((s.toNat : Nat) : Int) = s by omega]; exact h.2)
  have := Ch.frN l (s.toNat + 1) _ [] h.1 (by simpa using h.2) (by omega)
  simpa using this
theorem wGet_put {ws : List Int} {a b v : Int} (h0 : 0 ≤ a) (h1 : a < ws.length) : wGet (wPut ws a v) b = if b = a then v else wGet ws b := by
  have hp : wPut ws a v = ws.set a.toNat v := by unfold wPut; rw [if_pos ⟨h0, h1⟩]
  unfold wGet
  rw [hp, List.length_set]
  by_cases hb : 0 ≤ b ∧ b < ws.length
  · rw [if_pos hb, if_pos hb, getD_set _ _ _ _ (by omega)]
    by_cases e : b = a
    · rw [if_pos e, if_pos (by omega)]
    · rw [if_neg e, if_neg (by omega)]
  · rw [if_neg hb, if_neg hb, if_neg (by omega)]
theorem nB_inj {t f a b : Int} (hf : 4 ≤ f) (h : nB t f a = nB t f b) : a = b := by
  rcases Int.lt_trichotomy a b with h1 | h1 | h1
  · have := nB_lt (t := t) hf h1; omega
  · exact h1
  · have := nB_lt (t := t) hf h1; omega
theorem nxt_put {ws : List Int} {t f x y v : Int} (hf : 4 ≤ f) (h0 : 0 ≤ nB t f x + 2) (h1 : nB t f x + 2 < ws.length) : nxt (wPut ws (nB t f x + 2) v) t f y = if y = x then v else nxt ws t f y := by
  unfold nxt
  rw [wGet_put h0 h1]
  by_cases e : y = x
  · subst e; rw [if_pos rfl, if_pos rfl]
  · rw [if_neg e, if_neg (fun h => e (nB_inj (t := t) (f := f) hf (by omega)))]
theorem nxt_off {ws : List Int} {t f a y v : Int} (ha : 0 ≤ a) (ha1 : a < ws.length) (hne : nB t f y + 2 ≠ a) : nxt (wPut ws a v) t f y = nxt ws t f y := by
  unfold nxt
  rw [wGet_put ha ha1, if_neg hne]
theorem nB_ge {t f y : Int} (hf : 4 ≤ f) (hy : 0 ≤ y) : 3 + 3 * t ≤ nB t f y := by
  unfold nB
  have : 0 ≤ y * (3 + 2 * f) := Int.mul_nonneg hy (by omega)
  omega
/-- A word below the nodes is put, not the head. -/
theorem FreeAre.low {ws : List Int} {s t f : Int} {l : List Int} {a v : Int} (h : FreeAre ws s t f l) (hf : 4 ≤ f) (ha : 0 ≤ a) (ha1 : a < ws.length) (h2 : a ≠ 2) (h3 : a < 3 + 3 * t) : FreeAre (wPut ws a v) s t f l := by
  refine ⟨?_, h.2⟩
  rw [wGet_put ha ha1, if_neg (fun e => h2 e.symm)]
  exact h.1.congr (fun y hy => (nxt_off ha ha1 (by have := nB_ge (t := t) hf (y := y) (by have := h.2.2 y hy; omega); omega)).symm)
/-- A slot that isn't in the list is linked anew. -/
theorem FreeAre.link {ws : List Int} {s t f : Int} {l : List Int} {x v : Int} (h : FreeAre ws s t f l) (ht : 1 ≤ t) (hf : 4 ≤ f) (hx : 0 ≤ x) (h1 : nB t f x + 2 < ws.length) (hn : x ∉ l) : FreeAre (wPut ws (nB t f x + 2) v) s t f l := by
  have hb := nB_ge (t := t) hf hx
  refine ⟨?_, h.2⟩
  rw [wGet_put (by omega) h1, if_neg (by omega)]
  exact h.1.congr (fun y hy => by rw [nxt_put hf (by omega) h1, if_neg (fun e => hn (by rw [← e]; exact hy))])
/-- It becomes the head. -/
theorem FreeAre.push {ws : List Int} {s t f : Int} {l : List Int} {x v : Int} (h : FreeAre ws s t f l) (ht : 1 ≤ t) (hf : 4 ≤ f) (hx : 1 ≤ x ∧ x ≤ s) (h2 : 2 < (ws.length : Int)) (hn : x ∉ l) (hl : nxt ws t f x = wGet ws 2 % 65536) (hv : v % 65536 = x) : FreeAre (wPut ws 2 v) s t f (x :: l) := by
  refine ⟨?_, List.nodup_cons.2 ⟨hn, h.2.1⟩, fun y hy => ?_⟩
  · rw [wGet_put (by omega) h2, if_pos rfl, hv]
    have e : ∀ y, 0 ≤ y → nxt (wPut ws 2 v) t f y = nxt ws t f y := fun y hy => nxt_off (by omega) h2 (by have := nB_ge (t := t) hf hy; omega)
    refine ⟨rfl, ?_⟩
    rw [e x (by omega), hl]
    exact h.1.congr (fun y hy => (e y (by have := h.2.2 y hy; omega)).symm)
  · rcases List.mem_cons.1 hy with rfl | hy
    · exact hx
    · exact h.2.2 y hy

abbrev PxT := Int × Int × Int × Int × Int
abbrev UxT := Int × Int × Int × Int
/-- A worker: whether it pops, whether it is busy, its pop, its push, its slots. -/
structure Wk where
  pops : Bool
  busy : Bool
  px : PxT
  ux : UxT
  own : List Int
def wBegin (odd : Bool) (x : Wk) : Wk :=
  if (x.own.isEmpty || odd) = true then { x with busy := true, pops := true, px := (1, 0, 0, 0, 0) } else { x with busy := true, pops := false, ux := (1, x.own.headD 0, 0, 0) }
def popAsk (t f : Int) (ws : List Int) (x : Wk) : Int × List Int := mDo ws (pAsk t f x.px).1 (pAsk t f x.px).2.1 (pAsk t f x.px).2.2.1 (pAsk t f x.px).2.2.2
def pushAsk (t f : Int) (ws : List Int) (x : Wk) : Int × List Int := mDo ws (psAsk t f x.ux).1 (psAsk t f x.ux).2.1 (psAsk t f x.ux).2.2.1 (psAsk t f x.ux).2.2.2
def popOwn (own : List Int) (p : PxT) : List Int := if p.1 = 0 ∧ 0 < p.2.1 then own ++ [p.2.1] else own
def wPop (s t f : Int) (ws : List Int) (x : Wk) : Wk :=
  { x with px := pTook s x.px (popAsk t f ws x).1, busy := !decide ((pTook s x.px (popAsk t f ws x).1).1 = 0), own := popOwn x.own (pTook s x.px (popAsk t f ws x).1) }
def wPush (t f : Int) (ws : List Int) (x : Wk) : Wk :=
  if (psTook x.ux (pushAsk t f ws x).1).1 = 0 then { x with ux := psTook x.ux (pushAsk t f ws x).1, own := x.own.tail, busy := false } else { x with ux := psTook x.ux (pushAsk t f ws x).1 }
def wStep (s t f : Int) (ws : List Int) (x : Wk) : Wk := if x.pops = true then wPop s t f ws x else wPush t f ws x
def wWords (t f : Int) (ws : List Int) (x : Wk) : List Int := if x.pops = true then (popAsk t f ws x).2 else (pushAsk t f ws x).2
/-- What a worker that is busy knows. -/
def WOk (s t f : Int) (ws : List Int) (x : Wk) : Prop := x.busy = true →
  (x.pops = true → PpOk s x.px ∧ x.px.1 ≠ 0 ∧ (x.px.1 ≠ 1 → x.px.2.1 = x.px.2.2.1 % 65536 ∧ x.px.2.2.1 / 65536 ≤ wGet ws 2 / 65536) ∧ (x.px.1 = 3 → x.px.2.2.2.2 ≤ s ∧ (x.px.2.2.1 = wGet ws 2 → x.px.2.2.2.2 = nxt ws t f x.px.2.1))) ∧
  (x.pops = false → PsIn s x.ux ∧ x.ux.1 ≠ 0 ∧ (∃ o, x.own = x.ux.2.1 :: o) ∧ (x.ux.1 ≠ 1 → x.ux.2.2.1 / 65536 ≤ wGet ws 2 / 65536) ∧ (x.ux.1 = 3 → x.ux.2.2.1 = wGet ws 2 → nxt ws t f x.ux.2.1 = x.ux.2.2.1 % 65536))
/-- Words: their number, a word each, few turns of the head so far. -/
structure PW (s t f : Int) (N : Nat) (n : Int) (ws : List Int) : Prop where
  len : ws.length = N
  w64 : AllW64 ws
  tag : wGet ws 2 / 65536 ≤ n
def Inv (s t f : Int) (N : Nat) (n : Int) (ws : List Int) (xs : List Wk) : Prop :=
  PW s t f N n ws ∧ ∃ F, FreeAre ws s t f F ∧ (F ++ xs.flatMap (·.own)).Perm (rg2 (s - 1).toNat) ∧ ∀ x ∈ xs, WOk s t f ws x

theorem rg2_nodup : ∀ n, (rg2 n).Nodup
  | 0 => List.nodup_nil
  | n + 1 => by
    rw [rg2_succ]
    refine List.nodup_append.2 ⟨rg2_nodup n, by simp, fun a ha b hb => ?_⟩
    rw [rg2_mem] at ha
    rw [List.mem_singleton] at hb
    omega
theorem hturn_parts {h x : Int} (hh : 0 ≤ h) (hx : 0 ≤ x ∧ x ≤ 1000) (ht : h / 65536 ≤ 1000) : hturn h x % 65536 = x ∧ hturn h x / 65536 = h / 65536 + 1 := by
  have h0 : 0 ≤ h / 65536 := Int.ediv_nonneg hh (by omega)
  have e : hturn h x = (h / 65536 + 1) * 65536 + x := by
    unfold hturn hmake hslot
    split <;> omega
  rw [e]
  omega
theorem free_head {ws : List Int} {s t f : Int} {F : List Int} (h : FreeAre ws s t f F) (h0 : wGet ws 2 % 65536 ≠ 0) : ∃ F', F = wGet ws 2 % 65536 :: F' ∧ Ch (nxt ws t f) (nxt ws t f (wGet ws 2 % 65536)) F' := by
  obtain ⟨h1, _⟩ := h
  cases F with
  | nil => exact absurd h1 h0
  | cons y F' => exact ⟨F', by rw [h1.1], by rw [h1.1]; exact h1.2⟩
theorem ch_le {nx : Int → Int} {s : Int} {x : Int} {F : List Int} (h : Ch nx x F) (hF : ∀ y ∈ F, y ≤ s) (hs : 0 ≤ s) : x ≤ s := by
  cases F with
  | nil => rw [show x = 0 from h]; exact hs
  | cons y F' => rw [h.1]; exact hF y (by simp)
/-- The head goes. -/
theorem FreeAre.pop {ws : List Int} {s t f : Int} {y : Int} {l : List Int} {v : Int} (h : FreeAre ws s t f (y :: l)) (ht : 1 ≤ t) (hf : 4 ≤ f) (h2 : 2 < (ws.length : Int)) (hv : v % 65536 = nxt ws t f y) : FreeAre (wPut ws 2 v) s t f l := by
  have e : ∀ y, 0 ≤ y → nxt (wPut ws 2 v) t f y = nxt ws t f y := fun y hy => nxt_off (by omega) h2 (by have := nB_ge (t := t) hf hy; omega)
  refine ⟨?_, (List.nodup_cons.1 h.2.1).2, fun z hz => h.2.2 z (by simp [hz])⟩
  rw [wGet_put (by omega) h2, if_pos rfl, hv]
  exact h.1.2.congr (fun z hz => (e z (by have := h.2.2 z (by simp [hz]); omega)).symm)
theorem wok_cas {s t f : Int} {ws : List Int} {v : Int} {y : Wk} (h2 : 2 < (ws.length : Int)) (hv : v / 65536 = wGet ws 2 / 65536 + 1) (h : WOk s t f ws y) : WOk s t f (wPut ws 2 v) y := by
  intro hb
  obtain ⟨hp, hu⟩ := h hb
  have e2 : wGet (wPut ws 2 v) 2 = v := by rw [wGet_put (by omega) h2, if_pos rfl]
  rw [e2]
  refine ⟨fun hq => ?_, fun hq => ?_⟩
  · obtain ⟨h1, h3, h4, h5⟩ := hp hq
    refine ⟨h1, h3, fun hk => ⟨(h4 hk).1, by have := (h4 hk).2; omega⟩, fun hk => ⟨(h5 hk).1, fun e => ?_⟩⟩
    have := (h4 (by omega)).2
    rw [e] at this
    omega
  · obtain ⟨h1, h3, h4, h5, _⟩ := hu hq
    refine ⟨h1, h3, h4, fun hk => by have := h5 hk; omega, fun hk e => ?_⟩
    have := h5 (by omega)
    rw [e] at this
    omega
theorem wok_link {s t f : Int} {ws : List Int} {z v : Int} {y : Wk} (ht : 1 ≤ t) (hf : 4 ≤ f) (hz : 1 ≤ z) (hl : nB t f z + 2 < ws.length) (h1 : z ≠ wGet ws 2 % 65536) (h2 : z ∉ y.own) (h : WOk s t f ws y) : WOk s t f (wPut ws (nB t f z + 2) v) y := by
  intro hb
  obtain ⟨hp, hu⟩ := h hb
  have hge := nB_ge (t := t) hf (y := z) (by omega)
  have e2 : wGet (wPut ws (nB t f z + 2) v) 2 = wGet ws 2 := by rw [wGet_put (by omega) hl, if_neg (by omega)]
  rw [e2]
  refine ⟨fun hq => ?_, fun hq => ?_⟩
  · obtain ⟨a1, a3, a4, a5⟩ := hp hq
    refine ⟨a1, a3, a4, fun hk => ⟨(a5 hk).1, fun e => ?_⟩⟩
    rw [nxt_put hf (by omega) hl, if_neg, (a5 hk).2 e]
    rw [(a4 (by omega)).1, e]
    exact fun e9 => h1 e9.symm
  · obtain ⟨a1, a3, a4, a5, a6⟩ := hu hq
    refine ⟨a1, a3, a4, a5, fun hk e => ?_⟩
    rw [nxt_put hf (by omega) hl, if_neg, a6 hk e]
    obtain ⟨o, ho⟩ := a4
    intro e9
    apply h2
    rw [ho, e9]
    simp
end Go.Proofs.YteiidfklepjpmaaDoor

