/-
  An epoch that goes on, told what it is told.
-/
import Derived.Test.YtgcdmgpcfdfomaaDoorAdv
import Derived.Test.YtgcdmgpcfdfomaaDoorLayH
import Derived.Deep.RegionHeld3
import Derived.Deep.RegionWith
namespace Go.Proofs.YtgcdmgpcfdfomaaDoor
open Go.RowKit
attribute [local go_sem] past_cell past_cell_add

set_option maxRecDepth 100000 in
set_option maxHeartbeats 2000000 in
theorem atook_0 (s t f l p own oc ep th wd ev ju g : Int) (w : World)  :
    Calls Tryd.prog 13 #[.agg #[.int .i64 s, .int .i64 t, .int .i64 f, .int .i64 l, .int .i64 p, .int .i64 own, .int .i64 0, .int .i64 oc, .int .u64 ep, .int .i64 th, .int .u64 wd, .int .u64 ev, .int .i64 ju], .int .u64 g] w fun e w' => e = .returned (.agg #[.int .i64 s, .int .i64 t, .int .i64 f, .int .i64 l, .int .i64 p, .int .i64 own, .int .i64 0, .int .i64 oc, .int .u64 ep, .int .i64 th, .int .u64 wd, .int .u64 ev, .int .i64 ju]) ∧ Below w.heap.size w w' := by
  go_enter Tryd.func13, Tryd.ntmps13
  go_wp2_with fail
  refine bodyPost_ret (v := .agg #[.int .i64 s, .int .i64 t, .int .i64 f, .int .i64 l, .int .i64 p, .int .i64 own, .int .i64 0, .int .i64 oc, .int .u64 ep, .int .i64 th, .int .u64 wd, .int .u64 ev, .int .i64 ju]) (by simp [results, Tryd.results13, go_sem]) rfl ⟨rfl, ?_⟩
  repeat (first | exact Below.refl _ _ | exact B0 | (refine Below.setCell ?_ (by first | (show w.heap.size ≤ w.heap.size; omega) | (show w.heap.size ≤ w.heap.size + 1; omega) | (show w.heap.size ≤ w.heap.size + 2; omega) | (show w.heap.size ≤ _; simp)) _) | (refine Below.alloc ?_ (by first | exact Nat.le_refl _ | (simp <;> omega)) _))
set_option maxRecDepth 100000 in
set_option maxHeartbeats 2000000 in
theorem atook_1 (s t f l p own oc ep th wd ev ju g : Int) (w : World)  :
    Calls Tryd.prog 13 #[.agg #[.int .i64 s, .int .i64 t, .int .i64 f, .int .i64 l, .int .i64 p, .int .i64 own, .int .i64 1, .int .i64 oc, .int .u64 ep, .int .i64 th, .int .u64 wd, .int .u64 ev, .int .i64 ju], .int .u64 g] w fun e w' => e = .returned (.agg #[.int .i64 s, .int .i64 t, .int .i64 f, .int .i64 l, .int .i64 p, .int .i64 own, .int .i64 (aStep t (aThr own 0)), .int .i64 oc, .int .u64 g, .int .i64 (aThr own 0), .int .u64 wd, .int .u64 ev, .int .i64 0]) ∧ Below w.heap.size w w' := by
  have C := hide (fun w2 => anext_any s t f l p own oc g th wd ev 0 1 0 w2 ⟨by omega, by omega⟩)
  generalize aStep t (aThr own 0) = k2 at *
  generalize aThr own 0 = q2 at *
  have bx := Blk.new w 39 #[.int .i64 s, .int .i64 t, .int .i64 f, .int .i64 l, .int .i64 p, .int .i64 own, .int .i64 1, .int .i64 oc, .int .u64 g, .int .i64 th, .int .u64 wd, .int .u64 ev, .int .i64 0]
  have B0 := (Below.refl w.heap.size w).alloc (Nat.le_refl _) (.cells #[.int .i64 s, .int .i64 t, .int .i64 f, .int .i64 l, .int .i64 p, .int .i64 own, .int .i64 1, .int .i64 oc, .int .u64 g, .int .i64 th, .int .u64 wd, .int .u64 ev, .int .i64 0] 39)
  have bo := Blk.new (w.alloc (.cells #[.int .i64 s, .int .i64 t, .int .i64 f, .int .i64 l, .int .i64 p, .int .i64 own, .int .i64 1, .int .i64 oc, .int .u64 g, .int .i64 th, .int .u64 wd, .int .u64 ev, .int .i64 0] 39)) 39 #[.int .i64 0, .int .i64 0, .int .i64 0, .int .i64 0, .int .i64 0, .int .i64 0, .int .i64 0, .int .i64 0, .int .u64 0, .int .i64 0, .int .u64 0, .int .u64 0, .int .i64 0]
  replace B0 := B0.alloc B0.size (.cells #[.int .i64 0, .int .i64 0, .int .i64 0, .int .i64 0, .int .i64 0, .int .i64 0, .int .i64 0, .int .i64 0, .int .u64 0, .int .i64 0, .int .u64 0, .int .u64 0, .int .i64 0] 39)
  replace bx := bx.alloc (.cells #[.int .i64 0, .int .i64 0, .int .i64 0, .int .i64 0, .int .i64 0, .int .i64 0, .int .i64 0, .int .i64 0, .int .u64 0, .int .i64 0, .int .u64 0, .int .u64 0, .int .i64 0] 39)
  rw [World.size_alloc] at bo
  go_enter Tryd.func13, Tryd.ntmps13
  go_wp2_with fail
  refine (C.out _).mono ?_
  rintro e w1 ⟨rfl, hb1⟩
  try replace bx := bx.below hb1 bx.lt
  try replace bo := bo.below hb1 bo.lt
  try replace by_ := by_.below hb1 by_.lt
  replace B0 := B0.trans (hb1.mono B0.size)
  clear hb1
  try clear mx lx
  try clear mo lo zo
  try clear my ly zy
  try have mx := fun i => bx.cell i
  try have lx := bx.lt
  try have mo := fun i => bo.cell i
  try have lo := bo.lt
  try have zo := fun i => bo.frozen i
  try have my := fun i => by_.cell i
  try have ly := by_.lt
  try have zy := fun i => by_.frozen i
  go_wp2_with fail
  have b9 := bo.put13 (.int .i64 s) (.int .i64 t) (.int .i64 f) (.int .i64 l) (.int .i64 p) (.int .i64 own) (.int .i64 k2) (.int .i64 oc) (.int .u64 g) (.int .i64 q2) (.int .u64 wd) (.int .u64 ev) (.int .i64 0)
  have B9 := below_put13 B0 (g := w.heap.size + 1) (by omega) (.int .i64 s) (.int .i64 t) (.int .i64 f) (.int .i64 l) (.int .i64 p) (.int .i64 own) (.int .i64 k2) (.int .i64 oc) (.int .u64 g) (.int .i64 q2) (.int .u64 wd) (.int .u64 ev) (.int .i64 0)
  have m9 := fun i => b9.cell i
  refine bodyPost_ret (v := .agg #[.int .i64 s, .int .i64 t, .int .i64 f, .int .i64 l, .int .i64 p, .int .i64 own, .int .i64 k2, .int .i64 oc, .int .u64 g, .int .i64 q2, .int .u64 wd, .int .u64 ev, .int .i64 0]) (by simp [results, Tryd.results13, go_sem, m9]) rfl ⟨rfl, by first | exact B9 | exact B9.drew⟩
set_option maxRecDepth 100000 in
set_option maxHeartbeats 2000000 in
theorem atook_2b (s t f l p own oc ep th wd ev ju g : Int) (w : World) (hg : W64 g) (he : W64 ep) (hb : ablocks g ep = true) :
    Calls Tryd.prog 13 #[.agg #[.int .i64 s, .int .i64 t, .int .i64 f, .int .i64 l, .int .i64 p, .int .i64 own, .int .i64 2, .int .i64 oc, .int .u64 ep, .int .i64 th, .int .u64 wd, .int .u64 ev, .int .i64 ju], .int .u64 g] w fun e w' => e = .returned (.agg #[.int .i64 s, .int .i64 t, .int .i64 f, .int .i64 l, .int .i64 p, .int .i64 own, .int .i64 3, .int .i64 oc, .int .u64 ep, .int .i64 th, .int .u64 g, .int .u64 ev, .int .i64 0]) ∧ Below w.heap.size w w' := by
  have B := hide (fun w2 => ablocks_any g ep w2 hg he)
  rw [hb] at B
  clear hb
  go_enter Tryd.func13, Tryd.ntmps13
  go_wp2_with fail
  refine (B.out _).mono ?_
  rintro e w' ⟨rfl, rfl⟩
  go_wp2_with fail
  refine bodyPost_ret (v := .agg #[.int .i64 s, .int .i64 t, .int .i64 f, .int .i64 l, .int .i64 p, .int .i64 own, .int .i64 3, .int .i64 oc, .int .u64 ep, .int .i64 th, .int .u64 g, .int .u64 ev, .int .i64 0]) (by simp [results, Tryd.results13, go_sem]) rfl ⟨rfl, ?_⟩
  repeat (first | exact Below.refl _ _ | exact B0 | (refine Below.setCell ?_ (by first | (show w.heap.size ≤ w.heap.size; omega) | (show w.heap.size ≤ w.heap.size + 1; omega) | (show w.heap.size ≤ w.heap.size + 2; omega) | (show w.heap.size ≤ _; simp)) _) | (refine Below.alloc ?_ (by first | exact Nat.le_refl _ | (simp <;> omega)) _))
set_option maxRecDepth 100000 in
set_option maxHeartbeats 2000000 in
theorem atook_2n (s t f l p own oc ep th wd ev ju g : Int) (w : World) (hg : W64 g) (he : W64 ep) (hb : ablocks g ep = false) (ht : 0 ≤ th ∧ th < 64) :
    Calls Tryd.prog 13 #[.agg #[.int .i64 s, .int .i64 t, .int .i64 f, .int .i64 l, .int .i64 p, .int .i64 own, .int .i64 2, .int .i64 oc, .int .u64 ep, .int .i64 th, .int .u64 wd, .int .u64 ev, .int .i64 ju], .int .u64 g] w fun e w' => e = .returned (.agg #[.int .i64 s, .int .i64 t, .int .i64 f, .int .i64 l, .int .i64 p, .int .i64 own, .int .i64 (aStep t (aThr own (th + 1))), .int .i64 oc, .int .u64 ep, .int .i64 (aThr own (th + 1)), .int .u64 g, .int .u64 ev, .int .i64 0]) ∧ Below w.heap.size w w' := by
  have B := hide (fun w2 => ablocks_any g ep w2 hg he)
  rw [hb] at B
  clear hb
  have C := hide (fun w2 => anext_any s t f l p own oc ep th g ev 0 2 (th + 1) w2 ⟨by omega, by omega⟩)
  have h1 := ht.1
  have h2 := ht.2
  clear ht
  generalize aStep t (aThr own (th + 1)) = k2 at *
  generalize aThr own (th + 1) = q2 at *
  have bx := Blk.new w 39 #[.int .i64 s, .int .i64 t, .int .i64 f, .int .i64 l, .int .i64 p, .int .i64 own, .int .i64 2, .int .i64 oc, .int .u64 ep, .int .i64 th, .int .u64 g, .int .u64 ev, .int .i64 0]
  have B0 := (Below.refl w.heap.size w).alloc (Nat.le_refl _) (.cells #[.int .i64 s, .int .i64 t, .int .i64 f, .int .i64 l, .int .i64 p, .int .i64 own, .int .i64 2, .int .i64 oc, .int .u64 ep, .int .i64 th, .int .u64 g, .int .u64 ev, .int .i64 0] 39)
  have bo := Blk.new (w.alloc (.cells #[.int .i64 s, .int .i64 t, .int .i64 f, .int .i64 l, .int .i64 p, .int .i64 own, .int .i64 2, .int .i64 oc, .int .u64 ep, .int .i64 th, .int .u64 g, .int .u64 ev, .int .i64 0] 39)) 39 #[.int .i64 0, .int .i64 0, .int .i64 0, .int .i64 0, .int .i64 0, .int .i64 0, .int .i64 0, .int .i64 0, .int .u64 0, .int .i64 0, .int .u64 0, .int .u64 0, .int .i64 0]
  replace B0 := B0.alloc B0.size (.cells #[.int .i64 0, .int .i64 0, .int .i64 0, .int .i64 0, .int .i64 0, .int .i64 0, .int .i64 0, .int .i64 0, .int .u64 0, .int .i64 0, .int .u64 0, .int .u64 0, .int .i64 0] 39)
  replace bx := bx.alloc (.cells #[.int .i64 0, .int .i64 0, .int .i64 0, .int .i64 0, .int .i64 0, .int .i64 0, .int .i64 0, .int .i64 0, .int .u64 0, .int .i64 0, .int .u64 0, .int .u64 0, .int .i64 0] 39)
  rw [World.size_alloc] at bo
  go_enter Tryd.func13, Tryd.ntmps13
  go_wp2_with fail
  refine (B.out _).mono ?_
  rintro e w' ⟨rfl, rfl⟩
  go_wp2_with fail
  refine (C.out _).mono ?_
  rintro e w2 ⟨rfl, hb1⟩
  try replace bx := bx.below hb1 bx.lt
  try replace bo := bo.below hb1 bo.lt
  try replace by_ := by_.below hb1 by_.lt
  replace B0 := B0.trans (hb1.mono B0.size)
  clear hb1
  try clear mx lx
  try clear mo lo zo
  try clear my ly zy
  try have mx := fun i => bx.cell i
  try have lx := bx.lt
  try have mo := fun i => bo.cell i
  try have lo := bo.lt
  try have zo := fun i => bo.frozen i
  try have my := fun i => by_.cell i
  try have ly := by_.lt
  try have zy := fun i => by_.frozen i
  go_wp2_with fail
  have b9 := bo.put13 (.int .i64 s) (.int .i64 t) (.int .i64 f) (.int .i64 l) (.int .i64 p) (.int .i64 own) (.int .i64 k2) (.int .i64 oc) (.int .u64 ep) (.int .i64 q2) (.int .u64 g) (.int .u64 ev) (.int .i64 0)
  have B9 := below_put13 B0 (g := w.heap.size + 1) (by omega) (.int .i64 s) (.int .i64 t) (.int .i64 f) (.int .i64 l) (.int .i64 p) (.int .i64 own) (.int .i64 k2) (.int .i64 oc) (.int .u64 ep) (.int .i64 q2) (.int .u64 g) (.int .u64 ev) (.int .i64 0)
  have m9 := fun i => b9.cell i
  refine bodyPost_ret (v := .agg #[.int .i64 s, .int .i64 t, .int .i64 f, .int .i64 l, .int .i64 p, .int .i64 own, .int .i64 k2, .int .i64 oc, .int .u64 ep, .int .i64 q2, .int .u64 g, .int .u64 ev, .int .i64 0]) (by simp [results, Tryd.results13, go_sem, m9]) rfl ⟨rfl, by first | exact B9 | exact B9.drew⟩
set_option maxRecDepth 100000 in
set_option maxHeartbeats 2000000 in
theorem atook_3y (s t f l p own oc ep th wd ev ju g : Int) (w : World) (hw : W64 wd) (hp : I64 p) (hb : astall wd g p = true) :
    Calls Tryd.prog 13 #[.agg #[.int .i64 s, .int .i64 t, .int .i64 f, .int .i64 l, .int .i64 p, .int .i64 own, .int .i64 3, .int .i64 oc, .int .u64 ep, .int .i64 th, .int .u64 wd, .int .u64 ev, .int .i64 ju], .int .u64 g] w fun e w' => e = .returned (.agg #[.int .i64 s, .int .i64 t, .int .i64 f, .int .i64 l, .int .i64 p, .int .i64 own, .int .i64 4, .int .i64 oc, .int .u64 ep, .int .i64 th, .int .u64 wd, .int .u64 ev, .int .i64 0]) ∧ Below w.heap.size w w' := by
  have K := hide (fun w2 => lconfig_any s t f l p w2)
  have M := hide (fun w2 => astall_any wd g p w2 hw hp)
  rw [hb] at M
  clear hb
  have hf4 : ∀ w : World, (Instr.field 23 (.agg #[.int .i64 s, .int .i64 t, .int .i64 f, .int .i64 l, .int .i64 p]) 4).run Tryd.prog w = .ok (.int .i64 p) w := fun _ => by kernel_rfl
  have bx := Blk.new w 39 #[.int .i64 s, .int .i64 t, .int .i64 f, .int .i64 l, .int .i64 p, .int .i64 own, .int .i64 3, .int .i64 oc, .int .u64 ep, .int .i64 th, .int .u64 wd, .int .u64 ev, .int .i64 0]
  have B0 := (Below.refl w.heap.size w).alloc (Nat.le_refl _) (.cells #[.int .i64 s, .int .i64 t, .int .i64 f, .int .i64 l, .int .i64 p, .int .i64 own, .int .i64 3, .int .i64 oc, .int .u64 ep, .int .i64 th, .int .u64 wd, .int .u64 ev, .int .i64 0] 39)
  have bo := Blk.new (w.alloc (.cells #[.int .i64 s, .int .i64 t, .int .i64 f, .int .i64 l, .int .i64 p, .int .i64 own, .int .i64 3, .int .i64 oc, .int .u64 ep, .int .i64 th, .int .u64 wd, .int .u64 ev, .int .i64 0] 39)) 39 #[.int .i64 0, .int .i64 0, .int .i64 0, .int .i64 0, .int .i64 0, .int .i64 0, .int .i64 0, .int .i64 0, .int .u64 0, .int .i64 0, .int .u64 0, .int .u64 0, .int .i64 0]
  replace B0 := B0.alloc B0.size (.cells #[.int .i64 0, .int .i64 0, .int .i64 0, .int .i64 0, .int .i64 0, .int .i64 0, .int .i64 0, .int .i64 0, .int .u64 0, .int .i64 0, .int .u64 0, .int .u64 0, .int .i64 0] 39)
  replace bx := bx.alloc (.cells #[.int .i64 0, .int .i64 0, .int .i64 0, .int .i64 0, .int .i64 0, .int .i64 0, .int .i64 0, .int .i64 0, .int .u64 0, .int .i64 0, .int .u64 0, .int .u64 0, .int .i64 0] 39)
  rw [World.size_alloc] at bo
  go_enter Tryd.func13, Tryd.ntmps13
  go_wp2_with fail
  generalize (w.alloc (.cells #[.int .i64 s, .int .i64 t, .int .i64 f, .int .i64 l, .int .i64 p, .int .i64 own, .int .i64 3, .int .i64 oc, .int .u64 ep, .int .i64 th, .int .u64 wd, .int .u64 ev, .int .i64 0] 39)).alloc (.cells #[.int .i64 0, .int .i64 0, .int .i64 0, .int .i64 0, .int .i64 0, .int .i64 0, .int .i64 0, .int .i64 0, .int .u64 0, .int .i64 0, .int .u64 0, .int .u64 0, .int .i64 0] 39) = w0 at *
  try clear mx lx
  try clear mo lo zo
  try clear my ly zy
  try have mx := fun i => bx.cell i
  try have lx := bx.lt
  try have mo := fun i => bo.cell i
  try have lo := bo.lt
  try have zo := fun i => bo.frozen i
  try have my := fun i => by_.cell i
  try have ly := by_.lt
  try have zy := fun i => by_.frozen i
  refine wp_region_past (by kernel_rfl) (by kernel_rfl) ?_
  repeat (quiet_step ((first | (first | (go_at_call 33; exact calls_past (K.out _)) | (go_at_call 32; exact calls_past_same (M.out _))))))
  refine wpQuiet_nil ?_
  intro _ hw'
  obtain ⟨y, hw''⟩ := hw'
  subst hw''
  have hy := past_below w0 y
  have zx := fun i => bx.frozen i
  clear zx
  replace bx := bx.below hy bx.lt
  replace bo := bo.below hy bo.lt
  replace B0 := B0.trans (hy.mono B0.size)
  clear hy
  generalize past w0 y = w1 at *
  have zx := fun i => bx.frozen i
  try clear mx lx
  try clear mo lo zo
  try clear my ly zy
  try have mx := fun i => bx.cell i
  try have lx := bx.lt
  try have mo := fun i => bo.cell i
  try have lo := bo.lt
  try have zo := fun i => bo.frozen i
  try have my := fun i => by_.cell i
  try have ly := by_.lt
  try have zy := fun i => by_.frozen i
  go_wp2_with fail
  have o9 := (bo.far (p := ⟨w.heap.size, 6, none⟩) (by show w.heap.size + 1 ≠ w.heap.size; omega) (.int .i64 4))
  have C9 := (B0.setCell (p := ⟨w.heap.size, 6, none⟩) (Nat.le_refl _) (.int .i64 4))
  have b9 := o9.put13 (.int .i64 s) (.int .i64 t) (.int .i64 f) (.int .i64 l) (.int .i64 p) (.int .i64 own) (.int .i64 4) (.int .i64 oc) (.int .u64 ep) (.int .i64 th) (.int .u64 wd) (.int .u64 ev) (.int .i64 0)
  have B9 := below_put13 C9 (g := w.heap.size + 1) (by omega) (.int .i64 s) (.int .i64 t) (.int .i64 f) (.int .i64 l) (.int .i64 p) (.int .i64 own) (.int .i64 4) (.int .i64 oc) (.int .u64 ep) (.int .i64 th) (.int .u64 wd) (.int .u64 ev) (.int .i64 0)
  have m9 := fun i => b9.cell i
  refine bodyPost_ret (v := .agg #[.int .i64 s, .int .i64 t, .int .i64 f, .int .i64 l, .int .i64 p, .int .i64 own, .int .i64 4, .int .i64 oc, .int .u64 ep, .int .i64 th, .int .u64 wd, .int .u64 ev, .int .i64 0]) (by simp [results, Tryd.results13, go_sem, m9]) rfl ⟨rfl, by first | exact B9 | exact B9.drew⟩
set_option maxRecDepth 100000 in
set_option maxHeartbeats 2000000 in
theorem atook_3n (s t f l p own oc ep th wd ev ju g : Int) (w : World) (hw : W64 wd) (hp : I64 p) (hb : astall wd g p = false) :
    Calls Tryd.prog 13 #[.agg #[.int .i64 s, .int .i64 t, .int .i64 f, .int .i64 l, .int .i64 p, .int .i64 own, .int .i64 3, .int .i64 oc, .int .u64 ep, .int .i64 th, .int .u64 wd, .int .u64 ev, .int .i64 ju], .int .u64 g] w fun e w' => e = .returned (.agg #[.int .i64 s, .int .i64 t, .int .i64 f, .int .i64 l, .int .i64 p, .int .i64 own, .int .i64 0, .int .i64 1, .int .u64 ep, .int .i64 th, .int .u64 wd, .int .u64 ev, .int .i64 0]) ∧ Below w.heap.size w w' := by
  have K := hide (fun w2 => lconfig_any s t f l p w2)
  have M := hide (fun w2 => astall_any wd g p w2 hw hp)
  rw [hb] at M
  clear hb
  have hf4 : ∀ w : World, (Instr.field 23 (.agg #[.int .i64 s, .int .i64 t, .int .i64 f, .int .i64 l, .int .i64 p]) 4).run Tryd.prog w = .ok (.int .i64 p) w := fun _ => by kernel_rfl
  have O := hide (fun w2 => aover_any s t f l p own oc ep th wd ev 0 3 1 w2)
  have bx := Blk.new w 39 #[.int .i64 s, .int .i64 t, .int .i64 f, .int .i64 l, .int .i64 p, .int .i64 own, .int .i64 3, .int .i64 oc, .int .u64 ep, .int .i64 th, .int .u64 wd, .int .u64 ev, .int .i64 0]
  have B0 := (Below.refl w.heap.size w).alloc (Nat.le_refl _) (.cells #[.int .i64 s, .int .i64 t, .int .i64 f, .int .i64 l, .int .i64 p, .int .i64 own, .int .i64 3, .int .i64 oc, .int .u64 ep, .int .i64 th, .int .u64 wd, .int .u64 ev, .int .i64 0] 39)
  have bo := Blk.new (w.alloc (.cells #[.int .i64 s, .int .i64 t, .int .i64 f, .int .i64 l, .int .i64 p, .int .i64 own, .int .i64 3, .int .i64 oc, .int .u64 ep, .int .i64 th, .int .u64 wd, .int .u64 ev, .int .i64 0] 39)) 39 #[.int .i64 0, .int .i64 0, .int .i64 0, .int .i64 0, .int .i64 0, .int .i64 0, .int .i64 0, .int .i64 0, .int .u64 0, .int .i64 0, .int .u64 0, .int .u64 0, .int .i64 0]
  replace B0 := B0.alloc B0.size (.cells #[.int .i64 0, .int .i64 0, .int .i64 0, .int .i64 0, .int .i64 0, .int .i64 0, .int .i64 0, .int .i64 0, .int .u64 0, .int .i64 0, .int .u64 0, .int .u64 0, .int .i64 0] 39)
  replace bx := bx.alloc (.cells #[.int .i64 0, .int .i64 0, .int .i64 0, .int .i64 0, .int .i64 0, .int .i64 0, .int .i64 0, .int .i64 0, .int .u64 0, .int .i64 0, .int .u64 0, .int .u64 0, .int .i64 0] 39)
  rw [World.size_alloc] at bo
  go_enter Tryd.func13, Tryd.ntmps13
  go_wp2_with fail
  generalize (w.alloc (.cells #[.int .i64 s, .int .i64 t, .int .i64 f, .int .i64 l, .int .i64 p, .int .i64 own, .int .i64 3, .int .i64 oc, .int .u64 ep, .int .i64 th, .int .u64 wd, .int .u64 ev, .int .i64 0] 39)).alloc (.cells #[.int .i64 0, .int .i64 0, .int .i64 0, .int .i64 0, .int .i64 0, .int .i64 0, .int .i64 0, .int .i64 0, .int .u64 0, .int .i64 0, .int .u64 0, .int .u64 0, .int .i64 0] 39) = w0 at *
  try clear mx lx
  try clear mo lo zo
  try clear my ly zy
  try have mx := fun i => bx.cell i
  try have lx := bx.lt
  try have mo := fun i => bo.cell i
  try have lo := bo.lt
  try have zo := fun i => bo.frozen i
  try have my := fun i => by_.cell i
  try have ly := by_.lt
  try have zy := fun i => by_.frozen i
  refine wp_region_past (by kernel_rfl) (by kernel_rfl) ?_
  repeat (quiet_step ((first | (first | (go_at_call 33; exact calls_past (K.out _)) | (go_at_call 32; exact calls_past_same (M.out _))))))
  refine wpQuiet_nil ?_
  intro _ hw'
  obtain ⟨y, hw''⟩ := hw'
  subst hw''
  have hy := past_below w0 y
  have zx := fun i => bx.frozen i
  clear zx
  replace bx := bx.below hy bx.lt
  replace bo := bo.below hy bo.lt
  replace B0 := B0.trans (hy.mono B0.size)
  clear hy
  generalize past w0 y = w1 at *
  have zx := fun i => bx.frozen i
  try clear mx lx
  try clear mo lo zo
  try clear my ly zy
  try have mx := fun i => bx.cell i
  try have lx := bx.lt
  try have mo := fun i => bo.cell i
  try have lo := bo.lt
  try have zo := fun i => bo.frozen i
  try have my := fun i => by_.cell i
  try have ly := by_.lt
  try have zy := fun i => by_.frozen i
  go_wp2_with fail
  clear zx
  refine (O.out _).mono ?_
  rintro e w2 ⟨rfl, hb1⟩
  try replace bx := bx.below hb1 bx.lt
  try replace bo := bo.below hb1 bo.lt
  try replace by_ := by_.below hb1 by_.lt
  replace B0 := B0.trans (hb1.mono B0.size)
  clear hb1
  try clear mx lx
  try clear mo lo zo
  try clear my ly zy
  try have mx := fun i => bx.cell i
  try have lx := bx.lt
  try have mo := fun i => bo.cell i
  try have lo := bo.lt
  try have zo := fun i => bo.frozen i
  try have my := fun i => by_.cell i
  try have ly := by_.lt
  try have zy := fun i => by_.frozen i
  go_wp2_with fail
  have b9 := bo.put13 (.int .i64 s) (.int .i64 t) (.int .i64 f) (.int .i64 l) (.int .i64 p) (.int .i64 own) (.int .i64 0) (.int .i64 1) (.int .u64 ep) (.int .i64 th) (.int .u64 wd) (.int .u64 ev) (.int .i64 0)
  have B9 := below_put13 B0 (g := w.heap.size + 1) (by omega) (.int .i64 s) (.int .i64 t) (.int .i64 f) (.int .i64 l) (.int .i64 p) (.int .i64 own) (.int .i64 0) (.int .i64 1) (.int .u64 ep) (.int .i64 th) (.int .u64 wd) (.int .u64 ev) (.int .i64 0)
  have m9 := fun i => b9.cell i
  refine bodyPost_ret (v := .agg #[.int .i64 s, .int .i64 t, .int .i64 f, .int .i64 l, .int .i64 p, .int .i64 own, .int .i64 0, .int .i64 1, .int .u64 ep, .int .i64 th, .int .u64 wd, .int .u64 ev, .int .i64 0]) (by simp [results, Tryd.results13, go_sem, m9]) rfl ⟨rfl, by first | exact B9 | exact B9.drew⟩
set_option maxRecDepth 100000 in
set_option maxHeartbeats 2000000 in
theorem atook_4y (s t f l p own oc ep th wd ev ju pw ev2 : Int) (w : World) (ht : 0 ≤ th ∧ th < 64) (hP : IntKind.u64.wrap (2 ^ th.toNat) = pw) (hO : bits .or .u64 ev pw = ev2) :
    Calls Tryd.prog 13 #[.agg #[.int .i64 s, .int .i64 t, .int .i64 f, .int .i64 l, .int .i64 p, .int .i64 own, .int .i64 4, .int .i64 oc, .int .u64 ep, .int .i64 th, .int .u64 wd, .int .u64 ev, .int .i64 ju], .int .u64 1] w fun e w' => e = .returned (.agg #[.int .i64 s, .int .i64 t, .int .i64 f, .int .i64 l, .int .i64 p, .int .i64 own, .int .i64 (aStep t (aThr own (th + 1))), .int .i64 oc, .int .u64 ep, .int .i64 (aThr own (th + 1)), .int .u64 wd, .int .u64 ev2, .int .i64 (th + 1)]) ∧ Below w.heap.size w w' := by
  have C := hide (fun w2 => anext_any s t f l p own oc ep th wd ev2 (th + 1) 4 (th + 1) w2 ⟨by omega, by omega⟩)
  have h1 := ht.1
  have h2 := ht.2
  clear ht
  generalize aStep t (aThr own (th + 1)) = k2 at *
  generalize aThr own (th + 1) = q2 at *
  have bx := Blk.new w 39 #[.int .i64 s, .int .i64 t, .int .i64 f, .int .i64 l, .int .i64 p, .int .i64 own, .int .i64 4, .int .i64 oc, .int .u64 ep, .int .i64 th, .int .u64 wd, .int .u64 ev2, .int .i64 (th + 1)]
  have B0 := (Below.refl w.heap.size w).alloc (Nat.le_refl _) (.cells #[.int .i64 s, .int .i64 t, .int .i64 f, .int .i64 l, .int .i64 p, .int .i64 own, .int .i64 4, .int .i64 oc, .int .u64 ep, .int .i64 th, .int .u64 wd, .int .u64 ev2, .int .i64 (th + 1)] 39)
  have bo := Blk.new (w.alloc (.cells #[.int .i64 s, .int .i64 t, .int .i64 f, .int .i64 l, .int .i64 p, .int .i64 own, .int .i64 4, .int .i64 oc, .int .u64 ep, .int .i64 th, .int .u64 wd, .int .u64 ev2, .int .i64 (th + 1)] 39)) 39 #[.int .i64 0, .int .i64 0, .int .i64 0, .int .i64 0, .int .i64 0, .int .i64 0, .int .i64 0, .int .i64 0, .int .u64 0, .int .i64 0, .int .u64 0, .int .u64 0, .int .i64 0]
  replace B0 := B0.alloc B0.size (.cells #[.int .i64 0, .int .i64 0, .int .i64 0, .int .i64 0, .int .i64 0, .int .i64 0, .int .i64 0, .int .i64 0, .int .u64 0, .int .i64 0, .int .u64 0, .int .u64 0, .int .i64 0] 39)
  replace bx := bx.alloc (.cells #[.int .i64 0, .int .i64 0, .int .i64 0, .int .i64 0, .int .i64 0, .int .i64 0, .int .i64 0, .int .i64 0, .int .u64 0, .int .i64 0, .int .u64 0, .int .u64 0, .int .i64 0] 39)
  rw [World.size_alloc] at bo
  go_enter Tryd.func13, Tryd.ntmps13
  go_wp2_with fail
  refine (C.out _).mono ?_
  rintro e w1 ⟨rfl, hb1⟩
  try replace bx := bx.below hb1 bx.lt
  try replace bo := bo.below hb1 bo.lt
  try replace by_ := by_.below hb1 by_.lt
  replace B0 := B0.trans (hb1.mono B0.size)
  clear hb1
  try clear mx lx
  try clear mo lo zo
  try clear my ly zy
  try have mx := fun i => bx.cell i
  try have lx := bx.lt
  try have mo := fun i => bo.cell i
  try have lo := bo.lt
  try have zo := fun i => bo.frozen i
  try have my := fun i => by_.cell i
  try have ly := by_.lt
  try have zy := fun i => by_.frozen i
  go_wp2_with fail
  have b9 := bo.put13 (.int .i64 s) (.int .i64 t) (.int .i64 f) (.int .i64 l) (.int .i64 p) (.int .i64 own) (.int .i64 k2) (.int .i64 oc) (.int .u64 ep) (.int .i64 q2) (.int .u64 wd) (.int .u64 ev2) (.int .i64 (th + 1))
  have B9 := below_put13 B0 (g := w.heap.size + 1) (by omega) (.int .i64 s) (.int .i64 t) (.int .i64 f) (.int .i64 l) (.int .i64 p) (.int .i64 own) (.int .i64 k2) (.int .i64 oc) (.int .u64 ep) (.int .i64 q2) (.int .u64 wd) (.int .u64 ev2) (.int .i64 (th + 1))
  have m9 := fun i => b9.cell i
  refine bodyPost_ret (v := .agg #[.int .i64 s, .int .i64 t, .int .i64 f, .int .i64 l, .int .i64 p, .int .i64 own, .int .i64 k2, .int .i64 oc, .int .u64 ep, .int .i64 q2, .int .u64 wd, .int .u64 ev2, .int .i64 (th + 1)]) (by simp [results, Tryd.results13, go_sem, m9]) rfl ⟨rfl, by first | exact B9 | exact B9.drew⟩
set_option maxRecDepth 100000 in
set_option maxHeartbeats 2000000 in
theorem atook_4n (s t f l p own oc ep th wd ev ju g : Int) (w : World) (hg : (g == 1) = false) :
    Calls Tryd.prog 13 #[.agg #[.int .i64 s, .int .i64 t, .int .i64 f, .int .i64 l, .int .i64 p, .int .i64 own, .int .i64 4, .int .i64 oc, .int .u64 ep, .int .i64 th, .int .u64 wd, .int .u64 ev, .int .i64 ju], .int .u64 g] w fun e w' => e = .returned (.agg #[.int .i64 s, .int .i64 t, .int .i64 f, .int .i64 l, .int .i64 p, .int .i64 own, .int .i64 2, .int .i64 oc, .int .u64 ep, .int .i64 th, .int .u64 wd, .int .u64 ev, .int .i64 0]) ∧ Below w.heap.size w w' := by
  go_enter Tryd.func13, Tryd.ntmps13
  go_wp2_with fail
  refine bodyPost_ret (v := .agg #[.int .i64 s, .int .i64 t, .int .i64 f, .int .i64 l, .int .i64 p, .int .i64 own, .int .i64 2, .int .i64 oc, .int .u64 ep, .int .i64 th, .int .u64 wd, .int .u64 ev, .int .i64 0]) (by simp [results, Tryd.results13, go_sem]) rfl ⟨rfl, ?_⟩
  repeat (first | exact Below.refl _ _ | exact B0 | (refine Below.setCell ?_ (by first | (show w.heap.size ≤ w.heap.size; omega) | (show w.heap.size ≤ w.heap.size + 1; omega) | (show w.heap.size ≤ w.heap.size + 2; omega) | (show w.heap.size ≤ _; simp)) _) | (refine Below.alloc ?_ (by first | exact Nat.le_refl _ | (simp <;> omega)) _))
set_option maxRecDepth 100000 in
set_option maxHeartbeats 2000000 in
theorem atook_5y (s t f l p own oc ep th wd ev ju : Int) (w : World)  :
    Calls Tryd.prog 13 #[.agg #[.int .i64 s, .int .i64 t, .int .i64 f, .int .i64 l, .int .i64 p, .int .i64 own, .int .i64 5, .int .i64 oc, .int .u64 ep, .int .i64 th, .int .u64 wd, .int .u64 ev, .int .i64 ju], .int .u64 1] w fun e w' => e = .returned (.agg #[.int .i64 s, .int .i64 t, .int .i64 f, .int .i64 l, .int .i64 p, .int .i64 own, .int .i64 0, .int .i64 3, .int .u64 ep, .int .i64 th, .int .u64 wd, .int .u64 ev, .int .i64 0]) ∧ Below w.heap.size w w' := by
  have C := hide (fun w2 => aover_any s t f l p own oc ep th wd ev 0 5 3 w2)
  have bx := Blk.new w 39 #[.int .i64 s, .int .i64 t, .int .i64 f, .int .i64 l, .int .i64 p, .int .i64 own, .int .i64 5, .int .i64 oc, .int .u64 ep, .int .i64 th, .int .u64 wd, .int .u64 ev, .int .i64 0]
  have B0 := (Below.refl w.heap.size w).alloc (Nat.le_refl _) (.cells #[.int .i64 s, .int .i64 t, .int .i64 f, .int .i64 l, .int .i64 p, .int .i64 own, .int .i64 5, .int .i64 oc, .int .u64 ep, .int .i64 th, .int .u64 wd, .int .u64 ev, .int .i64 0] 39)
  have bo := Blk.new (w.alloc (.cells #[.int .i64 s, .int .i64 t, .int .i64 f, .int .i64 l, .int .i64 p, .int .i64 own, .int .i64 5, .int .i64 oc, .int .u64 ep, .int .i64 th, .int .u64 wd, .int .u64 ev, .int .i64 0] 39)) 39 #[.int .i64 0, .int .i64 0, .int .i64 0, .int .i64 0, .int .i64 0, .int .i64 0, .int .i64 0, .int .i64 0, .int .u64 0, .int .i64 0, .int .u64 0, .int .u64 0, .int .i64 0]
  replace B0 := B0.alloc B0.size (.cells #[.int .i64 0, .int .i64 0, .int .i64 0, .int .i64 0, .int .i64 0, .int .i64 0, .int .i64 0, .int .i64 0, .int .u64 0, .int .i64 0, .int .u64 0, .int .u64 0, .int .i64 0] 39)
  replace bx := bx.alloc (.cells #[.int .i64 0, .int .i64 0, .int .i64 0, .int .i64 0, .int .i64 0, .int .i64 0, .int .i64 0, .int .i64 0, .int .u64 0, .int .i64 0, .int .u64 0, .int .u64 0, .int .i64 0] 39)
  rw [World.size_alloc] at bo
  go_enter Tryd.func13, Tryd.ntmps13
  go_wp2_with fail
  refine (C.out _).mono ?_
  rintro e w1 ⟨rfl, hb1⟩
  try replace bx := bx.below hb1 bx.lt
  try replace bo := bo.below hb1 bo.lt
  try replace by_ := by_.below hb1 by_.lt
  replace B0 := B0.trans (hb1.mono B0.size)
  clear hb1
  try clear mx lx
  try clear mo lo zo
  try clear my ly zy
  try have mx := fun i => bx.cell i
  try have lx := bx.lt
  try have mo := fun i => bo.cell i
  try have lo := bo.lt
  try have zo := fun i => bo.frozen i
  try have my := fun i => by_.cell i
  try have ly := by_.lt
  try have zy := fun i => by_.frozen i
  go_wp2_with fail
  have b9 := bo.put13 (.int .i64 s) (.int .i64 t) (.int .i64 f) (.int .i64 l) (.int .i64 p) (.int .i64 own) (.int .i64 0) (.int .i64 3) (.int .u64 ep) (.int .i64 th) (.int .u64 wd) (.int .u64 ev) (.int .i64 0)
  have B9 := below_put13 B0 (g := w.heap.size + 1) (by omega) (.int .i64 s) (.int .i64 t) (.int .i64 f) (.int .i64 l) (.int .i64 p) (.int .i64 own) (.int .i64 0) (.int .i64 3) (.int .u64 ep) (.int .i64 th) (.int .u64 wd) (.int .u64 ev) (.int .i64 0)
  have m9 := fun i => b9.cell i
  refine bodyPost_ret (v := .agg #[.int .i64 s, .int .i64 t, .int .i64 f, .int .i64 l, .int .i64 p, .int .i64 own, .int .i64 0, .int .i64 3, .int .u64 ep, .int .i64 th, .int .u64 wd, .int .u64 ev, .int .i64 0]) (by simp [results, Tryd.results13, go_sem, m9]) rfl ⟨rfl, by first | exact B9 | exact B9.drew⟩
set_option maxRecDepth 100000 in
set_option maxHeartbeats 2000000 in
theorem atook_5n (s t f l p own oc ep th wd ev ju g : Int) (w : World) (hg : (g == 1) = false) :
    Calls Tryd.prog 13 #[.agg #[.int .i64 s, .int .i64 t, .int .i64 f, .int .i64 l, .int .i64 p, .int .i64 own, .int .i64 5, .int .i64 oc, .int .u64 ep, .int .i64 th, .int .u64 wd, .int .u64 ev, .int .i64 ju], .int .u64 g] w fun e w' => e = .returned (.agg #[.int .i64 s, .int .i64 t, .int .i64 f, .int .i64 l, .int .i64 p, .int .i64 own, .int .i64 0, .int .i64 2, .int .u64 ep, .int .i64 th, .int .u64 wd, .int .u64 ev, .int .i64 0]) ∧ Below w.heap.size w w' := by
  have C := hide (fun w2 => aover_any s t f l p own oc ep th wd ev 0 5 2 w2)
  have bx := Blk.new w 39 #[.int .i64 s, .int .i64 t, .int .i64 f, .int .i64 l, .int .i64 p, .int .i64 own, .int .i64 5, .int .i64 oc, .int .u64 ep, .int .i64 th, .int .u64 wd, .int .u64 ev, .int .i64 0]
  have B0 := (Below.refl w.heap.size w).alloc (Nat.le_refl _) (.cells #[.int .i64 s, .int .i64 t, .int .i64 f, .int .i64 l, .int .i64 p, .int .i64 own, .int .i64 5, .int .i64 oc, .int .u64 ep, .int .i64 th, .int .u64 wd, .int .u64 ev, .int .i64 0] 39)
  have bo := Blk.new (w.alloc (.cells #[.int .i64 s, .int .i64 t, .int .i64 f, .int .i64 l, .int .i64 p, .int .i64 own, .int .i64 5, .int .i64 oc, .int .u64 ep, .int .i64 th, .int .u64 wd, .int .u64 ev, .int .i64 0] 39)) 39 #[.int .i64 0, .int .i64 0, .int .i64 0, .int .i64 0, .int .i64 0, .int .i64 0, .int .i64 0, .int .i64 0, .int .u64 0, .int .i64 0, .int .u64 0, .int .u64 0, .int .i64 0]
  replace B0 := B0.alloc B0.size (.cells #[.int .i64 0, .int .i64 0, .int .i64 0, .int .i64 0, .int .i64 0, .int .i64 0, .int .i64 0, .int .i64 0, .int .u64 0, .int .i64 0, .int .u64 0, .int .u64 0, .int .i64 0] 39)
  replace bx := bx.alloc (.cells #[.int .i64 0, .int .i64 0, .int .i64 0, .int .i64 0, .int .i64 0, .int .i64 0, .int .i64 0, .int .i64 0, .int .u64 0, .int .i64 0, .int .u64 0, .int .u64 0, .int .i64 0] 39)
  rw [World.size_alloc] at bo
  go_enter Tryd.func13, Tryd.ntmps13
  go_wp2_with fail
  refine (C.out _).mono ?_
  rintro e w1 ⟨rfl, hb1⟩
  try replace bx := bx.below hb1 bx.lt
  try replace bo := bo.below hb1 bo.lt
  try replace by_ := by_.below hb1 by_.lt
  replace B0 := B0.trans (hb1.mono B0.size)
  clear hb1
  try clear mx lx
  try clear mo lo zo
  try clear my ly zy
  try have mx := fun i => bx.cell i
  try have lx := bx.lt
  try have mo := fun i => bo.cell i
  try have lo := bo.lt
  try have zo := fun i => bo.frozen i
  try have my := fun i => by_.cell i
  try have ly := by_.lt
  try have zy := fun i => by_.frozen i
  go_wp2_with fail
  have b9 := bo.put13 (.int .i64 s) (.int .i64 t) (.int .i64 f) (.int .i64 l) (.int .i64 p) (.int .i64 own) (.int .i64 0) (.int .i64 2) (.int .u64 ep) (.int .i64 th) (.int .u64 wd) (.int .u64 ev) (.int .i64 0)
  have B9 := below_put13 B0 (g := w.heap.size + 1) (by omega) (.int .i64 s) (.int .i64 t) (.int .i64 f) (.int .i64 l) (.int .i64 p) (.int .i64 own) (.int .i64 0) (.int .i64 2) (.int .u64 ep) (.int .i64 th) (.int .u64 wd) (.int .u64 ev) (.int .i64 0)
  have m9 := fun i => b9.cell i
  refine bodyPost_ret (v := .agg #[.int .i64 s, .int .i64 t, .int .i64 f, .int .i64 l, .int .i64 p, .int .i64 own, .int .i64 0, .int .i64 2, .int .u64 ep, .int .i64 th, .int .u64 wd, .int .u64 ev, .int .i64 0]) (by simp [results, Tryd.results13, go_sem, m9]) rfl ⟨rfl, by first | exact B9 | exact B9.drew⟩
end Go.Proofs.YtgcdmgpcfdfomaaDoor
