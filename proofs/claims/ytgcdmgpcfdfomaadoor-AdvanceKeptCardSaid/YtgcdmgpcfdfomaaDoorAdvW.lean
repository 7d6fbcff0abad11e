/-
  An epoch that goes on: what it wants; one that begins.
-/
import Derived.Test.YtgcdmgpcfdfomaaDoorAdv
import Derived.Test.YtgcdmgpcfdfomaaDoorLayH
import Derived.Deep.RegionHeld3
import Derived.Deep.RegionWith
namespace Go.Proofs.YtgcdmgpcfdfomaaDoor
open Go.RowKit
attribute [local go_sem] past_cell past_cell_add

set_option maxRecDepth 100000 in
set_option maxHeartbeats 2000000 in
theorem awant_0 (s t f l p own oc ep th wd ev ju : Int) (w : World)  :
    Calls Tryd.prog 14 #[.agg #[.int .i64 s, .int .i64 t, .int .i64 f, .int .i64 l, .int .i64 p, .int .i64 own, .int .i64 0, .int .i64 oc, .int .u64 ep, .int .i64 th, .int .u64 wd, .int .u64 ev, .int .i64 ju]] w fun e w' => e = .returned (.agg #[.int .i64 0, .int .i64 0, .int .u64 0, .int .u64 0]) ∧ Below w.heap.size w w' := by
  go_enter Tryd.func14, Tryd.ntmps14
  go_wp2_with fail
  refine bodyPost_ret (v := .agg #[.int .i64 0, .int .i64 0, .int .u64 0, .int .u64 0]) (by simp [results, Tryd.results14, go_sem]) rfl ⟨rfl, ?_⟩
  repeat (first | exact Below.refl _ _ | exact B0 | (refine Below.setCell ?_ (by first | (show w.heap.size ≤ w.heap.size; omega) | (show w.heap.size ≤ w.heap.size + 1; omega) | (show w.heap.size ≤ w.heap.size + 2; omega) | (show w.heap.size ≤ _; simp)) _) | (refine Below.alloc ?_ (by first | exact Nat.le_refl _ | (simp <;> omega)) _))
set_option maxRecDepth 100000 in
set_option maxHeartbeats 2000000 in
theorem awant_1 (s t f l p own oc ep th wd ev ju : Int) (w : World) (hs : 1 ≤ s ∧ s ≤ 1000) (ht : 1 ≤ t ∧ t ≤ 64) (hf : 4 ≤ f ∧ f ≤ 64) :
    Calls Tryd.prog 14 #[.agg #[.int .i64 s, .int .i64 t, .int .i64 f, .int .i64 l, .int .i64 p, .int .i64 own, .int .i64 1, .int .i64 oc, .int .u64 ep, .int .i64 th, .int .u64 wd, .int .u64 ev, .int .i64 ju]] w fun e w' => e = .returned (.agg #[.int .i64 1, .int .i64 0, .int .u64 0, .int .u64 0]) ∧ Below w.heap.size w w' := by
  have C := hide (fun w2 => afirst_any s t f l p own oc ep th wd ev ju 1 1 1 w2 hs ht hf ⟨by omega, by omega⟩)
  rw [show (1 : Int) - 1 = 0 from rfl] at C
  have bx := Blk.new w 39 #[.int .i64 s, .int .i64 t, .int .i64 f, .int .i64 l, .int .i64 p, .int .i64 own, .int .i64 1, .int .i64 oc, .int .u64 ep, .int .i64 th, .int .u64 wd, .int .u64 ev, .int .i64 ju]
  have B0 := (Below.refl w.heap.size w).alloc (Nat.le_refl _) (.cells #[.int .i64 s, .int .i64 t, .int .i64 f, .int .i64 l, .int .i64 p, .int .i64 own, .int .i64 1, .int .i64 oc, .int .u64 ep, .int .i64 th, .int .u64 wd, .int .u64 ev, .int .i64 ju] 39)
  have bo := Blk.new (w.alloc (.cells #[.int .i64 s, .int .i64 t, .int .i64 f, .int .i64 l, .int .i64 p, .int .i64 own, .int .i64 1, .int .i64 oc, .int .u64 ep, .int .i64 th, .int .u64 wd, .int .u64 ev, .int .i64 ju] 39)) 34 #[.int .i64 0, .int .i64 0, .int .u64 0, .int .u64 0]
  replace B0 := B0.alloc B0.size (.cells #[.int .i64 0, .int .i64 0, .int .u64 0, .int .u64 0] 34)
  replace bx := bx.alloc (.cells #[.int .i64 0, .int .i64 0, .int .u64 0, .int .u64 0] 34)
  rw [World.size_alloc] at bo
  go_enter Tryd.func14, Tryd.ntmps14
  go_wp2_with fail
  refine (C.out _).mono ?_
  rintro e w1 ⟨rfl, hb1⟩
  try replace bx := bx.below hb1 bx.lt
  try replace bo := bo.below hb1 bo.lt
  try replace by_ := by_.below hb1 by_.lt
  replace B0 := B0.trans (hb1.mono B0.size)
  clear hb1
  try clear mx lx
  try clear mo lo zo
  try clear my ly zy
  try have mx := fun i => bx.cell i
  try have lx := bx.lt
  try have mo := fun i => bo.cell i
  try have lo := bo.lt
  try have zo := fun i => bo.frozen i
  try have my := fun i => by_.cell i
  try have ly := by_.lt
  try have zy := fun i => by_.frozen i
  go_wp2_with fail
  have b9 := bo.put4 (.int .i64 1) (.int .i64 0) (.int .u64 0) (.int .u64 0)
  have B9 := below_put4 B0 (g := w.heap.size + 1) (by omega) (.int .i64 1) (.int .i64 0) (.int .u64 0) (.int .u64 0)
  have m9 := fun i => b9.cell i
  refine bodyPost_ret (v := .agg #[.int .i64 1, .int .i64 0, .int .u64 0, .int .u64 0]) (by simp [results, Tryd.results14, go_sem, m9]) rfl ⟨rfl, by first | exact B9 | exact B9.drew⟩
set_option maxRecDepth 100000 in
set_option maxHeartbeats 2000000 in
theorem awant_3 (s t f l p own oc ep th wd ev ju : Int) (w : World) (hs : 1 ≤ s ∧ s ≤ 1000) (ht : 1 ≤ t ∧ t ≤ 64) (hf : 4 ≤ f ∧ f ≤ 64) :
    Calls Tryd.prog 14 #[.agg #[.int .i64 s, .int .i64 t, .int .i64 f, .int .i64 l, .int .i64 p, .int .i64 own, .int .i64 3, .int .i64 oc, .int .u64 ep, .int .i64 th, .int .u64 wd, .int .u64 ev, .int .i64 ju]] w fun e w' => e = .returned (.agg #[.int .i64 1, .int .i64 1, .int .u64 0, .int .u64 0]) ∧ Below w.heap.size w w' := by
  have C := hide (fun w2 => afirst_any s t f l p own oc ep th wd ev ju 3 1 2 w2 hs ht hf ⟨by omega, by omega⟩)
  rw [show (2 : Int) - 1 = 1 from rfl] at C
  have bx := Blk.new w 39 #[.int .i64 s, .int .i64 t, .int .i64 f, .int .i64 l, .int .i64 p, .int .i64 own, .int .i64 3, .int .i64 oc, .int .u64 ep, .int .i64 th, .int .u64 wd, .int .u64 ev, .int .i64 ju]
  have B0 := (Below.refl w.heap.size w).alloc (Nat.le_refl _) (.cells #[.int .i64 s, .int .i64 t, .int .i64 f, .int .i64 l, .int .i64 p, .int .i64 own, .int .i64 3, .int .i64 oc, .int .u64 ep, .int .i64 th, .int .u64 wd, .int .u64 ev, .int .i64 ju] 39)
  have bo := Blk.new (w.alloc (.cells #[.int .i64 s, .int .i64 t, .int .i64 f, .int .i64 l, .int .i64 p, .int .i64 own, .int .i64 3, .int .i64 oc, .int .u64 ep, .int .i64 th, .int .u64 wd, .int .u64 ev, .int .i64 ju] 39)) 34 #[.int .i64 0, .int .i64 0, .int .u64 0, .int .u64 0]
  replace B0 := B0.alloc B0.size (.cells #[.int .i64 0, .int .i64 0, .int .u64 0, .int .u64 0] 34)
  replace bx := bx.alloc (.cells #[.int .i64 0, .int .i64 0, .int .u64 0, .int .u64 0] 34)
  rw [World.size_alloc] at bo
  go_enter Tryd.func14, Tryd.ntmps14
  go_wp2_with fail
  refine (C.out _).mono ?_
  rintro e w1 ⟨rfl, hb1⟩
  try replace bx := bx.below hb1 bx.lt
  try replace bo := bo.below hb1 bo.lt
  try replace by_ := by_.below hb1 by_.lt
  replace B0 := B0.trans (hb1.mono B0.size)
  clear hb1
  try clear mx lx
  try clear mo lo zo
  try clear my ly zy
  try have mx := fun i => bx.cell i
  try have lx := bx.lt
  try have mo := fun i => bo.cell i
  try have lo := bo.lt
  try have zo := fun i => bo.frozen i
  try have my := fun i => by_.cell i
  try have ly := by_.lt
  try have zy := fun i => by_.frozen i
  go_wp2_with fail
  have b9 := bo.put4 (.int .i64 1) (.int .i64 1) (.int .u64 0) (.int .u64 0)
  have B9 := below_put4 B0 (g := w.heap.size + 1) (by omega) (.int .i64 1) (.int .i64 1) (.int .u64 0) (.int .u64 0)
  have m9 := fun i => b9.cell i
  refine bodyPost_ret (v := .agg #[.int .i64 1, .int .i64 1, .int .u64 0, .int .u64 0]) (by simp [results, Tryd.results14, go_sem, m9]) rfl ⟨rfl, by first | exact B9 | exact B9.drew⟩
set_option maxRecDepth 100000 in
set_option maxHeartbeats 2000000 in
theorem awant_2 (s t f l p own oc ep th wd ev ju : Int) (w : World) (hs : 1 ≤ s ∧ s ≤ 1000) (ht : 1 ≤ t ∧ t ≤ 64) (hf : 4 ≤ f ∧ f ≤ 64) (hth : 0 ≤ th ∧ th < t) :
    Calls Tryd.prog 14 #[.agg #[.int .i64 s, .int .i64 t, .int .i64 f, .int .i64 l, .int .i64 p, .int .i64 own, .int .i64 2, .int .i64 oc, .int .u64 ep, .int .i64 th, .int .u64 wd, .int .u64 ev, .int .i64 ju]] w fun e w' => e = .returned (.agg #[.int .i64 1, .int .i64 (3 + th), .int .u64 0, .int .u64 0]) ∧ Below w.heap.size w w' := by
  have C := hide (fun w2 => lann_any s t f l p th w2 hs ht hf)
  rw [atp4 hth] at C
  generalize 3 + th = q at *
  have bx := Blk.new w 39 #[.int .i64 s, .int .i64 t, .int .i64 f, .int .i64 l, .int .i64 p, .int .i64 own, .int .i64 2, .int .i64 oc, .int .u64 ep, .int .i64 th, .int .u64 wd, .int .u64 ev, .int .i64 ju]
  have B0 := (Below.refl w.heap.size w).alloc (Nat.le_refl _) (.cells #[.int .i64 s, .int .i64 t, .int .i64 f, .int .i64 l, .int .i64 p, .int .i64 own, .int .i64 2, .int .i64 oc, .int .u64 ep, .int .i64 th, .int .u64 wd, .int .u64 ev, .int .i64 ju] 39)
  have bo := Blk.new (w.alloc (.cells #[.int .i64 s, .int .i64 t, .int .i64 f, .int .i64 l, .int .i64 p, .int .i64 own, .int .i64 2, .int .i64 oc, .int .u64 ep, .int .i64 th, .int .u64 wd, .int .u64 ev, .int .i64 ju] 39)) 34 #[.int .i64 0, .int .i64 0, .int .u64 0, .int .u64 0]
  replace B0 := B0.alloc B0.size (.cells #[.int .i64 0, .int .i64 0, .int .u64 0, .int .u64 0] 34)
  replace bx := bx.alloc (.cells #[.int .i64 0, .int .i64 0, .int .u64 0, .int .u64 0] 34)
  rw [World.size_alloc] at bo
  go_enter Tryd.func14, Tryd.ntmps14
  go_wp2_with fail
  refine (C.out _).mono ?_
  rintro e w1 ⟨rfl, hb1⟩
  try replace bx := bx.below hb1 bx.lt
  try replace bo := bo.below hb1 bo.lt
  try replace by_ := by_.below hb1 by_.lt
  replace B0 := B0.trans (hb1.mono B0.size)
  clear hb1
  try clear mx lx
  try clear mo lo zo
  try clear my ly zy
  try have mx := fun i => bx.cell i
  try have lx := bx.lt
  try have mo := fun i => bo.cell i
  try have lo := bo.lt
  try have zo := fun i => bo.frozen i
  try have my := fun i => by_.cell i
  try have ly := by_.lt
  try have zy := fun i => by_.frozen i
  go_wp2_with fail
  have b9 := bo.put4 (.int .i64 1) (.int .i64 q) (.int .u64 0) (.int .u64 0)
  have B9 := below_put4 B0 (g := w.heap.size + 1) (by omega) (.int .i64 1) (.int .i64 q) (.int .u64 0) (.int .u64 0)
  have m9 := fun i => b9.cell i
  refine bodyPost_ret (v := .agg #[.int .i64 1, .int .i64 q, .int .u64 0, .int .u64 0]) (by simp [results, Tryd.results14, go_sem, m9]) rfl ⟨rfl, by first | exact B9 | exact B9.drew⟩
set_option maxRecDepth 100000 in
set_option maxHeartbeats 2000000 in
theorem awant_4 (s t f l p own oc ep th wd ev ju : Int) (w : World) (hs : 1 ≤ s ∧ s ≤ 1000) (ht : 1 ≤ t ∧ t ≤ 64) (hf : 4 ≤ f ∧ f ≤ 64) (hth : 0 ≤ th ∧ th < t) (hw : W64 wd) :
    Calls Tryd.prog 14 #[.agg #[.int .i64 s, .int .i64 t, .int .i64 f, .int .i64 l, .int .i64 p, .int .i64 own, .int .i64 4, .int .i64 oc, .int .u64 ep, .int .i64 th, .int .u64 wd, .int .u64 ev, .int .i64 ju]] w fun e w' => e = .returned (.agg #[.int .i64 3, .int .i64 (3 + th), .int .u64 wd, .int .u64 (wd - wd % 4 + 2)]) ∧ Below w.heap.size w w' := by
  have C := hide (fun w2 => lann_any s t f l p th w2 hs ht hf)
  rw [atp4 hth] at C
  generalize 3 + th = q at *
  have M := hide (fun w2 => aevict_any wd w2 hw)
  generalize wd - wd % 4 + 2 = y at *
  have bx := Blk.new w 39 #[.int .i64 s, .int .i64 t, .int .i64 f, .int .i64 l, .int .i64 p, .int .i64 own, .int .i64 4, .int .i64 oc, .int .u64 ep, .int .i64 th, .int .u64 wd, .int .u64 ev, .int .i64 ju]
  have B0 := (Below.refl w.heap.size w).alloc (Nat.le_refl _) (.cells #[.int .i64 s, .int .i64 t, .int .i64 f, .int .i64 l, .int .i64 p, .int .i64 own, .int .i64 4, .int .i64 oc, .int .u64 ep, .int .i64 th, .int .u64 wd, .int .u64 ev, .int .i64 ju] 39)
  have bo := Blk.new (w.alloc (.cells #[.int .i64 s, .int .i64 t, .int .i64 f, .int .i64 l, .int .i64 p, .int .i64 own, .int .i64 4, .int .i64 oc, .int .u64 ep, .int .i64 th, .int .u64 wd, .int .u64 ev, .int .i64 ju] 39)) 34 #[.int .i64 0, .int .i64 0, .int .u64 0, .int .u64 0]
  replace B0 := B0.alloc B0.size (.cells #[.int .i64 0, .int .i64 0, .int .u64 0, .int .u64 0] 34)
  replace bx := bx.alloc (.cells #[.int .i64 0, .int .i64 0, .int .u64 0, .int .u64 0] 34)
  rw [World.size_alloc] at bo
  go_enter Tryd.func14, Tryd.ntmps14
  go_wp2_with fail
  generalize (w.alloc (.cells #[.int .i64 s, .int .i64 t, .int .i64 f, .int .i64 l, .int .i64 p, .int .i64 own, .int .i64 4, .int .i64 oc, .int .u64 ep, .int .i64 th, .int .u64 wd, .int .u64 ev, .int .i64 ju] 39)).alloc (.cells #[.int .i64 0, .int .i64 0, .int .u64 0, .int .u64 0] 34) = w0 at *
  have bd := bx.drewN 1
  have od := bo.drewN 1
  have Bd := below_drewN B0 1
  try clear mx lx
  try clear mo lo zo
  try clear my ly zy
  try have mx := fun i => bx.cell i
  try have lx := bx.lt
  try have mo := fun i => bo.cell i
  try have lo := bo.lt
  try have zo := fun i => bo.frozen i
  try have my := fun i => by_.cell i
  try have ly := by_.lt
  try have zy := fun i => by_.frozen i
  go_region_held3 (fun w' => w'.cell? ⟨w.heap.size, 0, none⟩ = some (.int .i64 s) ∧ w'.cell? ⟨w.heap.size, 1, none⟩ = some (.int .i64 t) ∧ w'.cell? ⟨w.heap.size, 2, none⟩ = some (.int .i64 f) ∧ w'.cell? ⟨w.heap.size, 3, none⟩ = some (.int .i64 l) ∧ w'.cell? ⟨w.heap.size, 4, none⟩ = some (.int .i64 p) ∧ w'.cell? ⟨w.heap.size, 5, none⟩ = some (.int .i64 own) ∧ w'.cell? ⟨w.heap.size, 6, none⟩ = some (.int .i64 4) ∧ w'.cell? ⟨w.heap.size, 7, none⟩ = some (.int .i64 oc) ∧ w'.cell? ⟨w.heap.size, 8, none⟩ = some (.int .u64 ep) ∧ w'.cell? ⟨w.heap.size, 9, none⟩ = some (.int .i64 th) ∧ w'.cell? ⟨w.heap.size, 10, none⟩ = some (.int .u64 wd) ∧ w'.cell? ⟨w.heap.size, 11, none⟩ = some (.int .u64 ev) ∧ w'.cell? ⟨w.heap.size, 12, none⟩ = some (.int .i64 ju)) (go_keep) ((first | (go_at_call 28; refine (C.out _).mono ?_; rintro e w1 ⟨rfl, hb1⟩; have bd := bd.below hb1 bd.lt; have od := od.below hb1 od.lt; have Bd := Bd.trans (hb1.mono Bd.size); have md := fun i => bd.cell i; have nd := fun i => od.cell i; have zd := fun i => od.frozen i; have ld := bd.lt; have kd := od.lt) | (go_at_call 36; refine (M.out _).mono ?_; rintro e w' ⟨rfl, rfl⟩)))
  all_goals
    go_wp2_with fail
    have b9 := od.put4 (.int .i64 3) (.int .i64 q) (.int .u64 wd) (.int .u64 y)
    have B9 := below_put4 Bd (g := w.heap.size + 1) (by omega) (.int .i64 3) (.int .i64 q) (.int .u64 wd) (.int .u64 y)
    have m9 := fun i => b9.cell i
    refine bodyPost_ret (v := .agg #[.int .i64 3, .int .i64 q, .int .u64 wd, .int .u64 y]) (by simp [results, Tryd.results14, go_sem, m9]) rfl ⟨rfl, B9⟩
set_option maxRecDepth 100000 in
set_option maxHeartbeats 2000000 in
theorem awant_5 (s t f l p own oc ep th wd ev ju : Int) (w : World) (hs : 1 ≤ s ∧ s ≤ 1000) (ht : 1 ≤ t ∧ t ≤ 64) (hf : 4 ≤ f ∧ f ≤ 64) (he : W64 ep) :
    Calls Tryd.prog 14 #[.agg #[.int .i64 s, .int .i64 t, .int .i64 f, .int .i64 l, .int .i64 p, .int .i64 own, .int .i64 5, .int .i64 oc, .int .u64 ep, .int .i64 th, .int .u64 wd, .int .u64 ev, .int .i64 ju]] w fun e w' => e = .returned (.agg #[.int .i64 3, .int .i64 0, .int .u64 ep, .int .u64 ((ep + 1) % 18446744073709551616)]) ∧ Below w.heap.size w w' := by
  have C := hide (fun w2 => afirst_any s t f l p own oc ep th wd ev ju 5 3 1 w2 hs ht hf ⟨by omega, by omega⟩)
  rw [show (1 : Int) - 1 = 0 from rfl] at C
  have hE : IntKind.u64.wrap (ep + 1) = (ep + 1) % 18446744073709551616 := by simp [IntKind.wrap, IntKind.bits, IntKind.signed]
  generalize (ep + 1) % 18446744073709551616 = e1 at *
  obtain ⟨e0, e9⟩ := he
  have bx := Blk.new w 39 #[.int .i64 s, .int .i64 t, .int .i64 f, .int .i64 l, .int .i64 p, .int .i64 own, .int .i64 5, .int .i64 oc, .int .u64 ep, .int .i64 th, .int .u64 wd, .int .u64 ev, .int .i64 ju]
  have B0 := (Below.refl w.heap.size w).alloc (Nat.le_refl _) (.cells #[.int .i64 s, .int .i64 t, .int .i64 f, .int .i64 l, .int .i64 p, .int .i64 own, .int .i64 5, .int .i64 oc, .int .u64 ep, .int .i64 th, .int .u64 wd, .int .u64 ev, .int .i64 ju] 39)
  have bo := Blk.new (w.alloc (.cells #[.int .i64 s, .int .i64 t, .int .i64 f, .int .i64 l, .int .i64 p, .int .i64 own, .int .i64 5, .int .i64 oc, .int .u64 ep, .int .i64 th, .int .u64 wd, .int .u64 ev, .int .i64 ju] 39)) 34 #[.int .i64 0, .int .i64 0, .int .u64 0, .int .u64 0]
  replace B0 := B0.alloc B0.size (.cells #[.int .i64 0, .int .i64 0, .int .u64 0, .int .u64 0] 34)
  replace bx := bx.alloc (.cells #[.int .i64 0, .int .i64 0, .int .u64 0, .int .u64 0] 34)
  rw [World.size_alloc] at bo
  go_enter Tryd.func14, Tryd.ntmps14
  go_wp2_with fail
  refine (C.out _).mono ?_
  rintro e w1 ⟨rfl, hb1⟩
  replace bx := bx.below hb1 bx.lt
  replace bo := bo.below hb1 bo.lt
  replace B0 := B0.trans (hb1.mono B0.size)
  clear hb1
  have ba := Blk.new w1 34 #[.int .i64 3, .int .i64 0, .int .u64 0, .int .u64 0]
  have hga : w.heap.size ≤ w1.heap.size := B0.size
  have na : w.heap.size + 1 ≠ w1.heap.size := by have := bo.lt; omega
  have nx : w.heap.size ≠ w1.heap.size := by have := bx.lt; omega
  replace bx := bx.alloc (.cells #[.int .i64 3, .int .i64 0, .int .u64 0, .int .u64 0] 34)
  replace bo := bo.alloc (.cells #[.int .i64 3, .int .i64 0, .int .u64 0, .int .u64 0] 34)
  replace B0 := B0.alloc B0.size (.cells #[.int .i64 3, .int .i64 0, .int .u64 0, .int .u64 0] 34)
  try clear mx lx
  try clear mo lo zo
  try clear my ly zy
  try have mx := fun i => bx.cell i
  try have lx := bx.lt
  try have mo := fun i => bo.cell i
  try have lo := bo.lt
  try have zo := fun i => bo.frozen i
  try have my := fun i => by_.cell i
  try have ly := by_.lt
  try have zy := fun i => by_.frozen i
  go_wp2_with fail
  generalize w1.heap.size = ga at *
  generalize w1.alloc (.cells #[.int .i64 3, .int .i64 0, .int .u64 0, .int .u64 0] 34) = w2 at *
  have ma := fun i => ba.cell i
  have za := fun i => ba.frozen i
  go_region
  all_goals
    have b2 := (ba.set_ 2 (.int .u64 ep)).set_ 3 (.int .u64 e1)
    simp only [List.setIfInBounds_toArray, List.set_cons_zero, List.set_cons_succ] at b2
    replace b2 := b2.drew
    have o2 := ((bo.far (p := ⟨ga, 2, none⟩) na (.int .u64 ep)).far (p := ⟨ga, 3, none⟩) na (.int .u64 e1)).drew
    have C2 := ((B0.setCell (p := ⟨ga, 2, none⟩) hga (.int .u64 ep)).setCell (p := ⟨ga, 3, none⟩) hga (.int .u64 e1)).drew
    clear ma za mx lx mo lo zo ba bx bo B0
    generalize ((w2.setCell ⟨ga, 2, none⟩ (.int .u64 ep)).setCell ⟨ga, 3, none⟩ (.int .u64 e1)).drew = w3 at *
    have m2 := fun i => b2.cell i
    have mo := fun i => o2.cell i
    have zo := fun i => o2.frozen i
    go_wp2_with fail
    have b9 := o2.put4 (.int .i64 3) (.int .i64 0) (.int .u64 ep) (.int .u64 e1)
    have B9 := below_put4 C2 (g := w.heap.size + 1) (by omega) (.int .i64 3) (.int .i64 0) (.int .u64 ep) (.int .u64 e1)
    have m9 := fun i => b9.cell i
    refine bodyPost_ret (v := .agg #[.int .i64 3, .int .i64 0, .int .u64 ep, .int .u64 e1]) (by simp [results, Tryd.results14, go_sem, m9]) rfl ⟨rfl, B9⟩
end Go.Proofs.YtgcdmgpcfdfomaaDoor
