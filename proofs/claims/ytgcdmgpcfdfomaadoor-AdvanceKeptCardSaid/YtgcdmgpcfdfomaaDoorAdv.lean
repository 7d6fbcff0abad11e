/-
  An epoch that goes on: its parts that lead on.
-/
import Derived.Test.YtgcdmgpcfdfomaaDoorAdvP
import Derived.Test.YtgcdmgpcfdfomaaDoorRow
import Derived.Test.YtgcdmgpcfdfomaaDoorPast
import Derived.Test.YtgcdmgpcfdfomaaDoorLayH
import Derived.Deep.RegionHeld3
import Derived.Deep.RegionWith
namespace Go.Proofs.YtgcdmgpcfdfomaaDoor
open Go.RowKit
attribute [local go_sem] past_cell past_cell_add

theorem Blk.put8 {w : World} {g : Nat} {T : TypeId} {c0 c1 c2 c3 c4 c5 c6 c7 : Value} (h : Blk w g T #[c0, c1, c2, c3, c4, c5, c6, c7]) (v0 v1 v2 v3 v4 v5 v6 v7 : Value) : Blk ((((((((w.setCell ⟨g, 0, none⟩ v0).setCell ⟨g, 1, none⟩ v1).setCell ⟨g, 2, none⟩ v2).setCell ⟨g, 3, none⟩ v3).setCell ⟨g, 4, none⟩ v4).setCell ⟨g, 5, none⟩ v5).setCell ⟨g, 6, none⟩ v6).setCell ⟨g, 7, none⟩ v7) g T #[v0, v1, v2, v3, v4, v5, v6, v7] := by
  have := ((((((((h.set_ 0 v0).set_ 1 v1).set_ 2 v2).set_ 3 v3).set_ 4 v4).set_ 5 v5).set_ 6 v6).set_ 7 v7)
  simpa only [List.setIfInBounds_toArray, List.set_cons_zero, List.set_cons_succ] using this
theorem Blk.off8 {w : World} {g x : Nat} {T : TypeId} {cur : Array Value} (h : Blk w x T cur) (hne : x ≠ g) (v0 v1 v2 v3 v4 v5 v6 v7 : Value) : Blk ((((((((w.setCell ⟨g, 0, none⟩ v0).setCell ⟨g, 1, none⟩ v1).setCell ⟨g, 2, none⟩ v2).setCell ⟨g, 3, none⟩ v3).setCell ⟨g, 4, none⟩ v4).setCell ⟨g, 5, none⟩ v5).setCell ⟨g, 6, none⟩ v6).setCell ⟨g, 7, none⟩ v7) x T cur := ((((((((h.far (p := ⟨g, 0, none⟩) hne v0).far (p := ⟨g, 1, none⟩) hne v1).far (p := ⟨g, 2, none⟩) hne v2).far (p := ⟨g, 3, none⟩) hne v3).far (p := ⟨g, 4, none⟩) hne v4).far (p := ⟨g, 5, none⟩) hne v5).far (p := ⟨g, 6, none⟩) hne v6).far (p := ⟨g, 7, none⟩) hne v7)
theorem below_put8 {w w0 : World} {L g : Nat} (h : Below L w0 w) (hg : L ≤ g) (v0 v1 v2 v3 v4 v5 v6 v7 : Value) : Below L w0 ((((((((w.setCell ⟨g, 0, none⟩ v0).setCell ⟨g, 1, none⟩ v1).setCell ⟨g, 2, none⟩ v2).setCell ⟨g, 3, none⟩ v3).setCell ⟨g, 4, none⟩ v4).setCell ⟨g, 5, none⟩ v5).setCell ⟨g, 6, none⟩ v6).setCell ⟨g, 7, none⟩ v7) := ((((((((h.setCell (p := ⟨g, 0, none⟩) hg v0).setCell (p := ⟨g, 1, none⟩) hg v1).setCell (p := ⟨g, 2, none⟩) hg v2).setCell (p := ⟨g, 3, none⟩) hg v3).setCell (p := ⟨g, 4, none⟩) hg v4).setCell (p := ⟨g, 5, none⟩) hg v5).setCell (p := ⟨g, 6, none⟩) hg v6).setCell (p := ⟨g, 7, none⟩) hg v7)
theorem Blk.put13 {w : World} {g : Nat} {T : TypeId} {c0 c1 c2 c3 c4 c5 c6 c7 c8 c9 c10 c11 c12 : Value} (h : Blk w g T #[c0, c1, c2, c3, c4, c5, c6, c7, c8, c9, c10, c11, c12]) (v0 v1 v2 v3 v4 v5 v6 v7 v8 v9 v10 v11 v12 : Value) : Blk (((((((((((((w.setCell ⟨g, 0, none⟩ v0).setCell ⟨g, 1, none⟩ v1).setCell ⟨g, 2, none⟩ v2).setCell ⟨g, 3, none⟩ v3).setCell ⟨g, 4, none⟩ v4).setCell ⟨g, 5, none⟩ v5).setCell ⟨g, 6, none⟩ v6).setCell ⟨g, 7, none⟩ v7).setCell ⟨g, 8, none⟩ v8).setCell ⟨g, 9, none⟩ v9).setCell ⟨g, 10, none⟩ v10).setCell ⟨g, 11, none⟩ v11).setCell ⟨g, 12, none⟩ v12) g T #[v0, v1, v2, v3, v4, v5, v6, v7, v8, v9, v10, v11, v12] := by
  have := (((((((((((((h.set_ 0 v0).set_ 1 v1).set_ 2 v2).set_ 3 v3).set_ 4 v4).set_ 5 v5).set_ 6 v6).set_ 7 v7).set_ 8 v8).set_ 9 v9).set_ 10 v10).set_ 11 v11).set_ 12 v12)
  simpa only [List.setIfInBounds_toArray, List.set_cons_zero, List.set_cons_succ] using this
theorem Blk.off13 {w : World} {g x : Nat} {T : TypeId} {cur : Array Value} (h : Blk w x T cur) (hne : x ≠ g) (v0 v1 v2 v3 v4 v5 v6 v7 v8 v9 v10 v11 v12 : Value) : Blk (((((((((((((w.setCell ⟨g, 0, none⟩ v0).setCell ⟨g, 1, none⟩ v1).setCell ⟨g, 2, none⟩ v2).setCell ⟨g, 3, none⟩ v3).setCell ⟨g, 4, none⟩ v4).setCell ⟨g, 5, none⟩ v5).setCell ⟨g, 6, none⟩ v6).setCell ⟨g, 7, none⟩ v7).setCell ⟨g, 8, none⟩ v8).setCell ⟨g, 9, none⟩ v9).setCell ⟨g, 10, none⟩ v10).setCell ⟨g, 11, none⟩ v11).setCell ⟨g, 12, none⟩ v12) x T cur := (((((((((((((h.far (p := ⟨g, 0, none⟩) hne v0).far (p := ⟨g, 1, none⟩) hne v1).far (p := ⟨g, 2, none⟩) hne v2).far (p := ⟨g, 3, none⟩) hne v3).far (p := ⟨g, 4, none⟩) hne v4).far (p := ⟨g, 5, none⟩) hne v5).far (p := ⟨g, 6, none⟩) hne v6).far (p := ⟨g, 7, none⟩) hne v7).far (p := ⟨g, 8, none⟩) hne v8).far (p := ⟨g, 9, none⟩) hne v9).far (p := ⟨g, 10, none⟩) hne v10).far (p := ⟨g, 11, none⟩) hne v11).far (p := ⟨g, 12, none⟩) hne v12)
theorem below_put13 {w w0 : World} {L g : Nat} (h : Below L w0 w) (hg : L ≤ g) (v0 v1 v2 v3 v4 v5 v6 v7 v8 v9 v10 v11 v12 : Value) : Below L w0 (((((((((((((w.setCell ⟨g, 0, none⟩ v0).setCell ⟨g, 1, none⟩ v1).setCell ⟨g, 2, none⟩ v2).setCell ⟨g, 3, none⟩ v3).setCell ⟨g, 4, none⟩ v4).setCell ⟨g, 5, none⟩ v5).setCell ⟨g, 6, none⟩ v6).setCell ⟨g, 7, none⟩ v7).setCell ⟨g, 8, none⟩ v8).setCell ⟨g, 9, none⟩ v9).setCell ⟨g, 10, none⟩ v10).setCell ⟨g, 11, none⟩ v11).setCell ⟨g, 12, none⟩ v12) := (((((((((((((h.setCell (p := ⟨g, 0, none⟩) hg v0).setCell (p := ⟨g, 1, none⟩) hg v1).setCell (p := ⟨g, 2, none⟩) hg v2).setCell (p := ⟨g, 3, none⟩) hg v3).setCell (p := ⟨g, 4, none⟩) hg v4).setCell (p := ⟨g, 5, none⟩) hg v5).setCell (p := ⟨g, 6, none⟩) hg v6).setCell (p := ⟨g, 7, none⟩) hg v7).setCell (p := ⟨g, 8, none⟩) hg v8).setCell (p := ⟨g, 9, none⟩) hg v9).setCell (p := ⟨g, 10, none⟩) hg v10).setCell (p := ⟨g, 11, none⟩) hg v11).setCell (p := ⟨g, 12, none⟩) hg v12)
set_option maxRecDepth 100000 in
set_option maxHeartbeats 2000000 in
theorem afirst_any (s t f l p own oc ep th wd ev ju k ask kind : Int) (w : World) (hs : 1 ≤ s ∧ s ≤ 1000) (ht : 1 ≤ t ∧ t ≤ 64) (hf : 4 ≤ f ∧ f ≤ 64) (hk : 1 ≤ kind ∧ kind ≤ 3) :
    Calls Tryd.prog 35 #[.agg #[.int .i64 s, .int .i64 t, .int .i64 f, .int .i64 l, .int .i64 p, .int .i64 own, .int .i64 k, .int .i64 oc, .int .u64 ep, .int .i64 th, .int .u64 wd, .int .u64 ev, .int .i64 ju], .int .i64 ask, .int .i64 kind] w fun e w' => e = .returned (.agg #[.int .i64 ask, .int .i64 (kind - 1), .int .u64 0, .int .u64 0]) ∧ Below w.heap.size w w' := by
  have C := hide (fun w2 => at_any s t f l p kind 0 0 w2 hs ht hf)
  rw [atp_first hk] at C
  generalize kind - 1 = q at *
  have bx := Blk.new w 39 #[.int .i64 s, .int .i64 t, .int .i64 f, .int .i64 l, .int .i64 p, .int .i64 own, .int .i64 k, .int .i64 oc, .int .u64 ep, .int .i64 th, .int .u64 wd, .int .u64 ev, .int .i64 ju]
  have B0 := (Below.refl w.heap.size w).alloc (Nat.le_refl _) (.cells #[.int .i64 s, .int .i64 t, .int .i64 f, .int .i64 l, .int .i64 p, .int .i64 own, .int .i64 k, .int .i64 oc, .int .u64 ep, .int .i64 th, .int .u64 wd, .int .u64 ev, .int .i64 ju] 39)
  have bo := Blk.new (w.alloc (.cells #[.int .i64 s, .int .i64 t, .int .i64 f, .int .i64 l, .int .i64 p, .int .i64 own, .int .i64 k, .int .i64 oc, .int .u64 ep, .int .i64 th, .int .u64 wd, .int .u64 ev, .int .i64 ju] 39)) 34 #[.int .i64 0, .int .i64 0, .int .u64 0, .int .u64 0]
  replace B0 := B0.alloc B0.size (.cells #[.int .i64 0, .int .i64 0, .int .u64 0, .int .u64 0] 34)
  replace bx := bx.alloc (.cells #[.int .i64 0, .int .i64 0, .int .u64 0, .int .u64 0] 34)
  rw [World.size_alloc] at bo
  go_enter Tryd.func35, Tryd.ntmps35
  go_wp2_with fail
  refine (C.out _).mono ?_
  rintro e w1 ⟨rfl, hb1⟩
  try replace bx := bx.below hb1 bx.lt
  try replace bo := bo.below hb1 bo.lt
  try replace by_ := by_.below hb1 by_.lt
  replace B0 := B0.trans (hb1.mono B0.size)
  clear hb1
  try clear mx lx
  try clear mo lo zo
  try clear my ly zy
  try have mx := fun i => bx.cell i
  try have lx := bx.lt
  try have mo := fun i => bo.cell i
  try have lo := bo.lt
  try have zo := fun i => bo.frozen i
  try have my := fun i => by_.cell i
  try have ly := by_.lt
  try have zy := fun i => by_.frozen i
  go_wp2_with fail
  have b9 := bo.put4 (.int .i64 ask) (.int .i64 q) (.int .u64 0) (.int .u64 0)
  have B9 := below_put4 B0 (g := w.heap.size + 1) (by omega) (.int .i64 ask) (.int .i64 q) (.int .u64 0) (.int .u64 0)
  have m9 := fun i => b9.cell i
  refine bodyPost_ret (v := .agg #[.int .i64 ask, .int .i64 q, .int .u64 0, .int .u64 0]) (by simp [results, Tryd.results35, go_sem, m9]) rfl ⟨rfl, by first | exact B9 | exact B9.drew⟩
set_option maxRecDepth 100000 in
set_option maxHeartbeats 2000000 in
theorem aover_any (s t f l p own oc ep th wd ev ju k o : Int) (w : World)  :
    Calls Tryd.prog 34 #[.agg #[.int .i64 s, .int .i64 t, .int .i64 f, .int .i64 l, .int .i64 p, .int .i64 own, .int .i64 k, .int .i64 oc, .int .u64 ep, .int .i64 th, .int .u64 wd, .int .u64 ev, .int .i64 ju], .int .i64 o] w fun e w' => e = .returned (.agg #[.int .i64 s, .int .i64 t, .int .i64 f, .int .i64 l, .int .i64 p, .int .i64 own, .int .i64 0, .int .i64 o, .int .u64 ep, .int .i64 th, .int .u64 wd, .int .u64 ev, .int .i64 ju]) ∧ Below w.heap.size w w' := by
  go_enter Tryd.func34, Tryd.ntmps34
  go_wp2_with fail
  refine bodyPost_ret (v := .agg #[.int .i64 s, .int .i64 t, .int .i64 f, .int .i64 l, .int .i64 p, .int .i64 own, .int .i64 0, .int .i64 o, .int .u64 ep, .int .i64 th, .int .u64 wd, .int .u64 ev, .int .i64 ju]) (by simp [results, Tryd.results34, go_sem]) rfl ⟨rfl, ?_⟩
  repeat (first | exact Below.refl _ _ | exact B0 | (refine Below.setCell ?_ (by first | (show w.heap.size ≤ w.heap.size; omega) | (show w.heap.size ≤ w.heap.size + 1; omega) | (show w.heap.size ≤ w.heap.size + 2; omega) | (show w.heap.size ≤ _; simp)) _) | (refine Below.alloc ?_ (by first | exact Nat.le_refl _ | (simp <;> omega)) _))
set_option maxRecDepth 100000 in
set_option maxHeartbeats 2000000 in
theorem anext_eb (s t f l p oc ep th wd ev ju k q : Int) (w : World) (h0 : 0 ≤ q ∧ q ≤ 64) (hb : t ≤ q + 1) :
    Calls Tryd.prog 30 #[.agg #[.int .i64 s, .int .i64 t, .int .i64 f, .int .i64 l, .int .i64 p, .int .i64 q, .int .i64 k, .int .i64 oc, .int .u64 ep, .int .i64 th, .int .u64 wd, .int .u64 ev, .int .i64 ju], .int .i64 q] w fun e w' => e = .returned (.agg #[.int .i64 s, .int .i64 t, .int .i64 f, .int .i64 l, .int .i64 p, .int .i64 q, .int .i64 5, .int .i64 oc, .int .u64 ep, .int .i64 (q + 1), .int .u64 wd, .int .u64 ev, .int .i64 ju]) ∧ Below w.heap.size w w' := by
  have C := hide (fun w2 => lconfig_any s t f l p w2)
  have hf1 : ∀ w : World, (Instr.field 23 (.agg #[.int .i64 s, .int .i64 t, .int .i64 f, .int .i64 l, .int .i64 p]) 1).run Tryd.prog w = .ok (.int .i64 t) w := fun _ => by kernel_rfl
  obtain ⟨h1, h2⟩ := h0
  have bx := Blk.new w 39 #[.int .i64 s, .int .i64 t, .int .i64 f, .int .i64 l, .int .i64 p, .int .i64 q, .int .i64 2, .int .i64 oc, .int .u64 ep, .int .i64 (q + 1), .int .u64 wd, .int .u64 ev, .int .i64 ju]
  have B0 := (Below.refl w.heap.size w).alloc (Nat.le_refl _) (.cells #[.int .i64 s, .int .i64 t, .int .i64 f, .int .i64 l, .int .i64 p, .int .i64 q, .int .i64 2, .int .i64 oc, .int .u64 ep, .int .i64 (q + 1), .int .u64 wd, .int .u64 ev, .int .i64 ju] 39)
  have bo := Blk.new (w.alloc (.cells #[.int .i64 s, .int .i64 t, .int .i64 f, .int .i64 l, .int .i64 p, .int .i64 q, .int .i64 2, .int .i64 oc, .int .u64 ep, .int .i64 (q + 1), .int .u64 wd, .int .u64 ev, .int .i64 ju] 39)) 39 #[.int .i64 0, .int .i64 0, .int .i64 0, .int .i64 0, .int .i64 0, .int .i64 0, .int .i64 0, .int .i64 0, .int .u64 0, .int .i64 0, .int .u64 0, .int .u64 0, .int .i64 0]
  replace B0 := B0.alloc B0.size (.cells #[.int .i64 0, .int .i64 0, .int .i64 0, .int .i64 0, .int .i64 0, .int .i64 0, .int .i64 0, .int .i64 0, .int .u64 0, .int .i64 0, .int .u64 0, .int .u64 0, .int .i64 0] 39)
  replace bx := bx.alloc (.cells #[.int .i64 0, .int .i64 0, .int .i64 0, .int .i64 0, .int .i64 0, .int .i64 0, .int .i64 0, .int .i64 0, .int .u64 0, .int .i64 0, .int .u64 0, .int .u64 0, .int .i64 0] 39)
  rw [World.size_alloc] at bo
  go_enter Tryd.func30, Tryd.ntmps30
  go_wp2_with fail
  refine (C.out _).mono ?_
  rintro e w9 ⟨rfl, hb1⟩
  replace bx := bx.below hb1 bx.lt
  replace bo := bo.below hb1 bo.lt
  replace B0 := B0.trans (hb1.mono B0.size)
  clear hb1
  have zx := fun i => bx.frozen i
  try clear mx lx
  try clear mo lo zo
  try clear my ly zy
  try have mx := fun i => bx.cell i
  try have lx := bx.lt
  try have mo := fun i => bo.cell i
  try have lo := bo.lt
  try have zo := fun i => bo.frozen i
  try have my := fun i => by_.cell i
  try have ly := by_.lt
  try have zy := fun i => by_.frozen i
  go_wp2_with fail
  have o9 := (bo.far (p := ⟨w.heap.size, 6, none⟩) (by show w.heap.size + 1 ≠ w.heap.size; omega) (.int .i64 5))
  have C9 := (B0.setCell (p := ⟨w.heap.size, 6, none⟩) (Nat.le_refl _) (.int .i64 5))
  have b9 := o9.put13 (.int .i64 s) (.int .i64 t) (.int .i64 f) (.int .i64 l) (.int .i64 p) (.int .i64 q) (.int .i64 5) (.int .i64 oc) (.int .u64 ep) (.int .i64 (q + 1)) (.int .u64 wd) (.int .u64 ev) (.int .i64 ju)
  have B9 := below_put13 C9 (g := w.heap.size + 1) (by omega) (.int .i64 s) (.int .i64 t) (.int .i64 f) (.int .i64 l) (.int .i64 p) (.int .i64 q) (.int .i64 5) (.int .i64 oc) (.int .u64 ep) (.int .i64 (q + 1)) (.int .u64 wd) (.int .u64 ev) (.int .i64 ju)
  have m9 := fun i => b9.cell i
  refine bodyPost_ret (v := .agg #[.int .i64 s, .int .i64 t, .int .i64 f, .int .i64 l, .int .i64 p, .int .i64 q, .int .i64 5, .int .i64 oc, .int .u64 ep, .int .i64 (q + 1), .int .u64 wd, .int .u64 ev, .int .i64 ju]) (by simp [results, Tryd.results30, go_sem, m9]) rfl ⟨rfl, by first | exact B9 | exact B9.drew⟩
set_option maxRecDepth 100000 in
set_option maxHeartbeats 2000000 in
theorem anext_es (s t f l p oc ep th wd ev ju k q : Int) (w : World) (h0 : 0 ≤ q ∧ q ≤ 64) (hb : q + 1 < t) :
    Calls Tryd.prog 30 #[.agg #[.int .i64 s, .int .i64 t, .int .i64 f, .int .i64 l, .int .i64 p, .int .i64 q, .int .i64 k, .int .i64 oc, .int .u64 ep, .int .i64 th, .int .u64 wd, .int .u64 ev, .int .i64 ju], .int .i64 q] w fun e w' => e = .returned (.agg #[.int .i64 s, .int .i64 t, .int .i64 f, .int .i64 l, .int .i64 p, .int .i64 q, .int .i64 2, .int .i64 oc, .int .u64 ep, .int .i64 (q + 1), .int .u64 wd, .int .u64 ev, .int .i64 ju]) ∧ Below w.heap.size w w' := by
  have C := hide (fun w2 => lconfig_any s t f l p w2)
  have hf1 : ∀ w : World, (Instr.field 23 (.agg #[.int .i64 s, .int .i64 t, .int .i64 f, .int .i64 l, .int .i64 p]) 1).run Tryd.prog w = .ok (.int .i64 t) w := fun _ => by kernel_rfl
  obtain ⟨h1, h2⟩ := h0
  have hn : ¬ t ≤ (q + 1) := by omega
  clear hb
  have bx := Blk.new w 39 #[.int .i64 s, .int .i64 t, .int .i64 f, .int .i64 l, .int .i64 p, .int .i64 q, .int .i64 2, .int .i64 oc, .int .u64 ep, .int .i64 (q + 1), .int .u64 wd, .int .u64 ev, .int .i64 ju]
  have B0 := (Below.refl w.heap.size w).alloc (Nat.le_refl _) (.cells #[.int .i64 s, .int .i64 t, .int .i64 f, .int .i64 l, .int .i64 p, .int .i64 q, .int .i64 2, .int .i64 oc, .int .u64 ep, .int .i64 (q + 1), .int .u64 wd, .int .u64 ev, .int .i64 ju] 39)
  have bo := Blk.new (w.alloc (.cells #[.int .i64 s, .int .i64 t, .int .i64 f, .int .i64 l, .int .i64 p, .int .i64 q, .int .i64 2, .int .i64 oc, .int .u64 ep, .int .i64 (q + 1), .int .u64 wd, .int .u64 ev, .int .i64 ju] 39)) 39 #[.int .i64 0, .int .i64 0, .int .i64 0, .int .i64 0, .int .i64 0, .int .i64 0, .int .i64 0, .int .i64 0, .int .u64 0, .int .i64 0, .int .u64 0, .int .u64 0, .int .i64 0]
  replace B0 := B0.alloc B0.size (.cells #[.int .i64 0, .int .i64 0, .int .i64 0, .int .i64 0, .int .i64 0, .int .i64 0, .int .i64 0, .int .i64 0, .int .u64 0, .int .i64 0, .int .u64 0, .int .u64 0, .int .i64 0] 39)
  replace bx := bx.alloc (.cells #[.int .i64 0, .int .i64 0, .int .i64 0, .int .i64 0, .int .i64 0, .int .i64 0, .int .i64 0, .int .i64 0, .int .u64 0, .int .i64 0, .int .u64 0, .int .u64 0, .int .i64 0] 39)
  rw [World.size_alloc] at bo
  go_enter Tryd.func30, Tryd.ntmps30
  go_wp2_with fail
  refine (C.out _).mono ?_
  rintro e w1 ⟨rfl, hb1⟩
  try replace bx := bx.below hb1 bx.lt
  try replace bo := bo.below hb1 bo.lt
  try replace by_ := by_.below hb1 by_.lt
  replace B0 := B0.trans (hb1.mono B0.size)
  clear hb1
  try clear mx lx
  try clear mo lo zo
  try clear my ly zy
  try have mx := fun i => bx.cell i
  try have lx := bx.lt
  try have mo := fun i => bo.cell i
  try have lo := bo.lt
  try have zo := fun i => bo.frozen i
  try have my := fun i => by_.cell i
  try have ly := by_.lt
  try have zy := fun i => by_.frozen i
  go_wp2_with fail
  have o9 := bo
  have C9 := B0
  have b9 := o9.put13 (.int .i64 s) (.int .i64 t) (.int .i64 f) (.int .i64 l) (.int .i64 p) (.int .i64 q) (.int .i64 2) (.int .i64 oc) (.int .u64 ep) (.int .i64 (q + 1)) (.int .u64 wd) (.int .u64 ev) (.int .i64 ju)
  have B9 := below_put13 C9 (g := w.heap.size + 1) (by omega) (.int .i64 s) (.int .i64 t) (.int .i64 f) (.int .i64 l) (.int .i64 p) (.int .i64 q) (.int .i64 2) (.int .i64 oc) (.int .u64 ep) (.int .i64 (q + 1)) (.int .u64 wd) (.int .u64 ev) (.int .i64 ju)
  have m9 := fun i => b9.cell i
  refine bodyPost_ret (v := .agg #[.int .i64 s, .int .i64 t, .int .i64 f, .int .i64 l, .int .i64 p, .int .i64 q, .int .i64 2, .int .i64 oc, .int .u64 ep, .int .i64 (q + 1), .int .u64 wd, .int .u64 ev, .int .i64 ju]) (by simp [results, Tryd.results30, go_sem, m9]) rfl ⟨rfl, by first | exact B9 | exact B9.drew⟩
set_option maxRecDepth 100000 in
set_option maxHeartbeats 2000000 in
theorem anext_nb (s t f l p own oc ep th wd ev ju k q : Int) (w : World) (h0 : (q == own) = false) (hb : t ≤ q) :
    Calls Tryd.prog 30 #[.agg #[.int .i64 s, .int .i64 t, .int .i64 f, .int .i64 l, .int .i64 p, .int .i64 own, .int .i64 k, .int .i64 oc, .int .u64 ep, .int .i64 th, .int .u64 wd, .int .u64 ev, .int .i64 ju], .int .i64 q] w fun e w' => e = .returned (.agg #[.int .i64 s, .int .i64 t, .int .i64 f, .int .i64 l, .int .i64 p, .int .i64 own, .int .i64 5, .int .i64 oc, .int .u64 ep, .int .i64 q, .int .u64 wd, .int .u64 ev, .int .i64 ju]) ∧ Below w.heap.size w w' := by
  have C := hide (fun w2 => lconfig_any s t f l p w2)
  have hf1 : ∀ w : World, (Instr.field 23 (.agg #[.int .i64 s, .int .i64 t, .int .i64 f, .int .i64 l, .int .i64 p]) 1).run Tryd.prog w = .ok (.int .i64 t) w := fun _ => by kernel_rfl
  have bx := Blk.new w 39 #[.int .i64 s, .int .i64 t, .int .i64 f, .int .i64 l, .int .i64 p, .int .i64 own, .int .i64 2, .int .i64 oc, .int .u64 ep, .int .i64 q, .int .u64 wd, .int .u64 ev, .int .i64 ju]
  have B0 := (Below.refl w.heap.size w).alloc (Nat.le_refl _) (.cells #[.int .i64 s, .int .i64 t, .int .i64 f, .int .i64 l, .int .i64 p, .int .i64 own, .int .i64 2, .int .i64 oc, .int .u64 ep, .int .i64 q, .int .u64 wd, .int .u64 ev, .int .i64 ju] 39)
  have bo := Blk.new (w.alloc (.cells #[.int .i64 s, .int .i64 t, .int .i64 f, .int .i64 l, .int .i64 p, .int .i64 own, .int .i64 2, .int .i64 oc, .int .u64 ep, .int .i64 q, .int .u64 wd, .int .u64 ev, .int .i64 ju] 39)) 39 #[.int .i64 0, .int .i64 0, .int .i64 0, .int .i64 0, .int .i64 0, .int .i64 0, .int .i64 0, .int .i64 0, .int .u64 0, .int .i64 0, .int .u64 0, .int .u64 0, .int .i64 0]
  replace B0 := B0.alloc B0.size (.cells #[.int .i64 0, .int .i64 0, .int .i64 0, .int .i64 0, .int .i64 0, .int .i64 0, .int .i64 0, .int .i64 0, .int .u64 0, .int .i64 0, .int .u64 0, .int .u64 0, .int .i64 0] 39)
  replace bx := bx.alloc (.cells #[.int .i64 0, .int .i64 0, .int .i64 0, .int .i64 0, .int .i64 0, .int .i64 0, .int .i64 0, .int .i64 0, .int .u64 0, .int .i64 0, .int .u64 0, .int .u64 0, .int .i64 0] 39)
  rw [World.size_alloc] at bo
  go_enter Tryd.func30, Tryd.ntmps30
  go_wp2_with fail
  refine (C.out _).mono ?_
  rintro e w9 ⟨rfl, hb1⟩
  replace bx := bx.below hb1 bx.lt
  replace bo := bo.below hb1 bo.lt
  replace B0 := B0.trans (hb1.mono B0.size)
  clear hb1
  have zx := fun i => bx.frozen i
  try clear mx lx
  try clear mo lo zo
  try clear my ly zy
  try have mx := fun i => bx.cell i
  try have lx := bx.lt
  try have mo := fun i => bo.cell i
  try have lo := bo.lt
  try have zo := fun i => bo.frozen i
  try have my := fun i => by_.cell i
  try have ly := by_.lt
  try have zy := fun i => by_.frozen i
  go_wp2_with fail
  have o9 := (bo.far (p := ⟨w.heap.size, 6, none⟩) (by show w.heap.size + 1 ≠ w.heap.size; omega) (.int .i64 5))
  have C9 := (B0.setCell (p := ⟨w.heap.size, 6, none⟩) (Nat.le_refl _) (.int .i64 5))
  have b9 := o9.put13 (.int .i64 s) (.int .i64 t) (.int .i64 f) (.int .i64 l) (.int .i64 p) (.int .i64 own) (.int .i64 5) (.int .i64 oc) (.int .u64 ep) (.int .i64 q) (.int .u64 wd) (.int .u64 ev) (.int .i64 ju)
  have B9 := below_put13 C9 (g := w.heap.size + 1) (by omega) (.int .i64 s) (.int .i64 t) (.int .i64 f) (.int .i64 l) (.int .i64 p) (.int .i64 own) (.int .i64 5) (.int .i64 oc) (.int .u64 ep) (.int .i64 q) (.int .u64 wd) (.int .u64 ev) (.int .i64 ju)
  have m9 := fun i => b9.cell i
  refine bodyPost_ret (v := .agg #[.int .i64 s, .int .i64 t, .int .i64 f, .int .i64 l, .int .i64 p, .int .i64 own, .int .i64 5, .int .i64 oc, .int .u64 ep, .int .i64 q, .int .u64 wd, .int .u64 ev, .int .i64 ju]) (by simp [results, Tryd.results30, go_sem, m9]) rfl ⟨rfl, by first | exact B9 | exact B9.drew⟩
set_option maxRecDepth 100000 in
set_option maxHeartbeats 2000000 in
theorem anext_ns (s t f l p own oc ep th wd ev ju k q : Int) (w : World) (h0 : (q == own) = false) (hb : q < t) :
    Calls Tryd.prog 30 #[.agg #[.int .i64 s, .int .i64 t, .int .i64 f, .int .i64 l, .int .i64 p, .int .i64 own, .int .i64 k, .int .i64 oc, .int .u64 ep, .int .i64 th, .int .u64 wd, .int .u64 ev, .int .i64 ju], .int .i64 q] w fun e w' => e = .returned (.agg #[.int .i64 s, .int .i64 t, .int .i64 f, .int .i64 l, .int .i64 p, .int .i64 own, .int .i64 2, .int .i64 oc, .int .u64 ep, .int .i64 q, .int .u64 wd, .int .u64 ev, .int .i64 ju]) ∧ Below w.heap.size w w' := by
  have C := hide (fun w2 => lconfig_any s t f l p w2)
  have hf1 : ∀ w : World, (Instr.field 23 (.agg #[.int .i64 s, .int .i64 t, .int .i64 f, .int .i64 l, .int .i64 p]) 1).run Tryd.prog w = .ok (.int .i64 t) w := fun _ => by kernel_rfl
  have hn : ¬ t ≤ q := by omega
  clear hb
  have bx := Blk.new w 39 #[.int .i64 s, .int .i64 t, .int .i64 f, .int .i64 l, .int .i64 p, .int .i64 own, .int .i64 2, .int .i64 oc, .int .u64 ep, .int .i64 q, .int .u64 wd, .int .u64 ev, .int .i64 ju]
  have B0 := (Below.refl w.heap.size w).alloc (Nat.le_refl _) (.cells #[.int .i64 s, .int .i64 t, .int .i64 f, .int .i64 l, .int .i64 p, .int .i64 own, .int .i64 2, .int .i64 oc, .int .u64 ep, .int .i64 q, .int .u64 wd, .int .u64 ev, .int .i64 ju] 39)
  have bo := Blk.new (w.alloc (.cells #[.int .i64 s, .int .i64 t, .int .i64 f, .int .i64 l, .int .i64 p, .int .i64 own, .int .i64 2, .int .i64 oc, .int .u64 ep, .int .i64 q, .int .u64 wd, .int .u64 ev, .int .i64 ju] 39)) 39 #[.int .i64 0, .int .i64 0, .int .i64 0, .int .i64 0, .int .i64 0, .int .i64 0, .int .i64 0, .int .i64 0, .int .u64 0, .int .i64 0, .int .u64 0, .int .u64 0, .int .i64 0]
  replace B0 := B0.alloc B0.size (.cells #[.int .i64 0, .int .i64 0, .int .i64 0, .int .i64 0, .int .i64 0, .int .i64 0, .int .i64 0, .int .i64 0, .int .u64 0, .int .i64 0, .int .u64 0, .int .u64 0, .int .i64 0] 39)
  replace bx := bx.alloc (.cells #[.int .i64 0, .int .i64 0, .int .i64 0, .int .i64 0, .int .i64 0, .int .i64 0, .int .i64 0, .int .i64 0, .int .u64 0, .int .i64 0, .int .u64 0, .int .u64 0, .int .i64 0] 39)
  rw [World.size_alloc] at bo
  go_enter Tryd.func30, Tryd.ntmps30
  go_wp2_with fail
  refine (C.out _).mono ?_
  rintro e w1 ⟨rfl, hb1⟩
  try replace bx := bx.below hb1 bx.lt
  try replace bo := bo.below hb1 bo.lt
  try replace by_ := by_.below hb1 by_.lt
  replace B0 := B0.trans (hb1.mono B0.size)
  clear hb1
  try clear mx lx
  try clear mo lo zo
  try clear my ly zy
  try have mx := fun i => bx.cell i
  try have lx := bx.lt
  try have mo := fun i => bo.cell i
  try have lo := bo.lt
  try have zo := fun i => bo.frozen i
  try have my := fun i => by_.cell i
  try have ly := by_.lt
  try have zy := fun i => by_.frozen i
  go_wp2_with fail
  have o9 := bo
  have C9 := B0
  have b9 := o9.put13 (.int .i64 s) (.int .i64 t) (.int .i64 f) (.int .i64 l) (.int .i64 p) (.int .i64 own) (.int .i64 2) (.int .i64 oc) (.int .u64 ep) (.int .i64 q) (.int .u64 wd) (.int .u64 ev) (.int .i64 ju)
  have B9 := below_put13 C9 (g := w.heap.size + 1) (by omega) (.int .i64 s) (.int .i64 t) (.int .i64 f) (.int .i64 l) (.int .i64 p) (.int .i64 own) (.int .i64 2) (.int .i64 oc) (.int .u64 ep) (.int .i64 q) (.int .u64 wd) (.int .u64 ev) (.int .i64 ju)
  have m9 := fun i => b9.cell i
  refine bodyPost_ret (v := .agg #[.int .i64 s, .int .i64 t, .int .i64 f, .int .i64 l, .int .i64 p, .int .i64 own, .int .i64 2, .int .i64 oc, .int .u64 ep, .int .i64 q, .int .u64 wd, .int .u64 ev, .int .i64 ju]) (by simp [results, Tryd.results30, go_sem, m9]) rfl ⟨rfl, by first | exact B9 | exact B9.drew⟩
theorem anext_any (s t f l p own oc ep th wd ev ju k q : Int) (w : World) (h0 : 0 ≤ q ∧ q ≤ 64) :
    Calls Tryd.prog 30 #[.agg #[.int .i64 s, .int .i64 t, .int .i64 f, .int .i64 l, .int .i64 p, .int .i64 own, .int .i64 k, .int .i64 oc, .int .u64 ep, .int .i64 th, .int .u64 wd, .int .u64 ev, .int .i64 ju], .int .i64 q] w fun e w' => e = .returned (.agg #[.int .i64 s, .int .i64 t, .int .i64 f, .int .i64 l, .int .i64 p, .int .i64 own, .int .i64 (aStep t (aThr own q)), .int .i64 oc, .int .u64 ep, .int .i64 (aThr own q), .int .u64 wd, .int .u64 ev, .int .i64 ju]) ∧ Below w.heap.size w w' := by
  by_cases h : q = own
  · subst h
    rw [show aThr q q = q + 1 by unfold aThr; rw [if_pos rfl]]
    by_cases hb : t ≤ q + 1
    · rw [show aStep t (q + 1) = 5 by unfold aStep; rw [if_pos hb]]
      exact anext_eb s t f l p oc ep th wd ev ju k q w h0 hb
    · rw [show aStep t (q + 1) = 2 by unfold aStep; rw [if_neg hb]]
      exact anext_es s t f l p oc ep th wd ev ju k q w h0 (by omega)
  · have hn : (q == own) = false := by simpa using h
    rw [show aThr own q = q by unfold aThr; rw [if_neg h]]
    by_cases hb : t ≤ q
    · rw [show aStep t q = 5 by unfold aStep; rw [if_pos hb]]
      exact anext_nb s t f l p own oc ep th wd ev ju k q w hn hb
    · rw [show aStep t q = 2 by unfold aStep; rw [if_neg hb]]
      exact anext_ns s t f l p own oc ep th wd ev ju k q w hn (by omega)
set_option maxRecDepth 100000 in
set_option maxHeartbeats 2000000 in
theorem adone_0 (s t f l p own oc ep th wd ev ju : Int) (w : World)  :
    Calls Tryd.prog 12 #[.agg #[.int .i64 s, .int .i64 t, .int .i64 f, .int .i64 l, .int .i64 p, .int .i64 own, .int .i64 0, .int .i64 oc, .int .u64 ep, .int .i64 th, .int .u64 wd, .int .u64 ev, .int .i64 ju]] w fun e w' => e = .returned (.tuple #[.int .i64 (max oc 1), .bool true]) ∧ Below w.heap.size w w' := by
  have bx := Blk.new w 39 #[.int .i64 s, .int .i64 t, .int .i64 f, .int .i64 l, .int .i64 p, .int .i64 own, .int .i64 0, .int .i64 oc, .int .u64 ep, .int .i64 th, .int .u64 wd, .int .u64 ev, .int .i64 ju]
  have B0 := (Below.refl w.heap.size w).alloc (Nat.le_refl _) (.cells #[.int .i64 s, .int .i64 t, .int .i64 f, .int .i64 l, .int .i64 p, .int .i64 own, .int .i64 0, .int .i64 oc, .int .u64 ep, .int .i64 th, .int .u64 wd, .int .u64 ev, .int .i64 ju] 39)
  go_enter Tryd.func12, Tryd.ntmps12
  go_wp2_with fail
  go_ret2
  exact ⟨rfl, B0⟩
set_option maxRecDepth 100000 in
set_option maxHeartbeats 2000000 in
theorem adone_n (s t f l p own oc ep th wd ev ju k : Int) (w : World) (hk : (k == 0) = false) :
    Calls Tryd.prog 12 #[.agg #[.int .i64 s, .int .i64 t, .int .i64 f, .int .i64 l, .int .i64 p, .int .i64 own, .int .i64 k, .int .i64 oc, .int .u64 ep, .int .i64 th, .int .u64 wd, .int .u64 ev, .int .i64 ju]] w fun e w' => e = .returned (.tuple #[.int .i64 0, .bool false]) ∧ Below w.heap.size w w' := by
  have q : (k != 0) = true := by rw [bne, hk]; rfl
  have bx := Blk.new w 39 #[.int .i64 s, .int .i64 t, .int .i64 f, .int .i64 l, .int .i64 p, .int .i64 own, .int .i64 k, .int .i64 oc, .int .u64 ep, .int .i64 th, .int .u64 wd, .int .u64 ev, .int .i64 ju]
  have B0 := (Below.refl w.heap.size w).alloc (Nat.le_refl _) (.cells #[.int .i64 s, .int .i64 t, .int .i64 f, .int .i64 l, .int .i64 p, .int .i64 own, .int .i64 k, .int .i64 oc, .int .u64 ep, .int .i64 th, .int .u64 wd, .int .u64 ev, .int .i64 ju] 39)
  go_enter Tryd.func12, Tryd.ntmps12
  go_wp2_with fail
  go_ret2
  exact ⟨rfl, B0⟩
set_option maxRecDepth 100000 in
set_option maxHeartbeats 2000000 in
theorem ajust_any (s t f l p own oc ep th wd ev ju k : Int) (w : World) (hj : 0 ≤ ju ∧ ju ≤ 64) :
    Calls Tryd.prog 20 #[.agg #[.int .i64 s, .int .i64 t, .int .i64 f, .int .i64 l, .int .i64 p, .int .i64 own, .int .i64 k, .int .i64 oc, .int .u64 ep, .int .i64 th, .int .u64 wd, .int .u64 ev, .int .i64 ju]] w fun e w' => e = .returned (.int .i64 (ju - 1)) ∧ Below w.heap.size w w' := by
  obtain ⟨j0, j1⟩ := hj
  have bx := Blk.new w 39 #[.int .i64 s, .int .i64 t, .int .i64 f, .int .i64 l, .int .i64 p, .int .i64 own, .int .i64 k, .int .i64 oc, .int .u64 ep, .int .i64 th, .int .u64 wd, .int .u64 ev, .int .i64 ju]
  have B0 := (Below.refl w.heap.size w).alloc (Nat.le_refl _) (.cells #[.int .i64 s, .int .i64 t, .int .i64 f, .int .i64 l, .int .i64 p, .int .i64 own, .int .i64 k, .int .i64 oc, .int .u64 ep, .int .i64 th, .int .u64 wd, .int .u64 ev, .int .i64 ju] 39)
  go_enter Tryd.func20, Tryd.ntmps20
  go_wp2_with fail
  go_ret
  exact ⟨rfl, B0⟩
end Go.Proofs.YtgcdmgpcfdfomaaDoor
