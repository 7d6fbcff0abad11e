/-
  What Pop and Push have in common; a Pop told what it is told.
-/
import Derived.Test.YtokcbipmocpllaaDoorA3
import Derived.Deep.RegionHeld3
import Derived.Deep.RegionWith
import Derived.Laws.StructEq
import Derived.WalkKit
import Derived.Maps.Own
import Derived.Maps.OwnOps
import Derived.Maps.Views
namespace Go.Proofs.YtokcbipmocpllaaDoor
open Go.RowKit
attribute [local go_sem] past_cell past_cell_add

set_option maxHeartbeats 1000000 in
theorem headAt_any (s t f l p sl hd tr k : Int) (w : World) (hs : 1 ≤ s ∧ s ≤ 1000) (ht : 1 ≤ t ∧ t ≤ 64) (hf : 4 ≤ f ∧ f ≤ 64) :
    Calls Tryd.prog 81 #[.agg #[.int .i64 s, .int .i64 t, .int .i64 f, .int .i64 l, .int .i64 p, .int .i64 k, .int .i64 sl, .int .u64 hd, .int .i64 tr]] w fun e w' => e = .returned (.int .i64 2) ∧ Below w.heap.size w w' := by
  have C := hide (fun w2 => at_any s t f l p 3 0 0 w2 hs ht hf)
  rw [atp_first (k := 3) (by omega), show (3 : Int) - 1 = 2 from rfl] at C
  have bx := Blk.new w 47 #[.int .i64 s, .int .i64 t, .int .i64 f, .int .i64 l, .int .i64 p, .int .i64 k, .int .i64 sl, .int .u64 hd, .int .i64 tr]
  have B0 := (Below.refl w.heap.size w).alloc (Nat.le_refl _) (.cells #[.int .i64 s, .int .i64 t, .int .i64 f, .int .i64 l, .int .i64 p, .int .i64 k, .int .i64 sl, .int .u64 hd, .int .i64 tr] 47)
  go_enter Tryd.func81, Tryd.ntmps81
  go_wp2_with fail
  refine (C.out _).mono ?_
  rintro e w1 ⟨rfl, hb1⟩
  try replace bx := bx.below hb1 bx.lt
  try replace bo := bo.below hb1 bo.lt
  try replace by_ := by_.below hb1 by_.lt
  replace B0 := B0.trans (hb1.mono B0.size)
  clear hb1
  try clear mx lx
  try clear mo lo zo
  try clear my ly zy
  try have mx := fun i => bx.cell i
  try have lx := bx.lt
  try have mo := fun i => bo.cell i
  try have lo := bo.lt
  try have zo := fun i => bo.frozen i
  try have my := fun i => by_.cell i
  try have ly := by_.lt
  try have zy := fun i => by_.frozen i
  go_wp2_with fail
  go_ret
  exact ⟨rfl, B0⟩
set_option maxRecDepth 100000 in
set_option maxHeartbeats 1000000 in
theorem bwithin_t (s t f l p sl hd tr k n : Int) (w : World) (h0 : 1 ≤ n) (h1 : n ≤ s) :
    Calls Tryd.prog 94 #[.agg #[.int .i64 s, .int .i64 t, .int .i64 f, .int .i64 l, .int .i64 p, .int .i64 k, .int .i64 sl, .int .u64 hd, .int .i64 tr], .int .i64 n] w fun e w' => e = .returned (.bool true) ∧ Below w.heap.size w w' := by
  have C := hide (fun w2 => lconfig_any s t f l p w2)
  have hf : ∀ w : World, (Instr.field 36 (.agg #[.int .i64 s, .int .i64 t, .int .i64 f, .int .i64 l, .int .i64 p]) 0).run Tryd.prog w = .ok (.int .i64 s) w := fun _ => by kernel_rfl
  skip
  skip
  have bx := Blk.new w 47 #[.int .i64 s, .int .i64 t, .int .i64 f, .int .i64 l, .int .i64 p, .int .i64 k, .int .i64 sl, .int .u64 hd, .int .i64 tr]
  have B0 := (Below.refl w.heap.size w).alloc (Nat.le_refl _) (.cells #[.int .i64 s, .int .i64 t, .int .i64 f, .int .i64 l, .int .i64 p, .int .i64 k, .int .i64 sl, .int .u64 hd, .int .i64 tr] 47)
  go_enter Tryd.func94, Tryd.ntmps94
  go_wp2_with fail
  refine (C.out _).mono ?_
  rintro e w1 ⟨rfl, hb1⟩
  try replace bx := bx.below hb1 bx.lt
  try replace bo := bo.below hb1 bo.lt
  try replace by_ := by_.below hb1 by_.lt
  replace B0 := B0.trans (hb1.mono B0.size)
  clear hb1
  try clear mx lx
  try clear mo lo zo
  try clear my ly zy
  try have mx := fun i => bx.cell i
  try have lx := bx.lt
  try have mo := fun i => bo.cell i
  try have lo := bo.lt
  try have zo := fun i => bo.frozen i
  try have my := fun i => by_.cell i
  try have ly := by_.lt
  try have zy := fun i => by_.frozen i
  go_wp2_with fail
  go_ret
  exact ⟨by first | rfl | simp [h2], B0⟩
set_option maxRecDepth 100000 in
set_option maxHeartbeats 1000000 in
theorem bwithin_f1 (s t f l p sl hd tr k n : Int) (w : World) (h0 : n < 1) :
    Calls Tryd.prog 94 #[.agg #[.int .i64 s, .int .i64 t, .int .i64 f, .int .i64 l, .int .i64 p, .int .i64 k, .int .i64 sl, .int .u64 hd, .int .i64 tr], .int .i64 n] w fun e w' => e = .returned (.bool false) ∧ Below w.heap.size w w' := by

  skip
  have h2 : ¬ 1 ≤ n := by omega
  have bx := Blk.new w 47 #[.int .i64 s, .int .i64 t, .int .i64 f, .int .i64 l, .int .i64 p, .int .i64 k, .int .i64 sl, .int .u64 hd, .int .i64 tr]
  have B0 := (Below.refl w.heap.size w).alloc (Nat.le_refl _) (.cells #[.int .i64 s, .int .i64 t, .int .i64 f, .int .i64 l, .int .i64 p, .int .i64 k, .int .i64 sl, .int .u64 hd, .int .i64 tr] 47)
  go_enter Tryd.func94, Tryd.ntmps94
  go_wp2_with fail

  go_ret
  exact ⟨by first | rfl | simp [h2], B0⟩
set_option maxRecDepth 100000 in
set_option maxHeartbeats 1000000 in
theorem bwithin_f2 (s t f l p sl hd tr k n : Int) (w : World) (h0 : 1 ≤ n) (h1 : s < n) :
    Calls Tryd.prog 94 #[.agg #[.int .i64 s, .int .i64 t, .int .i64 f, .int .i64 l, .int .i64 p, .int .i64 k, .int .i64 sl, .int .u64 hd, .int .i64 tr], .int .i64 n] w fun e w' => e = .returned (.bool false) ∧ Below w.heap.size w w' := by
  have C := hide (fun w2 => lconfig_any s t f l p w2)
  have hf : ∀ w : World, (Instr.field 36 (.agg #[.int .i64 s, .int .i64 t, .int .i64 f, .int .i64 l, .int .i64 p]) 0).run Tryd.prog w = .ok (.int .i64 s) w := fun _ => by kernel_rfl
  have h2 : ¬ n ≤ s := by omega
  skip
  have bx := Blk.new w 47 #[.int .i64 s, .int .i64 t, .int .i64 f, .int .i64 l, .int .i64 p, .int .i64 k, .int .i64 sl, .int .u64 hd, .int .i64 tr]
  have B0 := (Below.refl w.heap.size w).alloc (Nat.le_refl _) (.cells #[.int .i64 s, .int .i64 t, .int .i64 f, .int .i64 l, .int .i64 p, .int .i64 k, .int .i64 sl, .int .u64 hd, .int .i64 tr] 47)
  go_enter Tryd.func94, Tryd.ntmps94
  go_wp2_with fail
  refine (C.out _).mono ?_
  rintro e w1 ⟨rfl, hb1⟩
  try replace bx := bx.below hb1 bx.lt
  try replace bo := bo.below hb1 bo.lt
  try replace by_ := by_.below hb1 by_.lt
  replace B0 := B0.trans (hb1.mono B0.size)
  clear hb1
  try clear mx lx
  try clear mo lo zo
  try clear my ly zy
  try have mx := fun i => bx.cell i
  try have lx := bx.lt
  try have mo := fun i => bo.cell i
  try have lo := bo.lt
  try have zo := fun i => bo.frozen i
  try have my := fun i => by_.cell i
  try have ly := by_.lt
  try have zy := fun i => by_.frozen i
  go_wp2_with fail
  go_ret
  exact ⟨by first | rfl | simp [h2], B0⟩
set_option maxHeartbeats 1000000 in
theorem sload_any (a : Int) (w : World) :
    Calls Tryd.prog 80 #[.int .i64 a] w fun e w' => e = .returned (.agg #[.int .i64 1, .int .i64 a, .int .u64 0, .int .u64 0]) ∧ Below w.heap.size w w' := by
  go_enter Tryd.func80, Tryd.ntmps80
  go_wp2_with fail
  refine bodyPost_ret (v := .agg #[.int .i64 1, .int .i64 a, .int .u64 0, .int .u64 0]) (by simp [results, Tryd.results80, go_sem]) rfl ⟨rfl, ?_⟩
  repeat (first | exact Below.refl _ _ | exact B0 | (refine Below.setCell ?_ (by first | (show w.heap.size ≤ w.heap.size; omega) | (show w.heap.size ≤ w.heap.size + 1; omega) | (show w.heap.size ≤ w.heap.size + 2; omega) | (show w.heap.size ≤ _; simp)) _) | (refine Below.alloc ?_ (by first | exact Nat.le_refl _ | (simp <;> omega)) _))
set_option maxHeartbeats 2000000 in
theorem swap_any (s t f l p sl hd tr k tt : Int) (w : World) (hs : 1 ≤ s ∧ s ≤ 1000) (ht : 1 ≤ t ∧ t ≤ 64) (hf : 4 ≤ f ∧ f ≤ 64) (hh : W64 hd) (hto : I64 tt) :
    Calls Tryd.prog 79 #[.agg #[.int .i64 s, .int .i64 t, .int .i64 f, .int .i64 l, .int .i64 p, .int .i64 k, .int .i64 sl, .int .u64 hd, .int .i64 tr], .int .i64 tt] w fun e w' => e = .returned (.agg #[.int .i64 3, .int .i64 2, .int .u64 hd, .int .u64 (hturn hd tt)]) ∧ Below w.heap.size w w' := by
  have C := hide (fun w2 => headAt_any s t f l p sl hd tr k w2 hs ht hf)
  have M := hide (fun w2 => hturn_any hd tt w2 hh hto)
  generalize hturn hd tt = y at *
  have bx := Blk.new w 47 #[.int .i64 s, .int .i64 t, .int .i64 f, .int .i64 l, .int .i64 p, .int .i64 k, .int .i64 sl, .int .u64 hd, .int .i64 tr]
  have B0 := (Below.refl w.heap.size w).alloc (Nat.le_refl _) (.cells #[.int .i64 s, .int .i64 t, .int .i64 f, .int .i64 l, .int .i64 p, .int .i64 k, .int .i64 sl, .int .u64 hd, .int .i64 tr] 47)
  have bo := Blk.new (w.alloc (.cells #[.int .i64 s, .int .i64 t, .int .i64 f, .int .i64 l, .int .i64 p, .int .i64 k, .int .i64 sl, .int .u64 hd, .int .i64 tr] 47)) 57 #[.int .i64 0, .int .i64 0, .int .u64 0, .int .u64 0]
  replace B0 := B0.alloc B0.size (.cells #[.int .i64 0, .int .i64 0, .int .u64 0, .int .u64 0] 57)
  replace bx := bx.alloc (.cells #[.int .i64 0, .int .i64 0, .int .u64 0, .int .u64 0] 57)
  rw [World.size_alloc] at bo
  go_enter Tryd.func79, Tryd.ntmps79
  go_wp2_with fail
  generalize (w.alloc (.cells #[.int .i64 s, .int .i64 t, .int .i64 f, .int .i64 l, .int .i64 p, .int .i64 k, .int .i64 sl, .int .u64 hd, .int .i64 tr] 47)).alloc (.cells #[.int .i64 0, .int .i64 0, .int .u64 0, .int .u64 0] 57) = w0 at *
  have bd := bx.drewN 1
  have od := bo.drewN 1
  have Bd := below_drewN B0 1
  try clear mx lx
  try clear mo lo zo
  try clear my ly zy
  try have mx := fun i => bx.cell i
  try have lx := bx.lt
  try have mo := fun i => bo.cell i
  try have lo := bo.lt
  try have zo := fun i => bo.frozen i
  try have my := fun i => by_.cell i
  try have ly := by_.lt
  try have zy := fun i => by_.frozen i
  go_region_held3 (fun w' => w'.cell? ⟨w.heap.size, 0, none⟩ = some (.int .i64 s) ∧ w'.cell? ⟨w.heap.size, 1, none⟩ = some (.int .i64 t) ∧ w'.cell? ⟨w.heap.size, 2, none⟩ = some (.int .i64 f) ∧ w'.cell? ⟨w.heap.size, 3, none⟩ = some (.int .i64 l) ∧ w'.cell? ⟨w.heap.size, 4, none⟩ = some (.int .i64 p) ∧ w'.cell? ⟨w.heap.size, 5, none⟩ = some (.int .i64 k) ∧ w'.cell? ⟨w.heap.size, 6, none⟩ = some (.int .i64 sl) ∧ w'.cell? ⟨w.heap.size, 7, none⟩ = some (.int .u64 hd) ∧ w'.cell? ⟨w.heap.size, 8, none⟩ = some (.int .i64 tr)) (go_keep) ((first | (go_at_call 81; refine (C.out _).mono ?_; rintro e w1 ⟨rfl, hb1⟩; have bd := bd.below hb1 bd.lt; have od := od.below hb1 od.lt; have Bd := Bd.trans (hb1.mono Bd.size); have md := fun i => bd.cell i; have nd := fun i => od.cell i; have zd := fun i => od.frozen i; have ld := bd.lt; have kd := od.lt) | (go_at_call 95; refine (M.out _).mono ?_; rintro e w1 ⟨rfl, hb1⟩; have bd := bd.below hb1 bd.lt; have od := od.below hb1 od.lt; have Bd := Bd.trans (hb1.mono Bd.size); have md := fun i => bd.cell i; have nd := fun i => od.cell i; have zd := fun i => od.frozen i; have ld := bd.lt; have kd := od.lt)))
  all_goals
    go_wp2_with fail
    have b9 := od.put4 (.int .i64 3) (.int .i64 2) (.int .u64 hd) (.int .u64 y)
    have B9 := below_put4 Bd (g := w.heap.size + 1) (by omega) (.int .i64 3) (.int .i64 2) (.int .u64 hd) (.int .u64 y)
    have m9 := fun i => b9.cell i
    refine bodyPost_ret (v := .agg #[.int .i64 3, .int .i64 2, .int .u64 hd, .int .u64 y]) (by simp [results, Tryd.results79, go_sem, m9]) rfl ⟨rfl, B9⟩
set_option maxRecDepth 100000 in
set_option maxHeartbeats 1000000 in
theorem swapped_1 (s t f l p sl hd tr k : Int) (w : World)  :
    Calls Tryd.prog 70 #[.agg #[.int .i64 s, .int .i64 t, .int .i64 f, .int .i64 l, .int .i64 p, .int .i64 k, .int .i64 sl, .int .u64 hd, .int .i64 tr], .int .u64 1] w fun e w' => e = .returned (.agg #[.int .i64 s, .int .i64 t, .int .i64 f, .int .i64 l, .int .i64 p, .int .i64 0, .int .i64 sl, .int .u64 hd, .int .i64 tr]) ∧ Below w.heap.size w w' := by
  go_enter Tryd.func70, Tryd.ntmps70
  go_wp2_with fail
  refine bodyPost_ret (v := .agg #[.int .i64 s, .int .i64 t, .int .i64 f, .int .i64 l, .int .i64 p, .int .i64 0, .int .i64 sl, .int .u64 hd, .int .i64 tr]) (by simp [results, Tryd.results70, go_sem]) rfl ⟨rfl, ?_⟩
  repeat (first | exact Below.refl _ _ | exact B0 | (refine Below.setCell ?_ (by first | (show w.heap.size ≤ w.heap.size; omega) | (show w.heap.size ≤ w.heap.size + 1; omega) | (show w.heap.size ≤ w.heap.size + 2; omega) | (show w.heap.size ≤ _; simp)) _) | (refine Below.alloc ?_ (by first | exact Nat.le_refl _ | (simp <;> omega)) _))
set_option maxRecDepth 100000 in
set_option maxHeartbeats 1000000 in
theorem swapped_n (s t f l p sl hd tr k g : Int) (w : World) (hg : (g == 1) = false) :
    Calls Tryd.prog 70 #[.agg #[.int .i64 s, .int .i64 t, .int .i64 f, .int .i64 l, .int .i64 p, .int .i64 k, .int .i64 sl, .int .u64 hd, .int .i64 tr], .int .u64 g] w fun e w' => e = .returned (.agg #[.int .i64 s, .int .i64 t, .int .i64 f, .int .i64 l, .int .i64 p, .int .i64 1, .int .i64 sl, .int .u64 hd, .int .i64 (wrap64 (tr + 1))]) ∧ Below w.heap.size w w' := by
  go_enter Tryd.func70, Tryd.ntmps70
  go_wp2_with fail
  refine bodyPost_ret (v := .agg #[.int .i64 s, .int .i64 t, .int .i64 f, .int .i64 l, .int .i64 p, .int .i64 1, .int .i64 sl, .int .u64 hd, .int .i64 (wrap64 (tr + 1))]) (by simp [results, Tryd.results70, go_sem]) rfl ⟨rfl, ?_⟩
  repeat (first | exact Below.refl _ _ | exact B0 | (refine Below.setCell ?_ (by first | (show w.heap.size ≤ w.heap.size; omega) | (show w.heap.size ≤ w.heap.size + 1; omega) | (show w.heap.size ≤ w.heap.size + 2; omega) | (show w.heap.size ≤ _; simp)) _) | (refine Below.alloc ?_ (by first | exact Nat.le_refl _ | (simp <;> omega)) _))
end Go.Proofs.YtokcbipmocpllaaDoor

/-
  A Push: what it becomes of what it is told.
-/
namespace Go.Proofs.YtokcbipmocpllaaDoor
open Go.RowKit
attribute [local go_sem] past_cell past_cell_add

set_option maxRecDepth 100000 in
set_option maxHeartbeats 2000000 in
theorem pstook_0 (s t f l p sl hd tr g : Int) (w : World) :
    Calls Tryd.prog 48 #[.agg #[.int .i64 s, .int .i64 t, .int .i64 f, .int .i64 l, .int .i64 p, .int .i64 0, .int .i64 sl, .int .u64 hd, .int .i64 tr], .int .u64 g] w fun e w' => e = .returned (.agg #[.int .i64 s, .int .i64 t, .int .i64 f, .int .i64 l, .int .i64 p, .int .i64 0, .int .i64 sl, .int .u64 hd, .int .i64 tr]) ∧ Below w.heap.size w w' := by
  go_enter Tryd.func48, Tryd.ntmps48
  go_wp2_with fail
  refine bodyPost_ret (v := .agg #[.int .i64 s, .int .i64 t, .int .i64 f, .int .i64 l, .int .i64 p, .int .i64 0, .int .i64 sl, .int .u64 hd, .int .i64 tr]) (by simp [results, Tryd.results48, go_sem]) rfl ⟨rfl, ?_⟩
  repeat (first | exact Below.refl _ _ | exact B0 | (refine Below.setCell ?_ (by first | (show w.heap.size ≤ w.heap.size; omega) | (show w.heap.size ≤ w.heap.size + 1; omega) | (show w.heap.size ≤ w.heap.size + 2; omega) | (show w.heap.size ≤ _; simp)) _) | (refine Below.alloc ?_ (by first | exact Nat.le_refl _ | (simp <;> omega)) _))
set_option maxRecDepth 100000 in
set_option maxHeartbeats 2000000 in
theorem pstook_1 (s t f l p sl hd tr g : Int) (w : World) :
    Calls Tryd.prog 48 #[.agg #[.int .i64 s, .int .i64 t, .int .i64 f, .int .i64 l, .int .i64 p, .int .i64 1, .int .i64 sl, .int .u64 hd, .int .i64 tr], .int .u64 g] w fun e w' => e = .returned (.agg #[.int .i64 s, .int .i64 t, .int .i64 f, .int .i64 l, .int .i64 p, .int .i64 2, .int .i64 sl, .int .u64 g, .int .i64 tr]) ∧ Below w.heap.size w w' := by
  go_enter Tryd.func48, Tryd.ntmps48
  go_wp2_with fail
  refine bodyPost_ret (v := .agg #[.int .i64 s, .int .i64 t, .int .i64 f, .int .i64 l, .int .i64 p, .int .i64 2, .int .i64 sl, .int .u64 g, .int .i64 tr]) (by simp [results, Tryd.results48, go_sem]) rfl ⟨rfl, ?_⟩
  repeat (first | exact Below.refl _ _ | exact B0 | (refine Below.setCell ?_ (by first | (show w.heap.size ≤ w.heap.size; omega) | (show w.heap.size ≤ w.heap.size + 1; omega) | (show w.heap.size ≤ w.heap.size + 2; omega) | (show w.heap.size ≤ _; simp)) _) | (refine Below.alloc ?_ (by first | exact Nat.le_refl _ | (simp <;> omega)) _))
set_option maxRecDepth 100000 in
set_option maxHeartbeats 2000000 in
theorem pstook_2 (s t f l p sl hd tr g : Int) (w : World) :
    Calls Tryd.prog 48 #[.agg #[.int .i64 s, .int .i64 t, .int .i64 f, .int .i64 l, .int .i64 p, .int .i64 2, .int .i64 sl, .int .u64 hd, .int .i64 tr], .int .u64 g] w fun e w' => e = .returned (.agg #[.int .i64 s, .int .i64 t, .int .i64 f, .int .i64 l, .int .i64 p, .int .i64 3, .int .i64 sl, .int .u64 hd, .int .i64 tr]) ∧ Below w.heap.size w w' := by
  go_enter Tryd.func48, Tryd.ntmps48
  go_wp2_with fail
  refine bodyPost_ret (v := .agg #[.int .i64 s, .int .i64 t, .int .i64 f, .int .i64 l, .int .i64 p, .int .i64 3, .int .i64 sl, .int .u64 hd, .int .i64 tr]) (by simp [results, Tryd.results48, go_sem]) rfl ⟨rfl, ?_⟩
  repeat (first | exact Below.refl _ _ | exact B0 | (refine Below.setCell ?_ (by first | (show w.heap.size ≤ w.heap.size; omega) | (show w.heap.size ≤ w.heap.size + 1; omega) | (show w.heap.size ≤ w.heap.size + 2; omega) | (show w.heap.size ≤ _; simp)) _) | (refine Below.alloc ?_ (by first | exact Nat.le_refl _ | (simp <;> omega)) _))
set_option maxRecDepth 100000 in
set_option maxHeartbeats 2000000 in
theorem pstook_3y (s t f l p sl hd tr : Int) (w : World)  :
    Calls Tryd.prog 48 #[.agg #[.int .i64 s, .int .i64 t, .int .i64 f, .int .i64 l, .int .i64 p, .int .i64 3, .int .i64 sl, .int .u64 hd, .int .i64 tr], .int .u64 1] w fun e w' => e = .returned (.agg #[.int .i64 s, .int .i64 t, .int .i64 f, .int .i64 l, .int .i64 p, .int .i64 0, .int .i64 sl, .int .u64 hd, .int .i64 tr]) ∧ Below w.heap.size w w' := by
  have C := hide (fun w2 => swapped_1 s t f l p sl hd tr 3 w2)

  have bx := Blk.new w 49 #[.int .i64 s, .int .i64 t, .int .i64 f, .int .i64 l, .int .i64 p, .int .i64 3, .int .i64 sl, .int .u64 hd, .int .i64 tr]
  have B0 := (Below.refl w.heap.size w).alloc (Nat.le_refl _) (.cells #[.int .i64 s, .int .i64 t, .int .i64 f, .int .i64 l, .int .i64 p, .int .i64 3, .int .i64 sl, .int .u64 hd, .int .i64 tr] 49)
  have bo := Blk.new (w.alloc (.cells #[.int .i64 s, .int .i64 t, .int .i64 f, .int .i64 l, .int .i64 p, .int .i64 3, .int .i64 sl, .int .u64 hd, .int .i64 tr] 49)) 49 #[.int .i64 0, .int .i64 0, .int .i64 0, .int .i64 0, .int .i64 0, .int .i64 0, .int .i64 0, .int .u64 0, .int .i64 0]
  replace B0 := B0.alloc B0.size (.cells #[.int .i64 0, .int .i64 0, .int .i64 0, .int .i64 0, .int .i64 0, .int .i64 0, .int .i64 0, .int .u64 0, .int .i64 0] 49)
  replace bx := bx.alloc (.cells #[.int .i64 0, .int .i64 0, .int .i64 0, .int .i64 0, .int .i64 0, .int .i64 0, .int .i64 0, .int .u64 0, .int .i64 0] 49)
  rw [World.size_alloc] at bo
  go_enter Tryd.func48, Tryd.ntmps48
  go_wp2_with fail
  refine (C.out _).mono ?_
  rintro e w1 ⟨rfl, hb1⟩
  replace bx := bx.below hb1 bx.lt
  replace bo := bo.below hb1 bo.lt
  replace B0 := B0.trans (hb1.mono B0.size)
  clear hb1
  have zx := fun i => bx.frozen i
  try clear mx lx
  try clear mo lo zo
  try clear my ly zy
  try have mx := fun i => bx.cell i
  try have lx := bx.lt
  try have mo := fun i => bo.cell i
  try have lo := bo.lt
  try have zo := fun i => bo.frozen i
  try have my := fun i => by_.cell i
  try have ly := by_.lt
  try have zy := fun i => by_.frozen i
  go_wp2_with fail
  have o9 := (((((((((bo.far (p := ⟨w.heap.size, 0, none⟩) (by show w.heap.size + 1 ≠ w.heap.size; omega) (.int .i64 s)).far (p := ⟨w.heap.size, 1, none⟩) (by show w.heap.size + 1 ≠ w.heap.size; omega) (.int .i64 t)).far (p := ⟨w.heap.size, 2, none⟩) (by show w.heap.size + 1 ≠ w.heap.size; omega) (.int .i64 f)).far (p := ⟨w.heap.size, 3, none⟩) (by show w.heap.size + 1 ≠ w.heap.size; omega) (.int .i64 l)).far (p := ⟨w.heap.size, 4, none⟩) (by show w.heap.size + 1 ≠ w.heap.size; omega) (.int .i64 p)).far (p := ⟨w.heap.size, 5, none⟩) (by show w.heap.size + 1 ≠ w.heap.size; omega) (.int .i64 0)).far (p := ⟨w.heap.size, 6, none⟩) (by show w.heap.size + 1 ≠ w.heap.size; omega) (.int .i64 sl)).far (p := ⟨w.heap.size, 7, none⟩) (by show w.heap.size + 1 ≠ w.heap.size; omega) (.int .u64 hd)).far (p := ⟨w.heap.size, 8, none⟩) (by show w.heap.size + 1 ≠ w.heap.size; omega) (.int .i64 tr))
  have C9 := below_put9 B0 (g := w.heap.size) (Nat.le_refl _) (.int .i64 s) (.int .i64 t) (.int .i64 f) (.int .i64 l) (.int .i64 p) (.int .i64 0) (.int .i64 sl) (.int .u64 hd) (.int .i64 tr)
  have b9 := o9.put9 (.int .i64 s) (.int .i64 t) (.int .i64 f) (.int .i64 l) (.int .i64 p) (.int .i64 0) (.int .i64 sl) (.int .u64 hd) (.int .i64 tr)
  have B9 := below_put9 C9 (g := w.heap.size + 1) (by omega) (.int .i64 s) (.int .i64 t) (.int .i64 f) (.int .i64 l) (.int .i64 p) (.int .i64 0) (.int .i64 sl) (.int .u64 hd) (.int .i64 tr)
  have m9 := fun i => b9.cell i
  refine bodyPost_ret (v := .agg #[.int .i64 s, .int .i64 t, .int .i64 f, .int .i64 l, .int .i64 p, .int .i64 0, .int .i64 sl, .int .u64 hd, .int .i64 tr]) (by simp [results, Tryd.results48, go_sem, m9]) rfl ⟨rfl, B9⟩
set_option maxRecDepth 100000 in
set_option maxHeartbeats 2000000 in
theorem pstook_3n (s t f l p sl hd tr g : Int) (w : World) (hg : (g == 1) = false) :
    Calls Tryd.prog 48 #[.agg #[.int .i64 s, .int .i64 t, .int .i64 f, .int .i64 l, .int .i64 p, .int .i64 3, .int .i64 sl, .int .u64 hd, .int .i64 tr], .int .u64 g] w fun e w' => e = .returned (.agg #[.int .i64 s, .int .i64 t, .int .i64 f, .int .i64 l, .int .i64 p, .int .i64 1, .int .i64 sl, .int .u64 hd, .int .i64 (wrap64 (tr + 1))]) ∧ Below w.heap.size w w' := by
  have C := hide (fun w2 => swapped_n s t f l p sl hd tr 3 g w2 hg)
  generalize wrap64 (tr + 1) = tr2 at *
  have bx := Blk.new w 49 #[.int .i64 s, .int .i64 t, .int .i64 f, .int .i64 l, .int .i64 p, .int .i64 3, .int .i64 sl, .int .u64 hd, .int .i64 tr]
  have B0 := (Below.refl w.heap.size w).alloc (Nat.le_refl _) (.cells #[.int .i64 s, .int .i64 t, .int .i64 f, .int .i64 l, .int .i64 p, .int .i64 3, .int .i64 sl, .int .u64 hd, .int .i64 tr] 49)
  have bo := Blk.new (w.alloc (.cells #[.int .i64 s, .int .i64 t, .int .i64 f, .int .i64 l, .int .i64 p, .int .i64 3, .int .i64 sl, .int .u64 hd, .int .i64 tr] 49)) 49 #[.int .i64 0, .int .i64 0, .int .i64 0, .int .i64 0, .int .i64 0, .int .i64 0, .int .i64 0, .int .u64 0, .int .i64 0]
  replace B0 := B0.alloc B0.size (.cells #[.int .i64 0, .int .i64 0, .int .i64 0, .int .i64 0, .int .i64 0, .int .i64 0, .int .i64 0, .int .u64 0, .int .i64 0] 49)
  replace bx := bx.alloc (.cells #[.int .i64 0, .int .i64 0, .int .i64 0, .int .i64 0, .int .i64 0, .int .i64 0, .int .i64 0, .int .u64 0, .int .i64 0] 49)
  rw [World.size_alloc] at bo
  go_enter Tryd.func48, Tryd.ntmps48
  go_wp2_with fail
  refine (C.out _).mono ?_
  rintro e w1 ⟨rfl, hb1⟩
  replace bx := bx.below hb1 bx.lt
  replace bo := bo.below hb1 bo.lt
  replace B0 := B0.trans (hb1.mono B0.size)
  clear hb1
  have zx := fun i => bx.frozen i
  try clear mx lx
  try clear mo lo zo
  try clear my ly zy
  try have mx := fun i => bx.cell i
  try have lx := bx.lt
  try have mo := fun i => bo.cell i
  try have lo := bo.lt
  try have zo := fun i => bo.frozen i
  try have my := fun i => by_.cell i
  try have ly := by_.lt
  try have zy := fun i => by_.frozen i
  go_wp2_with fail
  have o9 := (((((((((bo.far (p := ⟨w.heap.size, 0, none⟩) (by show w.heap.size + 1 ≠ w.heap.size; omega) (.int .i64 s)).far (p := ⟨w.heap.size, 1, none⟩) (by show w.heap.size + 1 ≠ w.heap.size; omega) (.int .i64 t)).far (p := ⟨w.heap.size, 2, none⟩) (by show w.heap.size + 1 ≠ w.heap.size; omega) (.int .i64 f)).far (p := ⟨w.heap.size, 3, none⟩) (by show w.heap.size + 1 ≠ w.heap.size; omega) (.int .i64 l)).far (p := ⟨w.heap.size, 4, none⟩) (by show w.heap.size + 1 ≠ w.heap.size; omega) (.int .i64 p)).far (p := ⟨w.heap.size, 5, none⟩) (by show w.heap.size + 1 ≠ w.heap.size; omega) (.int .i64 1)).far (p := ⟨w.heap.size, 6, none⟩) (by show w.heap.size + 1 ≠ w.heap.size; omega) (.int .i64 sl)).far (p := ⟨w.heap.size, 7, none⟩) (by show w.heap.size + 1 ≠ w.heap.size; omega) (.int .u64 hd)).far (p := ⟨w.heap.size, 8, none⟩) (by show w.heap.size + 1 ≠ w.heap.size; omega) (.int .i64 tr2))
  have C9 := below_put9 B0 (g := w.heap.size) (Nat.le_refl _) (.int .i64 s) (.int .i64 t) (.int .i64 f) (.int .i64 l) (.int .i64 p) (.int .i64 1) (.int .i64 sl) (.int .u64 hd) (.int .i64 tr2)
  have b9 := o9.put9 (.int .i64 s) (.int .i64 t) (.int .i64 f) (.int .i64 l) (.int .i64 p) (.int .i64 1) (.int .i64 sl) (.int .u64 hd) (.int .i64 tr2)
  have B9 := below_put9 C9 (g := w.heap.size + 1) (by omega) (.int .i64 s) (.int .i64 t) (.int .i64 f) (.int .i64 l) (.int .i64 p) (.int .i64 1) (.int .i64 sl) (.int .u64 hd) (.int .i64 tr2)
  have m9 := fun i => b9.cell i
  refine bodyPost_ret (v := .agg #[.int .i64 s, .int .i64 t, .int .i64 f, .int .i64 l, .int .i64 p, .int .i64 1, .int .i64 sl, .int .u64 hd, .int .i64 tr2]) (by simp [results, Tryd.results48, go_sem, m9]) rfl ⟨rfl, B9⟩
set_option maxRecDepth 100000 in
set_option maxHeartbeats 2000000 in
theorem psdone_0 (s t f l p sl hd tr : Int) (w : World)  :
    Calls Tryd.prog 49 #[.agg #[.int .i64 s, .int .i64 t, .int .i64 f, .int .i64 l, .int .i64 p, .int .i64 0, .int .i64 sl, .int .u64 hd, .int .i64 tr]] w fun e w' => e = .returned (.bool true) ∧ Below w.heap.size w w' := by
  have bx := Blk.new w 49 #[.int .i64 s, .int .i64 t, .int .i64 f, .int .i64 l, .int .i64 p, .int .i64 0, .int .i64 sl, .int .u64 hd, .int .i64 tr]
  have B0 := (Below.refl w.heap.size w).alloc (Nat.le_refl _) (.cells #[.int .i64 s, .int .i64 t, .int .i64 f, .int .i64 l, .int .i64 p, .int .i64 0, .int .i64 sl, .int .u64 hd, .int .i64 tr] 49)
  go_enter Tryd.func49, Tryd.ntmps49
  go_wp2_with fail
  go_ret
  exact ⟨rfl, B0⟩
set_option maxRecDepth 100000 in
set_option maxHeartbeats 2000000 in
theorem pswant_0 (s t f l p sl hd tr : Int) (w : World) :
    Calls Tryd.prog 54 #[.agg #[.int .i64 s, .int .i64 t, .int .i64 f, .int .i64 l, .int .i64 p, .int .i64 0, .int .i64 sl, .int .u64 hd, .int .i64 tr]] w fun e w' => e = .returned (.agg #[.int .i64 0, .int .i64 0, .int .u64 0, .int .u64 0]) ∧ Below w.heap.size w w' := by
  have hmf : ∀ (fn : Fn) (first cap : Array Value) (w : World), (Instr.makeFunc fn first cap).run Tryd.prog w = .ok (.func fn first cap) w := fun _ _ _ _ => rfl
  go_enter Tryd.func54, Tryd.ntmps54
  go_wp2_with fail
  refine bodyPost_ret (v := .agg #[.int .i64 0, .int .i64 0, .int .u64 0, .int .u64 0]) (by simp [results, Tryd.results54, go_sem]) rfl ⟨rfl, ?_⟩
  repeat (first | exact Below.refl _ _ | exact B0 | (refine Below.setCell ?_ (by first | (show w.heap.size ≤ w.heap.size; omega) | (show w.heap.size ≤ w.heap.size + 1; omega) | (show w.heap.size ≤ w.heap.size + 2; omega) | (show w.heap.size ≤ _; simp)) _) | (refine Below.alloc ?_ (by first | exact Nat.le_refl _ | (simp <;> omega)) _))
set_option maxRecDepth 100000 in
set_option maxHeartbeats 2000000 in
theorem psnew_yes (s t f l p n : Int) (w : World) (hs : 1 ≤ s ∧ s ≤ 1000) (ht : 1 ≤ t ∧ t ≤ 64) (hf : 4 ≤ f ∧ f ≤ 64) (h0 : 1 ≤ n) (h1 : n ≤ s) :
    Calls Tryd.prog 74 #[.agg #[.int .i64 s, .int .i64 t, .int .i64 f, .int .i64 l, .int .i64 p], .int .i64 n] w fun e w' => e = .returned (.agg #[.int .i64 s, .int .i64 t, .int .i64 f, .int .i64 l, .int .i64 p, .int .i64 1, .int .i64 n, .int .u64 0, .int .i64 0]) ∧ Below w.heap.size w w' := by
  have C := hide (fun w2 => size_any s t f l p w2 hs ht hf)
  have hz := size_pos hs ht hf
  have q0 : (laySize s t f == 0) = false := by rw [beq_eq_false_iff_ne]; omega
  clear hz
  generalize laySize s t f = q at *
  have D := hide (fun w2 => bwithin_t s t f l p n 0 0 1 n w2 h0 h1)
  have bx := Blk.new w 44 #[.int .i64 s, .int .i64 t, .int .i64 f, .int .i64 l, .int .i64 p]
  have B0 := (Below.refl w.heap.size w).alloc (Nat.le_refl _) (.cells #[.int .i64 s, .int .i64 t, .int .i64 f, .int .i64 l, .int .i64 p] 44)
  have bo := Blk.new (w.alloc (.cells #[.int .i64 s, .int .i64 t, .int .i64 f, .int .i64 l, .int .i64 p] 44)) 49 #[.int .i64 0, .int .i64 0, .int .i64 0, .int .i64 0, .int .i64 0, .int .i64 0, .int .i64 0, .int .u64 0, .int .i64 0]
  replace B0 := B0.alloc B0.size (.cells #[.int .i64 0, .int .i64 0, .int .i64 0, .int .i64 0, .int .i64 0, .int .i64 0, .int .i64 0, .int .u64 0, .int .i64 0] 49)
  replace bx := bx.alloc (.cells #[.int .i64 0, .int .i64 0, .int .i64 0, .int .i64 0, .int .i64 0, .int .i64 0, .int .i64 0, .int .u64 0, .int .i64 0] 49)
  have by_ := Blk.new ((w.alloc (.cells #[.int .i64 s, .int .i64 t, .int .i64 f, .int .i64 l, .int .i64 p] 44)).alloc (.cells #[.int .i64 0, .int .i64 0, .int .i64 0, .int .i64 0, .int .i64 0, .int .i64 0, .int .i64 0, .int .u64 0, .int .i64 0] 49)) 49 #[.int .i64 s, .int .i64 t, .int .i64 f, .int .i64 l, .int .i64 p, .int .i64 1, .int .i64 n, .int .u64 0, .int .i64 0]
  replace B0 := B0.alloc B0.size (.cells #[.int .i64 s, .int .i64 t, .int .i64 f, .int .i64 l, .int .i64 p, .int .i64 1, .int .i64 n, .int .u64 0, .int .i64 0] 49)
  replace bx := bx.alloc (.cells #[.int .i64 s, .int .i64 t, .int .i64 f, .int .i64 l, .int .i64 p, .int .i64 1, .int .i64 n, .int .u64 0, .int .i64 0] 49)
  replace bo := bo.alloc (.cells #[.int .i64 s, .int .i64 t, .int .i64 f, .int .i64 l, .int .i64 p, .int .i64 1, .int .i64 n, .int .u64 0, .int .i64 0] 49)
  rw [World.size_alloc] at bo by_
  rw [World.size_alloc] at by_
  go_enter Tryd.func74, Tryd.ntmps74
  go_wp2_with fail
  refine (C.out _).mono ?_
  rintro e w1 ⟨rfl, hb1⟩
  try replace bx := bx.below hb1 bx.lt
  try replace bo := bo.below hb1 bo.lt
  try replace by_ := by_.below hb1 by_.lt
  replace B0 := B0.trans (hb1.mono B0.size)
  clear hb1
  try clear mx lx
  try clear mo lo zo
  try clear my ly zy
  try have mx := fun i => bx.cell i
  try have lx := bx.lt
  try have mo := fun i => bo.cell i
  try have lo := bo.lt
  try have zo := fun i => bo.frozen i
  try have my := fun i => by_.cell i
  try have ly := by_.lt
  try have zy := fun i => by_.frozen i
  go_wp2_with fail
  refine (D.out _).mono ?_
  rintro e w2 ⟨rfl, hb1⟩
  try replace bx := bx.below hb1 bx.lt
  try replace bo := bo.below hb1 bo.lt
  try replace by_ := by_.below hb1 by_.lt
  replace B0 := B0.trans (hb1.mono B0.size)
  clear hb1
  try clear mx lx
  try clear mo lo zo
  try clear my ly zy
  try have mx := fun i => bx.cell i
  try have lx := bx.lt
  try have mo := fun i => bo.cell i
  try have lo := bo.lt
  try have zo := fun i => bo.frozen i
  try have my := fun i => by_.cell i
  try have ly := by_.lt
  try have zy := fun i => by_.frozen i
  go_wp2_with fail
  have b9 := bo.put9 (.int .i64 s) (.int .i64 t) (.int .i64 f) (.int .i64 l) (.int .i64 p) (.int .i64 1) (.int .i64 n) (.int .u64 0) (.int .i64 0)
  have B9 := below_put9 B0 (g := w.heap.size + 1) (by omega) (.int .i64 s) (.int .i64 t) (.int .i64 f) (.int .i64 l) (.int .i64 p) (.int .i64 1) (.int .i64 n) (.int .u64 0) (.int .i64 0)
  have m9 := fun i => b9.cell i
  refine bodyPost_ret (v := .agg #[.int .i64 s, .int .i64 t, .int .i64 f, .int .i64 l, .int .i64 p, .int .i64 1, .int .i64 n, .int .u64 0, .int .i64 0]) (by simp [results, Tryd.results74, go_sem, m9]) rfl ⟨rfl, by first | exact B9 | exact B9.drew⟩
set_option maxRecDepth 100000 in
set_option maxHeartbeats 2000000 in
theorem psnew_lo (s t f l p n : Int) (w : World) (hs : 1 ≤ s ∧ s ≤ 1000) (ht : 1 ≤ t ∧ t ≤ 64) (hf : 4 ≤ f ∧ f ≤ 64) (h0 : n < 1) :
    Calls Tryd.prog 74 #[.agg #[.int .i64 s, .int .i64 t, .int .i64 f, .int .i64 l, .int .i64 p], .int .i64 n] w fun e w' => e = .returned (.agg #[.int .i64 0, .int .i64 0, .int .i64 0, .int .i64 0, .int .i64 0, .int .i64 0, .int .i64 0, .int .u64 0, .int .i64 0]) ∧ Below w.heap.size w w' := by
  have C := hide (fun w2 => size_any s t f l p w2 hs ht hf)
  have hz := size_pos hs ht hf
  have q0 : (laySize s t f == 0) = false := by rw [beq_eq_false_iff_ne]; omega
  clear hz
  generalize laySize s t f = q at *
  have D := hide (fun w2 => bwithin_f1 s t f l p n 0 0 1 n w2 h0)
  have bx := Blk.new w 44 #[.int .i64 s, .int .i64 t, .int .i64 f, .int .i64 l, .int .i64 p]
  have B0 := (Below.refl w.heap.size w).alloc (Nat.le_refl _) (.cells #[.int .i64 s, .int .i64 t, .int .i64 f, .int .i64 l, .int .i64 p] 44)
  have bo := Blk.new (w.alloc (.cells #[.int .i64 s, .int .i64 t, .int .i64 f, .int .i64 l, .int .i64 p] 44)) 49 #[.int .i64 0, .int .i64 0, .int .i64 0, .int .i64 0, .int .i64 0, .int .i64 0, .int .i64 0, .int .u64 0, .int .i64 0]
  replace B0 := B0.alloc B0.size (.cells #[.int .i64 0, .int .i64 0, .int .i64 0, .int .i64 0, .int .i64 0, .int .i64 0, .int .i64 0, .int .u64 0, .int .i64 0] 49)
  replace bx := bx.alloc (.cells #[.int .i64 0, .int .i64 0, .int .i64 0, .int .i64 0, .int .i64 0, .int .i64 0, .int .i64 0, .int .u64 0, .int .i64 0] 49)
  have by_ := Blk.new ((w.alloc (.cells #[.int .i64 s, .int .i64 t, .int .i64 f, .int .i64 l, .int .i64 p] 44)).alloc (.cells #[.int .i64 0, .int .i64 0, .int .i64 0, .int .i64 0, .int .i64 0, .int .i64 0, .int .i64 0, .int .u64 0, .int .i64 0] 49)) 49 #[.int .i64 s, .int .i64 t, .int .i64 f, .int .i64 l, .int .i64 p, .int .i64 1, .int .i64 n, .int .u64 0, .int .i64 0]
  replace B0 := B0.alloc B0.size (.cells #[.int .i64 s, .int .i64 t, .int .i64 f, .int .i64 l, .int .i64 p, .int .i64 1, .int .i64 n, .int .u64 0, .int .i64 0] 49)
  replace bx := bx.alloc (.cells #[.int .i64 s, .int .i64 t, .int .i64 f, .int .i64 l, .int .i64 p, .int .i64 1, .int .i64 n, .int .u64 0, .int .i64 0] 49)
  replace bo := bo.alloc (.cells #[.int .i64 s, .int .i64 t, .int .i64 f, .int .i64 l, .int .i64 p, .int .i64 1, .int .i64 n, .int .u64 0, .int .i64 0] 49)
  rw [World.size_alloc] at bo by_
  rw [World.size_alloc] at by_
  go_enter Tryd.func74, Tryd.ntmps74
  go_wp2_with fail
  refine (C.out _).mono ?_
  rintro e w1 ⟨rfl, hb1⟩
  try replace bx := bx.below hb1 bx.lt
  try replace bo := bo.below hb1 bo.lt
  try replace by_ := by_.below hb1 by_.lt
  replace B0 := B0.trans (hb1.mono B0.size)
  clear hb1
  try clear mx lx
  try clear mo lo zo
  try clear my ly zy
  try have mx := fun i => bx.cell i
  try have lx := bx.lt
  try have mo := fun i => bo.cell i
  try have lo := bo.lt
  try have zo := fun i => bo.frozen i
  try have my := fun i => by_.cell i
  try have ly := by_.lt
  try have zy := fun i => by_.frozen i
  go_wp2_with fail
  refine (D.out _).mono ?_
  rintro e w2 ⟨rfl, hb1⟩
  try replace bx := bx.below hb1 bx.lt
  try replace bo := bo.below hb1 bo.lt
  try replace by_ := by_.below hb1 by_.lt
  replace B0 := B0.trans (hb1.mono B0.size)
  clear hb1
  try clear mx lx
  try clear mo lo zo
  try clear my ly zy
  try have mx := fun i => bx.cell i
  try have lx := bx.lt
  try have mo := fun i => bo.cell i
  try have lo := bo.lt
  try have zo := fun i => bo.frozen i
  try have my := fun i => by_.cell i
  try have ly := by_.lt
  try have zy := fun i => by_.frozen i
  go_wp2_with fail
  have b9 := bo.put9 (.int .i64 0) (.int .i64 0) (.int .i64 0) (.int .i64 0) (.int .i64 0) (.int .i64 0) (.int .i64 0) (.int .u64 0) (.int .i64 0)
  have B9 := below_put9 B0 (g := w.heap.size + 1) (by omega) (.int .i64 0) (.int .i64 0) (.int .i64 0) (.int .i64 0) (.int .i64 0) (.int .i64 0) (.int .i64 0) (.int .u64 0) (.int .i64 0)
  have m9 := fun i => b9.cell i
  refine bodyPost_ret (v := .agg #[.int .i64 0, .int .i64 0, .int .i64 0, .int .i64 0, .int .i64 0, .int .i64 0, .int .i64 0, .int .u64 0, .int .i64 0]) (by simp [results, Tryd.results74, go_sem, m9]) rfl ⟨rfl, by first | exact B9 | exact B9.drew⟩
set_option maxRecDepth 100000 in
set_option maxHeartbeats 2000000 in
theorem psnew_hi (s t f l p n : Int) (w : World) (hs : 1 ≤ s ∧ s ≤ 1000) (ht : 1 ≤ t ∧ t ≤ 64) (hf : 4 ≤ f ∧ f ≤ 64) (h0 : 1 ≤ n) (h1 : s < n) :
    Calls Tryd.prog 74 #[.agg #[.int .i64 s, .int .i64 t, .int .i64 f, .int .i64 l, .int .i64 p], .int .i64 n] w fun e w' => e = .returned (.agg #[.int .i64 0, .int .i64 0, .int .i64 0, .int .i64 0, .int .i64 0, .int .i64 0, .int .i64 0, .int .u64 0, .int .i64 0]) ∧ Below w.heap.size w w' := by
  have C := hide (fun w2 => size_any s t f l p w2 hs ht hf)
  have hz := size_pos hs ht hf
  have q0 : (laySize s t f == 0) = false := by rw [beq_eq_false_iff_ne]; omega
  clear hz
  generalize laySize s t f = q at *
  have D := hide (fun w2 => bwithin_f2 s t f l p n 0 0 1 n w2 h0 h1)
  have bx := Blk.new w 44 #[.int .i64 s, .int .i64 t, .int .i64 f, .int .i64 l, .int .i64 p]
  have B0 := (Below.refl w.heap.size w).alloc (Nat.le_refl _) (.cells #[.int .i64 s, .int .i64 t, .int .i64 f, .int .i64 l, .int .i64 p] 44)
  have bo := Blk.new (w.alloc (.cells #[.int .i64 s, .int .i64 t, .int .i64 f, .int .i64 l, .int .i64 p] 44)) 49 #[.int .i64 0, .int .i64 0, .int .i64 0, .int .i64 0, .int .i64 0, .int .i64 0, .int .i64 0, .int .u64 0, .int .i64 0]
  replace B0 := B0.alloc B0.size (.cells #[.int .i64 0, .int .i64 0, .int .i64 0, .int .i64 0, .int .i64 0, .int .i64 0, .int .i64 0, .int .u64 0, .int .i64 0] 49)
  replace bx := bx.alloc (.cells #[.int .i64 0, .int .i64 0, .int .i64 0, .int .i64 0, .int .i64 0, .int .i64 0, .int .i64 0, .int .u64 0, .int .i64 0] 49)
  have by_ := Blk.new ((w.alloc (.cells #[.int .i64 s, .int .i64 t, .int .i64 f, .int .i64 l, .int .i64 p] 44)).alloc (.cells #[.int .i64 0, .int .i64 0, .int .i64 0, .int .i64 0, .int .i64 0, .int .i64 0, .int .i64 0, .int .u64 0, .int .i64 0] 49)) 49 #[.int .i64 s, .int .i64 t, .int .i64 f, .int .i64 l, .int .i64 p, .int .i64 1, .int .i64 n, .int .u64 0, .int .i64 0]
  replace B0 := B0.alloc B0.size (.cells #[.int .i64 s, .int .i64 t, .int .i64 f, .int .i64 l, .int .i64 p, .int .i64 1, .int .i64 n, .int .u64 0, .int .i64 0] 49)
  replace bx := bx.alloc (.cells #[.int .i64 s, .int .i64 t, .int .i64 f, .int .i64 l, .int .i64 p, .int .i64 1, .int .i64 n, .int .u64 0, .int .i64 0] 49)
  replace bo := bo.alloc (.cells #[.int .i64 s, .int .i64 t, .int .i64 f, .int .i64 l, .int .i64 p, .int .i64 1, .int .i64 n, .int .u64 0, .int .i64 0] 49)
  rw [World.size_alloc] at bo by_
  rw [World.size_alloc] at by_
  go_enter Tryd.func74, Tryd.ntmps74
  go_wp2_with fail
  refine (C.out _).mono ?_
  rintro e w1 ⟨rfl, hb1⟩
  try replace bx := bx.below hb1 bx.lt
  try replace bo := bo.below hb1 bo.lt
  try replace by_ := by_.below hb1 by_.lt
  replace B0 := B0.trans (hb1.mono B0.size)
  clear hb1
  try clear mx lx
  try clear mo lo zo
  try clear my ly zy
  try have mx := fun i => bx.cell i
  try have lx := bx.lt
  try have mo := fun i => bo.cell i
  try have lo := bo.lt
  try have zo := fun i => bo.frozen i
  try have my := fun i => by_.cell i
  try have ly := by_.lt
  try have zy := fun i => by_.frozen i
  go_wp2_with fail
  refine (D.out _).mono ?_
  rintro e w2 ⟨rfl, hb1⟩
  try replace bx := bx.below hb1 bx.lt
  try replace bo := bo.below hb1 bo.lt
  try replace by_ := by_.below hb1 by_.lt
  replace B0 := B0.trans (hb1.mono B0.size)
  clear hb1
  try clear mx lx
  try clear mo lo zo
  try clear my ly zy
  try have mx := fun i => bx.cell i
  try have lx := bx.lt
  try have mo := fun i => bo.cell i
  try have lo := bo.lt
  try have zo := fun i => bo.frozen i
  try have my := fun i => by_.cell i
  try have ly := by_.lt
  try have zy := fun i => by_.frozen i
  go_wp2_with fail
  have b9 := bo.put9 (.int .i64 0) (.int .i64 0) (.int .i64 0) (.int .i64 0) (.int .i64 0) (.int .i64 0) (.int .i64 0) (.int .u64 0) (.int .i64 0)
  have B9 := below_put9 B0 (g := w.heap.size + 1) (by omega) (.int .i64 0) (.int .i64 0) (.int .i64 0) (.int .i64 0) (.int .i64 0) (.int .i64 0) (.int .i64 0) (.int .u64 0) (.int .i64 0)
  have m9 := fun i => b9.cell i
  refine bodyPost_ret (v := .agg #[.int .i64 0, .int .i64 0, .int .i64 0, .int .i64 0, .int .i64 0, .int .i64 0, .int .i64 0, .int .u64 0, .int .i64 0]) (by simp [results, Tryd.results74, go_sem, m9]) rfl ⟨rfl, by first | exact B9 | exact B9.drew⟩
set_option maxRecDepth 100000 in
set_option maxHeartbeats 2000000 in
theorem psnew_zero (n : Int) (w : World) :
    Calls Tryd.prog 74 #[.agg #[.int .i64 0, .int .i64 0, .int .i64 0, .int .i64 0, .int .i64 0], .int .i64 n] w fun e w' => e = .returned (.agg #[.int .i64 0, .int .i64 0, .int .i64 0, .int .i64 0, .int .i64 0, .int .i64 0, .int .i64 0, .int .u64 0, .int .i64 0]) ∧ Below w.heap.size w w' := by
  have C := hide (fun w2 => size_zero w2)
  have bx := Blk.new w 44 #[.int .i64 0, .int .i64 0, .int .i64 0, .int .i64 0, .int .i64 0]
  have B0 := (Below.refl w.heap.size w).alloc (Nat.le_refl _) (.cells #[.int .i64 0, .int .i64 0, .int .i64 0, .int .i64 0, .int .i64 0] 44)
  have bo := Blk.new (w.alloc (.cells #[.int .i64 0, .int .i64 0, .int .i64 0, .int .i64 0, .int .i64 0] 44)) 49 #[.int .i64 0, .int .i64 0, .int .i64 0, .int .i64 0, .int .i64 0, .int .i64 0, .int .i64 0, .int .u64 0, .int .i64 0]
  replace B0 := B0.alloc B0.size (.cells #[.int .i64 0, .int .i64 0, .int .i64 0, .int .i64 0, .int .i64 0, .int .i64 0, .int .i64 0, .int .u64 0, .int .i64 0] 49)
  replace bx := bx.alloc (.cells #[.int .i64 0, .int .i64 0, .int .i64 0, .int .i64 0, .int .i64 0, .int .i64 0, .int .i64 0, .int .u64 0, .int .i64 0] 49)
  have by_ := Blk.new ((w.alloc (.cells #[.int .i64 0, .int .i64 0, .int .i64 0, .int .i64 0, .int .i64 0] 44)).alloc (.cells #[.int .i64 0, .int .i64 0, .int .i64 0, .int .i64 0, .int .i64 0, .int .i64 0, .int .i64 0, .int .u64 0, .int .i64 0] 49)) 49 #[.int .i64 0, .int .i64 0, .int .i64 0, .int .i64 0, .int .i64 0, .int .i64 1, .int .i64 n, .int .u64 0, .int .i64 0]
  replace B0 := B0.alloc B0.size (.cells #[.int .i64 0, .int .i64 0, .int .i64 0, .int .i64 0, .int .i64 0, .int .i64 1, .int .i64 n, .int .u64 0, .int .i64 0] 49)
  replace bx := bx.alloc (.cells #[.int .i64 0, .int .i64 0, .int .i64 0, .int .i64 0, .int .i64 0, .int .i64 1, .int .i64 n, .int .u64 0, .int .i64 0] 49)
  replace bo := bo.alloc (.cells #[.int .i64 0, .int .i64 0, .int .i64 0, .int .i64 0, .int .i64 0, .int .i64 1, .int .i64 n, .int .u64 0, .int .i64 0] 49)
  rw [World.size_alloc] at bo by_
  rw [World.size_alloc] at by_
  go_enter Tryd.func74, Tryd.ntmps74
  go_wp2_with fail
  refine (C.out _).mono ?_
  rintro e w1 ⟨rfl, hb1⟩
  try replace bx := bx.below hb1 bx.lt
  try replace bo := bo.below hb1 bo.lt
  try replace by_ := by_.below hb1 by_.lt
  replace B0 := B0.trans (hb1.mono B0.size)
  clear hb1
  try clear mx lx
  try clear mo lo zo
  try clear my ly zy
  try have mx := fun i => bx.cell i
  try have lx := bx.lt
  try have mo := fun i => bo.cell i
  try have lo := bo.lt
  try have zo := fun i => bo.frozen i
  try have my := fun i => by_.cell i
  try have ly := by_.lt
  try have zy := fun i => by_.frozen i
  go_wp2_with fail
  have b9 := bo.put9 (.int .i64 0) (.int .i64 0) (.int .i64 0) (.int .i64 0) (.int .i64 0) (.int .i64 0) (.int .i64 0) (.int .u64 0) (.int .i64 0)
  have B9 := below_put9 B0 (g := w.heap.size + 1) (by omega) (.int .i64 0) (.int .i64 0) (.int .i64 0) (.int .i64 0) (.int .i64 0) (.int .i64 0) (.int .i64 0) (.int .u64 0) (.int .i64 0)
  have m9 := fun i => b9.cell i
  refine bodyPost_ret (v := .agg #[.int .i64 0, .int .i64 0, .int .i64 0, .int .i64 0, .int .i64 0, .int .i64 0, .int .i64 0, .int .u64 0, .int .i64 0]) (by simp [results, Tryd.results74, go_sem, m9]) rfl ⟨rfl, by first | exact B9 | exact B9.drew⟩
theorem ps_eql (s t f l p sl hd tr k : Int) (w : World) : (binOp .eql 49 (.agg #[.int .i64 s, .int .i64 t, .int .i64 f, .int .i64 l, .int .i64 p, .int .i64 k, .int .i64 sl, .int .u64 hd, .int .i64 tr]) (.agg #[.int .i64 s, .int .i64 t, .int .i64 f, .int .i64 l, .int .i64 p, .int .i64 k, .int .i64 sl, .int .u64 hd, .int .i64 tr])).run Tryd.prog w = .ok (.bool true) w := by
  have hs : Tryd.prog.stoodInHeld 49 = false := by kernel_rfl
  rw [run_eql_struct, show (10000 : Nat) = 9999 + 1 from rfl, run_equalIn_agg _ _ _ _ _ (by kernel_rfl) hs]
  simp [Program.fieldsOf, Tryd.underlying49, Tryd.underlying47, Tryd.underlying44, Tryd.underlying36, Tryd.underlying3, Tryd.underlying29, Op.eqFields, run_equalIn_int, go_sem]

/-- The step, the slot, the head, the tries. -/
def psTook (x : Int × Int × Int × Int) (g : Int) : Int × Int × Int × Int :=
  if x.1 = 0 then x
  else if x.1 = 1 then (2, x.2.1, g, x.2.2.2)
  else if x.1 = 2 then (3, x.2.1, x.2.2.1, x.2.2.2)
  else if g = 1 then (0, x.2.1, x.2.2.1, x.2.2.2)
  else (1, x.2.1, x.2.2.1, wrap64 (x.2.2.2 + 1))
def PsOk (x : Int × Int × Int × Int) : Prop := x.1 = 0 ∨ x.1 = 1 ∨ x.1 = 2 ∨ x.1 = 3
theorem psTook_ok {x : Int × Int × Int × Int} {g : Int} (h : PsOk x) : PsOk (psTook x g) := by
  unfold psTook
  split
  · exact h
  · split
    · exact .inr (.inr (.inl rfl))
    · split
      · exact .inr (.inr (.inr rfl))
      · split
        · exact .inl rfl
        · exact .inr (.inl rfl)
def psV (s t f l p : Int) (x : Int × Int × Int × Int) : Value := .agg #[.int .i64 s, .int .i64 t, .int .i64 f, .int .i64 l, .int .i64 p, .int .i64 x.1, .int .i64 x.2.1, .int .u64 x.2.2.1, .int .i64 x.2.2.2]
theorem pstook_any (s t f l p g : Int) (x : Int × Int × Int × Int) (w : World) (hx : PsOk x) :
    Calls Tryd.prog 48 #[psV s t f l p x, .int .u64 g] w fun e w' => e = .returned (psV s t f l p (psTook x g)) ∧ Below w.heap.size w w' := by
  obtain ⟨k, sl, hd, tr⟩ := x
  unfold PsOk at hx
  simp only at hx
  rcases hx with rfl | rfl | rfl | rfl
  · exact pstook_0 s t f l p sl hd tr g w
  · exact pstook_1 s t f l p sl hd tr g w
  · exact pstook_2 s t f l p sl hd tr g w
  · by_cases h0 : g = 1
    · subst h0
      exact pstook_3y s t f l p sl hd tr w
    · rw [show psTook (3, sl, hd, tr) g = (1, sl, hd, wrap64 (tr + 1)) by simp [psTook, h0]]
      exact pstook_3n s t f l p sl hd tr g w (by simpa using h0)
end Go.Proofs.YtokcbipmocpllaaDoor

/-
  A Pop told what it is told.
-/
namespace Go.Proofs.YtokcbipmocpllaaDoor
open Go.RowKit
attribute [local go_sem] past_cell past_cell_add

end Go.Proofs.YtokcbipmocpllaaDoor

/-
  A Pop: what it becomes of what it is told, in plain Lean.
-/
namespace Go.Proofs.YtokcbipmocpllaaDoor
open Go.RowKit

/-- The step, the slot, the head, the tries, the link. -/
def PpOk (s : Int) (x : Int × Int × Int × Int × Int) : Prop := (x.1 = 0 ∨ x.1 = 1 ∨ x.1 = 2 ∨ x.1 = 3) ∧ W64 x.2.2.1 ∧ (0 ≤ x.2.2.2.2 ∧ x.2.2.2.2 ≤ 1000) ∧ ((x.1 = 2 ∨ x.1 = 3) → 1 ≤ x.2.1 ∧ x.2.1 ≤ s)
def pTook (s : Int) (x : Int × Int × Int × Int × Int) (g : Int) : Int × Int × Int × Int × Int :=
  if x.1 = 0 then x
  else if x.1 = 1 then (if 1 ≤ g % 65536 ∧ g % 65536 ≤ s then (2, g % 65536, g, x.2.2.2.1, x.2.2.2.2) else (0, 0, g, x.2.2.2.1, x.2.2.2.2))
  else if x.1 = 2 then (3, x.2.1, x.2.2.1, x.2.2.2.1, if g ≤ s then g else 0)
  else if g = 1 then (0, x.2.1, x.2.2.1, x.2.2.2.1, x.2.2.2.2)
  else (1, x.2.1, x.2.2.1, wrap64 (x.2.2.2.1 + 1), x.2.2.2.2)
theorem pTook_ok {s g : Int} {x : Int × Int × Int × Int × Int} (h : PpOk s x) (hg : W64 g) (hs : x.1 = 0 ∨ s ≤ 1000) : PpOk s (pTook s x g) := by
  obtain ⟨h1, h2, h3, h4⟩ := h
  unfold pTook
  split
  · exact ⟨h1, h2, h3, h4⟩
  · next h0 =>
    have hs := hs.resolve_left h0
    split
    · split
      · next h => exact ⟨by simp, hg, h3, fun _ => h⟩
      · exact ⟨by simp, hg, h3, by simp⟩
    · split
      · next h => exact ⟨by simp, h2, by dsimp only; split; exact ⟨hg.1, by omega⟩; omega, fun _ => h4 (.inl h)⟩
      · next h1' h2' =>
        split
        · exact ⟨by simp, h2, h3, by simp⟩
        · exact ⟨by simp, h2, h3, by simp⟩
def pAsk (t f : Int) (x : Int × Int × Int × Int × Int) : Int × Int × Int × Int :=
  if x.1 = 1 then (1, 2, 0, 0)
  else if x.1 = 2 then (1, 3 + 3 * t + x.2.1 * (3 + 2 * f) + 2, 0, 0)
  else if x.1 = 3 then (3, 2, x.2.2.1, hturn x.2.2.1 x.2.2.2.2)
  else (0, 0, 0, 0)
end Go.Proofs.YtokcbipmocpllaaDoor

/-
  What a Pop wants; a Pop that begins; the reference's.
-/
namespace Go.Proofs.YtokcbipmocpllaaDoor
open Go.RowKit
attribute [local go_sem] past_cell past_cell_add

end Go.Proofs.YtokcbipmocpllaaDoor

/-
  The reference's Pop; whatever a Pop's step.
-/
namespace Go.Proofs.YtokcbipmocpllaaDoor
open Go.RowKit
attribute [local go_sem] past_cell past_cell_add

set_option maxRecDepth 100000 in
set_option maxHeartbeats 2000000 in
theorem rnode_any (s t f l p sl : Int) (w : World) (hs : 1 ≤ s ∧ s ≤ 1000) (ht : 1 ≤ t ∧ t ≤ 64) (hf : 4 ≤ f ∧ f ≤ 64) (hsl : 0 ≤ sl ∧ sl ≤ s) :
    Calls Tryd.prog 39 #[.agg #[.int .i64 s, .int .i64 t, .int .i64 f, .int .i64 l, .int .i64 p], .int .i64 sl] w fun e w' => e = .returned (.int .i64 (3 + 3 * t + sl * (3 + 2 * f))) ∧ Below w.heap.size w w' := by
  have b1 : 0 ≤ sl * (3 + 2 * f) := Int.mul_nonneg hsl.1 (by omega)
  have b2 : sl * (3 + 2 * f) ≤ 1000 * 131 := Int.mul_le_mul (by omega) (by omega) (by omega) (by omega)
  have e1 : IntKind.i64.wrap (3 * t) = 3 * t := IntWalk.i64_in _ (by omega)
  have e2 : IntKind.i64.wrap (3 + 3 * t) = 3 + 3 * t := IntWalk.i64_in _ (by omega)
  have e3 : IntKind.i64.wrap (2 * f) = 2 * f := IntWalk.i64_in _ (by omega)
  have e4 : IntKind.i64.wrap (3 + 2 * f) = 3 + 2 * f := IntWalk.i64_in _ (by omega)
  have e5 : IntKind.i64.wrap (sl * (3 + 2 * f)) = sl * (3 + 2 * f) := IntWalk.i64_in _ (by omega)
  have e6 : IntKind.i64.wrap (3 + 3 * t + sl * (3 + 2 * f)) = 3 + 3 * t + sl * (3 + 2 * f) := IntWalk.i64_in _ (by omega)
  have bx := Blk.new w 36 #[.int .i64 s, .int .i64 t, .int .i64 f, .int .i64 l, .int .i64 p]
  have B0 := (Below.refl w.heap.size w).alloc (Nat.le_refl _) (.cells #[.int .i64 s, .int .i64 t, .int .i64 f, .int .i64 l, .int .i64 p] 36)
  go_enter Tryd.func39, Tryd.ntmps39
  go_wp2_with fail
  go_ret
  exact ⟨rfl, B0⟩
set_option maxRecDepth 100000 in
set_option maxHeartbeats 2000000 in
theorem rlnk_any (s t f l p sl : Int) (w : World) (hs : 1 ≤ s ∧ s ≤ 1000) (ht : 1 ≤ t ∧ t ≤ 64) (hf : 4 ≤ f ∧ f ≤ 64) (hsl : 0 ≤ sl ∧ sl ≤ s) :
    Calls Tryd.prog 15 #[.agg #[.int .i64 s, .int .i64 t, .int .i64 f, .int .i64 l, .int .i64 p], .int .i64 sl] w fun e w' => e = .returned (.int .i64 (3 + 3 * t + sl * (3 + 2 * f) + 2)) ∧ Below w.heap.size w w' := by
  have C := hide (fun w2 => rnode_any s t f l p sl w2 hs ht hf hsl)
  have b2 : sl * (3 + 2 * f) ≤ 1000 * 131 := Int.mul_le_mul (by omega) (by omega) (by omega) (by omega)
  have b1 : 0 ≤ sl * (3 + 2 * f) := Int.mul_nonneg hsl.1 (by omega)
  have e7 : IntKind.i64.wrap (3 + 3 * t + sl * (3 + 2 * f) + 2) = 3 + 3 * t + sl * (3 + 2 * f) + 2 := IntWalk.i64_in _ (by omega)
  clear b1 b2
  generalize 3 + 3 * t + sl * (3 + 2 * f) = q at *
  have bx := Blk.new w 36 #[.int .i64 s, .int .i64 t, .int .i64 f, .int .i64 l, .int .i64 p]
  have B0 := (Below.refl w.heap.size w).alloc (Nat.le_refl _) (.cells #[.int .i64 s, .int .i64 t, .int .i64 f, .int .i64 l, .int .i64 p] 36)
  go_enter Tryd.func15, Tryd.ntmps15
  go_wp2_with fail
  refine (C.out _).mono ?_
  rintro e w1 ⟨rfl, hb1⟩
  try replace bx := bx.below hb1 bx.lt
  try replace bo := bo.below hb1 bo.lt
  try replace by_ := by_.below hb1 by_.lt
  replace B0 := B0.trans (hb1.mono B0.size)
  clear hb1
  try clear mx lx
  try clear mo lo zo
  try clear my ly zy
  try have mx := fun i => bx.cell i
  try have lx := bx.lt
  try have mo := fun i => bo.cell i
  try have lo := bo.lt
  try have zo := fun i => bo.frozen i
  try have my := fun i => by_.cell i
  try have ly := by_.lt
  try have zy := fun i => by_.frozen i
  go_wp2_with fail
  go_ret
  exact ⟨rfl, B0⟩
def ppV (s t f l p : Int) (x : Int × Int × Int × Int × Int) : Value := .agg #[.int .i64 s, .int .i64 t, .int .i64 f, .int .i64 l, .int .i64 p, .int .i64 x.1, .int .i64 x.2.1, .int .u64 x.2.2.1, .int .i64 x.2.2.2.1, .int .i64 x.2.2.2.2]
def rppV (x : Int × Int × Int × Int × Int) : Value := .agg #[.int .i64 x.1, .int .u64 x.2.2.1, .int .i64 x.2.1, .int .i64 x.2.2.2.2, .int .i64 x.2.2.2.1]
end Go.Proofs.YtokcbipmocpllaaDoor

/-
  What a Push wants; the reference's Push.
-/
namespace Go.Proofs.YtokcbipmocpllaaDoor
open Go.RowKit
attribute [local go_sem] past_cell past_cell_add

set_option maxRecDepth 100000 in
set_option maxHeartbeats 2000000 in
theorem pswant_1 (s t f l p sl hd tr : Int) (w : World) (hs : 1 ≤ s ∧ s ≤ 1000) (ht : 1 ≤ t ∧ t ≤ 64) (hf : 4 ≤ f ∧ f ≤ 64) :
    Calls Tryd.prog 54 #[.agg #[.int .i64 s, .int .i64 t, .int .i64 f, .int .i64 l, .int .i64 p, .int .i64 1, .int .i64 sl, .int .u64 hd, .int .i64 tr]] w fun e w' => e = .returned (.agg #[.int .i64 1, .int .i64 2, .int .u64 0, .int .u64 0]) ∧ Below w.heap.size w w' := by
  have C := hide (fun w2 => headAt_any s t f l p sl hd tr 1 w2 hs ht hf)
  have D := hide (fun w2 => sload_any 2 w2)
  have hmf : ∀ (fn : Fn) (first cap : Array Value) (w : World), (Instr.makeFunc fn first cap).run Tryd.prog w = .ok (.func fn first cap) w := fun _ _ _ _ => rfl
  have bx := Blk.new w 49 #[.int .i64 s, .int .i64 t, .int .i64 f, .int .i64 l, .int .i64 p, .int .i64 1, .int .i64 sl, .int .u64 hd, .int .i64 tr]
  have B0 := (Below.refl w.heap.size w).alloc (Nat.le_refl _) (.cells #[.int .i64 s, .int .i64 t, .int .i64 f, .int .i64 l, .int .i64 p, .int .i64 1, .int .i64 sl, .int .u64 hd, .int .i64 tr] 49)
  have bo := Blk.new (w.alloc (.cells #[.int .i64 s, .int .i64 t, .int .i64 f, .int .i64 l, .int .i64 p, .int .i64 1, .int .i64 sl, .int .u64 hd, .int .i64 tr] 49)) 57 #[.int .i64 0, .int .i64 0, .int .u64 0, .int .u64 0]
  replace B0 := B0.alloc B0.size (.cells #[.int .i64 0, .int .i64 0, .int .u64 0, .int .u64 0] 57)
  replace bx := bx.alloc (.cells #[.int .i64 0, .int .i64 0, .int .u64 0, .int .u64 0] 57)
  rw [World.size_alloc] at bo
  go_enter Tryd.func54, Tryd.ntmps54
  go_wp2_with fail
  refine (C.out _).mono ?_
  rintro e w1 ⟨rfl, hb1⟩
  try replace bx := bx.below hb1 bx.lt
  try replace bo := bo.below hb1 bo.lt
  try replace by_ := by_.below hb1 by_.lt
  replace B0 := B0.trans (hb1.mono B0.size)
  clear hb1
  try clear mx lx
  try clear mo lo zo
  try clear my ly zy
  try have mx := fun i => bx.cell i
  try have lx := bx.lt
  try have mo := fun i => bo.cell i
  try have lo := bo.lt
  try have zo := fun i => bo.frozen i
  try have my := fun i => by_.cell i
  try have ly := by_.lt
  try have zy := fun i => by_.frozen i
  go_wp2_with fail
  refine (D.out _).mono ?_
  rintro e w2 ⟨rfl, hb1⟩
  try replace bx := bx.below hb1 bx.lt
  try replace bo := bo.below hb1 bo.lt
  try replace by_ := by_.below hb1 by_.lt
  replace B0 := B0.trans (hb1.mono B0.size)
  clear hb1
  try clear mx lx
  try clear mo lo zo
  try clear my ly zy
  try have mx := fun i => bx.cell i
  try have lx := bx.lt
  try have mo := fun i => bo.cell i
  try have lo := bo.lt
  try have zo := fun i => bo.frozen i
  try have my := fun i => by_.cell i
  try have ly := by_.lt
  try have zy := fun i => by_.frozen i
  go_wp2_with fail
  have b9 := bo.put4 (.int .i64 1) (.int .i64 2) (.int .u64 0) (.int .u64 0)
  have B9 := below_put4 B0 (g := w.heap.size + 1) (by omega) (.int .i64 1) (.int .i64 2) (.int .u64 0) (.int .u64 0)
  have m9 := fun i => b9.cell i
  refine bodyPost_ret (v := .agg #[.int .i64 1, .int .i64 2, .int .u64 0, .int .u64 0]) (by simp [results, Tryd.results54, go_sem, m9]) rfl ⟨rfl, by first | exact B9 | exact B9.drew⟩
set_option maxRecDepth 100000 in
set_option maxHeartbeats 2000000 in
theorem pswant_3 (s t f l p sl hd tr : Int) (w : World) (hs : 1 ≤ s ∧ s ≤ 1000) (ht : 1 ≤ t ∧ t ≤ 64) (hf : 4 ≤ f ∧ f ≤ 64) (hh : W64 hd) (hsl : 1 ≤ sl ∧ sl ≤ s) :
    Calls Tryd.prog 54 #[.agg #[.int .i64 s, .int .i64 t, .int .i64 f, .int .i64 l, .int .i64 p, .int .i64 3, .int .i64 sl, .int .u64 hd, .int .i64 tr]] w fun e w' => e = .returned (.agg #[.int .i64 3, .int .i64 2, .int .u64 hd, .int .u64 (hturn hd sl)]) ∧ Below w.heap.size w w' := by
  have C := hide (fun w2 => swap_any s t f l p sl hd tr 3 sl w2 hs ht hf hh ⟨by omega, by omega⟩)
  generalize hturn hd sl = y at *
  have hmf : ∀ (fn : Fn) (first cap : Array Value) (w : World), (Instr.makeFunc fn first cap).run Tryd.prog w = .ok (.func fn first cap) w := fun _ _ _ _ => rfl
  have bx := Blk.new w 49 #[.int .i64 s, .int .i64 t, .int .i64 f, .int .i64 l, .int .i64 p, .int .i64 3, .int .i64 sl, .int .u64 hd, .int .i64 tr]
  have B0 := (Below.refl w.heap.size w).alloc (Nat.le_refl _) (.cells #[.int .i64 s, .int .i64 t, .int .i64 f, .int .i64 l, .int .i64 p, .int .i64 3, .int .i64 sl, .int .u64 hd, .int .i64 tr] 49)
  have bo := Blk.new (w.alloc (.cells #[.int .i64 s, .int .i64 t, .int .i64 f, .int .i64 l, .int .i64 p, .int .i64 3, .int .i64 sl, .int .u64 hd, .int .i64 tr] 49)) 57 #[.int .i64 0, .int .i64 0, .int .u64 0, .int .u64 0]
  replace B0 := B0.alloc B0.size (.cells #[.int .i64 0, .int .i64 0, .int .u64 0, .int .u64 0] 57)
  replace bx := bx.alloc (.cells #[.int .i64 0, .int .i64 0, .int .u64 0, .int .u64 0] 57)
  rw [World.size_alloc] at bo
  go_enter Tryd.func54, Tryd.ntmps54
  go_wp2_with fail
  refine (C.out _).mono ?_
  rintro e w1 ⟨rfl, hb1⟩
  try replace bx := bx.below hb1 bx.lt
  try replace bo := bo.below hb1 bo.lt
  try replace by_ := by_.below hb1 by_.lt
  replace B0 := B0.trans (hb1.mono B0.size)
  clear hb1
  try clear mx lx
  try clear mo lo zo
  try clear my ly zy
  try have mx := fun i => bx.cell i
  try have lx := bx.lt
  try have mo := fun i => bo.cell i
  try have lo := bo.lt
  try have zo := fun i => bo.frozen i
  try have my := fun i => by_.cell i
  try have ly := by_.lt
  try have zy := fun i => by_.frozen i
  go_wp2_with fail
  have b9 := bo.put4 (.int .i64 3) (.int .i64 2) (.int .u64 hd) (.int .u64 y)
  have B9 := below_put4 B0 (g := w.heap.size + 1) (by omega) (.int .i64 3) (.int .i64 2) (.int .u64 hd) (.int .u64 y)
  have m9 := fun i => b9.cell i
  refine bodyPost_ret (v := .agg #[.int .i64 3, .int .i64 2, .int .u64 hd, .int .u64 y]) (by simp [results, Tryd.results54, go_sem, m9]) rfl ⟨rfl, by first | exact B9 | exact B9.drew⟩
set_option maxRecDepth 100000 in
set_option maxHeartbeats 2000000 in
theorem pswant_2 (s t f l p sl hd tr : Int) (w : World) (hs : 1 ≤ s ∧ s ≤ 1000) (ht : 1 ≤ t ∧ t ≤ 64) (hf : 4 ≤ f ∧ f ≤ 64) (hh : W64 hd) (hsl : 1 ≤ sl ∧ sl ≤ s) :
    Calls Tryd.prog 54 #[.agg #[.int .i64 s, .int .i64 t, .int .i64 f, .int .i64 l, .int .i64 p, .int .i64 2, .int .i64 sl, .int .u64 hd, .int .i64 tr]] w fun e w' => e = .returned (.agg #[.int .i64 2, .int .i64 (3 + 3 * t + sl * (3 + 2 * f) + 2), .int .u64 0, .int .u64 (hd % 65536)]) ∧ Below w.heap.size w w' := by
  have C := hide (fun w2 => llnk_any s t f l p sl w2 hs ht hf)
  rw [atp8 (by omega)] at C
  have M := hide (fun w2 => htell_slot hd w2 hh)
  have e1 : IntKind.u64.wrap (hd % 65536) = hd % 65536 := IntWalk.u64_in _ (by omega)
  generalize hd % 65536 = y at *
  generalize 3 + 3 * t + sl * (3 + 2 * f) + 2 = q at *
  have hmf : ∀ (fn : Fn) (first cap : Array Value) (w : World), (Instr.makeFunc fn first cap).run Tryd.prog w = .ok (.func fn first cap) w := fun _ _ _ _ => rfl
  have bx := Blk.new w 49 #[.int .i64 s, .int .i64 t, .int .i64 f, .int .i64 l, .int .i64 p, .int .i64 2, .int .i64 sl, .int .u64 hd, .int .i64 tr]
  have B0 := (Below.refl w.heap.size w).alloc (Nat.le_refl _) (.cells #[.int .i64 s, .int .i64 t, .int .i64 f, .int .i64 l, .int .i64 p, .int .i64 2, .int .i64 sl, .int .u64 hd, .int .i64 tr] 49)
  have bo := Blk.new (w.alloc (.cells #[.int .i64 s, .int .i64 t, .int .i64 f, .int .i64 l, .int .i64 p, .int .i64 2, .int .i64 sl, .int .u64 hd, .int .i64 tr] 49)) 57 #[.int .i64 0, .int .i64 0, .int .u64 0, .int .u64 0]
  replace B0 := B0.alloc B0.size (.cells #[.int .i64 0, .int .i64 0, .int .u64 0, .int .u64 0] 57)
  replace bx := bx.alloc (.cells #[.int .i64 0, .int .i64 0, .int .u64 0, .int .u64 0] 57)
  rw [World.size_alloc] at bo
  go_enter Tryd.func54, Tryd.ntmps54
  go_wp2_with fail
  generalize (w.alloc (.cells #[.int .i64 s, .int .i64 t, .int .i64 f, .int .i64 l, .int .i64 p, .int .i64 2, .int .i64 sl, .int .u64 hd, .int .i64 tr] 49)).alloc (.cells #[.int .i64 0, .int .i64 0, .int .u64 0, .int .u64 0] 57) = w0 at *
  have bd := bx.drewN 1
  have od := bo.drewN 1
  have Bd := below_drewN B0 1
  try clear mx lx
  try clear mo lo zo
  try clear my ly zy
  try have mx := fun i => bx.cell i
  try have lx := bx.lt
  try have mo := fun i => bo.cell i
  try have lo := bo.lt
  try have zo := fun i => bo.frozen i
  try have my := fun i => by_.cell i
  try have ly := by_.lt
  try have zy := fun i => by_.frozen i
  go_region_held3 (fun w' => w'.cell? ⟨w.heap.size, 0, none⟩ = some (.int .i64 s) ∧ w'.cell? ⟨w.heap.size, 1, none⟩ = some (.int .i64 t) ∧ w'.cell? ⟨w.heap.size, 2, none⟩ = some (.int .i64 f) ∧ w'.cell? ⟨w.heap.size, 3, none⟩ = some (.int .i64 l) ∧ w'.cell? ⟨w.heap.size, 4, none⟩ = some (.int .i64 p) ∧ w'.cell? ⟨w.heap.size, 5, none⟩ = some (.int .i64 2) ∧ w'.cell? ⟨w.heap.size, 6, none⟩ = some (.int .i64 sl) ∧ w'.cell? ⟨w.heap.size, 7, none⟩ = some (.int .u64 hd) ∧ w'.cell? ⟨w.heap.size, 8, none⟩ = some (.int .i64 tr)) (go_keep) ((first | (go_at_call 82; refine (C.out _).mono ?_; rintro e w1 ⟨rfl, hb1⟩; have bd := bd.below hb1 bd.lt; have od := od.below hb1 od.lt; have Bd := Bd.trans (hb1.mono Bd.size); have md := fun i => bd.cell i; have nd := fun i => od.cell i; have zd := fun i => od.frozen i; have ld := bd.lt; have kd := od.lt) | (go_at_call 83; refine (M.out _).mono ?_; rintro e w1 ⟨rfl, hb1⟩; have bd := bd.below hb1 bd.lt; have od := od.below hb1 od.lt; have Bd := Bd.trans (hb1.mono Bd.size); have md := fun i => bd.cell i; have nd := fun i => od.cell i; have zd := fun i => od.frozen i; have ld := bd.lt; have kd := od.lt)))
  all_goals
    go_wp2_with fail
    have b9 := od.put4 (.int .i64 2) (.int .i64 q) (.int .u64 0) (.int .u64 y)
    have B9 := below_put4 Bd (g := w.heap.size + 1) (by omega) (.int .i64 2) (.int .i64 q) (.int .u64 0) (.int .u64 y)
    have m9 := fun i => b9.cell i
    refine bodyPost_ret (v := .agg #[.int .i64 2, .int .i64 q, .int .u64 0, .int .u64 y]) (by simp [results, Tryd.results54, go_sem, m9]) rfl ⟨rfl, B9⟩
set_option maxRecDepth 100000 in
set_option maxHeartbeats 2000000 in
theorem psdone_1 (s t f l p sl hd tr k : Int) (w : World) (hk : (k == 0) = false) :
    Calls Tryd.prog 49 #[.agg #[.int .i64 s, .int .i64 t, .int .i64 f, .int .i64 l, .int .i64 p, .int .i64 k, .int .i64 sl, .int .u64 hd, .int .i64 tr]] w fun e w' => e = .returned (.bool false) ∧ Below w.heap.size w w' := by
  have bx := Blk.new w 49 #[.int .i64 s, .int .i64 t, .int .i64 f, .int .i64 l, .int .i64 p, .int .i64 k, .int .i64 sl, .int .u64 hd, .int .i64 tr]
  have B0 := (Below.refl w.heap.size w).alloc (Nat.le_refl _) (.cells #[.int .i64 s, .int .i64 t, .int .i64 f, .int .i64 l, .int .i64 p, .int .i64 k, .int .i64 sl, .int .u64 hd, .int .i64 tr] 49)
  go_enter Tryd.func49, Tryd.ntmps49
  go_wp2_with fail
  go_ret
  exact ⟨rfl, B0⟩
def rsV (x : Int × Int × Int × Int) : Value := .agg #[.int .i64 x.1, .int .u64 x.2.2.1, .int .i64 x.2.1, .int .i64 x.2.2.2]
def psAsk (t f : Int) (x : Int × Int × Int × Int) : Int × Int × Int × Int :=
  if x.1 = 1 then (1, 2, 0, 0)
  else if x.1 = 2 then (2, 3 + 3 * t + x.2.1 * (3 + 2 * f) + 2, 0, x.2.2.1 % 65536)
  else if x.1 = 3 then (3, 2, x.2.2.1, hturn x.2.2.1 x.2.1)
  else (0, 0, 0, 0)
/-- Where it has not come, its slot is one of the layout's. -/
def PsIn (s : Int) (x : Int × Int × Int × Int) : Prop := PsOk x ∧ W64 x.2.2.1 ∧ (x.1 = 0 ∨ (1 ≤ x.2.1 ∧ x.2.1 ≤ s))
theorem psTook_in {s g : Int} {x : Int × Int × Int × Int} (h : PsIn s x) (hg : W64 g) : PsIn s (psTook x g) := by
  obtain ⟨h1, h2, h3⟩ := h
  refine ⟨psTook_ok h1, ?_, ?_⟩
  · unfold psTook
    split
    · exact h2
    · split
      · exact hg
      · split
        · exact h2
        · split <;> exact h2
  · unfold psTook
    split
    · exact h3
    · next h0 =>
      have h3 := h3.resolve_left h0
      split
      · exact .inr h3
      · split
        · exact .inr h3
        · split <;> exact .inr h3
theorem pswant_any (s t f l p : Int) (x : Int × Int × Int × Int) (w : World) (hx : PsIn s x) (h : x.1 = 0 ∨ ((1 ≤ s ∧ s ≤ 1000) ∧ (1 ≤ t ∧ t ≤ 64) ∧ (4 ≤ f ∧ f ≤ 64))) :
    Calls Tryd.prog 54 #[psV s t f l p x] w fun e w' => e = .returned (.agg #[.int .i64 (psAsk t f x).1, .int .i64 (psAsk t f x).2.1, .int .u64 (psAsk t f x).2.2.1, .int .u64 (psAsk t f x).2.2.2]) ∧ Below w.heap.size w w' := by
  obtain ⟨k, sl, hd, tr⟩ := x
  obtain ⟨hk, h1, h2⟩ := hx
  unfold PsOk at hk
  simp only at hk h1 h2 h
  rcases hk with rfl | rfl | rfl | rfl
  · exact pswant_0 s t f l p sl hd tr w
  all_goals
    obtain ⟨hs, ht, hf⟩ := h.resolve_left (by decide)
    have h2 := h2.resolve_left (by decide)
  · exact pswant_1 s t f l p sl hd tr w hs ht hf
  · exact pswant_2 s t f l p sl hd tr w hs ht hf h1 h2
  · exact pswant_3 s t f l p sl hd tr w hs ht hf h1 h2
end Go.Proofs.YtokcbipmocpllaaDoor

/-
  Package sweep: the next handle's turn.
-/
namespace Go.Proofs.YtokcbipmocpllaaDoor
open Go.RowKit

theorem Tr.first {w : World} {e : TypeId} {s n : Nat} {ad : Addr} {c : Nat} {u : Value} {xs : List Value} (h : Tr w e s (.slice (some ad) n c) n (u :: xs)) : w.cell? ad = some u := by
  have := h.holds ad rfl 0 u (by simp)
  simpa [Addr.add] using this
theorem Tr.some_ {w : World} {e : TypeId} {s n : Nat} {A : Option Addr} {c : Nat} {xs : List Value} (h : Tr w e s (.slice A n c) n xs) (h0 : 0 < n) : ∃ ad, A = some ad := by
  obtain ⟨ad, h1, _⟩ := h.reads.2 h0
  exact ⟨ad, h1⟩
theorem Blk.rangeO {w : World} {g : Nat} {T : TypeId} {cs : Array Value} (h : Blk w g T cs) (o : Nat) (l : List Value) (hl : ∀ j v, l[j]? = some v → cs[o + j]? = some v) : w.rangeAt g o l := fun j v hv => by
  rw [h.cell (o + j)]
  exact hl j v hv
theorem Blk.thereO {w : World} {g n : Nat} {T : TypeId} {cs : Array Value} (h : Blk w g T cs) (o : Nat) (hn : o + n ≤ cs.size) : w.there g o n := fun j hj => by
  refine ⟨?_, h.frozen _⟩
  rw [h.cell (o + j)]
  simp
  omega

set_option linter.unusedSimpArgs false in
set_option maxRecDepth 100000 in
set_option maxHeartbeats 4000000 in
theorem snext_nil (s t f l p k ep : Int) (r : List (Int × Int)) (ks hz : List Int) (q0 q1 q2 q3 q4 pk sl hd tr : Int) (fr : List Int) (ju : Int) (v : Value) (w : World) (hv : SwV w s t f l p k ep r ks hz [] q0 q1 q2 q3 q4 pk sl hd tr fr ju v) :
    Calls Tryd.prog 51 #[v] w fun e w' => (∃ v', e = .returned v' ∧ SwV w' s t f l p 0 ep r ks hz [] q0 q1 q2 q3 q4 pk sl hd tr fr ju v') ∧ Below w.heap.size w w' := by
  obtain ⟨A1, c1, A2, c2, A3, c3, A4, c4, A5, c5, rfl, t1, t2, t3, t4, t5⟩ := hv
  simp only [List.length_nil] at t4 ⊢
  have B0 := ((Below.refl w.heap.size w).alloc (Nat.le_refl _) (.cells #[.slice A1 r.length c1, .slice A2 ks.length c2, .int .i64 s, .int .i64 t, .int .i64 f, .int .i64 l, .int .i64 p, .int .i64 k, .int .u64 ep, .slice A3 hz.length c3, .slice A4 0 c4, .int .i64 q0, .int .i64 q1, .int .i64 q2, .int .i64 q3, .int .i64 q4, .int .i64 pk, .int .i64 sl, .int .u64 hd, .int .i64 tr, .slice A5 fr.length c5, .int .i64 ju] 51)).alloc (by simp only [World.size_alloc]; omega) (.cells #[.slice none 0 0, .slice none 0 0, .int .i64 0, .int .i64 0, .int .i64 0, .int .i64 0, .int .i64 0, .int .i64 0, .int .u64 0, .slice none 0 0, .slice none 0 0, .int .i64 0, .int .i64 0, .int .i64 0, .int .i64 0, .int .i64 0, .int .i64 0, .int .i64 0, .int .u64 0, .int .i64 0, .slice none 0 0, .int .i64 0] 51)
  have bs := (Blk.new w 51 #[.slice A1 r.length c1, .slice A2 ks.length c2, .int .i64 s, .int .i64 t, .int .i64 f, .int .i64 l, .int .i64 p, .int .i64 k, .int .u64 ep, .slice A3 hz.length c3, .slice A4 0 c4, .int .i64 q0, .int .i64 q1, .int .i64 q2, .int .i64 q3, .int .i64 q4, .int .i64 pk, .int .i64 sl, .int .u64 hd, .int .i64 tr, .slice A5 fr.length c5, .int .i64 ju]).alloc (.cells #[.slice none 0 0, .slice none 0 0, .int .i64 0, .int .i64 0, .int .i64 0, .int .i64 0, .int .i64 0, .int .i64 0, .int .u64 0, .slice none 0 0, .slice none 0 0, .int .i64 0, .int .i64 0, .int .i64 0, .int .i64 0, .int .i64 0, .int .i64 0, .int .i64 0, .int .u64 0, .int .i64 0, .slice none 0 0, .int .i64 0] 51)
  have bo := Blk.new (w.alloc (.cells #[.slice A1 r.length c1, .slice A2 ks.length c2, .int .i64 s, .int .i64 t, .int .i64 f, .int .i64 l, .int .i64 p, .int .i64 k, .int .u64 ep, .slice A3 hz.length c3, .slice A4 0 c4, .int .i64 q0, .int .i64 q1, .int .i64 q2, .int .i64 q3, .int .i64 q4, .int .i64 pk, .int .i64 sl, .int .u64 hd, .int .i64 tr, .slice A5 fr.length c5, .int .i64 ju] 51)) 51 #[.slice none 0 0, .slice none 0 0, .int .i64 0, .int .i64 0, .int .i64 0, .int .i64 0, .int .i64 0, .int .i64 0, .int .u64 0, .slice none 0 0, .slice none 0 0, .int .i64 0, .int .i64 0, .int .i64 0, .int .i64 0, .int .i64 0, .int .i64 0, .int .i64 0, .int .u64 0, .int .i64 0, .slice none 0 0, .int .i64 0]
  simp only [World.size_alloc] at bo
  replace t1 := (t1.alloc (.cells #[.slice A1 r.length c1, .slice A2 ks.length c2, .int .i64 s, .int .i64 t, .int .i64 f, .int .i64 l, .int .i64 p, .int .i64 k, .int .u64 ep, .slice A3 hz.length c3, .slice A4 0 c4, .int .i64 q0, .int .i64 q1, .int .i64 q2, .int .i64 q3, .int .i64 q4, .int .i64 pk, .int .i64 sl, .int .u64 hd, .int .i64 tr, .slice A5 fr.length c5, .int .i64 ju] 51)).alloc (.cells #[.slice none 0 0, .slice none 0 0, .int .i64 0, .int .i64 0, .int .i64 0, .int .i64 0, .int .i64 0, .int .i64 0, .int .u64 0, .slice none 0 0, .slice none 0 0, .int .i64 0, .int .i64 0, .int .i64 0, .int .i64 0, .int .i64 0, .int .i64 0, .int .i64 0, .int .u64 0, .int .i64 0, .slice none 0 0, .int .i64 0] 51)
  replace t2 := (t2.alloc (.cells #[.slice A1 r.length c1, .slice A2 ks.length c2, .int .i64 s, .int .i64 t, .int .i64 f, .int .i64 l, .int .i64 p, .int .i64 k, .int .u64 ep, .slice A3 hz.length c3, .slice A4 0 c4, .int .i64 q0, .int .i64 q1, .int .i64 q2, .int .i64 q3, .int .i64 q4, .int .i64 pk, .int .i64 sl, .int .u64 hd, .int .i64 tr, .slice A5 fr.length c5, .int .i64 ju] 51)).alloc (.cells #[.slice none 0 0, .slice none 0 0, .int .i64 0, .int .i64 0, .int .i64 0, .int .i64 0, .int .i64 0, .int .i64 0, .int .u64 0, .slice none 0 0, .slice none 0 0, .int .i64 0, .int .i64 0, .int .i64 0, .int .i64 0, .int .i64 0, .int .i64 0, .int .i64 0, .int .u64 0, .int .i64 0, .slice none 0 0, .int .i64 0] 51)
  replace t3 := (t3.alloc (.cells #[.slice A1 r.length c1, .slice A2 ks.length c2, .int .i64 s, .int .i64 t, .int .i64 f, .int .i64 l, .int .i64 p, .int .i64 k, .int .u64 ep, .slice A3 hz.length c3, .slice A4 0 c4, .int .i64 q0, .int .i64 q1, .int .i64 q2, .int .i64 q3, .int .i64 q4, .int .i64 pk, .int .i64 sl, .int .u64 hd, .int .i64 tr, .slice A5 fr.length c5, .int .i64 ju] 51)).alloc (.cells #[.slice none 0 0, .slice none 0 0, .int .i64 0, .int .i64 0, .int .i64 0, .int .i64 0, .int .i64 0, .int .i64 0, .int .u64 0, .slice none 0 0, .slice none 0 0, .int .i64 0, .int .i64 0, .int .i64 0, .int .i64 0, .int .i64 0, .int .i64 0, .int .i64 0, .int .u64 0, .int .i64 0, .slice none 0 0, .int .i64 0] 51)
  replace t4 := (t4.alloc (.cells #[.slice A1 r.length c1, .slice A2 ks.length c2, .int .i64 s, .int .i64 t, .int .i64 f, .int .i64 l, .int .i64 p, .int .i64 k, .int .u64 ep, .slice A3 hz.length c3, .slice A4 0 c4, .int .i64 q0, .int .i64 q1, .int .i64 q2, .int .i64 q3, .int .i64 q4, .int .i64 pk, .int .i64 sl, .int .u64 hd, .int .i64 tr, .slice A5 fr.length c5, .int .i64 ju] 51)).alloc (.cells #[.slice none 0 0, .slice none 0 0, .int .i64 0, .int .i64 0, .int .i64 0, .int .i64 0, .int .i64 0, .int .i64 0, .int .u64 0, .slice none 0 0, .slice none 0 0, .int .i64 0, .int .i64 0, .int .i64 0, .int .i64 0, .int .i64 0, .int .i64 0, .int .i64 0, .int .u64 0, .int .i64 0, .slice none 0 0, .int .i64 0] 51)
  replace t5 := (t5.alloc (.cells #[.slice A1 r.length c1, .slice A2 ks.length c2, .int .i64 s, .int .i64 t, .int .i64 f, .int .i64 l, .int .i64 p, .int .i64 k, .int .u64 ep, .slice A3 hz.length c3, .slice A4 0 c4, .int .i64 q0, .int .i64 q1, .int .i64 q2, .int .i64 q3, .int .i64 q4, .int .i64 pk, .int .i64 sl, .int .u64 hd, .int .i64 tr, .slice A5 fr.length c5, .int .i64 ju] 51)).alloc (.cells #[.slice none 0 0, .slice none 0 0, .int .i64 0, .int .i64 0, .int .i64 0, .int .i64 0, .int .i64 0, .int .i64 0, .int .u64 0, .slice none 0 0, .slice none 0 0, .int .i64 0, .int .i64 0, .int .i64 0, .int .i64 0, .int .i64 0, .int .i64 0, .int .i64 0, .int .u64 0, .int .i64 0, .slice none 0 0, .int .i64 0] 51)
  go_enter Tryd.func51, Tryd.ntmps51
  go_wp2_with fail
  generalize (w.alloc (.cells #[.slice A1 r.length c1, .slice A2 ks.length c2, .int .i64 s, .int .i64 t, .int .i64 f, .int .i64 l, .int .i64 p, .int .i64 k, .int .u64 ep, .slice A3 hz.length c3, .slice A4 0 c4, .int .i64 q0, .int .i64 q1, .int .i64 q2, .int .i64 q3, .int .i64 q4, .int .i64 pk, .int .i64 sl, .int .u64 hd, .int .i64 tr, .slice A5 fr.length c5, .int .i64 ju] 51)).alloc (.cells #[.slice none 0 0, .slice none 0 0, .int .i64 0, .int .i64 0, .int .i64 0, .int .i64 0, .int .i64 0, .int .i64 0, .int .u64 0, .slice none 0 0, .slice none 0 0, .int .i64 0, .int .i64 0, .int .i64 0, .int .i64 0, .int .i64 0, .int .i64 0, .int .i64 0, .int .u64 0, .int .i64 0, .slice none 0 0, .int .i64 0] 51) = w0 at *
  have ms := fun i => bs.cell i
  have zs := fun i => bs.frozen i
  go_wp2_with fail
  refine wp_loop_once ?_
  replace t1 := t1.set_ bs (by decide) 7 (.int .i64 0)
  replace t2 := t2.set_ bs (by decide) 7 (.int .i64 0)
  replace t3 := t3.set_ bs (by decide) 7 (.int .i64 0)
  replace t4 := t4.set_ bs (by decide) 7 (.int .i64 0)
  replace t5 := t5.set_ bs (by decide) 7 (.int .i64 0)
  replace bo := bo.far (p := ⟨w.heap.size, 7, none⟩) (by show w.heap.size + 1 ≠ w.heap.size; omega) (.int .i64 0)
  replace B0 := B0.setCell (p := ⟨w.heap.size, 7, none⟩) (Nat.le_refl _) (.int .i64 0)
  replace bs := bs.set_ 7 (.int .i64 0)
  simp only [List.setIfInBounds_toArray, List.set_cons_zero, List.set_cons_succ] at bs
  go_wp2_with (first | (refine wpList_load_mid rfl 51 (.tmp 1) rfl w.heap.size 0 (by rfl) [.slice A1 r.length c1, .slice A2 ks.length c2, .int .i64 s, .int .i64 t, .int .i64 f, .int .i64 l, .int .i64 p, .int .i64 0, .int .u64 ep, .slice A3 hz.length c3, .slice A4 0 c4, .int .i64 q0, .int .i64 q1, .int .i64 q2, .int .i64 q3, .int .i64 q4, .int .i64 pk, .int .i64 sl, .int .u64 hd, .int .i64 tr, .slice A5 fr.length c5, .int .i64 ju] _ bs.range Tryd.underlying51 rfl (by kernel_rfl) ?_) | (refine wpList_store_mid rfl 51 (.tmp 2) (.tmp 34) rfl (w.heap.size + 1) 0 #[.slice A1 r.length c1, .slice A2 ks.length c2, .int .i64 s, .int .i64 t, .int .i64 f, .int .i64 l, .int .i64 p, .int .i64 0, .int .u64 ep, .slice A3 hz.length c3, .slice A4 0 c4, .int .i64 q0, .int .i64 q1, .int .i64 q2, .int .i64 q3, .int .i64 q4, .int .i64 pk, .int .i64 sl, .int .u64 hd, .int .i64 tr, .slice A5 fr.length c5, .int .i64 ju] (by rfl) (by rfl) (bo.there rfl) (by kernel_rfl) (by kernel_rfl) ?_))
  replace t1 := (show Tr ((w0.setCell ⟨w.heap.size, 7, none⟩ (.int .i64 0)).setCells (w.heap.size + 1) 0 [.slice A1 r.length c1, .slice A2 ks.length c2, .int .i64 s, .int .i64 t, .int .i64 f, .int .i64 l, .int .i64 p, .int .i64 0, .int .u64 ep, .slice A3 hz.length c3, .slice A4 0 c4, .int .i64 q0, .int .i64 q1, .int .i64 q2, .int .i64 q3, .int .i64 q4, .int .i64 pk, .int .i64 sl, .int .u64 hd, .int .i64 tr, .slice A5 fr.length c5, .int .i64 ju]) _ _ _ _ _ from by rw [putL_eq]; exact Tr.putL (by decide) _ 0 bo t1)
  replace t2 := (show Tr ((w0.setCell ⟨w.heap.size, 7, none⟩ (.int .i64 0)).setCells (w.heap.size + 1) 0 [.slice A1 r.length c1, .slice A2 ks.length c2, .int .i64 s, .int .i64 t, .int .i64 f, .int .i64 l, .int .i64 p, .int .i64 0, .int .u64 ep, .slice A3 hz.length c3, .slice A4 0 c4, .int .i64 q0, .int .i64 q1, .int .i64 q2, .int .i64 q3, .int .i64 q4, .int .i64 pk, .int .i64 sl, .int .u64 hd, .int .i64 tr, .slice A5 fr.length c5, .int .i64 ju]) _ _ _ _ _ from by rw [putL_eq]; exact Tr.putL (by decide) _ 0 bo t2)
  replace t3 := (show Tr ((w0.setCell ⟨w.heap.size, 7, none⟩ (.int .i64 0)).setCells (w.heap.size + 1) 0 [.slice A1 r.length c1, .slice A2 ks.length c2, .int .i64 s, .int .i64 t, .int .i64 f, .int .i64 l, .int .i64 p, .int .i64 0, .int .u64 ep, .slice A3 hz.length c3, .slice A4 0 c4, .int .i64 q0, .int .i64 q1, .int .i64 q2, .int .i64 q3, .int .i64 q4, .int .i64 pk, .int .i64 sl, .int .u64 hd, .int .i64 tr, .slice A5 fr.length c5, .int .i64 ju]) _ _ _ _ _ from by rw [putL_eq]; exact Tr.putL (by decide) _ 0 bo t3)
  replace t4 := (show Tr ((w0.setCell ⟨w.heap.size, 7, none⟩ (.int .i64 0)).setCells (w.heap.size + 1) 0 [.slice A1 r.length c1, .slice A2 ks.length c2, .int .i64 s, .int .i64 t, .int .i64 f, .int .i64 l, .int .i64 p, .int .i64 0, .int .u64 ep, .slice A3 hz.length c3, .slice A4 0 c4, .int .i64 q0, .int .i64 q1, .int .i64 q2, .int .i64 q3, .int .i64 q4, .int .i64 pk, .int .i64 sl, .int .u64 hd, .int .i64 tr, .slice A5 fr.length c5, .int .i64 ju]) _ _ _ _ _ from by rw [putL_eq]; exact Tr.putL (by decide) _ 0 bo t4)
  replace t5 := (show Tr ((w0.setCell ⟨w.heap.size, 7, none⟩ (.int .i64 0)).setCells (w.heap.size + 1) 0 [.slice A1 r.length c1, .slice A2 ks.length c2, .int .i64 s, .int .i64 t, .int .i64 f, .int .i64 l, .int .i64 p, .int .i64 0, .int .u64 ep, .slice A3 hz.length c3, .slice A4 0 c4, .int .i64 q0, .int .i64 q1, .int .i64 q2, .int .i64 q3, .int .i64 q4, .int .i64 pk, .int .i64 sl, .int .u64 hd, .int .i64 tr, .slice A5 fr.length c5, .int .i64 ju]) _ _ _ _ _ from by rw [putL_eq]; exact Tr.putL (by decide) _ 0 bo t5)
  replace B0 := (show Below w.heap.size w ((w0.setCell ⟨w.heap.size, 7, none⟩ (.int .i64 0)).setCells (w.heap.size + 1) 0 [.slice A1 r.length c1, .slice A2 ks.length c2, .int .i64 s, .int .i64 t, .int .i64 f, .int .i64 l, .int .i64 p, .int .i64 0, .int .u64 ep, .slice A3 hz.length c3, .slice A4 0 c4, .int .i64 q0, .int .i64 q1, .int .i64 q2, .int .i64 q3, .int .i64 q4, .int .i64 pk, .int .i64 sl, .int .u64 hd, .int .i64 tr, .slice A5 fr.length c5, .int .i64 ju]) from by rw [putL_eq]; exact Below.putL (by omega) _ _ 0 B0)
  replace bo := (show Blk ((w0.setCell ⟨w.heap.size, 7, none⟩ (.int .i64 0)).setCells (w.heap.size + 1) 0 [.slice A1 r.length c1, .slice A2 ks.length c2, .int .i64 s, .int .i64 t, .int .i64 f, .int .i64 l, .int .i64 p, .int .i64 0, .int .u64 ep, .slice A3 hz.length c3, .slice A4 0 c4, .int .i64 q0, .int .i64 q1, .int .i64 q2, .int .i64 q3, .int .i64 q4, .int .i64 pk, .int .i64 sl, .int .u64 hd, .int .i64 tr, .slice A5 fr.length c5, .int .i64 ju]) (w.heap.size + 1) 51 #[.slice A1 r.length c1, .slice A2 ks.length c2, .int .i64 s, .int .i64 t, .int .i64 f, .int .i64 l, .int .i64 p, .int .i64 0, .int .u64 ep, .slice A3 hz.length c3, .slice A4 0 c4, .int .i64 q0, .int .i64 q1, .int .i64 q2, .int .i64 q3, .int .i64 q4, .int .i64 pk, .int .i64 sl, .int .u64 hd, .int .i64 tr, .slice A5 fr.length c5, .int .i64 ju] from by rw [putL_eq]; have h9 := Blk.putL [.slice A1 r.length c1, .slice A2 ks.length c2, .int .i64 s, .int .i64 t, .int .i64 f, .int .i64 l, .int .i64 p, .int .i64 0, .int .u64 ep, .slice A3 hz.length c3, .slice A4 0 c4, .int .i64 q0, .int .i64 q1, .int .i64 q2, .int .i64 q3, .int .i64 q4, .int .i64 pk, .int .i64 sl, .int .u64 hd, .int .i64 tr, .slice A5 fr.length c5, .int .i64 ju] _ _ 0 bo; simpa only [setL, List.setIfInBounds_toArray, List.set_cons_zero, List.set_cons_succ] using h9)
  clear bs
  generalize (w0.setCell ⟨w.heap.size, 7, none⟩ (.int .i64 0)).setCells (w.heap.size + 1) 0 [.slice A1 r.length c1, .slice A2 ks.length c2, .int .i64 s, .int .i64 t, .int .i64 f, .int .i64 l, .int .i64 p, .int .i64 0, .int .u64 ep, .slice A3 hz.length c3, .slice A4 0 c4, .int .i64 q0, .int .i64 q1, .int .i64 q2, .int .i64 q3, .int .i64 q4, .int .i64 pk, .int .i64 sl, .int .u64 hd, .int .i64 tr, .slice A5 fr.length c5, .int .i64 ju] = w12 at *
  have hres : (loadVar 51 ⟨w.heap.size + 1, 0, none⟩).run Tryd.prog w12 = .ok (.agg #[.slice A1 r.length c1, .slice A2 ks.length c2, .int .i64 s, .int .i64 t, .int .i64 f, .int .i64 l, .int .i64 p, .int .i64 0, .int .u64 ep, .slice A3 hz.length c3, .slice A4 0 c4, .int .i64 q0, .int .i64 q1, .int .i64 q2, .int .i64 q3, .int .i64 q4, .int .i64 pk, .int .i64 sl, .int .u64 hd, .int .i64 tr, .slice A5 fr.length c5, .int .i64 ju]) w12 := run_loadVar_mid w12 _ 0 _ [.slice A1 r.length c1, .slice A2 ks.length c2, .int .i64 s, .int .i64 t, .int .i64 f, .int .i64 l, .int .i64 p, .int .i64 0, .int .u64 ep, .slice A3 hz.length c3, .slice A4 0 c4, .int .i64 q0, .int .i64 q1, .int .i64 q2, .int .i64 q3, .int .i64 q4, .int .i64 pk, .int .i64 sl, .int .u64 hd, .int .i64 tr, .slice A5 fr.length c5, .int .i64 ju] _ bo.range Tryd.underlying51 rfl (by kernel_rfl)
  refine bodyPost_ret (v := .agg #[.slice A1 r.length c1, .slice A2 ks.length c2, .int .i64 s, .int .i64 t, .int .i64 f, .int .i64 l, .int .i64 p, .int .i64 0, .int .u64 ep, .slice A3 hz.length c3, .slice A4 0 c4, .int .i64 q0, .int .i64 q1, .int .i64 q2, .int .i64 q3, .int .i64 q4, .int .i64 pk, .int .i64 sl, .int .u64 hd, .int .i64 tr, .slice A5 fr.length c5, .int .i64 ju]) (by simp [results, Tryd.results51, Act.put, asAddr, hres]) rfl ⟨⟨_, rfl, _, _, _, _, _, _, _, _, _, _, rfl, t1, t2, t3, t4, t5⟩, B0⟩
set_option linter.unusedSimpArgs false in
set_option maxRecDepth 100000 in
set_option maxHeartbeats 4000000 in
theorem snext_one (s t f l p k ep : Int) (r : List (Int × Int)) (ks hz : List Int) (td : List (Int × Bool)) (q0 q1 q2 q3 q4 pk sl hd tr : Int) (fr : List Int) (ju : Int) (h : Int) (kp : Bool) (v : Value) (w : World) (hv : SwV w s t f l p k ep r ks hz ((h, kp) :: td) q0 q1 q2 q3 q4 pk sl hd tr fr ju v) (hh : W64 h) (hs : 1 ≤ s ∧ s ≤ 1000) (ht : 1 ≤ t ∧ t ≤ 64) (hf : 4 ≤ f ∧ f ≤ 64) (h0 : 1 ≤ h % 65536) (h1 : h % 65536 ≤ s) :
    Calls Tryd.prog 51 #[v] w fun e w' => (∃ v', e = .returned v' ∧ SwV w' s t f l p 3 ep r ks hz ((h, kp) :: td) s t f l p 1 (h % 65536) 0 0 fr ju v') ∧ Below w.heap.size w w' := by
  obtain ⟨A1, c1, A2, c2, A3, c3, A4, c4, A5, c5, rfl, t1, t2, t3, t4, t5⟩ := hv
  have SL := hide (fun w2 => Slot_any h w2 hh)
  have NW := hide (fun w2 => psnew_yes s t f l p (h % 65536) w2 hs ht hf h0 h1)
  have DN := hide (fun w2 => psdone_1 s t f l p (h % 65536) 0 0 1 w2 rfl)
  clear hs ht hf h0 h1 hh
  generalize hq : h % 65536 = sw at *
  clear hq
  obtain ⟨m4, HM4⟩ : ∃ m, Hid (m = ((h, kp) :: td).length) := ⟨_, hide rfl⟩
  rw [← HM4.out] at t4
  have hm4 : (0 : Int) < (m4 : Int) := by rw [HM4.out, List.length_cons]; omega
  have hm4n : 0 < m4 := by omega
  obtain ⟨ad, rfl⟩ := t4.some_ hm4n
  rw [← HM4.out]
  have B0 := ((Below.refl w.heap.size w).alloc (Nat.le_refl _) (.cells #[.slice A1 r.length c1, .slice A2 ks.length c2, .int .i64 s, .int .i64 t, .int .i64 f, .int .i64 l, .int .i64 p, .int .i64 k, .int .u64 ep, .slice A3 hz.length c3, .slice (some ad) m4 c4, .int .i64 q0, .int .i64 q1, .int .i64 q2, .int .i64 q3, .int .i64 q4, .int .i64 pk, .int .i64 sl, .int .u64 hd, .int .i64 tr, .slice A5 fr.length c5, .int .i64 ju] 51)).alloc (by simp only [World.size_alloc]; omega) (.cells #[.slice none 0 0, .slice none 0 0, .int .i64 0, .int .i64 0, .int .i64 0, .int .i64 0, .int .i64 0, .int .i64 0, .int .u64 0, .slice none 0 0, .slice none 0 0, .int .i64 0, .int .i64 0, .int .i64 0, .int .i64 0, .int .i64 0, .int .i64 0, .int .i64 0, .int .u64 0, .int .i64 0, .slice none 0 0, .int .i64 0] 51)
  have bs := (Blk.new w 51 #[.slice A1 r.length c1, .slice A2 ks.length c2, .int .i64 s, .int .i64 t, .int .i64 f, .int .i64 l, .int .i64 p, .int .i64 k, .int .u64 ep, .slice A3 hz.length c3, .slice (some ad) m4 c4, .int .i64 q0, .int .i64 q1, .int .i64 q2, .int .i64 q3, .int .i64 q4, .int .i64 pk, .int .i64 sl, .int .u64 hd, .int .i64 tr, .slice A5 fr.length c5, .int .i64 ju]).alloc (.cells #[.slice none 0 0, .slice none 0 0, .int .i64 0, .int .i64 0, .int .i64 0, .int .i64 0, .int .i64 0, .int .i64 0, .int .u64 0, .slice none 0 0, .slice none 0 0, .int .i64 0, .int .i64 0, .int .i64 0, .int .i64 0, .int .i64 0, .int .i64 0, .int .i64 0, .int .u64 0, .int .i64 0, .slice none 0 0, .int .i64 0] 51)
  have bo := Blk.new (w.alloc (.cells #[.slice A1 r.length c1, .slice A2 ks.length c2, .int .i64 s, .int .i64 t, .int .i64 f, .int .i64 l, .int .i64 p, .int .i64 k, .int .u64 ep, .slice A3 hz.length c3, .slice (some ad) m4 c4, .int .i64 q0, .int .i64 q1, .int .i64 q2, .int .i64 q3, .int .i64 q4, .int .i64 pk, .int .i64 sl, .int .u64 hd, .int .i64 tr, .slice A5 fr.length c5, .int .i64 ju] 51)) 51 #[.slice none 0 0, .slice none 0 0, .int .i64 0, .int .i64 0, .int .i64 0, .int .i64 0, .int .i64 0, .int .i64 0, .int .u64 0, .slice none 0 0, .slice none 0 0, .int .i64 0, .int .i64 0, .int .i64 0, .int .i64 0, .int .i64 0, .int .i64 0, .int .i64 0, .int .u64 0, .int .i64 0, .slice none 0 0, .int .i64 0]
  simp only [World.size_alloc] at bo
  replace t1 := (t1.alloc (.cells #[.slice A1 r.length c1, .slice A2 ks.length c2, .int .i64 s, .int .i64 t, .int .i64 f, .int .i64 l, .int .i64 p, .int .i64 k, .int .u64 ep, .slice A3 hz.length c3, .slice (some ad) m4 c4, .int .i64 q0, .int .i64 q1, .int .i64 q2, .int .i64 q3, .int .i64 q4, .int .i64 pk, .int .i64 sl, .int .u64 hd, .int .i64 tr, .slice A5 fr.length c5, .int .i64 ju] 51)).alloc (.cells #[.slice none 0 0, .slice none 0 0, .int .i64 0, .int .i64 0, .int .i64 0, .int .i64 0, .int .i64 0, .int .i64 0, .int .u64 0, .slice none 0 0, .slice none 0 0, .int .i64 0, .int .i64 0, .int .i64 0, .int .i64 0, .int .i64 0, .int .i64 0, .int .i64 0, .int .u64 0, .int .i64 0, .slice none 0 0, .int .i64 0] 51)
  replace t2 := (t2.alloc (.cells #[.slice A1 r.length c1, .slice A2 ks.length c2, .int .i64 s, .int .i64 t, .int .i64 f, .int .i64 l, .int .i64 p, .int .i64 k, .int .u64 ep, .slice A3 hz.length c3, .slice (some ad) m4 c4, .int .i64 q0, .int .i64 q1, .int .i64 q2, .int .i64 q3, .int .i64 q4, .int .i64 pk, .int .i64 sl, .int .u64 hd, .int .i64 tr, .slice A5 fr.length c5, .int .i64 ju] 51)).alloc (.cells #[.slice none 0 0, .slice none 0 0, .int .i64 0, .int .i64 0, .int .i64 0, .int .i64 0, .int .i64 0, .int .i64 0, .int .u64 0, .slice none 0 0, .slice none 0 0, .int .i64 0, .int .i64 0, .int .i64 0, .int .i64 0, .int .i64 0, .int .i64 0, .int .i64 0, .int .u64 0, .int .i64 0, .slice none 0 0, .int .i64 0] 51)
  replace t3 := (t3.alloc (.cells #[.slice A1 r.length c1, .slice A2 ks.length c2, .int .i64 s, .int .i64 t, .int .i64 f, .int .i64 l, .int .i64 p, .int .i64 k, .int .u64 ep, .slice A3 hz.length c3, .slice (some ad) m4 c4, .int .i64 q0, .int .i64 q1, .int .i64 q2, .int .i64 q3, .int .i64 q4, .int .i64 pk, .int .i64 sl, .int .u64 hd, .int .i64 tr, .slice A5 fr.length c5, .int .i64 ju] 51)).alloc (.cells #[.slice none 0 0, .slice none 0 0, .int .i64 0, .int .i64 0, .int .i64 0, .int .i64 0, .int .i64 0, .int .i64 0, .int .u64 0, .slice none 0 0, .slice none 0 0, .int .i64 0, .int .i64 0, .int .i64 0, .int .i64 0, .int .i64 0, .int .i64 0, .int .i64 0, .int .u64 0, .int .i64 0, .slice none 0 0, .int .i64 0] 51)
  replace t4 := (t4.alloc (.cells #[.slice A1 r.length c1, .slice A2 ks.length c2, .int .i64 s, .int .i64 t, .int .i64 f, .int .i64 l, .int .i64 p, .int .i64 k, .int .u64 ep, .slice A3 hz.length c3, .slice (some ad) m4 c4, .int .i64 q0, .int .i64 q1, .int .i64 q2, .int .i64 q3, .int .i64 q4, .int .i64 pk, .int .i64 sl, .int .u64 hd, .int .i64 tr, .slice A5 fr.length c5, .int .i64 ju] 51)).alloc (.cells #[.slice none 0 0, .slice none 0 0, .int .i64 0, .int .i64 0, .int .i64 0, .int .i64 0, .int .i64 0, .int .i64 0, .int .u64 0, .slice none 0 0, .slice none 0 0, .int .i64 0, .int .i64 0, .int .i64 0, .int .i64 0, .int .i64 0, .int .i64 0, .int .i64 0, .int .u64 0, .int .i64 0, .slice none 0 0, .int .i64 0] 51)
  replace t5 := (t5.alloc (.cells #[.slice A1 r.length c1, .slice A2 ks.length c2, .int .i64 s, .int .i64 t, .int .i64 f, .int .i64 l, .int .i64 p, .int .i64 k, .int .u64 ep, .slice A3 hz.length c3, .slice (some ad) m4 c4, .int .i64 q0, .int .i64 q1, .int .i64 q2, .int .i64 q3, .int .i64 q4, .int .i64 pk, .int .i64 sl, .int .u64 hd, .int .i64 tr, .slice A5 fr.length c5, .int .i64 ju] 51)).alloc (.cells #[.slice none 0 0, .slice none 0 0, .int .i64 0, .int .i64 0, .int .i64 0, .int .i64 0, .int .i64 0, .int .i64 0, .int .u64 0, .slice none 0 0, .slice none 0 0, .int .i64 0, .int .i64 0, .int .i64 0, .int .i64 0, .int .i64 0, .int .i64 0, .int .i64 0, .int .u64 0, .int .i64 0, .slice none 0 0, .int .i64 0] 51)
  go_enter Tryd.func51, Tryd.ntmps51
  go_wp2_with fail
  generalize (w.alloc (.cells #[.slice A1 r.length c1, .slice A2 ks.length c2, .int .i64 s, .int .i64 t, .int .i64 f, .int .i64 l, .int .i64 p, .int .i64 k, .int .u64 ep, .slice A3 hz.length c3, .slice (some ad) m4 c4, .int .i64 q0, .int .i64 q1, .int .i64 q2, .int .i64 q3, .int .i64 q4, .int .i64 pk, .int .i64 sl, .int .u64 hd, .int .i64 tr, .slice A5 fr.length c5, .int .i64 ju] 51)).alloc (.cells #[.slice none 0 0, .slice none 0 0, .int .i64 0, .int .i64 0, .int .i64 0, .int .i64 0, .int .i64 0, .int .i64 0, .int .u64 0, .slice none 0 0, .slice none 0 0, .int .i64 0, .int .i64 0, .int .i64 0, .int .i64 0, .int .i64 0, .int .i64 0, .int .i64 0, .int .u64 0, .int .i64 0, .slice none 0 0, .int .i64 0] 51) = w0 at *
  have ms := fun i => bs.cell i
  have zs := fun i => bs.frozen i
  go_wp2_with fail
  refine wp_loop_once ?_
  go_wp2_with fail
  refine wp_region_heldZ [10] (fun w' => w'.cell? ⟨w.heap.size, 2, none⟩ = some (.int .i64 s) ∧ w'.cell? ⟨w.heap.size, 3, none⟩ = some (.int .i64 t) ∧ w'.cell? ⟨w.heap.size, 4, none⟩ = some (.int .i64 f) ∧ w'.cell? ⟨w.heap.size, 5, none⟩ = some (.int .i64 l) ∧ w'.cell? ⟨w.heap.size, 6, none⟩ = some (.int .i64 p) ∧ w'.cell? ⟨w.heap.size, 10, none⟩ = some (.slice (some ad) m4 c4) ∧ w'.cell? ad = some (.int .u64 h)) (by kernel_rfl) (by exact ⟨bs.cell 2, bs.cell 3, bs.cell 4, bs.cell 5, bs.cell 6, bs.cell 10, t4.first⟩) (fun hHeld => ?_)
  replace t1 := t1.drew
  replace t2 := t2.drew
  replace t3 := t3.drew
  replace t4 := t4.drew
  replace t5 := t5.drew
  replace bs := bs.drew
  replace bo := bo.drew
  replace B0 := B0.drew
  generalize w0.drew = wd at *
  clear ms
  refine' wpAnyZ_takeA (i := 0) (v := ?_) (opAt rfl) (by kernel_rfl) (by kernel_rfl) (by kernel_rfl) (by kernel_rfl) (fun _ _ _ h => h) (by assumption) (by rfl) (fun w hSw => ?_) ?_
  rotate_left
  · (try dsimp only at hSw); go_simp; (try with_reducible rfl)
  try simp only [Act.put, List.setIfInBounds_toArray, List.set_cons_zero, List.set_cons_succ]
  refine' wpAnyZ_takeA (i := 1) (v := ?_) (opAt rfl) (by kernel_rfl) (by kernel_rfl) (by kernel_rfl) (by kernel_rfl) (fun _ _ _ h => h) (by assumption) (by rfl) (fun w hSw => ?_) ?_
  rotate_left
  · (try dsimp only at hSw); go_simp; (try with_reducible rfl)
  try simp only [Act.put, List.setIfInBounds_toArray, List.set_cons_zero, List.set_cons_succ]
  refine' wpAnyZ_takeA (i := 2) (v := ?_) (opAt rfl) (by kernel_rfl) (by kernel_rfl) (by kernel_rfl) (by kernel_rfl) (fun _ _ _ h => h) (by assumption) (by rfl) (fun w hSw => ?_) ?_
  rotate_left
  · (try dsimp only at hSw); go_simp; (try with_reducible rfl)
  try simp only [Act.put, List.setIfInBounds_toArray, List.set_cons_zero, List.set_cons_succ]
  refine' wpAnyZ_takeA (i := 3) (v := ?_) (opAt rfl) (by kernel_rfl) (by kernel_rfl) (by kernel_rfl) (by kernel_rfl) (fun _ _ _ h => h) (by assumption) (by rfl) (fun w hSw => ?_) ?_
  rotate_left
  · (try dsimp only at hSw); go_simp; (try with_reducible rfl)
  try simp only [Act.put, List.setIfInBounds_toArray, List.set_cons_zero, List.set_cons_succ]
  refine' wpAnyZ_takeA (i := 4) (v := ?_) (opAt rfl) (by kernel_rfl) (by kernel_rfl) (by kernel_rfl) (by kernel_rfl) (fun _ _ _ h => h) (by assumption) (by rfl) (fun w hSw => ?_) ?_
  rotate_left
  · (try dsimp only at hSw); go_simp; (try with_reducible rfl)
  try simp only [Act.put, List.setIfInBounds_toArray, List.set_cons_zero, List.set_cons_succ]
  refine' wpAnyZ_takeA (i := 5) (v := ?_) (opAt rfl) (by kernel_rfl) (by kernel_rfl) (by kernel_rfl) (by kernel_rfl) (fun _ _ _ h => h) (by assumption) (by rfl) (fun w hSw => ?_) ?_
  rotate_left
  · (try dsimp only at hSw); go_simp; (try with_reducible rfl)
  try simp only [Act.put, List.setIfInBounds_toArray, List.set_cons_zero, List.set_cons_succ]
  refine' wpAnyZ_takeA (i := 6) (v := ?_) (opAt rfl) (by kernel_rfl) (by kernel_rfl) (by kernel_rfl) (by kernel_rfl) (fun _ _ _ h => h) (by assumption) (by rfl) (fun w hSw => ?_) ?_
  rotate_left
  · (try dsimp only at hSw); go_simp; (try with_reducible rfl)
  try simp only [Act.put, List.setIfInBounds_toArray, List.set_cons_zero, List.set_cons_succ]
  refine wpAnyZ_ready (rs := [7]) (by kernel_rfl) (by simp) ?_
  refine AllReadyZ.cons (opAt rfl) (fun K hK => ?_) ?_
  · skip
    go_simp
    refine (SL.out _).mono ?_
    rintro e w' ⟨rfl, rfl⟩
    try go_wp2_with fail
    refine hK.out _ _ (by exact ⟨bs.cell 2, bs.cell 3, bs.cell 4, bs.cell 5, bs.cell 6, bs.cell 10, t4.first⟩) (fun hHeld => ?_)
    clear hK K
    try simp only [Act.put, List.setIfInBounds_toArray, List.set_cons_zero, List.set_cons_succ]
    refine wpAnyZ_ready (rs := [8]) (by kernel_rfl) (by simp) ?_
    refine AllReadyZ.cons (opAt rfl) (fun K hK => ?_) ?_
    · skip
      go_simp
      refine (NW.out _).mono ?_
      rintro e w1 ⟨rfl, hb⟩
      replace t1 := t1.below (Nat.le_refl _) hb
      replace t2 := t2.below (Nat.le_refl _) hb
      replace t3 := t3.below (Nat.le_refl _) hb
      replace t4 := t4.below (Nat.le_refl _) hb
      replace t5 := t5.below (Nat.le_refl _) hb
      replace bs := bs.below hb bs.lt
      replace bo := bo.below hb bo.lt
      replace B0 := B0.trans (hb.mono B0.size)
      clear hb
      try go_wp2_with fail
      refine hK.out _ _ (by exact ⟨bs.cell 2, bs.cell 3, bs.cell 4, bs.cell 5, bs.cell 6, bs.cell 10, t4.first⟩) (fun hHeld => ?_)
      clear hK K
      try simp only [Act.put, List.setIfInBounds_toArray, List.set_cons_zero, List.set_cons_succ]
      refine' wpAnyZ_takeA (i := 9) (v := ?_) (opAt rfl) (by kernel_rfl) (by kernel_rfl) (by kernel_rfl) (by kernel_rfl) (fun _ _ _ h => h) (by assumption) (by rfl) (fun w hSw => ?_) ?_
      rotate_left
      · (try dsimp only at hSw); go_simp; (try with_reducible rfl)
      try simp only [Act.put, List.setIfInBounds_toArray, List.set_cons_zero, List.set_cons_succ]
      refine wpAnyZ_ready (rs := [10]) (by kernel_rfl) (by simp) ?_
      refine AllReadyZ.last (opAt rfl) (by kernel_rfl) (fun K hK => ?_) ?_
      · skip
        refine wp_store_mid 49 (.tmp 16) (.tmp 15) rfl w.heap.size 11 #[.int .i64 s, .int .i64 t, .int .i64 f, .int .i64 l, .int .i64 p, .int .i64 1, .int .i64 sw, .int .u64 0, .int .i64 0] (by rfl) (by rfl) (bs.thereO 11 (show 11 + 9 ≤ 22 by omega)) (by kernel_rfl) (by kernel_rfl) ?_
        refine hK.out _ _ ?_
        clear hK K
        try simp only [Act.put, List.setIfInBounds_toArray, List.set_cons_zero, List.set_cons_succ]
        refine wpAnyZ_done (by kernel_rfl) ?_ _
        replace t1 := (show Tr (w1.setCells w.heap.size 11 [.int .i64 s, .int .i64 t, .int .i64 f, .int .i64 l, .int .i64 p, .int .i64 1, .int .i64 sw, .int .u64 0, .int .i64 0]) _ _ _ _ _ from by rw [putL_eq]; exact Tr.putL (by decide) _ 11 bs t1)
        replace t2 := (show Tr (w1.setCells w.heap.size 11 [.int .i64 s, .int .i64 t, .int .i64 f, .int .i64 l, .int .i64 p, .int .i64 1, .int .i64 sw, .int .u64 0, .int .i64 0]) _ _ _ _ _ from by rw [putL_eq]; exact Tr.putL (by decide) _ 11 bs t2)
        replace t3 := (show Tr (w1.setCells w.heap.size 11 [.int .i64 s, .int .i64 t, .int .i64 f, .int .i64 l, .int .i64 p, .int .i64 1, .int .i64 sw, .int .u64 0, .int .i64 0]) _ _ _ _ _ from by rw [putL_eq]; exact Tr.putL (by decide) _ 11 bs t3)
        replace t4 := (show Tr (w1.setCells w.heap.size 11 [.int .i64 s, .int .i64 t, .int .i64 f, .int .i64 l, .int .i64 p, .int .i64 1, .int .i64 sw, .int .u64 0, .int .i64 0]) _ _ _ _ _ from by rw [putL_eq]; exact Tr.putL (by decide) _ 11 bs t4)
        replace t5 := (show Tr (w1.setCells w.heap.size 11 [.int .i64 s, .int .i64 t, .int .i64 f, .int .i64 l, .int .i64 p, .int .i64 1, .int .i64 sw, .int .u64 0, .int .i64 0]) _ _ _ _ _ from by rw [putL_eq]; exact Tr.putL (by decide) _ 11 bs t5)
        replace bo := (show Blk (w1.setCells w.heap.size 11 [.int .i64 s, .int .i64 t, .int .i64 f, .int .i64 l, .int .i64 p, .int .i64 1, .int .i64 sw, .int .u64 0, .int .i64 0]) _ _ _ from by rw [putL_eq]; exact Blk.offL (by omega) _ _ 11 bo)
        replace B0 := (show Below w.heap.size w (w1.setCells w.heap.size 11 [.int .i64 s, .int .i64 t, .int .i64 f, .int .i64 l, .int .i64 p, .int .i64 1, .int .i64 sw, .int .u64 0, .int .i64 0]) from by rw [putL_eq]; exact Below.putL (Nat.le_refl _) _ _ 11 B0)
        replace bs := (show Blk (w1.setCells w.heap.size 11 [.int .i64 s, .int .i64 t, .int .i64 f, .int .i64 l, .int .i64 p, .int .i64 1, .int .i64 sw, .int .u64 0, .int .i64 0]) w.heap.size 51 #[.slice A1 r.length c1, .slice A2 ks.length c2, .int .i64 s, .int .i64 t, .int .i64 f, .int .i64 l, .int .i64 p, .int .i64 k, .int .u64 ep, .slice A3 hz.length c3, .slice (some ad) m4 c4, .int .i64 s, .int .i64 t, .int .i64 f, .int .i64 l, .int .i64 p, .int .i64 1, .int .i64 sw, .int .u64 0, .int .i64 0, .slice A5 fr.length c5, .int .i64 ju] from by rw [putL_eq]; have h9 := Blk.putL [.int .i64 s, .int .i64 t, .int .i64 f, .int .i64 l, .int .i64 p, .int .i64 1, .int .i64 sw, .int .u64 0, .int .i64 0] _ _ 11 bs; simpa only [setL, List.setIfInBounds_toArray, List.set_cons_zero, List.set_cons_succ] using h9)
        clear hHeld zs
        generalize w1.setCells w.heap.size 11 [.int .i64 s, .int .i64 t, .int .i64 f, .int .i64 l, .int .i64 p, .int .i64 1, .int .i64 sw, .int .u64 0, .int .i64 0] = w2 at *
        have zs := fun i => bs.frozen i
        have RP := bs.rangeO 11 [.int .i64 s, .int .i64 t, .int .i64 f, .int .i64 l, .int .i64 p, .int .i64 1, .int .i64 sw, .int .u64 0, .int .i64 0] (fun j v hv => by have : j < 9 := (List.getElem?_eq_some_iff.1 hv).1; match j, this, hv with | 0, _, h => exact h | 1, _, h => exact h | 2, _, h => exact h | 3, _, h => exact h | 4, _, h => exact h | 5, _, h => exact h | 6, _, h => exact h | 7, _, h => exact h | 8, _, h => exact h)
        go_wp2_with (first | (refine wpList_load_mid rfl 49 (.tmp 17) rfl w.heap.size 11 (by rfl) [.int .i64 s, .int .i64 t, .int .i64 f, .int .i64 l, .int .i64 p, .int .i64 1, .int .i64 sw, .int .u64 0, .int .i64 0] _ RP Tryd.underlying49 rfl (by kernel_rfl) ?_))
        refine (DN.out _).mono ?_
        rintro e w3 ⟨rfl, hb⟩
        replace t1 := t1.below (Nat.le_refl _) hb
        replace t2 := t2.below (Nat.le_refl _) hb
        replace t3 := t3.below (Nat.le_refl _) hb
        replace t4 := t4.below (Nat.le_refl _) hb
        replace t5 := t5.below (Nat.le_refl _) hb
        replace bs := bs.below hb bs.lt
        replace bo := bo.below hb bo.lt
        replace B0 := B0.trans (hb.mono B0.size)
        clear hb zs RP
        have zs := fun i => bs.frozen i
        have ms := fun i => bs.cell i
        replace t1 := t1.set_ bs (by decide) 7 (.int .i64 3)
        replace t2 := t2.set_ bs (by decide) 7 (.int .i64 3)
        replace t3 := t3.set_ bs (by decide) 7 (.int .i64 3)
        replace t4 := t4.set_ bs (by decide) 7 (.int .i64 3)
        replace t5 := t5.set_ bs (by decide) 7 (.int .i64 3)
        replace bo := bo.far (p := ⟨w.heap.size, 7, none⟩) (by show w.heap.size + 1 ≠ w.heap.size; omega) (.int .i64 3)
        replace B0 := B0.setCell (p := ⟨w.heap.size, 7, none⟩) (Nat.le_refl _) (.int .i64 3)
        replace bs := bs.set_ 7 (.int .i64 3)
        simp only [List.setIfInBounds_toArray, List.set_cons_zero, List.set_cons_succ] at bs
        go_wp2_with (first | (refine wpList_load_mid rfl 51 (.tmp 1) rfl w.heap.size 0 (by rfl) [.slice A1 r.length c1, .slice A2 ks.length c2, .int .i64 s, .int .i64 t, .int .i64 f, .int .i64 l, .int .i64 p, .int .i64 3, .int .u64 ep, .slice A3 hz.length c3, .slice (some ad) m4 c4, .int .i64 s, .int .i64 t, .int .i64 f, .int .i64 l, .int .i64 p, .int .i64 1, .int .i64 sw, .int .u64 0, .int .i64 0, .slice A5 fr.length c5, .int .i64 ju] _ bs.range Tryd.underlying51 rfl (by kernel_rfl) ?_) | (refine wpList_store_mid rfl 51 (.tmp 2) (.tmp 22) rfl (w.heap.size + 1) 0 #[.slice A1 r.length c1, .slice A2 ks.length c2, .int .i64 s, .int .i64 t, .int .i64 f, .int .i64 l, .int .i64 p, .int .i64 3, .int .u64 ep, .slice A3 hz.length c3, .slice (some ad) m4 c4, .int .i64 s, .int .i64 t, .int .i64 f, .int .i64 l, .int .i64 p, .int .i64 1, .int .i64 sw, .int .u64 0, .int .i64 0, .slice A5 fr.length c5, .int .i64 ju] (by rfl) (by rfl) (bo.there rfl) (by kernel_rfl) (by kernel_rfl) ?_))
        replace t1 := (show Tr ((w3.setCell ⟨w.heap.size, 7, none⟩ (.int .i64 3)).setCells (w.heap.size + 1) 0 [.slice A1 r.length c1, .slice A2 ks.length c2, .int .i64 s, .int .i64 t, .int .i64 f, .int .i64 l, .int .i64 p, .int .i64 3, .int .u64 ep, .slice A3 hz.length c3, .slice (some ad) m4 c4, .int .i64 s, .int .i64 t, .int .i64 f, .int .i64 l, .int .i64 p, .int .i64 1, .int .i64 sw, .int .u64 0, .int .i64 0, .slice A5 fr.length c5, .int .i64 ju]) _ _ _ _ _ from by rw [putL_eq]; exact Tr.putL (by decide) _ 0 bo t1)
        replace t2 := (show Tr ((w3.setCell ⟨w.heap.size, 7, none⟩ (.int .i64 3)).setCells (w.heap.size + 1) 0 [.slice A1 r.length c1, .slice A2 ks.length c2, .int .i64 s, .int .i64 t, .int .i64 f, .int .i64 l, .int .i64 p, .int .i64 3, .int .u64 ep, .slice A3 hz.length c3, .slice (some ad) m4 c4, .int .i64 s, .int .i64 t, .int .i64 f, .int .i64 l, .int .i64 p, .int .i64 1, .int .i64 sw, .int .u64 0, .int .i64 0, .slice A5 fr.length c5, .int .i64 ju]) _ _ _ _ _ from by rw [putL_eq]; exact Tr.putL (by decide) _ 0 bo t2)
        replace t3 := (show Tr ((w3.setCell ⟨w.heap.size, 7, none⟩ (.int .i64 3)).setCells (w.heap.size + 1) 0 [.slice A1 r.length c1, .slice A2 ks.length c2, .int .i64 s, .int .i64 t, .int .i64 f, .int .i64 l, .int .i64 p, .int .i64 3, .int .u64 ep, .slice A3 hz.length c3, .slice (some ad) m4 c4, .int .i64 s, .int .i64 t, .int .i64 f, .int .i64 l, .int .i64 p, .int .i64 1, .int .i64 sw, .int .u64 0, .int .i64 0, .slice A5 fr.length c5, .int .i64 ju]) _ _ _ _ _ from by rw [putL_eq]; exact Tr.putL (by decide) _ 0 bo t3)
        replace t4 := (show Tr ((w3.setCell ⟨w.heap.size, 7, none⟩ (.int .i64 3)).setCells (w.heap.size + 1) 0 [.slice A1 r.length c1, .slice A2 ks.length c2, .int .i64 s, .int .i64 t, .int .i64 f, .int .i64 l, .int .i64 p, .int .i64 3, .int .u64 ep, .slice A3 hz.length c3, .slice (some ad) m4 c4, .int .i64 s, .int .i64 t, .int .i64 f, .int .i64 l, .int .i64 p, .int .i64 1, .int .i64 sw, .int .u64 0, .int .i64 0, .slice A5 fr.length c5, .int .i64 ju]) _ _ _ _ _ from by rw [putL_eq]; exact Tr.putL (by decide) _ 0 bo t4)
        replace t5 := (show Tr ((w3.setCell ⟨w.heap.size, 7, none⟩ (.int .i64 3)).setCells (w.heap.size + 1) 0 [.slice A1 r.length c1, .slice A2 ks.length c2, .int .i64 s, .int .i64 t, .int .i64 f, .int .i64 l, .int .i64 p, .int .i64 3, .int .u64 ep, .slice A3 hz.length c3, .slice (some ad) m4 c4, .int .i64 s, .int .i64 t, .int .i64 f, .int .i64 l, .int .i64 p, .int .i64 1, .int .i64 sw, .int .u64 0, .int .i64 0, .slice A5 fr.length c5, .int .i64 ju]) _ _ _ _ _ from by rw [putL_eq]; exact Tr.putL (by decide) _ 0 bo t5)
        replace B0 := (show Below w.heap.size w ((w3.setCell ⟨w.heap.size, 7, none⟩ (.int .i64 3)).setCells (w.heap.size + 1) 0 [.slice A1 r.length c1, .slice A2 ks.length c2, .int .i64 s, .int .i64 t, .int .i64 f, .int .i64 l, .int .i64 p, .int .i64 3, .int .u64 ep, .slice A3 hz.length c3, .slice (some ad) m4 c4, .int .i64 s, .int .i64 t, .int .i64 f, .int .i64 l, .int .i64 p, .int .i64 1, .int .i64 sw, .int .u64 0, .int .i64 0, .slice A5 fr.length c5, .int .i64 ju]) from by rw [putL_eq]; exact Below.putL (by omega) _ _ 0 B0)
        replace bo := (show Blk ((w3.setCell ⟨w.heap.size, 7, none⟩ (.int .i64 3)).setCells (w.heap.size + 1) 0 [.slice A1 r.length c1, .slice A2 ks.length c2, .int .i64 s, .int .i64 t, .int .i64 f, .int .i64 l, .int .i64 p, .int .i64 3, .int .u64 ep, .slice A3 hz.length c3, .slice (some ad) m4 c4, .int .i64 s, .int .i64 t, .int .i64 f, .int .i64 l, .int .i64 p, .int .i64 1, .int .i64 sw, .int .u64 0, .int .i64 0, .slice A5 fr.length c5, .int .i64 ju]) (w.heap.size + 1) 51 #[.slice A1 r.length c1, .slice A2 ks.length c2, .int .i64 s, .int .i64 t, .int .i64 f, .int .i64 l, .int .i64 p, .int .i64 3, .int .u64 ep, .slice A3 hz.length c3, .slice (some ad) m4 c4, .int .i64 s, .int .i64 t, .int .i64 f, .int .i64 l, .int .i64 p, .int .i64 1, .int .i64 sw, .int .u64 0, .int .i64 0, .slice A5 fr.length c5, .int .i64 ju] from by rw [putL_eq]; have h9 := Blk.putL [.slice A1 r.length c1, .slice A2 ks.length c2, .int .i64 s, .int .i64 t, .int .i64 f, .int .i64 l, .int .i64 p, .int .i64 3, .int .u64 ep, .slice A3 hz.length c3, .slice (some ad) m4 c4, .int .i64 s, .int .i64 t, .int .i64 f, .int .i64 l, .int .i64 p, .int .i64 1, .int .i64 sw, .int .u64 0, .int .i64 0, .slice A5 fr.length c5, .int .i64 ju] _ _ 0 bo; simpa only [setL, List.setIfInBounds_toArray, List.set_cons_zero, List.set_cons_succ] using h9)
        clear bs
        generalize (w3.setCell ⟨w.heap.size, 7, none⟩ (.int .i64 3)).setCells (w.heap.size + 1) 0 [.slice A1 r.length c1, .slice A2 ks.length c2, .int .i64 s, .int .i64 t, .int .i64 f, .int .i64 l, .int .i64 p, .int .i64 3, .int .u64 ep, .slice A3 hz.length c3, .slice (some ad) m4 c4, .int .i64 s, .int .i64 t, .int .i64 f, .int .i64 l, .int .i64 p, .int .i64 1, .int .i64 sw, .int .u64 0, .int .i64 0, .slice A5 fr.length c5, .int .i64 ju] = w12 at *
        have hres : (loadVar 51 ⟨w.heap.size + 1, 0, none⟩).run Tryd.prog w12 = .ok (.agg #[.slice A1 r.length c1, .slice A2 ks.length c2, .int .i64 s, .int .i64 t, .int .i64 f, .int .i64 l, .int .i64 p, .int .i64 3, .int .u64 ep, .slice A3 hz.length c3, .slice (some ad) m4 c4, .int .i64 s, .int .i64 t, .int .i64 f, .int .i64 l, .int .i64 p, .int .i64 1, .int .i64 sw, .int .u64 0, .int .i64 0, .slice A5 fr.length c5, .int .i64 ju]) w12 := run_loadVar_mid w12 _ 0 _ [.slice A1 r.length c1, .slice A2 ks.length c2, .int .i64 s, .int .i64 t, .int .i64 f, .int .i64 l, .int .i64 p, .int .i64 3, .int .u64 ep, .slice A3 hz.length c3, .slice (some ad) m4 c4, .int .i64 s, .int .i64 t, .int .i64 f, .int .i64 l, .int .i64 p, .int .i64 1, .int .i64 sw, .int .u64 0, .int .i64 0, .slice A5 fr.length c5, .int .i64 ju] _ bo.range Tryd.underlying51 rfl (by kernel_rfl)
        refine bodyPost_ret (v := .agg #[.slice A1 r.length c1, .slice A2 ks.length c2, .int .i64 s, .int .i64 t, .int .i64 f, .int .i64 l, .int .i64 p, .int .i64 3, .int .u64 ep, .slice A3 hz.length c3, .slice (some ad) m4 c4, .int .i64 s, .int .i64 t, .int .i64 f, .int .i64 l, .int .i64 p, .int .i64 1, .int .i64 sw, .int .u64 0, .int .i64 0, .slice A5 fr.length c5, .int .i64 ju]) (by simp [results, Tryd.results51, Act.put, asAddr, hres]) rfl (by have hm := HM4.out; subst hm; exact ⟨⟨_, rfl, _, _, _, _, _, _, _, _, _, _, rfl, t1, t2, t3, t4, t5⟩, B0⟩)
      exact AllReadyZ.nil
    exact AllReadyZ.nil
  exact AllReadyZ.nil
end Go.Proofs.YtokcbipmocpllaaDoor

/-
  A map from words to bools that the call itself makes: what stands at a key, behind a store.
-/
namespace Go.Proofs.YtokcbipmocpllaaDoor
open Go.RowKit Go.Maps

theorem lawU64 : Keyed Tryd.prog 29 := int_keyed Tryd.underlying29
theorem zeroBool (w : World) : (zeroValue 4).run Tryd.prog w = .ok (.bool false) w := by kernel_rfl

theorem plainElem_bool_inv {H : Type} {P : Program} {e : TypeId} (he : P.underlying e = some .bool) {v : Value} {z : DataW H × List MemPlace} (h : plainElem P e v = some z) : ∃ a, v = .bool a ∧ z = (.lit (.bool a), []) := by
  unfold plainElem at h
  rw [he] at h
  cases v <;> simp at h
  exact ⟨_, rfl, h.symm⟩

/-- Block b is a map of at most n entries that answers f. -/
def MapIs (w : World) (b n : Nat) (f : Int → Bool) : Prop :=
  ∃ D : DataW Unit, IsMap D ∧ w.ownsMap Tryd.prog 29 (plainElem Tryd.prog 4) b n D ∧ ∀ k : Int, (Lit.int .u64 k).wf = true → D.atKey (.int .u64 k) (.lit (.bool false)) = .lit (.bool (f k))

theorem MapIs.made (w : World) : MapIs (w.alloc (.map #[] 0)) w.heap.size 0 (fun _ => false) :=
  ⟨.map [], ⟨[], rfl⟩, World.ownsMap_made _ _ _ _, fun _ _ => rfl⟩
theorem MapIs.below {w w' : World} {b n : Nat} {f : Int → Bool} (h : MapIs w b n f) (hb : Below w.heap.size w w') : MapIs w' b n f := by
  obtain ⟨D, hi, ho, ha⟩ := h
  exact ⟨D, hi, ho.kept (row := none) ⟨hb.os, hb.tape, hb.output, hb.size, fun k hk _ => hb.block k hk⟩ (by simp), ha⟩
theorem MapIs.below' {w w' : World} {b n B : Nat} {f : Int → Bool} (h : MapIs w b n f) (hB : b < B) (hb : Below B w w') : MapIs w' b n f := by
  obtain ⟨D, hi, ⟨es, cl, hh, r⟩, ha⟩ := h
  exact ⟨D, hi, ⟨es, cl, (hb.block b hB).trans hh, r⟩, ha⟩
theorem MapIs.alloc {w : World} {b n : Nat} {f : Int → Bool} (h : MapIs w b n f) (o : Obj) : MapIs (w.alloc o) b n f := by
  obtain ⟨D, hi, ho, ha⟩ := h
  exact ⟨D, hi, ho.alloc o, ha⟩
theorem MapIs.lt {w : World} {b n : Nat} {f : Int → Bool} (h : MapIs w b n f) : b < w.heap.size := by
  obtain ⟨D, hi, ho, ha⟩ := h
  exact ho.lt

theorem MapIs.look {w : World} {b n : Nat} {f : Int → Bool} (h : MapIs w b n f) (x : Int) (hx : (Lit.int .u64 x).wf = true) :
    (Instr.lookup 122 (.map (some b)) (.int .u64 x) false).run Tryd.prog w = .ok (.bool (f x)) w := by
  obtain ⟨D, hi, ho, ha⟩ := h
  obtain ⟨v, ps, hrun, hv⟩ := ho.lookup lawU64 Tryd.underlying122 (zeroBool w) (plainElem_bool Tryd.underlying4 false) (keyOf_int_mk Tryd.underlying29 hx)
  obtain ⟨a, rfl, e⟩ := plainElem_bool_inv Tryd.underlying4 hv
  have := ha x hx
  simp only [Prod.mk.injEq] at e
  rw [this] at e
  have e' : f x = a := by have := e.1; simpa using this
  rw [hrun, e']

theorem atKey_put {D : DataW Unit} (hi : IsMap D) (x k : Int) (y : Bool) (z : DataW Unit) : (D.put (.int .u64 x) (.lit (.bool y))).atKey (.int .u64 k) z = if k = x then .lit (.bool y) else D.atKey (.int .u64 k) z := by
  by_cases h : k = x
  · subst h
    rw [if_pos rfl]
    exact atKey_put_same hi (by simp [WideAt.IsKeyLit]) _ _
  · rw [if_neg h]
    exact atKey_put_other (fun e => h (by injection e)) _ _

theorem wpList_mapUpdate_bool {w : World} {ops : Array Oper} {rest : List Oper} {o : Oper} {a : Act} {Q : Exit → Act → World → Prop}
    (hg : o.guard = none) (m x v : Operand) (hop : o.op = Op.mapUpdate 122 m x v) {b n : Nat} {f : Int → Bool}
    (hm : a.eval m = .map (some b)) (hown : MapIs w b n f) (hn : n < maxLen) (k : Int) (y : Bool) (hx : a.eval x = .int .u64 k) (hv : a.eval v = .bool y) (hk : (Lit.int .u64 k).wf = true)
    (hK : ∀ w', MapIs w' b (n + 1) (fun j => if j = k then y else f j) → w.grownBy w' (some b) → wpList Tryd.prog ops Q rest (a.put o.dst undef) w') :
    wpList Tryd.prog ops Q (o :: rest) a w := by
  obtain ⟨D, hi, ho, ha⟩ := hown
  refine wpList_mapUpdate_own w hg m x v _ hop 29 4 lawU64 Tryd.underlying122 _ b n D hm ho hn _ _ (.int .u64 k) hx hv (keyOf_int_mk Tryd.underlying29 hk) (.lit (.bool y)) [] (plainElem_bool Tryd.underlying4 y) ?_
  intro w' h1 h2
  refine hK w' ⟨_, hi.put _ _, h1, fun j hj => ?_⟩ h2
  rw [atKey_put hi]
  by_cases hjk : j = k
  · simp [hjk]
  · simp only [if_neg hjk]
    exact ha j hj

end Go.Proofs.YtokcbipmocpllaaDoor

/-
  limbo.Covered: the handles that are covered by hazards, and the others.
-/
namespace Go.Proofs.YtokcbipmocpllaaDoor
open Go.RowKit

/-- Whether a word is among the hazards, and no 0. -/
def coverB (hz : List Int) (x : Int) : Bool := decide (x ∈ hz) && x != 0
theorem coverB_snoc (l : List Int) (h x : Int) : coverB (l ++ [h]) x = if x = h then h != 0 else coverB l x := by
  unfold coverB
  by_cases e : x = h
  · subst e; simp
  · simp [e]

def CovIn (n : Nat) (l : List Int) (w : World) (i : Value) (wr : World) : Prop :=
  ∃ k : Nat, i = .int .i64 k ∧ k ≤ n ∧ Below w.heap.size w wr ∧ MapIs wr w.heap.size k (coverB (l.take k)) ∧ wr.cell? ⟨w.heap.size + 1, 0, none⟩ = some (.map (some w.heap.size)) ∧ w.heap.size + 1 < wr.heap.size

set_option maxHeartbeats 400000 in
theorem covered1_any (x : Int) (w : World) (g b n : Nat) (f : Int → Bool) (hx : (Lit.int .u64 x).wf = true) (hc : w.cell? ⟨g, 0, none⟩ = some (.map (some b))) (hm : MapIs w b n f) :
    Calls Tryd.prog 91 #[.int .u64 x, .pointer (some ⟨g, 0, none⟩)] w fun e w' => e = .returned (.bool (f x)) ∧ Below w.heap.size w w' := by
  have hl := hm.look x hx
  clear hm
  go_enter Tryd.func91, Tryd.ntmps91
  go_wp2_with fail
  go_ret
  exact ⟨rfl, Below.refl _ _⟩

set_option maxHeartbeats 400000 in
theorem Covered_any (A B : Option Addr) (n c m d : Nat) (l hz : List Int) (w : World) (hn : n ≤ 1000) (hm : m ≤ 1000) (hr : Reads w w.heap.size 1 A n (ints .u64 l)) (hrz : Reads w w.heap.size 1 B m (ints .u64 hz))
    (hwl : ∀ x ∈ l, (Lit.int .u64 x).wf = true) (hwz : ∀ x ∈ hz, (Lit.int .u64 x).wf = true) :
    Calls Tryd.prog 67 #[.slice A n c, .slice B m d] w fun e w' => (∃ A1 n1 c1 A2 n2 c2, e = .returned (.tuple #[.slice A1 n1 c1, .slice A2 n2 c2]) ∧ n1 = (l.filter (coverB hz)).length ∧ n2 = (l.filter (fun x => !coverB hz x)).length ∧
      Reads w' w'.heap.size 1 A1 n1 (ints .u64 (l.filter (coverB hz))) ∧ Reads w' w'.heap.size 1 A2 n2 (ints .u64 (l.filter fun x => !coverB hz x))) ∧ Below w.heap.size w w' := by
  have hmm := @run_makeMap Tryd.prog
  go_enter Tryd.func67, Tryd.ntmps67
  go_wp2_with fail
  go_loopw [12] (CovIn m hz w) (fun i _ => m - (intOf i).toNat)
  case atStart => 
    refine ⟨0, rfl, by omega, ((Below.refl _ _).alloc (Nat.le_refl _) _).alloc (by simp) _, ?_, by simp [go_sem], by simp⟩
    exact (MapIs.made w).alloc _
  case round =>
    obtain ⟨k, rfl, hk, hb, hmap, hcell, hz1⟩ := hrel
    by_cases hlt : k < m
    · obtain ⟨a, rfl, hkl, z1⟩ := (hrz.below hb).word hlt
      have Hw := hwz hz[k] (List.getElem_mem hkl)
      have Htk := hide (take_snoc' hz k hkl)
      generalize hz[k] = x at *
      go_wp2_with (at_mapUpdate; refine wpList_mapUpdate_bool rfl (.tmp 16) (.tmp 17) (.tmp 19) rfl rfl hmap (by unfold maxLen; omega) x (x != 0) rfl rfl Hw ?_; intro w1 hm1 hg1)
      have hb1 : Below w.heap.size w w1 := hb.grown hg1 hb.size (fun g e => by injection e; omega)
      have hc1 : w1.cell? ⟨w.heap.size + 1, 0, none⟩ = some (.map (some w.heap.size)) := hg1.cell hcell (by simp)
      have hz2 : w.heap.size + 1 < w1.heap.size := Nat.lt_of_lt_of_le hz1 hg1.size
      have hf : (fun j => if j = x then x != 0 else coverB (hz.take k) j) = coverB (hz.take (k + 1)) := by
        rw [Htk.out]
        funext j
        rw [coverB_snoc]
      rw [hf] at hm1
      clear hf
      go_roundw
      case rel => exact ⟨k + 1, by go_num, by omega, hb1, hm1, hc1, hz2⟩
      case measure => simp [intOf]; omega
    · have e : hz.take k = hz := List.take_of_length_le (by have := hrz.lenWord; omega)
      rw [e] at hmap
      go_wp2_with fail
      refine (parted_u64 A n c l 91 #[.pointer (some ⟨w.heap.size + 1, 0, none⟩)] (coverB hz) wr hr.lenWord hn ((hr.below hb).more hb.size) (fun args w' => run_enter Tryd.func91 (by decide) (by simp [Tryd.f91]) args w') ?_).mono ?_
      · intro x hx w' hb'
        refine covered1_any x w' (w.heap.size + 1) w.heap.size k (coverB hz) (hwl x hx) ?_ (hmap.below hb')
        rw [hb'.cell (p := ⟨w.heap.size + 1, 0, none⟩) hz1]
        exact hcell
      · rintro e w2 ⟨⟨A1, n1, c1, A2, n2, c2, rfl, e1, e2, r1, r2⟩, hb2⟩
        have E1 := hide e1
        have E2 := hide e2
        clear e1 e2
        go_wp2_with fail
        go_ret2
        exact ⟨⟨A1, n1, c1, A2, n2, c2, rfl, E1.out, E2.out, r1, r2⟩, hb.trans (hb2.mono hb.size)⟩
end Go.Proofs.YtokcbipmocpllaaDoor

/-
  limbo.Part, limbo.Covered: the lists that they make lie in blocks of their own.
-/
namespace Go.Proofs.YtokcbipmocpllaaDoor
open Go.RowKit

def PartRecO (n : Nat) (l : List (Int × Int)) (p : Int × Int → Bool) (w : World) (v1 v2 i : Value) (wr : World) : Prop :=
  ∃ (k : Nat) (A1 A2 : Option Addr) (n1 n2 c1 c2 : Nat), i = .int .i64 k ∧ k ≤ n ∧ v1 = .slice A1 n1 c1 ∧ v2 = .slice A2 n2 c2 ∧ Below w.heap.size w wr ∧ n1 = ((l.take k).filter p).length ∧ n2 = ((l.take k).filter (fun x => !p x)).length ∧
    wr.ownsRow w.heap.size 31 2 (.slice A1 n1 c1) n1 (rec2 ((l.take k).filter p)) ∧ wr.ownsRow w.heap.size 31 2 (.slice A2 n2 c2) n2 (rec2 ((l.take k).filter (fun x => !p x))) ∧
    Apart (.slice A1 n1 c1) (.slice A2 n2 c2)

set_option maxHeartbeats 400000 in
theorem parted_rec_o (A : Option Addr) (n c : Nat) (l : List (Int × Int)) (fid : FuncId) (caps : Array Value) (p : Int × Int → Bool) (w : World) (hl : l.length = n) (hn : n ≤ 1000) (hr : Reads w w.heap.size 2 A n (rec2 l))
    (hcf : ∀ args w', (callFunc fid args).run Tryd.prog w' = .ok (.enter fid args) w')
    (hyes : ∀ x ∈ l, ∀ w', Below w.heap.size w w' → Calls Tryd.prog fid (#[.agg #[.int .u64 x.1, .int .u64 x.2]] ++ caps) w' fun e w'' => e = .returned (.bool (p x)) ∧ Below w'.heap.size w' w'') :
    Calls Tryd.prog 88 #[.slice A n c, .func (.func fid) #[] caps] w fun e w' => (∃ A1 n1 c1 A2 n2 c2, e = .returned (.tuple #[.slice A1 n1 c1, .slice A2 n2 c2]) ∧ n1 = (l.filter p).length ∧ n2 = (l.filter (fun x => !p x)).length ∧
      w'.ownsRow w.heap.size 31 2 (.slice A1 n1 c1) n1 (rec2 (l.filter p)) ∧ w'.ownsRow w.heap.size 31 2 (.slice A2 n2 c2) n2 (rec2 (l.filter fun x => !p x))) ∧ Below w.heap.size w w' := by
  obtain ⟨i0, hi0, hz0, hs0, hb0⟩ := info_parts infoRec'
  have Hl := hide hl
  have Hy := hide hyes
  clear hl hyes
  go_enter Tryd.func88, Tryd.ntmps88
  go_wp2_with fail
  go_loopw [6, 7, 12] (PartRecO n l p w) (fun _ _ i _ => n - (intOf i).toNat)
  case atStart => exact ⟨0, none, none, 0, 0, 0, 0, rfl, by omega, rfl, rfl, Below.refl _ _, rfl, rfl, World.ownsRow_nil _ _ _ _, World.ownsRow_nil _ _ _ _, .inl rfl⟩
  case round =>
    obtain ⟨k, A1, A2, n1, n2, c1, c2, rfl, hk, rfl, rfl, hb, hn1, hn2, hown1, hown2, hap⟩ := hrel
    have Hn1 := hide hn1
    have Hn2 := hide hn2
    clear hn1 hn2
    by_cases hlt : k < n
    · obtain ⟨a, rfl, hkl, z1, z2⟩ := (hr.below hb).pair hlt
      have Hy1 := hide (Hy.out l[k] (List.getElem_mem hkl))
      have Htk := hide (take_snoc' l k hkl)
      generalize l[k] = x at *
      obtain ⟨h0, e0⟩ := x
      simp only at z1 z2 Hy1
      by_cases hp : p (h0, e0) = true
      · skip
        have Hp := hide hp
        have Hf1 := hide ((congrArg (List.filter p) Htk.out).trans (filter_snoc_yes hp))
        have Hf2 := hide ((congrArg (List.filter fun x => !p x) Htk.out).trans (filter_snoc_no (by simp [hp])))
        clear hp
        have hm1 : n1 ≤ 4294967296 := by rw [Hn1.out]; have := filter_len_take p l k; omega
        have hm2 : n2 ≤ 4294967296 := by rw [Hn2.out]; have := filter_len_take (fun x => !p x) l k; omega
        go_wp2_with fail
        refine (Hy1.out _ (hb.alloc hb.size _)).mono ?_
        rintro e w2 ⟨rfl, hb2⟩
        rw [Hp.out]
        have hz2 := hb2.size
        have hzw := hb.size
        simp only [World.size_alloc] at hz2
        have hbw := (hb.alloc hzw (.cells #[.int .u64 h0, .int .u64 e0] 31)).trans (hb2.mono (by simp; omega))
        obtain ⟨q0, q1⟩ : w2.cell? ⟨wr.heap.size, 0, none⟩ = some (.int .u64 h0) ∧ w2.cell? ⟨wr.heap.size, 1, none⟩ = some (.int .u64 e0) := by
          obtain ⟨h1, _⟩ := bcell hb2
          rw [h1 _ _ (by simp), h1 _ _ (by simp)]
          simp [go_sem]
        have ho1 := (own_below (hown1.alloc _) hb2).alloc (.cells #[.int .u64 h0, .int .u64 e0] 31)
        have ho2 := (own_below (hown2.alloc _) hb2).alloc (.cells #[.int .u64 h0, .int .u64 e0] 31)
        go_wp2_with (at_builtin; refine wpList_append_one rfl (.tmp 19) (.tmp 21) _ rfl w.heap.size 31 i0 _ 2 16 Tryd.underlying22 hi0 hz0 hs0 hb0 rfl (by omega) (by omega) (.slice A1 n1 c1) n1 _ rfl ho1 w2.heap.size #[.int .u64 h0, .int .u64 e0] rfl (Blk.new _ _ _) rfl rfl hm1 (by simp; omega) ?_; intro A3 c3 w3 hown3 hg3 hat3)
        have hb3 := below_appended (hbw.alloc (by omega) _) ho1 hg3 (Nat.le_refl _) (by simp; omega)
        go_roundw
        case measure => simp [intOf]; omega
        case rel => exact ⟨k + 1, A3, A2, n1 + 1, n2, c3, c2, by go_num, by omega, rfl, rfl, hb3, by rw [Hf1.out, List.length_append, ← Hn1.out]; rfl, by rw [Hf2.out]; exact Hn2.out, by rw [Hf1.out, rec2_append]; exact hown3, by rw [Hf2.out]; exact own_kept ho2 hg3 hap, Apart.grown hap ho2 hat3⟩
      · replace hp : p (h0, e0) = false := by simpa using hp
        have Hp := hide hp
        have Hf1 := hide ((congrArg (List.filter p) Htk.out).trans (filter_snoc_no hp))
        have Hf2 := hide ((congrArg (List.filter fun x => !p x) Htk.out).trans (filter_snoc_yes (by simp [hp])))
        clear hp
        have hm1 : n1 ≤ 4294967296 := by rw [Hn1.out]; have := filter_len_take p l k; omega
        have hm2 : n2 ≤ 4294967296 := by rw [Hn2.out]; have := filter_len_take (fun x => !p x) l k; omega
        go_wp2_with fail
        refine (Hy1.out _ (hb.alloc hb.size _)).mono ?_
        rintro e w2 ⟨rfl, hb2⟩
        rw [Hp.out]
        have hz2 := hb2.size
        have hzw := hb.size
        simp only [World.size_alloc] at hz2
        have hbw := (hb.alloc hzw (.cells #[.int .u64 h0, .int .u64 e0] 31)).trans (hb2.mono (by simp; omega))
        obtain ⟨q0, q1⟩ : w2.cell? ⟨wr.heap.size, 0, none⟩ = some (.int .u64 h0) ∧ w2.cell? ⟨wr.heap.size, 1, none⟩ = some (.int .u64 e0) := by
          obtain ⟨h1, _⟩ := bcell hb2
          rw [h1 _ _ (by simp), h1 _ _ (by simp)]
          simp [go_sem]
        have ho1 := (own_below (hown1.alloc _) hb2).alloc (.cells #[.int .u64 h0, .int .u64 e0] 31)
        have ho2 := (own_below (hown2.alloc _) hb2).alloc (.cells #[.int .u64 h0, .int .u64 e0] 31)
        go_wp2_with (at_builtin; refine wpList_append_one rfl (.tmp 23) (.tmp 25) _ rfl w.heap.size 31 i0 _ 2 16 Tryd.underlying22 hi0 hz0 hs0 hb0 rfl (by omega) (by omega) (.slice A2 n2 c2) n2 _ rfl ho2 w2.heap.size #[.int .u64 h0, .int .u64 e0] rfl (Blk.new _ _ _) rfl rfl hm2 (by simp; omega) ?_; intro A3 c3 w3 hown3 hg3 hat3)
        have hb3 := below_appended (hbw.alloc (by omega) _) ho2 hg3 (Nat.le_refl _) (by simp; omega)
        go_roundw
        case measure => simp [intOf]; omega
        case rel => exact ⟨k + 1, A1, A3, n1, n2 + 1, c1, c3, by go_num, by omega, rfl, rfl, hb3, by rw [Hf1.out]; exact Hn1.out, by rw [Hf2.out, List.length_append, ← Hn2.out]; rfl, by rw [Hf1.out]; exact own_kept ho1 hg3 hap.symm, by rw [Hf2.out, rec2_append]; exact hown3, (Apart.grown hap.symm ho1 hat3).symm⟩
    · go_wp2_with fail
      go_ret2
      have e : l.take k = l := List.take_of_length_le (by rw [Hl.out]; omega)
      have Hn1' := Hn1.out
      have Hn2' := Hn2.out
      rw [e] at hown1 hown2 Hn1' Hn2'
      exact ⟨⟨A1, n1, c1, A2, n2, c2, rfl, Hn1', Hn2', hown1, hown2⟩, hb⟩
def PartInO (n : Nat) (l : List Int) (p : Int → Bool) (w : World) (v1 v2 i : Value) (wr : World) : Prop :=
  ∃ (k : Nat) (A1 A2 : Option Addr) (n1 n2 c1 c2 : Nat), i = .int .i64 k ∧ k ≤ n ∧ v1 = .slice A1 n1 c1 ∧ v2 = .slice A2 n2 c2 ∧ Below w.heap.size w wr ∧ n1 = ((l.take k).filter p).length ∧ n2 = ((l.take k).filter (fun x => !p x)).length ∧
    wr.ownsRow w.heap.size 29 1 (.slice A1 n1 c1) n1 (ints .u64 ((l.take k).filter p)) ∧ wr.ownsRow w.heap.size 29 1 (.slice A2 n2 c2) n2 (ints .u64 ((l.take k).filter (fun x => !p x))) ∧
    Apart (.slice A1 n1 c1) (.slice A2 n2 c2)

set_option maxHeartbeats 400000 in
theorem parted_u64_o (A : Option Addr) (n c : Nat) (l : List Int) (fid : FuncId) (caps : Array Value) (p : Int → Bool) (w : World) (hl : l.length = n) (hn : n ≤ 1000) (hr : Reads w w.heap.size 1 A n (ints .u64 l))
    (hcf : ∀ args w', (callFunc fid args).run Tryd.prog w' = .ok (.enter fid args) w')
    (hyes : ∀ x ∈ l, ∀ w', Below w.heap.size w w' → Calls Tryd.prog fid (#[.int .u64 x] ++ caps) w' fun e w'' => e = .returned (.bool (p x)) ∧ Below w'.heap.size w' w'') :
    Calls Tryd.prog 90 #[.slice A n c, .func (.func fid) #[] caps] w fun e w' => (∃ A1 n1 c1 A2 n2 c2, e = .returned (.tuple #[.slice A1 n1 c1, .slice A2 n2 c2]) ∧ n1 = (l.filter p).length ∧ n2 = (l.filter (fun x => !p x)).length ∧
      w'.ownsRow w.heap.size 29 1 (.slice A1 n1 c1) n1 (ints .u64 (l.filter p)) ∧ w'.ownsRow w.heap.size 29 1 (.slice A2 n2 c2) n2 (ints .u64 (l.filter fun x => !p x))) ∧ Below w.heap.size w w' := by
  obtain ⟨i0, hi0, hz0, hs0, hb0⟩ := info_parts infoU64
  have Hl := hide hl
  have Hy := hide hyes
  clear hl hyes
  go_enter Tryd.func90, Tryd.ntmps90
  go_wp2_with fail
  go_loopw [6, 7, 12] (PartInO n l p w) (fun _ _ i _ => n - (intOf i).toNat)
  case atStart => exact ⟨0, none, none, 0, 0, 0, 0, rfl, by omega, rfl, rfl, Below.refl _ _, rfl, rfl, World.ownsRow_nil _ _ _ _, World.ownsRow_nil _ _ _ _, .inl rfl⟩
  case round =>
    obtain ⟨k, A1, A2, n1, n2, c1, c2, rfl, hk, rfl, rfl, hb, hn1, hn2, hown1, hown2, hap⟩ := hrel
    have Hn1 := hide hn1
    have Hn2 := hide hn2
    clear hn1 hn2
    by_cases hlt : k < n
    · obtain ⟨a, rfl, hkl, z1⟩ := (hr.below hb).word hlt
      have Hy1 := hide (Hy.out l[k] (List.getElem_mem hkl))
      have Htk := hide (take_snoc' l k hkl)
      generalize l[k] = x at *
      by_cases hp : p x = true
      · skip
        have Hp := hide hp
        have Hf1 := hide ((congrArg (List.filter p) Htk.out).trans (filter_snoc_yes hp))
        have Hf2 := hide ((congrArg (List.filter fun x => !p x) Htk.out).trans (filter_snoc_no (by simp [hp])))
        clear hp
        have hm1 : n1 ≤ 4294967296 := by rw [Hn1.out]; have := filter_len_take p l k; omega
        have hm2 : n2 ≤ 4294967296 := by rw [Hn2.out]; have := filter_len_take (fun x => !p x) l k; omega
        go_wp2_with fail
        refine (Hy1.out wr hb).mono ?_
        rintro e w2 ⟨rfl, hb2⟩
        rw [Hp.out]
        have hz2 := hb2.size
        have hzw := hb.size
        have hbw := hb.trans (hb2.mono hzw)
        have ho1 := (own_below hown1 hb2).alloc (.cells #[.int .u64 x] 29)
        have ho2 := (own_below hown2 hb2).alloc (.cells #[.int .u64 x] 29)
        go_wp2_with (at_builtin; refine wpList_append_one rfl (.tmp 19) (.tmp 21) _ rfl w.heap.size 29 i0 _ 1 8 Tryd.underlying23 hi0 hz0 hs0 hb0 rfl (by omega) (by omega) (.slice A1 n1 c1) n1 _ rfl ho1 w2.heap.size #[.int .u64 x] rfl (Blk.new _ _ _) rfl rfl hm1 (by simp; omega) ?_; intro A3 c3 w3 hown3 hg3 hat3)
        have hb3 := below_appended (hbw.alloc (by omega) _) ho1 hg3 (Nat.le_refl _) (by simp; omega)
        go_roundw
        case measure => simp [intOf]; omega
        case rel => exact ⟨k + 1, A3, A2, n1 + 1, n2, c3, c2, by go_num, by omega, rfl, rfl, hb3, by rw [Hf1.out, List.length_append, ← Hn1.out]; rfl, by rw [Hf2.out]; exact Hn2.out, by rw [Hf1.out, ints_append]; exact hown3, by rw [Hf2.out]; exact own_kept ho2 hg3 hap, Apart.grown hap ho2 hat3⟩
      · replace hp : p x = false := by simpa using hp
        have Hp := hide hp
        have Hf1 := hide ((congrArg (List.filter p) Htk.out).trans (filter_snoc_no hp))
        have Hf2 := hide ((congrArg (List.filter fun x => !p x) Htk.out).trans (filter_snoc_yes (by simp [hp])))
        clear hp
        have hm1 : n1 ≤ 4294967296 := by rw [Hn1.out]; have := filter_len_take p l k; omega
        have hm2 : n2 ≤ 4294967296 := by rw [Hn2.out]; have := filter_len_take (fun x => !p x) l k; omega
        go_wp2_with fail
        refine (Hy1.out wr hb).mono ?_
        rintro e w2 ⟨rfl, hb2⟩
        rw [Hp.out]
        have hz2 := hb2.size
        have hzw := hb.size
        have hbw := hb.trans (hb2.mono hzw)
        have ho1 := (own_below hown1 hb2).alloc (.cells #[.int .u64 x] 29)
        have ho2 := (own_below hown2 hb2).alloc (.cells #[.int .u64 x] 29)
        go_wp2_with (at_builtin; refine wpList_append_one rfl (.tmp 23) (.tmp 25) _ rfl w.heap.size 29 i0 _ 1 8 Tryd.underlying23 hi0 hz0 hs0 hb0 rfl (by omega) (by omega) (.slice A2 n2 c2) n2 _ rfl ho2 w2.heap.size #[.int .u64 x] rfl (Blk.new _ _ _) rfl rfl hm2 (by simp; omega) ?_; intro A3 c3 w3 hown3 hg3 hat3)
        have hb3 := below_appended (hbw.alloc (by omega) _) ho2 hg3 (Nat.le_refl _) (by simp; omega)
        go_roundw
        case measure => simp [intOf]; omega
        case rel => exact ⟨k + 1, A1, A3, n1, n2 + 1, c1, c3, by go_num, by omega, rfl, rfl, hb3, by rw [Hf1.out]; exact Hn1.out, by rw [Hf2.out, List.length_append, ← Hn2.out]; rfl, by rw [Hf1.out]; exact own_kept ho1 hg3 hap.symm, by rw [Hf2.out, ints_append]; exact hown3, (Apart.grown hap.symm ho1 hat3).symm⟩
    · go_wp2_with fail
      go_ret2
      have e : l.take k = l := List.take_of_length_le (by rw [Hl.out]; omega)
      have Hn1' := Hn1.out
      have Hn2' := Hn2.out
      rw [e] at hown1 hown2 Hn1' Hn2'
      exact ⟨⟨A1, n1, c1, A2, n2, c2, rfl, Hn1', Hn2', hown1, hown2⟩, hb⟩
set_option maxHeartbeats 400000 in
theorem Part_own (A : Option Addr) (n c : Nat) (l : List (Int × Int)) (ep : Int) (w : World) (hn : n ≤ 1000) (hr : Reads w w.heap.size 2 A n (rec2 l)) (hw : ∀ r ∈ l, W64 r.1 ∧ W64 r.2) (hp : W64 ep) :
    Calls Tryd.prog 66 #[.slice A n c, .int .u64 ep] w fun e w' => (∃ A1 n1 c1 A2 n2 c2, e = .returned (.tuple #[.slice A1 n1 c1, .slice A2 n2 c2]) ∧ n1 = (l.filter (fun r => ripeB r.2 ep)).length ∧ n2 = (l.filter (fun r => !ripeB r.2 ep)).length ∧
      w'.ownsRow w.heap.size 31 2 (.slice A1 n1 c1) n1 (rec2 (l.filter fun r => ripeB r.2 ep)) ∧ w'.ownsRow w.heap.size 31 2 (.slice A2 n2 c2) n2 (rec2 (l.filter fun r => !ripeB r.2 ep))) ∧ Below w.heap.size w w' := by
  go_enter Tryd.func66, Tryd.ntmps66
  go_wp2_with fail
  refine (parted_rec_o A n c l 89 #[.pointer (some ⟨w.heap.size, 0, none⟩)] (fun r => ripeB r.2 ep) _ hr.lenPair hn ((hr.alloc (Nat.le_refl _) _).more (by simp)) (fun args w' => run_enter Tryd.func89 (by decide) (by simp [Tryd.f89]) args w') ?_).mono ?_
  · intro x hx w' hb
    refine part1_any x.1 x.2 ep w' w.heap.size (hw x hx).2 hp ?_
    obtain ⟨h1, _⟩ := bcell hb
    rw [h1 _ _ (by simp)]
    simp [go_sem]
  · rintro e w2 ⟨⟨A1, n1, c1, A2, n2, c2, rfl, e1, e2, r1, r2⟩, hb2⟩
    have E1 := hide e1
    have E2 := hide e2
    clear e1 e2
    go_wp2_with fail
    go_ret2
    exact ⟨⟨A1, n1, c1, A2, n2, c2, rfl, E1.out, E2.out, own_mono r1 (by simp), own_mono r2 (by simp)⟩, ((Below.refl _ _).alloc (Nat.le_refl _) _).trans (hb2.mono (by simp))⟩

set_option maxHeartbeats 400000 in
theorem Covered_own (A B : Option Addr) (n c m d : Nat) (l hz : List Int) (w : World) (hn : n ≤ 1000) (hm : m ≤ 1000) (hr : Reads w w.heap.size 1 A n (ints .u64 l)) (hrz : Reads w w.heap.size 1 B m (ints .u64 hz))
    (hwl : ∀ x ∈ l, (Lit.int .u64 x).wf = true) (hwz : ∀ x ∈ hz, (Lit.int .u64 x).wf = true) :
    Calls Tryd.prog 67 #[.slice A n c, .slice B m d] w fun e w' => (∃ A1 n1 c1 A2 n2 c2, e = .returned (.tuple #[.slice A1 n1 c1, .slice A2 n2 c2]) ∧ n1 = (l.filter (coverB hz)).length ∧ n2 = (l.filter (fun x => !coverB hz x)).length ∧
      w'.ownsRow w.heap.size 29 1 (.slice A1 n1 c1) n1 (ints .u64 (l.filter (coverB hz))) ∧ w'.ownsRow w.heap.size 29 1 (.slice A2 n2 c2) n2 (ints .u64 (l.filter fun x => !coverB hz x))) ∧ Below w.heap.size w w' := by
  have hmm := @run_makeMap Tryd.prog
  go_enter Tryd.func67, Tryd.ntmps67
  go_wp2_with fail
  go_loopw [12] (CovIn m hz w) (fun i _ => m - (intOf i).toNat)
  case atStart => 
    refine ⟨0, rfl, by omega, ((Below.refl _ _).alloc (Nat.le_refl _) _).alloc (by simp) _, ?_, by simp [go_sem], by simp⟩
    exact (MapIs.made w).alloc _
  case round =>
    obtain ⟨k, rfl, hk, hb, hmap, hcell, hz1⟩ := hrel
    by_cases hlt : k < m
    · obtain ⟨a, rfl, hkl, z1⟩ := (hrz.below hb).word hlt
      have Hw := hwz hz[k] (List.getElem_mem hkl)
      have Htk := hide (take_snoc' hz k hkl)
      generalize hz[k] = x at *
      go_wp2_with (at_mapUpdate; refine wpList_mapUpdate_bool rfl (.tmp 16) (.tmp 17) (.tmp 19) rfl rfl hmap (by unfold maxLen; omega) x (x != 0) rfl rfl Hw ?_; intro w1 hm1 hg1)
      have hb1 : Below w.heap.size w w1 := hb.grown hg1 hb.size (fun g e => by injection e; omega)
      have hc1 : w1.cell? ⟨w.heap.size + 1, 0, none⟩ = some (.map (some w.heap.size)) := hg1.cell hcell (by simp)
      have hz2 : w.heap.size + 1 < w1.heap.size := Nat.lt_of_lt_of_le hz1 hg1.size
      have hf : (fun j => if j = x then x != 0 else coverB (hz.take k) j) = coverB (hz.take (k + 1)) := by
        rw [Htk.out]
        funext j
        rw [coverB_snoc]
      rw [hf] at hm1
      clear hf
      go_roundw
      case rel => exact ⟨k + 1, by go_num, by omega, hb1, hm1, hc1, hz2⟩
      case measure => simp [intOf]; omega
    · have e : hz.take k = hz := List.take_of_length_le (by have := hrz.lenWord; omega)
      rw [e] at hmap
      go_wp2_with fail
      refine (parted_u64_o A n c l 91 #[.pointer (some ⟨w.heap.size + 1, 0, none⟩)] (coverB hz) wr hr.lenWord hn ((hr.below hb).more hb.size) (fun args w' => run_enter Tryd.func91 (by decide) (by simp [Tryd.f91]) args w') ?_).mono ?_
      · intro x hx w' hb'
        refine covered1_any x w' (w.heap.size + 1) w.heap.size k (coverB hz) (hwl x hx) ?_ (hmap.below hb')
        rw [hb'.cell (p := ⟨w.heap.size + 1, 0, none⟩) hz1]
        exact hcell
      · rintro e w2 ⟨⟨A1, n1, c1, A2, n2, c2, rfl, e1, e2, r1, r2⟩, hb2⟩
        have E1 := hide e1
        have E2 := hide e2
        clear e1 e2
        go_wp2_with fail
        go_ret2
        exact ⟨⟨A1, n1, c1, A2, n2, c2, rfl, E1.out, E2.out, own_mono r1 hb.size, own_mono r2 hb.size⟩, hb.trans (hb2.mono hb.size)⟩
end Go.Proofs.YtokcbipmocpllaaDoor

/-
  Blocks of other types than two lie as they lay.
-/
namespace Go.Proofs.YtokcbipmocpllaaDoor
open Go.RowKit

def KeepB (T1 T2 : TypeId) (w w' : World) : Prop :=
  w.heap.size ≤ w'.heap.size ∧ ∀ (g : Nat) (cs : Array Value) (e : TypeId) cur, w.heap[g]? = some (Obj.cells cs e cur) → e ≠ T1 → e ≠ T2 → w'.heap[g]? = w.heap[g]?
section
variable {T1 T2 : TypeId} {w w' w'' : World}
theorem KeepB.refl (w : World) : KeepB T1 T2 w w := ⟨Nat.le_refl _, fun _ _ _ _ _ _ _ => rfl⟩
theorem KeepB.trans (h : KeepB T1 T2 w w') (h' : KeepB T1 T2 w' w'') : KeepB T1 T2 w w'' :=
  ⟨Nat.le_trans h.1 h'.1, fun g cs e cur hg h1 h2 => (h'.2 g cs e cur ((h.2 g cs e cur hg h1 h2).trans hg) h1 h2).trans (h.2 g cs e cur hg h1 h2)⟩
theorem KeepB.alloc (h : KeepB T1 T2 w w') (o : Obj) : KeepB T1 T2 w (w'.alloc o) :=
  h.trans ⟨by simp, fun g _ _ _ hg _ _ => Below.heap_alloc w' o g (heap_lt hg)⟩
theorem KeepB.drew (h : KeepB T1 T2 w w') : KeepB T1 T2 w w'.drew := h.trans ⟨Nat.le_refl _, fun _ _ _ _ _ _ _ => rfl⟩
theorem KeepB.below (h : KeepB T1 T2 w w') (hb : Below w'.heap.size w' w'') : KeepB T1 T2 w w'' :=
  h.trans ⟨hb.size, fun g _ _ _ hg _ _ => hb.block g (heap_lt hg)⟩
theorem KeepB.set_ {g : Nat} {T : TypeId} {cs : Array Value} (h : KeepB T1 T2 w w') (hb : Blk w' g T cs) (hT : T = T1 ∨ T = T2) (i : Nat) (u : Value) : KeepB T1 T2 w (w'.setCell ⟨g, i, none⟩ u) :=
  h.trans ⟨by rw [World.size_setCell]; exact Nat.le_refl _, fun k cs' e cur hg h1 h2 => Below.heap_setCell w' ⟨g, i, none⟩ u k (fun he => by
    subst he
    unfold Blk at hb
    rw [hb] at hg
    injection hg with hg
    injection hg with _ ht
    rcases hT with hT | hT
    · exact h1 (by rw [← ht, hT])
    · exact h2 (by rw [← ht, hT]))⟩
theorem KeepB.appended {base m s2 : Nat} {e2 : TypeId} {u : Value} {ys : List Value} (h : KeepB T1 T2 w w') (ho : w'.ownsRow base e2 s2 u m ys) (hT : e2 = T1 ∨ e2 = T2) (hg : w'.grownBy w'' u.ownBlock) : KeepB T1 T2 w w'' :=
  h.trans ⟨hg.size, fun k cs e cur hk h1 h2 => hg.block k (heap_lt hk) (fun he => by
    rcases ho.2 with ⟨rfl, _⟩ | ⟨g', cap, cur', rfl, _, hh', _⟩
    · simp [Value.ownBlock] at he
    · have : k = g' := by simpa [Value.ownBlock] using he
      subst this
      rw [hh'] at hk
      injection hk with hk
      injection hk with _ ht
      rcases hT with hT | hT
      · exact h1 (by rw [← ht, hT])
      · exact h2 (by rw [← ht, hT]))⟩
theorem Tr.keepB {e : TypeId} {s n : Nat} {v : Value} {xs : List Value} (h : Tr w e s v n xs) (hk : KeepB T1 T2 w w') (h1 : e ≠ T1) (h2 : e ≠ T2) : Tr w' e s v n xs :=
  h.keep hk.1 fun g cs cur hg => hk.2 g cs e cur hg h1 h2
end
end Go.Proofs.YtokcbipmocpllaaDoor

