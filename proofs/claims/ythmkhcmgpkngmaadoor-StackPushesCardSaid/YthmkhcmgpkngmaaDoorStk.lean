/-
  What Pop and Push have in common; a Pop told what it is told.
-/
import Derived.Test.YthmkhcmgpkngmaaDoorRow
import Derived.Test.YthmkhcmgpkngmaaDoorPast
import Derived.Test.YthmkhcmgpkngmaaDoorHword
import Derived.Test.YthmkhcmgpkngmaaDoorLayH
import Derived.Deep.RegionHeld3
import Derived.Deep.RegionWith
namespace Go.Proofs.YthmkhcmgpkngmaaDoor
open Go.RowKit
attribute [local go_sem] past_cell past_cell_add

set_option maxHeartbeats 1000000 in
theorem headAt_any (s t f l p sl hd tr k : Int) (w : World) (hs : 1 ≤ s ∧ s ≤ 1000) (ht : 1 ≤ t ∧ t ≤ 64) (hf : 4 ≤ f ∧ f ≤ 64) :
    Calls Tryd.prog 54 #[.agg #[.int .i64 s, .int .i64 t, .int .i64 f, .int .i64 l, .int .i64 p, .int .i64 k, .int .i64 sl, .int .u64 hd, .int .i64 tr]] w fun e w' => e = .returned (.int .i64 2) ∧ Below w.heap.size w w' := by
  have C := hide (fun w2 => at_any s t f l p 3 0 0 w2 hs ht hf)
  rw [atp_first (k := 3) (by omega), show (3 : Int) - 1 = 2 from rfl] at C
  have bx := Blk.new w 48 #[.int .i64 s, .int .i64 t, .int .i64 f, .int .i64 l, .int .i64 p, .int .i64 k, .int .i64 sl, .int .u64 hd, .int .i64 tr]
  have B0 := (Below.refl w.heap.size w).alloc (Nat.le_refl _) (.cells #[.int .i64 s, .int .i64 t, .int .i64 f, .int .i64 l, .int .i64 p, .int .i64 k, .int .i64 sl, .int .u64 hd, .int .i64 tr] 48)
  go_enter Tryd.func54, Tryd.ntmps54
  go_wp2_with fail
  refine (C.out _).mono ?_
  rintro e w1 ⟨rfl, hb1⟩
  try replace bx := bx.below hb1 bx.lt
  try replace bo := bo.below hb1 bo.lt
  try replace by_ := by_.below hb1 by_.lt
  replace B0 := B0.trans (hb1.mono B0.size)
  clear hb1
  try clear mx lx
  try clear mo lo zo
  try clear my ly zy
  try have mx := fun i => bx.cell i
  try have lx := bx.lt
  try have mo := fun i => bo.cell i
  try have lo := bo.lt
  try have zo := fun i => bo.frozen i
  try have my := fun i => by_.cell i
  try have ly := by_.lt
  try have zy := fun i => by_.frozen i
  go_wp2_with fail
  go_ret
  exact ⟨rfl, B0⟩
set_option maxRecDepth 100000 in
set_option maxHeartbeats 1000000 in
theorem bwithin_t (s t f l p sl hd tr k n : Int) (w : World) (h0 : 1 ≤ n) (h1 : n ≤ s) :
    Calls Tryd.prog 60 #[.agg #[.int .i64 s, .int .i64 t, .int .i64 f, .int .i64 l, .int .i64 p, .int .i64 k, .int .i64 sl, .int .u64 hd, .int .i64 tr], .int .i64 n] w fun e w' => e = .returned (.bool true) ∧ Below w.heap.size w w' := by
  have C := hide (fun w2 => lconfig_any s t f l p w2)
  have hf : ∀ w : World, (Instr.field 23 (.agg #[.int .i64 s, .int .i64 t, .int .i64 f, .int .i64 l, .int .i64 p]) 0).run Tryd.prog w = .ok (.int .i64 s) w := fun _ => by kernel_rfl
  skip
  skip
  have bx := Blk.new w 48 #[.int .i64 s, .int .i64 t, .int .i64 f, .int .i64 l, .int .i64 p, .int .i64 k, .int .i64 sl, .int .u64 hd, .int .i64 tr]
  have B0 := (Below.refl w.heap.size w).alloc (Nat.le_refl _) (.cells #[.int .i64 s, .int .i64 t, .int .i64 f, .int .i64 l, .int .i64 p, .int .i64 k, .int .i64 sl, .int .u64 hd, .int .i64 tr] 48)
  go_enter Tryd.func60, Tryd.ntmps60
  go_wp2_with fail
  refine (C.out _).mono ?_
  rintro e w1 ⟨rfl, hb1⟩
  try replace bx := bx.below hb1 bx.lt
  try replace bo := bo.below hb1 bo.lt
  try replace by_ := by_.below hb1 by_.lt
  replace B0 := B0.trans (hb1.mono B0.size)
  clear hb1
  try clear mx lx
  try clear mo lo zo
  try clear my ly zy
  try have mx := fun i => bx.cell i
  try have lx := bx.lt
  try have mo := fun i => bo.cell i
  try have lo := bo.lt
  try have zo := fun i => bo.frozen i
  try have my := fun i => by_.cell i
  try have ly := by_.lt
  try have zy := fun i => by_.frozen i
  go_wp2_with fail
  go_ret
  exact ⟨by first | rfl | simp [h2], B0⟩
set_option maxRecDepth 100000 in
set_option maxHeartbeats 1000000 in
theorem bwithin_f1 (s t f l p sl hd tr k n : Int) (w : World) (h0 : n < 1) :
    Calls Tryd.prog 60 #[.agg #[.int .i64 s, .int .i64 t, .int .i64 f, .int .i64 l, .int .i64 p, .int .i64 k, .int .i64 sl, .int .u64 hd, .int .i64 tr], .int .i64 n] w fun e w' => e = .returned (.bool false) ∧ Below w.heap.size w w' := by


  skip
  have h2 : ¬ 1 ≤ n := by omega
  have bx := Blk.new w 48 #[.int .i64 s, .int .i64 t, .int .i64 f, .int .i64 l, .int .i64 p, .int .i64 k, .int .i64 sl, .int .u64 hd, .int .i64 tr]
  have B0 := (Below.refl w.heap.size w).alloc (Nat.le_refl _) (.cells #[.int .i64 s, .int .i64 t, .int .i64 f, .int .i64 l, .int .i64 p, .int .i64 k, .int .i64 sl, .int .u64 hd, .int .i64 tr] 48)
  go_enter Tryd.func60, Tryd.ntmps60
  go_wp2_with fail

  go_ret
  exact ⟨by first | rfl | simp [h2], B0⟩
set_option maxRecDepth 100000 in
set_option maxHeartbeats 1000000 in
theorem bwithin_f2 (s t f l p sl hd tr k n : Int) (w : World) (h0 : 1 ≤ n) (h1 : s < n) :
    Calls Tryd.prog 60 #[.agg #[.int .i64 s, .int .i64 t, .int .i64 f, .int .i64 l, .int .i64 p, .int .i64 k, .int .i64 sl, .int .u64 hd, .int .i64 tr], .int .i64 n] w fun e w' => e = .returned (.bool false) ∧ Below w.heap.size w w' := by
  have C := hide (fun w2 => lconfig_any s t f l p w2)
  have hf : ∀ w : World, (Instr.field 23 (.agg #[.int .i64 s, .int .i64 t, .int .i64 f, .int .i64 l, .int .i64 p]) 0).run Tryd.prog w = .ok (.int .i64 s) w := fun _ => by kernel_rfl
  have h2 : ¬ n ≤ s := by omega
  skip
  have bx := Blk.new w 48 #[.int .i64 s, .int .i64 t, .int .i64 f, .int .i64 l, .int .i64 p, .int .i64 k, .int .i64 sl, .int .u64 hd, .int .i64 tr]
  have B0 := (Below.refl w.heap.size w).alloc (Nat.le_refl _) (.cells #[.int .i64 s, .int .i64 t, .int .i64 f, .int .i64 l, .int .i64 p, .int .i64 k, .int .i64 sl, .int .u64 hd, .int .i64 tr] 48)
  go_enter Tryd.func60, Tryd.ntmps60
  go_wp2_with fail
  refine (C.out _).mono ?_
  rintro e w1 ⟨rfl, hb1⟩
  try replace bx := bx.below hb1 bx.lt
  try replace bo := bo.below hb1 bo.lt
  try replace by_ := by_.below hb1 by_.lt
  replace B0 := B0.trans (hb1.mono B0.size)
  clear hb1
  try clear mx lx
  try clear mo lo zo
  try clear my ly zy
  try have mx := fun i => bx.cell i
  try have lx := bx.lt
  try have mo := fun i => bo.cell i
  try have lo := bo.lt
  try have zo := fun i => bo.frozen i
  try have my := fun i => by_.cell i
  try have ly := by_.lt
  try have zy := fun i => by_.frozen i
  go_wp2_with fail
  go_ret
  exact ⟨by first | rfl | simp [h2], B0⟩
set_option maxHeartbeats 1000000 in
theorem sload_any (a : Int) (w : World) :
    Calls Tryd.prog 53 #[.int .i64 a] w fun e w' => e = .returned (.agg #[.int .i64 1, .int .i64 a, .int .u64 0, .int .u64 0]) ∧ Below w.heap.size w w' := by
  go_enter Tryd.func53, Tryd.ntmps53
  go_wp2_with fail
  refine bodyPost_ret (v := .agg #[.int .i64 1, .int .i64 a, .int .u64 0, .int .u64 0]) (by simp [results, Tryd.results53, go_sem]) rfl ⟨rfl, ?_⟩
  repeat (first | exact Below.refl _ _ | exact B0 | (refine Below.setCell ?_ (by first | (show w.heap.size ≤ w.heap.size; omega) | (show w.heap.size ≤ w.heap.size + 1; omega) | (show w.heap.size ≤ w.heap.size + 2; omega) | (show w.heap.size ≤ _; simp)) _) | (refine Below.alloc ?_ (by first | exact Nat.le_refl _ | (simp <;> omega)) _))
set_option maxHeartbeats 2000000 in
theorem swap_any (s t f l p sl hd tr k tt : Int) (w : World) (hs : 1 ≤ s ∧ s ≤ 1000) (ht : 1 ≤ t ∧ t ≤ 64) (hf : 4 ≤ f ∧ f ≤ 64) (hh : W64 hd) (hto : I64 tt) :
    Calls Tryd.prog 56 #[.agg #[.int .i64 s, .int .i64 t, .int .i64 f, .int .i64 l, .int .i64 p, .int .i64 k, .int .i64 sl, .int .u64 hd, .int .i64 tr], .int .i64 tt] w fun e w' => e = .returned (.agg #[.int .i64 3, .int .i64 2, .int .u64 hd, .int .u64 (hturn hd tt)]) ∧ Below w.heap.size w w' := by
  have C := hide (fun w2 => headAt_any s t f l p sl hd tr k w2 hs ht hf)
  have M := hide (fun w2 => hturn_any hd tt w2 hh hto)
  generalize hturn hd tt = y at *
  have bx := Blk.new w 48 #[.int .i64 s, .int .i64 t, .int .i64 f, .int .i64 l, .int .i64 p, .int .i64 k, .int .i64 sl, .int .u64 hd, .int .i64 tr]
  have B0 := (Below.refl w.heap.size w).alloc (Nat.le_refl _) (.cells #[.int .i64 s, .int .i64 t, .int .i64 f, .int .i64 l, .int .i64 p, .int .i64 k, .int .i64 sl, .int .u64 hd, .int .i64 tr] 48)
  have bo := Blk.new (w.alloc (.cells #[.int .i64 s, .int .i64 t, .int .i64 f, .int .i64 l, .int .i64 p, .int .i64 k, .int .i64 sl, .int .u64 hd, .int .i64 tr] 48)) 39 #[.int .i64 0, .int .i64 0, .int .u64 0, .int .u64 0]
  replace B0 := B0.alloc B0.size (.cells #[.int .i64 0, .int .i64 0, .int .u64 0, .int .u64 0] 39)
  replace bx := bx.alloc (.cells #[.int .i64 0, .int .i64 0, .int .u64 0, .int .u64 0] 39)
  rw [World.size_alloc] at bo
  go_enter Tryd.func56, Tryd.ntmps56
  go_wp2_with fail
  generalize (w.alloc (.cells #[.int .i64 s, .int .i64 t, .int .i64 f, .int .i64 l, .int .i64 p, .int .i64 k, .int .i64 sl, .int .u64 hd, .int .i64 tr] 48)).alloc (.cells #[.int .i64 0, .int .i64 0, .int .u64 0, .int .u64 0] 39) = w0 at *
  have bd := bx.drewN 1
  have od := bo.drewN 1
  have Bd := below_drewN B0 1
  try clear mx lx
  try clear mo lo zo
  try clear my ly zy
  try have mx := fun i => bx.cell i
  try have lx := bx.lt
  try have mo := fun i => bo.cell i
  try have lo := bo.lt
  try have zo := fun i => bo.frozen i
  try have my := fun i => by_.cell i
  try have ly := by_.lt
  try have zy := fun i => by_.frozen i
  go_region_held3 (fun w' => w'.cell? ⟨w.heap.size, 0, none⟩ = some (.int .i64 s) ∧ w'.cell? ⟨w.heap.size, 1, none⟩ = some (.int .i64 t) ∧ w'.cell? ⟨w.heap.size, 2, none⟩ = some (.int .i64 f) ∧ w'.cell? ⟨w.heap.size, 3, none⟩ = some (.int .i64 l) ∧ w'.cell? ⟨w.heap.size, 4, none⟩ = some (.int .i64 p) ∧ w'.cell? ⟨w.heap.size, 5, none⟩ = some (.int .i64 k) ∧ w'.cell? ⟨w.heap.size, 6, none⟩ = some (.int .i64 sl) ∧ w'.cell? ⟨w.heap.size, 7, none⟩ = some (.int .u64 hd) ∧ w'.cell? ⟨w.heap.size, 8, none⟩ = some (.int .i64 tr)) (go_keep) ((first | (go_at_call 54; refine (C.out _).mono ?_; rintro e w1 ⟨rfl, hb1⟩; have bd := bd.below hb1 bd.lt; have od := od.below hb1 od.lt; have Bd := Bd.trans (hb1.mono Bd.size); have md := fun i => bd.cell i; have nd := fun i => od.cell i; have zd := fun i => od.frozen i; have ld := bd.lt; have kd := od.lt) | (go_at_call 74; refine (M.out _).mono ?_; rintro e w1 ⟨rfl, hb1⟩; have bd := bd.below hb1 bd.lt; have od := od.below hb1 od.lt; have Bd := Bd.trans (hb1.mono Bd.size); have md := fun i => bd.cell i; have nd := fun i => od.cell i; have zd := fun i => od.frozen i; have ld := bd.lt; have kd := od.lt)))
  all_goals
    go_wp2_with fail
    have b9 := od.put4 (.int .i64 3) (.int .i64 2) (.int .u64 hd) (.int .u64 y)
    have B9 := below_put4 Bd (g := w.heap.size + 1) (by omega) (.int .i64 3) (.int .i64 2) (.int .u64 hd) (.int .u64 y)
    have m9 := fun i => b9.cell i
    refine bodyPost_ret (v := .agg #[.int .i64 3, .int .i64 2, .int .u64 hd, .int .u64 y]) (by simp [results, Tryd.results56, go_sem, m9]) rfl ⟨rfl, B9⟩
set_option maxRecDepth 100000 in
set_option maxHeartbeats 1000000 in
theorem swapped_1 (s t f l p sl hd tr k : Int) (w : World)  :
    Calls Tryd.prog 62 #[.agg #[.int .i64 s, .int .i64 t, .int .i64 f, .int .i64 l, .int .i64 p, .int .i64 k, .int .i64 sl, .int .u64 hd, .int .i64 tr], .int .u64 1] w fun e w' => e = .returned (.agg #[.int .i64 s, .int .i64 t, .int .i64 f, .int .i64 l, .int .i64 p, .int .i64 0, .int .i64 sl, .int .u64 hd, .int .i64 tr]) ∧ Below w.heap.size w w' := by
  go_enter Tryd.func62, Tryd.ntmps62
  go_wp2_with fail
  refine bodyPost_ret (v := .agg #[.int .i64 s, .int .i64 t, .int .i64 f, .int .i64 l, .int .i64 p, .int .i64 0, .int .i64 sl, .int .u64 hd, .int .i64 tr]) (by simp [results, Tryd.results62, go_sem]) rfl ⟨rfl, ?_⟩
  repeat (first | exact Below.refl _ _ | exact B0 | (refine Below.setCell ?_ (by first | (show w.heap.size ≤ w.heap.size; omega) | (show w.heap.size ≤ w.heap.size + 1; omega) | (show w.heap.size ≤ w.heap.size + 2; omega) | (show w.heap.size ≤ _; simp)) _) | (refine Below.alloc ?_ (by first | exact Nat.le_refl _ | (simp <;> omega)) _))
set_option maxRecDepth 100000 in
set_option maxHeartbeats 1000000 in
theorem swapped_n (s t f l p sl hd tr k g : Int) (w : World) (hg : (g == 1) = false) :
    Calls Tryd.prog 62 #[.agg #[.int .i64 s, .int .i64 t, .int .i64 f, .int .i64 l, .int .i64 p, .int .i64 k, .int .i64 sl, .int .u64 hd, .int .i64 tr], .int .u64 g] w fun e w' => e = .returned (.agg #[.int .i64 s, .int .i64 t, .int .i64 f, .int .i64 l, .int .i64 p, .int .i64 1, .int .i64 sl, .int .u64 hd, .int .i64 (wrap64 (tr + 1))]) ∧ Below w.heap.size w w' := by
  go_enter Tryd.func62, Tryd.ntmps62
  go_wp2_with fail
  refine bodyPost_ret (v := .agg #[.int .i64 s, .int .i64 t, .int .i64 f, .int .i64 l, .int .i64 p, .int .i64 1, .int .i64 sl, .int .u64 hd, .int .i64 (wrap64 (tr + 1))]) (by simp [results, Tryd.results62, go_sem]) rfl ⟨rfl, ?_⟩
  repeat (first | exact Below.refl _ _ | exact B0 | (refine Below.setCell ?_ (by first | (show w.heap.size ≤ w.heap.size; omega) | (show w.heap.size ≤ w.heap.size + 1; omega) | (show w.heap.size ≤ w.heap.size + 2; omega) | (show w.heap.size ≤ _; simp)) _) | (refine Below.alloc ?_ (by first | exact Nat.le_refl _ | (simp <;> omega)) _))
end Go.Proofs.YthmkhcmgpkngmaaDoor
