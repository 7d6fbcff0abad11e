/-
  The reference's Pop; whatever a Pop's step.
-/
import Derived.Test.YthmkhcmgpkngmaaDoorStkB
import Derived.Test.YthmkhcmgpkngmaaDoorStkC
import Derived.Test.YthmkhcmgpkngmaaDoorLayH
import Derived.Deep.RegionHeld3
import Derived.Deep.RegionWith
namespace Go.Proofs.YthmkhcmgpkngmaaDoor
open Go.RowKit
attribute [local go_sem] past_cell past_cell_add

set_option maxRecDepth 100000 in
set_option maxHeartbeats 2000000 in
theorem rnode_any (s t f l p sl : Int) (w : World) (hs : 1 ≤ s ∧ s ≤ 1000) (ht : 1 ≤ t ∧ t ≤ 64) (hf : 4 ≤ f ∧ f ≤ 64) (hsl : 0 ≤ sl ∧ sl ≤ s) :
    Calls Tryd.prog 75 #[.agg #[.int .i64 s, .int .i64 t, .int .i64 f, .int .i64 l, .int .i64 p], .int .i64 sl] w fun e w' => e = .returned (.int .i64 (3 + 3 * t + sl * (3 + 2 * f))) ∧ Below w.heap.size w w' := by
  have b1 : 0 ≤ sl * (3 + 2 * f) := Int.mul_nonneg hsl.1 (by omega)
  have b2 : sl * (3 + 2 * f) ≤ 1000 * 131 := Int.mul_le_mul (by omega) (by omega) (by omega) (by omega)
  have e1 : IntKind.i64.wrap (3 * t) = 3 * t := IntWalk.i64_in _ (by omega)
  have e2 : IntKind.i64.wrap (3 + 3 * t) = 3 + 3 * t := IntWalk.i64_in _ (by omega)
  have e3 : IntKind.i64.wrap (2 * f) = 2 * f := IntWalk.i64_in _ (by omega)
  have e4 : IntKind.i64.wrap (3 + 2 * f) = 3 + 2 * f := IntWalk.i64_in _ (by omega)
  have e5 : IntKind.i64.wrap (sl * (3 + 2 * f)) = sl * (3 + 2 * f) := IntWalk.i64_in _ (by omega)
  have e6 : IntKind.i64.wrap (3 + 3 * t + sl * (3 + 2 * f)) = 3 + 3 * t + sl * (3 + 2 * f) := IntWalk.i64_in _ (by omega)
  have bx := Blk.new w 23 #[.int .i64 s, .int .i64 t, .int .i64 f, .int .i64 l, .int .i64 p]
  have B0 := (Below.refl w.heap.size w).alloc (Nat.le_refl _) (.cells #[.int .i64 s, .int .i64 t, .int .i64 f, .int .i64 l, .int .i64 p] 23)
  go_enter Tryd.func75, Tryd.ntmps75
  go_wp2_with fail
  go_ret
  exact ⟨rfl, B0⟩
set_option maxRecDepth 100000 in
set_option maxHeartbeats 2000000 in
theorem rlnk_any (s t f l p sl : Int) (w : World) (hs : 1 ≤ s ∧ s ≤ 1000) (ht : 1 ≤ t ∧ t ≤ 64) (hf : 4 ≤ f ∧ f ≤ 64) (hsl : 0 ≤ sl ∧ sl ≤ s) :
    Calls Tryd.prog 57 #[.agg #[.int .i64 s, .int .i64 t, .int .i64 f, .int .i64 l, .int .i64 p], .int .i64 sl] w fun e w' => e = .returned (.int .i64 (3 + 3 * t + sl * (3 + 2 * f) + 2)) ∧ Below w.heap.size w w' := by
  have C := hide (fun w2 => rnode_any s t f l p sl w2 hs ht hf hsl)
  have b2 : sl * (3 + 2 * f) ≤ 1000 * 131 := Int.mul_le_mul (by omega) (by omega) (by omega) (by omega)
  have b1 : 0 ≤ sl * (3 + 2 * f) := Int.mul_nonneg hsl.1 (by omega)
  have e7 : IntKind.i64.wrap (3 + 3 * t + sl * (3 + 2 * f) + 2) = 3 + 3 * t + sl * (3 + 2 * f) + 2 := IntWalk.i64_in _ (by omega)
  clear b1 b2
  generalize 3 + 3 * t + sl * (3 + 2 * f) = q at *
  have bx := Blk.new w 23 #[.int .i64 s, .int .i64 t, .int .i64 f, .int .i64 l, .int .i64 p]
  have B0 := (Below.refl w.heap.size w).alloc (Nat.le_refl _) (.cells #[.int .i64 s, .int .i64 t, .int .i64 f, .int .i64 l, .int .i64 p] 23)
  go_enter Tryd.func57, Tryd.ntmps57
  go_wp2_with fail
  refine (C.out _).mono ?_
  rintro e w1 ⟨rfl, hb1⟩
  try replace bx := bx.below hb1 bx.lt
  try replace bo := bo.below hb1 bo.lt
  try replace by_ := by_.below hb1 by_.lt
  replace B0 := B0.trans (hb1.mono B0.size)
  clear hb1
  try clear mx lx
  try clear mo lo zo
  try clear my ly zy
  try have mx := fun i => bx.cell i
  try have lx := bx.lt
  try have mo := fun i => bo.cell i
  try have lo := bo.lt
  try have zo := fun i => bo.frozen i
  try have my := fun i => by_.cell i
  try have ly := by_.lt
  try have zy := fun i => by_.frozen i
  go_wp2_with fail
  go_ret
  exact ⟨rfl, B0⟩
set_option maxRecDepth 100000 in
set_option maxHeartbeats 2000000 in
theorem rpwant_0 (s t f l p sl hd tr lk : Int) (w : World)  :
    Calls Tryd.prog 25 #[.agg #[.int .i64 s, .int .i64 t, .int .i64 f, .int .i64 l, .int .i64 p], .agg #[.int .i64 0, .int .u64 hd, .int .i64 sl, .int .i64 lk, .int .i64 tr]] w fun e w' => e = .returned (.agg #[.int .i64 0, .int .i64 0, .int .u64 0, .int .u64 0]) ∧ Below w.heap.size w w' := by
  go_enter Tryd.func25, Tryd.ntmps25
  go_wp2_with fail
  refine bodyPost_ret (v := .agg #[.int .i64 0, .int .i64 0, .int .u64 0, .int .u64 0]) (by simp [results, Tryd.results25, go_sem]) rfl ⟨rfl, ?_⟩
  repeat (first | exact Below.refl _ _ | exact B0 | (refine Below.setCell ?_ (by first | (show w.heap.size ≤ w.heap.size; omega) | (show w.heap.size ≤ w.heap.size + 1; omega) | (show w.heap.size ≤ w.heap.size + 2; omega) | (show w.heap.size ≤ _; simp)) _) | (refine Below.alloc ?_ (by first | exact Nat.le_refl _ | (simp <;> omega)) _))
set_option maxRecDepth 100000 in
set_option maxHeartbeats 2000000 in
theorem rpwant_1 (s t f l p sl hd tr lk : Int) (w : World)  :
    Calls Tryd.prog 25 #[.agg #[.int .i64 s, .int .i64 t, .int .i64 f, .int .i64 l, .int .i64 p], .agg #[.int .i64 1, .int .u64 hd, .int .i64 sl, .int .i64 lk, .int .i64 tr]] w fun e w' => e = .returned (.agg #[.int .i64 1, .int .i64 2, .int .u64 0, .int .u64 0]) ∧ Below w.heap.size w w' := by
  go_enter Tryd.func25, Tryd.ntmps25
  go_wp2_with fail
  refine bodyPost_ret (v := .agg #[.int .i64 1, .int .i64 2, .int .u64 0, .int .u64 0]) (by simp [results, Tryd.results25, go_sem]) rfl ⟨rfl, ?_⟩
  repeat (first | exact Below.refl _ _ | exact B0 | (refine Below.setCell ?_ (by first | (show w.heap.size ≤ w.heap.size; omega) | (show w.heap.size ≤ w.heap.size + 1; omega) | (show w.heap.size ≤ w.heap.size + 2; omega) | (show w.heap.size ≤ _; simp)) _) | (refine Below.alloc ?_ (by first | exact Nat.le_refl _ | (simp <;> omega)) _))
set_option maxRecDepth 100000 in
set_option maxHeartbeats 2000000 in
theorem rpwant_2 (s t f l p sl hd tr lk : Int) (w : World) (hs : 1 ≤ s ∧ s ≤ 1000) (ht : 1 ≤ t ∧ t ≤ 64) (hf : 4 ≤ f ∧ f ≤ 64) (hsl : 0 ≤ sl ∧ sl ≤ s) :
    Calls Tryd.prog 25 #[.agg #[.int .i64 s, .int .i64 t, .int .i64 f, .int .i64 l, .int .i64 p], .agg #[.int .i64 2, .int .u64 hd, .int .i64 sl, .int .i64 lk, .int .i64 tr]] w fun e w' => e = .returned (.agg #[.int .i64 1, .int .i64 (3 + 3 * t + sl * (3 + 2 * f) + 2), .int .u64 0, .int .u64 0]) ∧ Below w.heap.size w w' := by
  have C := hide (fun w2 => rlnk_any s t f l p sl w2 hs ht hf hsl)
  generalize 3 + 3 * t + sl * (3 + 2 * f) + 2 = q at *
  have bx := Blk.new w 23 #[.int .i64 s, .int .i64 t, .int .i64 f, .int .i64 l, .int .i64 p]
  have B0 := (Below.refl w.heap.size w).alloc (Nat.le_refl _) (.cells #[.int .i64 s, .int .i64 t, .int .i64 f, .int .i64 l, .int .i64 p] 23)
  have by_ := Blk.new (w.alloc (.cells #[.int .i64 s, .int .i64 t, .int .i64 f, .int .i64 l, .int .i64 p] 23)) 53 #[.int .i64 2, .int .u64 hd, .int .i64 sl, .int .i64 lk, .int .i64 tr]
  replace B0 := B0.alloc B0.size (.cells #[.int .i64 2, .int .u64 hd, .int .i64 sl, .int .i64 lk, .int .i64 tr] 53)
  replace bx := bx.alloc (.cells #[.int .i64 2, .int .u64 hd, .int .i64 sl, .int .i64 lk, .int .i64 tr] 53)
  have bo := Blk.new ((w.alloc (.cells #[.int .i64 s, .int .i64 t, .int .i64 f, .int .i64 l, .int .i64 p] 23)).alloc (.cells #[.int .i64 2, .int .u64 hd, .int .i64 sl, .int .i64 lk, .int .i64 tr] 53)) 39 #[.int .i64 0, .int .i64 0, .int .u64 0, .int .u64 0]
  replace B0 := B0.alloc B0.size (.cells #[.int .i64 0, .int .i64 0, .int .u64 0, .int .u64 0] 39)
  replace bx := bx.alloc (.cells #[.int .i64 0, .int .i64 0, .int .u64 0, .int .u64 0] 39)
  replace by_ := by_.alloc (.cells #[.int .i64 0, .int .i64 0, .int .u64 0, .int .u64 0] 39)
  rw [World.size_alloc] at by_ bo
  rw [World.size_alloc] at bo
  go_enter Tryd.func25, Tryd.ntmps25
  go_wp2_with fail
  refine (C.out _).mono ?_
  rintro e w1 ⟨rfl, hb1⟩
  try replace bx := bx.below hb1 bx.lt
  try replace bo := bo.below hb1 bo.lt
  try replace by_ := by_.below hb1 by_.lt
  replace B0 := B0.trans (hb1.mono B0.size)
  clear hb1
  try clear mx lx
  try clear mo lo zo
  try clear my ly zy
  try have mx := fun i => bx.cell i
  try have lx := bx.lt
  try have mo := fun i => bo.cell i
  try have lo := bo.lt
  try have zo := fun i => bo.frozen i
  try have my := fun i => by_.cell i
  try have ly := by_.lt
  try have zy := fun i => by_.frozen i
  go_wp2_with fail
  have b9 := bo.put4 (.int .i64 1) (.int .i64 q) (.int .u64 0) (.int .u64 0)
  have B9 := below_put4 B0 (g := w.heap.size + 1 + 1) (by omega) (.int .i64 1) (.int .i64 q) (.int .u64 0) (.int .u64 0)
  have m9 := fun i => b9.cell i
  refine bodyPost_ret (v := .agg #[.int .i64 1, .int .i64 q, .int .u64 0, .int .u64 0]) (by simp [results, Tryd.results25, go_sem, m9]) rfl ⟨rfl, by first | exact B9 | exact B9.drew⟩
set_option maxRecDepth 100000 in
set_option maxHeartbeats 2000000 in
theorem rpwant_3 (s t f l p sl hd tr lk : Int) (w : World) (hh : W64 hd) (hlk : 0 ≤ lk ∧ lk ≤ 1000) :
    Calls Tryd.prog 25 #[.agg #[.int .i64 s, .int .i64 t, .int .i64 f, .int .i64 l, .int .i64 p], .agg #[.int .i64 3, .int .u64 hd, .int .i64 sl, .int .i64 lk, .int .i64 tr]] w fun e w' => e = .returned (.agg #[.int .i64 3, .int .i64 2, .int .u64 hd, .int .u64 (hturn hd lk)]) ∧ Below w.heap.size w w' := by
  have M := hide (fun w2 => rhturn_any hd lk w2 hh ⟨by omega, by omega⟩)
  generalize hturn hd lk = y at *
  have bx := Blk.new w 23 #[.int .i64 s, .int .i64 t, .int .i64 f, .int .i64 l, .int .i64 p]
  have B0 := (Below.refl w.heap.size w).alloc (Nat.le_refl _) (.cells #[.int .i64 s, .int .i64 t, .int .i64 f, .int .i64 l, .int .i64 p] 23)
  have by_ := Blk.new (w.alloc (.cells #[.int .i64 s, .int .i64 t, .int .i64 f, .int .i64 l, .int .i64 p] 23)) 53 #[.int .i64 3, .int .u64 hd, .int .i64 sl, .int .i64 lk, .int .i64 tr]
  replace B0 := B0.alloc B0.size (.cells #[.int .i64 3, .int .u64 hd, .int .i64 sl, .int .i64 lk, .int .i64 tr] 53)
  replace bx := bx.alloc (.cells #[.int .i64 3, .int .u64 hd, .int .i64 sl, .int .i64 lk, .int .i64 tr] 53)
  have bo := Blk.new ((w.alloc (.cells #[.int .i64 s, .int .i64 t, .int .i64 f, .int .i64 l, .int .i64 p] 23)).alloc (.cells #[.int .i64 3, .int .u64 hd, .int .i64 sl, .int .i64 lk, .int .i64 tr] 53)) 39 #[.int .i64 0, .int .i64 0, .int .u64 0, .int .u64 0]
  replace B0 := B0.alloc B0.size (.cells #[.int .i64 0, .int .i64 0, .int .u64 0, .int .u64 0] 39)
  replace bx := bx.alloc (.cells #[.int .i64 0, .int .i64 0, .int .u64 0, .int .u64 0] 39)
  replace by_ := by_.alloc (.cells #[.int .i64 0, .int .i64 0, .int .u64 0, .int .u64 0] 39)
  rw [World.size_alloc] at by_ bo
  rw [World.size_alloc] at bo
  go_enter Tryd.func25, Tryd.ntmps25
  go_wp2_with fail
  generalize ((w.alloc (.cells #[.int .i64 s, .int .i64 t, .int .i64 f, .int .i64 l, .int .i64 p] 23)).alloc (.cells #[.int .i64 3, .int .u64 hd, .int .i64 sl, .int .i64 lk, .int .i64 tr] 53)).alloc (.cells #[.int .i64 0, .int .i64 0, .int .u64 0, .int .u64 0] 39) = w0 at *
  have n1 : w.heap.size + 1 ≠ w.heap.size + 1 + 1 := by omega
  have n3 : w.heap.size ≤ w.heap.size + 1 + 1 := by omega
  generalize w.heap.size + 1 + 1 = go at *
  try clear mx lx
  try clear mo lo zo
  try clear my ly zy
  try have mx := fun i => bx.cell i
  try have lx := bx.lt
  try have mo := fun i => bo.cell i
  try have lo := bo.lt
  try have zo := fun i => bo.frozen i
  try have my := fun i => by_.cell i
  try have ly := by_.lt
  try have zy := fun i => by_.frozen i
  go_region_with ((first | (go_at_call 58; refine (M.out _).mono ?_; rintro e w' ⟨rfl, rfl⟩)))
  all_goals
    go_wp2_with fail
    have b9 := (bo.put4 (.int .i64 3) (.int .i64 2) (.int .u64 hd) (.int .u64 y)).drew
    have b8 := bo.drew.put4 (.int .i64 3) (.int .i64 2) (.int .u64 hd) (.int .u64 y)
    have B9 := (below_put4 B0 (g := go) n3 (.int .i64 3) (.int .i64 2) (.int .u64 hd) (.int .u64 y)).drew
    have B8 := below_put4 B0.drew (g := go) n3 (.int .i64 3) (.int .i64 2) (.int .u64 hd) (.int .u64 y)
    have m9 := fun i => b9.cell i
    have m8 := fun i => b8.cell i
    first
      | refine bodyPost_ret (v := .agg #[.int .i64 3, .int .i64 2, .int .u64 hd, .int .u64 y]) (by simp [results, Tryd.results25, go_sem, m9]) rfl ⟨rfl, B9⟩
      | refine bodyPost_ret (v := .agg #[.int .i64 3, .int .i64 2, .int .u64 hd, .int .u64 y]) (by simp [results, Tryd.results25, go_sem, m8]) rfl ⟨rfl, B8⟩
set_option maxRecDepth 100000 in
set_option maxHeartbeats 2000000 in
theorem rptook_0 (s t f l p sl hd tr lk g : Int) (w : World)  :
    Calls Tryd.prog 28 #[.agg #[.int .i64 s, .int .i64 t, .int .i64 f, .int .i64 l, .int .i64 p], .agg #[.int .i64 0, .int .u64 hd, .int .i64 sl, .int .i64 lk, .int .i64 tr], .int .u64 g] w fun e w' => e = .returned (.agg #[.int .i64 0, .int .u64 hd, .int .i64 sl, .int .i64 lk, .int .i64 tr]) ∧ Below w.heap.size w w' := by
  go_enter Tryd.func28, Tryd.ntmps28
  go_wp2_with fail
  refine bodyPost_ret (v := .agg #[.int .i64 0, .int .u64 hd, .int .i64 sl, .int .i64 lk, .int .i64 tr]) (by simp [results, Tryd.results28, go_sem]) rfl ⟨rfl, ?_⟩
  repeat (first | exact Below.refl _ _ | exact B0 | (refine Below.setCell ?_ (by first | (show w.heap.size ≤ w.heap.size; omega) | (show w.heap.size ≤ w.heap.size + 1; omega) | (show w.heap.size ≤ w.heap.size + 2; omega) | (show w.heap.size ≤ _; simp)) _) | (refine Below.alloc ?_ (by first | exact Nat.le_refl _ | (simp <;> omega)) _))
set_option maxRecDepth 100000 in
set_option maxHeartbeats 2000000 in
theorem rptook_1y (s t f l p sl hd tr lk g : Int) (w : World) (hg : W64 g) (h0 : 1 ≤ g % 65536) (h1 : g % 65536 ≤ s) :
    Calls Tryd.prog 28 #[.agg #[.int .i64 s, .int .i64 t, .int .i64 f, .int .i64 l, .int .i64 p], .agg #[.int .i64 1, .int .u64 hd, .int .i64 sl, .int .i64 lk, .int .i64 tr], .int .u64 g] w fun e w' => e = .returned (.agg #[.int .i64 2, .int .u64 g, .int .i64 (g % 65536), .int .i64 lk, .int .i64 tr]) ∧ Below w.heap.size w w' := by
  have C := hide (fun w2 => rhslot_any g w2 hg)
  generalize g % 65536 = q at *
  have h2 : ¬ q < 1 := by omega
  have h3 : ¬ s < q := by omega
  go_enter Tryd.func28, Tryd.ntmps28
  go_wp2_with fail
  refine (C.out _).mono ?_
  rintro e w' ⟨rfl, rfl⟩
  go_wp2_with fail
  refine bodyPost_ret (v := .agg #[.int .i64 2, .int .u64 g, .int .i64 q, .int .i64 lk, .int .i64 tr]) (by simp [results, Tryd.results28, go_sem]) rfl ⟨rfl, ?_⟩
  repeat (first | exact Below.refl _ _ | exact B0 | (refine Below.setCell ?_ (by first | (show w.heap.size ≤ w.heap.size; omega) | (show w.heap.size ≤ w.heap.size + 1; omega) | (show w.heap.size ≤ w.heap.size + 2; omega) | (show w.heap.size ≤ _; simp)) _) | (refine Below.alloc ?_ (by first | exact Nat.le_refl _ | (simp <;> omega)) _))
set_option maxRecDepth 100000 in
set_option maxHeartbeats 2000000 in
theorem rptook_1l (s t f l p sl hd tr lk g : Int) (w : World) (hg : W64 g) (h0 : g % 65536 < 1) :
    Calls Tryd.prog 28 #[.agg #[.int .i64 s, .int .i64 t, .int .i64 f, .int .i64 l, .int .i64 p], .agg #[.int .i64 1, .int .u64 hd, .int .i64 sl, .int .i64 lk, .int .i64 tr], .int .u64 g] w fun e w' => e = .returned (.agg #[.int .i64 0, .int .u64 g, .int .i64 0, .int .i64 lk, .int .i64 tr]) ∧ Below w.heap.size w w' := by
  have C := hide (fun w2 => rhslot_any g w2 hg)
  generalize g % 65536 = q at *
  go_enter Tryd.func28, Tryd.ntmps28
  go_wp2_with fail
  refine (C.out _).mono ?_
  rintro e w' ⟨rfl, rfl⟩
  go_wp2_with fail
  refine bodyPost_ret (v := .agg #[.int .i64 0, .int .u64 g, .int .i64 0, .int .i64 lk, .int .i64 tr]) (by simp [results, Tryd.results28, go_sem]) rfl ⟨rfl, ?_⟩
  repeat (first | exact Below.refl _ _ | exact B0 | (refine Below.setCell ?_ (by first | (show w.heap.size ≤ w.heap.size; omega) | (show w.heap.size ≤ w.heap.size + 1; omega) | (show w.heap.size ≤ w.heap.size + 2; omega) | (show w.heap.size ≤ _; simp)) _) | (refine Below.alloc ?_ (by first | exact Nat.le_refl _ | (simp <;> omega)) _))
set_option maxRecDepth 100000 in
set_option maxHeartbeats 2000000 in
theorem rptook_1h (s t f l p sl hd tr lk g : Int) (w : World) (hg : W64 g) (h0 : 1 ≤ g % 65536) (h1 : s < g % 65536) :
    Calls Tryd.prog 28 #[.agg #[.int .i64 s, .int .i64 t, .int .i64 f, .int .i64 l, .int .i64 p], .agg #[.int .i64 1, .int .u64 hd, .int .i64 sl, .int .i64 lk, .int .i64 tr], .int .u64 g] w fun e w' => e = .returned (.agg #[.int .i64 0, .int .u64 g, .int .i64 0, .int .i64 lk, .int .i64 tr]) ∧ Below w.heap.size w w' := by
  have C := hide (fun w2 => rhslot_any g w2 hg)
  generalize g % 65536 = q at *
  have h2 : ¬ q < 1 := by omega
  go_enter Tryd.func28, Tryd.ntmps28
  go_wp2_with fail
  refine (C.out _).mono ?_
  rintro e w' ⟨rfl, rfl⟩
  go_wp2_with fail
  refine bodyPost_ret (v := .agg #[.int .i64 0, .int .u64 g, .int .i64 0, .int .i64 lk, .int .i64 tr]) (by simp [results, Tryd.results28, go_sem]) rfl ⟨rfl, ?_⟩
  repeat (first | exact Below.refl _ _ | exact B0 | (refine Below.setCell ?_ (by first | (show w.heap.size ≤ w.heap.size; omega) | (show w.heap.size ≤ w.heap.size + 1; omega) | (show w.heap.size ≤ w.heap.size + 2; omega) | (show w.heap.size ≤ _; simp)) _) | (refine Below.alloc ?_ (by first | exact Nat.le_refl _ | (simp <;> omega)) _))
set_option maxRecDepth 100000 in
set_option maxHeartbeats 2000000 in
theorem rptook_2y (s t f l p sl hd tr lk g : Int) (w : World) (hg : W64 g) (hs0 : 0 ≤ s ∧ s ≤ 1000) (h0 : g ≤ s) :
    Calls Tryd.prog 28 #[.agg #[.int .i64 s, .int .i64 t, .int .i64 f, .int .i64 l, .int .i64 p], .agg #[.int .i64 2, .int .u64 hd, .int .i64 sl, .int .i64 lk, .int .i64 tr], .int .u64 g] w fun e w' => e = .returned (.agg #[.int .i64 3, .int .u64 hd, .int .i64 sl, .int .i64 g, .int .i64 tr]) ∧ Below w.heap.size w w' := by
  have q1 : IntKind.u64.wrap s = s := IntWalk.u64_in _ (by omega)
  have q2 : IntKind.i64.wrap g = g := IntWalk.i64_in _ (by have := hg.1; omega)
  go_enter Tryd.func28, Tryd.ntmps28
  go_wp2_with fail
  refine bodyPost_ret (v := .agg #[.int .i64 3, .int .u64 hd, .int .i64 sl, .int .i64 g, .int .i64 tr]) (by simp [results, Tryd.results28, go_sem]) rfl ⟨rfl, ?_⟩
  repeat (first | exact Below.refl _ _ | exact B0 | (refine Below.setCell ?_ (by first | (show w.heap.size ≤ w.heap.size; omega) | (show w.heap.size ≤ w.heap.size + 1; omega) | (show w.heap.size ≤ w.heap.size + 2; omega) | (show w.heap.size ≤ _; simp)) _) | (refine Below.alloc ?_ (by first | exact Nat.le_refl _ | (simp <;> omega)) _))
set_option maxRecDepth 100000 in
set_option maxHeartbeats 2000000 in
theorem rptook_2n (s t f l p sl hd tr lk g : Int) (w : World) (hs0 : 0 ≤ s ∧ s ≤ 1000) (h0 : s < g) :
    Calls Tryd.prog 28 #[.agg #[.int .i64 s, .int .i64 t, .int .i64 f, .int .i64 l, .int .i64 p], .agg #[.int .i64 2, .int .u64 hd, .int .i64 sl, .int .i64 lk, .int .i64 tr], .int .u64 g] w fun e w' => e = .returned (.agg #[.int .i64 3, .int .u64 hd, .int .i64 sl, .int .i64 0, .int .i64 tr]) ∧ Below w.heap.size w w' := by
  have q1 : IntKind.u64.wrap s = s := IntWalk.u64_in _ (by omega)
  have q2 : ¬ g ≤ s := by omega
  go_enter Tryd.func28, Tryd.ntmps28
  go_wp2_with fail
  refine bodyPost_ret (v := .agg #[.int .i64 3, .int .u64 hd, .int .i64 sl, .int .i64 0, .int .i64 tr]) (by simp [results, Tryd.results28, go_sem]) rfl ⟨rfl, ?_⟩
  repeat (first | exact Below.refl _ _ | exact B0 | (refine Below.setCell ?_ (by first | (show w.heap.size ≤ w.heap.size; omega) | (show w.heap.size ≤ w.heap.size + 1; omega) | (show w.heap.size ≤ w.heap.size + 2; omega) | (show w.heap.size ≤ _; simp)) _) | (refine Below.alloc ?_ (by first | exact Nat.le_refl _ | (simp <;> omega)) _))
set_option maxRecDepth 100000 in
set_option maxHeartbeats 2000000 in
theorem rptook_3y (s t f l p sl hd tr lk : Int) (w : World)  :
    Calls Tryd.prog 28 #[.agg #[.int .i64 s, .int .i64 t, .int .i64 f, .int .i64 l, .int .i64 p], .agg #[.int .i64 3, .int .u64 hd, .int .i64 sl, .int .i64 lk, .int .i64 tr], .int .u64 1] w fun e w' => e = .returned (.agg #[.int .i64 0, .int .u64 hd, .int .i64 sl, .int .i64 lk, .int .i64 tr]) ∧ Below w.heap.size w w' := by
  go_enter Tryd.func28, Tryd.ntmps28
  go_wp2_with fail
  refine bodyPost_ret (v := .agg #[.int .i64 0, .int .u64 hd, .int .i64 sl, .int .i64 lk, .int .i64 tr]) (by simp [results, Tryd.results28, go_sem]) rfl ⟨rfl, ?_⟩
  repeat (first | exact Below.refl _ _ | exact B0 | (refine Below.setCell ?_ (by first | (show w.heap.size ≤ w.heap.size; omega) | (show w.heap.size ≤ w.heap.size + 1; omega) | (show w.heap.size ≤ w.heap.size + 2; omega) | (show w.heap.size ≤ _; simp)) _) | (refine Below.alloc ?_ (by first | exact Nat.le_refl _ | (simp <;> omega)) _))
set_option maxRecDepth 100000 in
set_option maxHeartbeats 2000000 in
theorem rptook_3n (s t f l p sl hd tr lk g : Int) (w : World) (hg : (g == 1) = false) :
    Calls Tryd.prog 28 #[.agg #[.int .i64 s, .int .i64 t, .int .i64 f, .int .i64 l, .int .i64 p], .agg #[.int .i64 3, .int .u64 hd, .int .i64 sl, .int .i64 lk, .int .i64 tr], .int .u64 g] w fun e w' => e = .returned (.agg #[.int .i64 1, .int .u64 hd, .int .i64 sl, .int .i64 lk, .int .i64 (wrap64 (tr + 1))]) ∧ Below w.heap.size w w' := by
  go_enter Tryd.func28, Tryd.ntmps28
  go_wp2_with fail
  refine bodyPost_ret (v := .agg #[.int .i64 1, .int .u64 hd, .int .i64 sl, .int .i64 lk, .int .i64 (wrap64 (tr + 1))]) (by simp [results, Tryd.results28, go_sem]) rfl ⟨rfl, ?_⟩
  repeat (first | exact Below.refl _ _ | exact B0 | (refine Below.setCell ?_ (by first | (show w.heap.size ≤ w.heap.size; omega) | (show w.heap.size ≤ w.heap.size + 1; omega) | (show w.heap.size ≤ w.heap.size + 2; omega) | (show w.heap.size ≤ _; simp)) _) | (refine Below.alloc ?_ (by first | exact Nat.le_refl _ | (simp <;> omega)) _))

def ppV (s t f l p : Int) (x : Int × Int × Int × Int × Int) : Value := .agg #[.int .i64 s, .int .i64 t, .int .i64 f, .int .i64 l, .int .i64 p, .int .i64 x.1, .int .i64 x.2.1, .int .u64 x.2.2.1, .int .i64 x.2.2.2.1, .int .i64 x.2.2.2.2]
def rppV (x : Int × Int × Int × Int × Int) : Value := .agg #[.int .i64 x.1, .int .u64 x.2.2.1, .int .i64 x.2.1, .int .i64 x.2.2.2.2, .int .i64 x.2.2.2.1]
theorem ptook_any (s t f l p g : Int) (x : Int × Int × Int × Int × Int) (w : World) (hx : PpOk s x) (hg : W64 g) (h : x.1 = 0 ∨ (1 ≤ s ∧ s ≤ 1000)) :
    Calls Tryd.prog 27 #[ppV s t f l p x, .int .u64 g] w fun e w' => e = .returned (ppV s t f l p (pTook s x g)) ∧ Below w.heap.size w w' := by
  obtain ⟨k, sl, hd, tr, lk⟩ := x
  obtain ⟨hk, h1, h2, h3⟩ := hx
  simp only at hk h1 h2 h3 h
  rcases hk with rfl | rfl | rfl | rfl
  · exact ptook_0 s t f l p sl hd tr lk g w
  all_goals
    have hs := h.resolve_left (by decide)
  · by_cases h0 : 1 ≤ g % 65536
    · by_cases h4 : g % 65536 ≤ s
      · rw [show pTook s (1, sl, hd, tr, lk) g = (2, g % 65536, g, tr, lk) by simp [pTook, h0, h4]]
        exact ptook_1y s t f l p sl hd tr lk g w hg h0 h4
      · rw [show pTook s (1, sl, hd, tr, lk) g = (0, 0, g, tr, lk) by simp [pTook, h4]]
        exact ptook_1h s t f l p sl hd tr lk g w hg h0 (by omega)
    · rw [show pTook s (1, sl, hd, tr, lk) g = (0, 0, g, tr, lk) by simp [pTook, h0]]
      exact ptook_1l s t f l p sl hd tr lk g w hg (by omega)
  · by_cases h0 : g ≤ s
    · rw [show pTook s (2, sl, hd, tr, lk) g = (3, sl, hd, tr, g) by simp [pTook, h0]]
      exact ptook_2y s t f l p sl hd tr lk g w hg (by omega) h0
    · rw [show pTook s (2, sl, hd, tr, lk) g = (3, sl, hd, tr, 0) by simp [pTook, h0]]
      exact ptook_2n s t f l p sl hd tr lk g w hg (by omega) (by omega)
  · by_cases h0 : g = 1
    · subst h0
      exact ptook_3y s t f l p sl hd tr lk w
    · rw [show pTook s (3, sl, hd, tr, lk) g = (1, sl, hd, wrap64 (tr + 1), lk) by simp [pTook, h0]]
      exact ptook_3n s t f l p sl hd tr lk g w (by simpa using h0)
theorem rptook_any (s t f l p g : Int) (x : Int × Int × Int × Int × Int) (w : World) (hx : PpOk s x) (hg : W64 g) (h : x.1 = 0 ∨ (1 ≤ s ∧ s ≤ 1000)) :
    Calls Tryd.prog 28 #[.agg #[.int .i64 s, .int .i64 t, .int .i64 f, .int .i64 l, .int .i64 p], rppV x, .int .u64 g] w fun e w' => e = .returned (rppV (pTook s x g)) ∧ Below w.heap.size w w' := by
  obtain ⟨k, sl, hd, tr, lk⟩ := x
  obtain ⟨hk, h1, h2, h3⟩ := hx
  simp only at hk h1 h2 h3 h
  rcases hk with rfl | rfl | rfl | rfl
  · exact rptook_0 s t f l p sl hd tr lk g w
  all_goals
    have hs := h.resolve_left (by decide)
  · by_cases h0 : 1 ≤ g % 65536
    · by_cases h4 : g % 65536 ≤ s
      · rw [show pTook s (1, sl, hd, tr, lk) g = (2, g % 65536, g, tr, lk) by simp [pTook, h0, h4]]
        exact rptook_1y s t f l p sl hd tr lk g w hg h0 h4
      · rw [show pTook s (1, sl, hd, tr, lk) g = (0, 0, g, tr, lk) by simp [pTook, h4]]
        exact rptook_1h s t f l p sl hd tr lk g w hg h0 (by omega)
    · rw [show pTook s (1, sl, hd, tr, lk) g = (0, 0, g, tr, lk) by simp [pTook, h0]]
      exact rptook_1l s t f l p sl hd tr lk g w hg (by omega)
  · by_cases h0 : g ≤ s
    · rw [show pTook s (2, sl, hd, tr, lk) g = (3, sl, hd, tr, g) by simp [pTook, h0]]
      exact rptook_2y s t f l p sl hd tr lk g w hg (by omega) h0
    · rw [show pTook s (2, sl, hd, tr, lk) g = (3, sl, hd, tr, 0) by simp [pTook, h0]]
      exact rptook_2n s t f l p sl hd tr lk g w (by omega) (by omega)
  · by_cases h0 : g = 1
    · subst h0
      exact rptook_3y s t f l p sl hd tr lk w
    · rw [show pTook s (3, sl, hd, tr, lk) g = (1, sl, hd, wrap64 (tr + 1), lk) by simp [pTook, h0]]
      exact rptook_3n s t f l p sl hd tr lk g w (by simpa using h0)
theorem pwant_any (s t f l p : Int) (x : Int × Int × Int × Int × Int) (w : World) (hx : PpOk s x) (h : x.1 = 0 ∨ ((1 ≤ s ∧ s ≤ 1000) ∧ (1 ≤ t ∧ t ≤ 64) ∧ (4 ≤ f ∧ f ≤ 64))) :
    Calls Tryd.prog 24 #[ppV s t f l p x] w fun e w' => e = .returned (.agg #[.int .i64 (pAsk t f x).1, .int .i64 (pAsk t f x).2.1, .int .u64 (pAsk t f x).2.2.1, .int .u64 (pAsk t f x).2.2.2]) ∧ Below w.heap.size w w' := by
  obtain ⟨k, sl, hd, tr, lk⟩ := x
  obtain ⟨hk, h1, h2, h3⟩ := hx
  simp only at hk h1 h2 h3 h
  rcases hk with rfl | rfl | rfl | rfl
  · exact pwant_0 s t f l p sl hd tr lk w
  all_goals
    obtain ⟨hs, ht, hf⟩ := h.resolve_left (by decide)
  · exact pwant_1 s t f l p sl hd tr lk w hs ht hf
  · exact pwant_2 s t f l p sl hd tr lk w hs ht hf (h3 (.inl rfl))
  · exact pwant_3 s t f l p sl hd tr lk w hs ht hf h1 h2
theorem rpwant_any (s t f l p : Int) (x : Int × Int × Int × Int × Int) (w : World) (hx : PpOk s x) (h : x.1 = 0 ∨ ((1 ≤ s ∧ s ≤ 1000) ∧ (1 ≤ t ∧ t ≤ 64) ∧ (4 ≤ f ∧ f ≤ 64))) :
    Calls Tryd.prog 25 #[.agg #[.int .i64 s, .int .i64 t, .int .i64 f, .int .i64 l, .int .i64 p], rppV x] w fun e w' => e = .returned (.agg #[.int .i64 (pAsk t f x).1, .int .i64 (pAsk t f x).2.1, .int .u64 (pAsk t f x).2.2.1, .int .u64 (pAsk t f x).2.2.2]) ∧ Below w.heap.size w w' := by
  obtain ⟨k, sl, hd, tr, lk⟩ := x
  obtain ⟨hk, h1, h2, h3⟩ := hx
  simp only at hk h1 h2 h3 h
  rcases hk with rfl | rfl | rfl | rfl
  · exact rpwant_0 s t f l p sl hd tr lk w
  all_goals
    obtain ⟨hs, ht, hf⟩ := h.resolve_left (by decide)
  · exact rpwant_1 s t f l p sl hd tr lk w
  · exact rpwant_2 s t f l p sl hd tr lk w hs ht hf (by have := h3 (.inl rfl); omega)
  · exact rpwant_3 s t f l p sl hd tr lk w h1 h2
end Go.Proofs.YthmkhcmgpkngmaaDoor
