/-
  The document's epoch that goes on: what it wants, and becomes.
-/
import Derived.Test.YtglbgddjahenjaaDoorAdv
import Derived.Test.YtglbgddjahenjaaDoorLayH
import Derived.Deep.RegionHeld3
import Derived.Deep.RegionWith
namespace Go.Proofs.YtglbgddjahenjaaDoor
open Go.RowKit
attribute [local go_sem] past_cell past_cell_add

set_option maxHeartbeats 1000000 in
theorem rann_any (s t f l p th : Int) (w : World) (hth : 0 ≤ th ∧ th ≤ 1000) :
    Calls Tryd.prog 28 #[.agg #[.int .i64 s, .int .i64 t, .int .i64 f, .int .i64 l, .int .i64 p], .int .i64 th] w fun e w' => e = .returned (.int .i64 (3 + th)) ∧ Below w.heap.size w w' := by
  have B0 := (Below.refl w.heap.size w).alloc (Nat.le_refl _) (.cells #[.int .i64 s, .int .i64 t, .int .i64 f, .int .i64 l, .int .i64 p] 23)
  have h0 : IntKind.i64.wrap (3 + th) = 3 + th := IntWalk.i64_in _ (by omega)
  go_enter Tryd.func28, Tryd.ntmps28
  go_wp2_with fail
  go_ret
  exact ⟨rfl, B0⟩
set_option maxRecDepth 100000 in
set_option maxHeartbeats 2000000 in
theorem artook_0 (s t f l p own oc ep th wd jr g : Int) (A : Option Addr) (n c : Nat) (w : World)  :
    Calls Tryd.prog 17 #[.agg #[.int .i64 s, .int .i64 t, .int .i64 f, .int .i64 l, .int .i64 p], .agg #[.int .i64 own, .int .i64 0, .int .i64 oc, .int .u64 ep, .int .i64 th, .int .u64 wd, .slice A n c, .int .i64 jr], .int .u64 g] w fun e w' => e = .returned (.agg #[.int .i64 own, .int .i64 0, .int .i64 oc, .int .u64 ep, .int .i64 th, .int .u64 wd, .slice A n c, .int .i64 jr]) ∧ Below w.heap.size w w' := by
  go_enter Tryd.func17, Tryd.ntmps17
  go_wp2_with fail
  refine bodyPost_ret (v := .agg #[.int .i64 own, .int .i64 0, .int .i64 oc, .int .u64 ep, .int .i64 th, .int .u64 wd, .slice A n c, .int .i64 jr]) (by simp [results, Tryd.results17, go_sem]) rfl ⟨rfl, ?_⟩
  repeat (first | exact Below.refl _ _ | exact B0 | (refine Below.setCell ?_ (by first | (show w.heap.size ≤ w.heap.size; omega) | (show w.heap.size ≤ w.heap.size + 1; omega) | (show w.heap.size ≤ w.heap.size + 2; omega) | (show w.heap.size ≤ _; simp)) _) | (refine Below.alloc ?_ (by first | exact Nat.le_refl _ | (simp <;> omega)) _))
set_option maxRecDepth 100000 in
set_option maxHeartbeats 2000000 in
theorem artook_1 (s t f l p own oc ep th wd jr g : Int) (A : Option Addr) (n c : Nat) (w : World)  :
    Calls Tryd.prog 17 #[.agg #[.int .i64 s, .int .i64 t, .int .i64 f, .int .i64 l, .int .i64 p], .agg #[.int .i64 own, .int .i64 1, .int .i64 oc, .int .u64 ep, .int .i64 th, .int .u64 wd, .slice A n c, .int .i64 jr], .int .u64 g] w fun e w' => e = .returned (.agg #[.int .i64 own, .int .i64 (aStep t (aThr own 0)), .int .i64 oc, .int .u64 g, .int .i64 (aThr own 0), .int .u64 wd, .slice A n c, .int .i64 (-1)]) ∧ Below w.heap.size w w' := by
  have C := hide (fun w2 => arnext_any s t f l p own oc g th wd (-1) 1 0 A n c w2 ⟨by omega, by omega⟩)
  generalize aStep t (aThr own 0) = k2 at *
  generalize aThr own 0 = q2 at *
  have bx := Blk.new w 23 #[.int .i64 s, .int .i64 t, .int .i64 f, .int .i64 l, .int .i64 p]
  have B0 := (Below.refl w.heap.size w).alloc (Nat.le_refl _) (.cells #[.int .i64 s, .int .i64 t, .int .i64 f, .int .i64 l, .int .i64 p] 23)
  have by_ := Blk.new (w.alloc (.cells #[.int .i64 s, .int .i64 t, .int .i64 f, .int .i64 l, .int .i64 p] 23)) 43 #[.int .i64 own, .int .i64 1, .int .i64 oc, .int .u64 g, .int .i64 th, .int .u64 wd, .slice A n c, .int .i64 (-1)]
  replace B0 := B0.alloc B0.size (.cells #[.int .i64 own, .int .i64 1, .int .i64 oc, .int .u64 g, .int .i64 th, .int .u64 wd, .slice A n c, .int .i64 (-1)] 43)
  replace bx := bx.alloc (.cells #[.int .i64 own, .int .i64 1, .int .i64 oc, .int .u64 g, .int .i64 th, .int .u64 wd, .slice A n c, .int .i64 (-1)] 43)
  have bo := Blk.new ((w.alloc (.cells #[.int .i64 s, .int .i64 t, .int .i64 f, .int .i64 l, .int .i64 p] 23)).alloc (.cells #[.int .i64 own, .int .i64 1, .int .i64 oc, .int .u64 g, .int .i64 th, .int .u64 wd, .slice A n c, .int .i64 (-1)] 43)) 43 #[.int .i64 0, .int .i64 0, .int .i64 0, .int .u64 0, .int .i64 0, .int .u64 0, .slice none 0 0, .int .i64 0]
  replace B0 := B0.alloc B0.size (.cells #[.int .i64 0, .int .i64 0, .int .i64 0, .int .u64 0, .int .i64 0, .int .u64 0, .slice none 0 0, .int .i64 0] 43)
  replace bx := bx.alloc (.cells #[.int .i64 0, .int .i64 0, .int .i64 0, .int .u64 0, .int .i64 0, .int .u64 0, .slice none 0 0, .int .i64 0] 43)
  replace by_ := by_.alloc (.cells #[.int .i64 0, .int .i64 0, .int .i64 0, .int .u64 0, .int .i64 0, .int .u64 0, .slice none 0 0, .int .i64 0] 43)
  rw [World.size_alloc] at by_ bo
  rw [World.size_alloc] at bo
  go_enter Tryd.func17, Tryd.ntmps17
  go_wp2_with fail
  refine (C.out _).mono ?_
  rintro e w1 ⟨rfl, hb1⟩
  try replace bx := bx.below hb1 bx.lt
  try replace bo := bo.below hb1 bo.lt
  try replace by_ := by_.below hb1 by_.lt
  replace B0 := B0.trans (hb1.mono B0.size)
  clear hb1
  try clear mx lx
  try clear mo lo zo
  try clear my ly zy
  try have mx := fun i => bx.cell i
  try have lx := bx.lt
  try have mo := fun i => bo.cell i
  try have lo := bo.lt
  try have zo := fun i => bo.frozen i
  try have my := fun i => by_.cell i
  try have ly := by_.lt
  try have zy := fun i => by_.frozen i
  go_wp2_with fail
  have b9 := bo.put8 (.int .i64 own) (.int .i64 k2) (.int .i64 oc) (.int .u64 g) (.int .i64 q2) (.int .u64 wd) (.slice A n c) (.int .i64 (-1))
  have B9 := below_put8 B0 (g := w.heap.size + 1 + 1) (by omega) (.int .i64 own) (.int .i64 k2) (.int .i64 oc) (.int .u64 g) (.int .i64 q2) (.int .u64 wd) (.slice A n c) (.int .i64 (-1))
  have m9 := fun i => b9.cell i
  refine bodyPost_ret (v := .agg #[.int .i64 own, .int .i64 k2, .int .i64 oc, .int .u64 g, .int .i64 q2, .int .u64 wd, .slice A n c, .int .i64 (-1)]) (by simp [results, Tryd.results17, go_sem, m9]) rfl ⟨rfl, by first | exact B9 | exact B9.drew⟩
set_option maxRecDepth 100000 in
set_option maxHeartbeats 2000000 in
theorem artook_2b (s t f l p own oc ep th wd jr g : Int) (A : Option Addr) (n c : Nat) (w : World) (hg : W64 g) (he : W64 ep) (hb : ablocks g ep = true) :
    Calls Tryd.prog 17 #[.agg #[.int .i64 s, .int .i64 t, .int .i64 f, .int .i64 l, .int .i64 p], .agg #[.int .i64 own, .int .i64 2, .int .i64 oc, .int .u64 ep, .int .i64 th, .int .u64 wd, .slice A n c, .int .i64 jr], .int .u64 g] w fun e w' => e = .returned (.agg #[.int .i64 own, .int .i64 3, .int .i64 oc, .int .u64 ep, .int .i64 th, .int .u64 g, .slice A n c, .int .i64 (-1)]) ∧ Below w.heap.size w w' := by
  have B := hide (fun w2 => rablocks_any g ep w2 hg he)
  rw [hb] at B
  clear hb
  go_enter Tryd.func17, Tryd.ntmps17
  go_wp2_with fail
  refine (B.out _).mono ?_
  rintro e w' ⟨rfl, rfl⟩
  go_wp2_with fail
  refine bodyPost_ret (v := .agg #[.int .i64 own, .int .i64 3, .int .i64 oc, .int .u64 ep, .int .i64 th, .int .u64 g, .slice A n c, .int .i64 (-1)]) (by simp [results, Tryd.results17, go_sem]) rfl ⟨rfl, ?_⟩
  repeat (first | exact Below.refl _ _ | exact B0 | (refine Below.setCell ?_ (by first | (show w.heap.size ≤ w.heap.size; omega) | (show w.heap.size ≤ w.heap.size + 1; omega) | (show w.heap.size ≤ w.heap.size + 2; omega) | (show w.heap.size ≤ _; simp)) _) | (refine Below.alloc ?_ (by first | exact Nat.le_refl _ | (simp <;> omega)) _))
set_option maxRecDepth 100000 in
set_option maxHeartbeats 2000000 in
theorem artook_2n (s t f l p own oc ep th wd jr g : Int) (A : Option Addr) (n c : Nat) (w : World) (hg : W64 g) (he : W64 ep) (hb : ablocks g ep = false) (ht : 0 ≤ th ∧ th < 64) :
    Calls Tryd.prog 17 #[.agg #[.int .i64 s, .int .i64 t, .int .i64 f, .int .i64 l, .int .i64 p], .agg #[.int .i64 own, .int .i64 2, .int .i64 oc, .int .u64 ep, .int .i64 th, .int .u64 wd, .slice A n c, .int .i64 jr], .int .u64 g] w fun e w' => e = .returned (.agg #[.int .i64 own, .int .i64 (aStep t (aThr own (th + 1))), .int .i64 oc, .int .u64 ep, .int .i64 (aThr own (th + 1)), .int .u64 g, .slice A n c, .int .i64 (-1)]) ∧ Below w.heap.size w w' := by
  have B := hide (fun w2 => rablocks_any g ep w2 hg he)
  rw [hb] at B
  clear hb
  have C := hide (fun w2 => arnext_any s t f l p own oc ep th g (-1) 2 (th + 1) A n c w2 ⟨by omega, by omega⟩)
  have h1 := ht.1
  have h2 := ht.2
  clear ht
  generalize aStep t (aThr own (th + 1)) = k2 at *
  generalize aThr own (th + 1) = q2 at *
  have bx := Blk.new w 23 #[.int .i64 s, .int .i64 t, .int .i64 f, .int .i64 l, .int .i64 p]
  have B0 := (Below.refl w.heap.size w).alloc (Nat.le_refl _) (.cells #[.int .i64 s, .int .i64 t, .int .i64 f, .int .i64 l, .int .i64 p] 23)
  have by_ := Blk.new (w.alloc (.cells #[.int .i64 s, .int .i64 t, .int .i64 f, .int .i64 l, .int .i64 p] 23)) 43 #[.int .i64 own, .int .i64 2, .int .i64 oc, .int .u64 ep, .int .i64 th, .int .u64 g, .slice A n c, .int .i64 (-1)]
  replace B0 := B0.alloc B0.size (.cells #[.int .i64 own, .int .i64 2, .int .i64 oc, .int .u64 ep, .int .i64 th, .int .u64 g, .slice A n c, .int .i64 (-1)] 43)
  replace bx := bx.alloc (.cells #[.int .i64 own, .int .i64 2, .int .i64 oc, .int .u64 ep, .int .i64 th, .int .u64 g, .slice A n c, .int .i64 (-1)] 43)
  have bo := Blk.new ((w.alloc (.cells #[.int .i64 s, .int .i64 t, .int .i64 f, .int .i64 l, .int .i64 p] 23)).alloc (.cells #[.int .i64 own, .int .i64 2, .int .i64 oc, .int .u64 ep, .int .i64 th, .int .u64 g, .slice A n c, .int .i64 (-1)] 43)) 43 #[.int .i64 0, .int .i64 0, .int .i64 0, .int .u64 0, .int .i64 0, .int .u64 0, .slice none 0 0, .int .i64 0]
  replace B0 := B0.alloc B0.size (.cells #[.int .i64 0, .int .i64 0, .int .i64 0, .int .u64 0, .int .i64 0, .int .u64 0, .slice none 0 0, .int .i64 0] 43)
  replace bx := bx.alloc (.cells #[.int .i64 0, .int .i64 0, .int .i64 0, .int .u64 0, .int .i64 0, .int .u64 0, .slice none 0 0, .int .i64 0] 43)
  replace by_ := by_.alloc (.cells #[.int .i64 0, .int .i64 0, .int .i64 0, .int .u64 0, .int .i64 0, .int .u64 0, .slice none 0 0, .int .i64 0] 43)
  rw [World.size_alloc] at by_ bo
  rw [World.size_alloc] at bo
  go_enter Tryd.func17, Tryd.ntmps17
  go_wp2_with fail
  refine (B.out _).mono ?_
  rintro e w' ⟨rfl, rfl⟩
  go_wp2_with fail
  refine (C.out _).mono ?_
  rintro e w2 ⟨rfl, hb1⟩
  try replace bx := bx.below hb1 bx.lt
  try replace bo := bo.below hb1 bo.lt
  try replace by_ := by_.below hb1 by_.lt
  replace B0 := B0.trans (hb1.mono B0.size)
  clear hb1
  try clear mx lx
  try clear mo lo zo
  try clear my ly zy
  try have mx := fun i => bx.cell i
  try have lx := bx.lt
  try have mo := fun i => bo.cell i
  try have lo := bo.lt
  try have zo := fun i => bo.frozen i
  try have my := fun i => by_.cell i
  try have ly := by_.lt
  try have zy := fun i => by_.frozen i
  go_wp2_with fail
  have b9 := bo.put8 (.int .i64 own) (.int .i64 k2) (.int .i64 oc) (.int .u64 ep) (.int .i64 q2) (.int .u64 g) (.slice A n c) (.int .i64 (-1))
  have B9 := below_put8 B0 (g := w.heap.size + 1 + 1) (by omega) (.int .i64 own) (.int .i64 k2) (.int .i64 oc) (.int .u64 ep) (.int .i64 q2) (.int .u64 g) (.slice A n c) (.int .i64 (-1))
  have m9 := fun i => b9.cell i
  refine bodyPost_ret (v := .agg #[.int .i64 own, .int .i64 k2, .int .i64 oc, .int .u64 ep, .int .i64 q2, .int .u64 g, .slice A n c, .int .i64 (-1)]) (by simp [results, Tryd.results17, go_sem, m9]) rfl ⟨rfl, by first | exact B9 | exact B9.drew⟩
set_option maxRecDepth 100000 in
set_option maxHeartbeats 2000000 in
theorem artook_3y (s t f l p own oc ep th wd jr g : Int) (A : Option Addr) (n c : Nat) (w : World) (hw : W64 wd) (hg : W64 g) (hp : I64 p) (hb : astall wd g p = true) :
    Calls Tryd.prog 17 #[.agg #[.int .i64 s, .int .i64 t, .int .i64 f, .int .i64 l, .int .i64 p], .agg #[.int .i64 own, .int .i64 3, .int .i64 oc, .int .u64 ep, .int .i64 th, .int .u64 wd, .slice A n c, .int .i64 jr], .int .u64 g] w fun e w' => e = .returned (.agg #[.int .i64 own, .int .i64 4, .int .i64 oc, .int .u64 ep, .int .i64 th, .int .u64 wd, .slice A n c, .int .i64 (-1)]) ∧ Below w.heap.size w w' := by
  have M := hide (fun w2 => rastall_any wd g p w2 hw hg hp)
  rw [hb] at M
  clear hb
  go_enter Tryd.func17, Tryd.ntmps17
  go_wp2_with fail
  refine (M.out _).mono ?_
  rintro e w' ⟨rfl, rfl⟩
  go_wp2_with fail
  refine bodyPost_ret (v := .agg #[.int .i64 own, .int .i64 4, .int .i64 oc, .int .u64 ep, .int .i64 th, .int .u64 wd, .slice A n c, .int .i64 (-1)]) (by simp [results, Tryd.results17, go_sem]) rfl ⟨rfl, ?_⟩
  repeat (first | exact Below.refl _ _ | exact B0 | (refine Below.setCell ?_ (by first | (show w.heap.size ≤ w.heap.size; omega) | (show w.heap.size ≤ w.heap.size + 1; omega) | (show w.heap.size ≤ w.heap.size + 2; omega) | (show w.heap.size ≤ _; simp)) _) | (refine Below.alloc ?_ (by first | exact Nat.le_refl _ | (simp <;> omega)) _))
set_option maxRecDepth 100000 in
set_option maxHeartbeats 2000000 in
theorem artook_3n (s t f l p own oc ep th wd jr g : Int) (A : Option Addr) (n c : Nat) (w : World) (hw : W64 wd) (hg : W64 g) (hp : I64 p) (hb : astall wd g p = false) :
    Calls Tryd.prog 17 #[.agg #[.int .i64 s, .int .i64 t, .int .i64 f, .int .i64 l, .int .i64 p], .agg #[.int .i64 own, .int .i64 3, .int .i64 oc, .int .u64 ep, .int .i64 th, .int .u64 wd, .slice A n c, .int .i64 jr], .int .u64 g] w fun e w' => e = .returned (.agg #[.int .i64 own, .int .i64 0, .int .i64 1, .int .u64 ep, .int .i64 th, .int .u64 wd, .slice A n c, .int .i64 (-1)]) ∧ Below w.heap.size w w' := by
  have M := hide (fun w2 => rastall_any wd g p w2 hw hg hp)
  rw [hb] at M
  clear hb
  go_enter Tryd.func17, Tryd.ntmps17
  go_wp2_with fail
  refine (M.out _).mono ?_
  rintro e w' ⟨rfl, rfl⟩
  go_wp2_with fail
  refine bodyPost_ret (v := .agg #[.int .i64 own, .int .i64 0, .int .i64 1, .int .u64 ep, .int .i64 th, .int .u64 wd, .slice A n c, .int .i64 (-1)]) (by simp [results, Tryd.results17, go_sem]) rfl ⟨rfl, ?_⟩
  repeat (first | exact Below.refl _ _ | exact B0 | (refine Below.setCell ?_ (by first | (show w.heap.size ≤ w.heap.size; omega) | (show w.heap.size ≤ w.heap.size + 1; omega) | (show w.heap.size ≤ w.heap.size + 2; omega) | (show w.heap.size ≤ _; simp)) _) | (refine Below.alloc ?_ (by first | exact Nat.le_refl _ | (simp <;> omega)) _))
set_option maxRecDepth 100000 in
set_option maxHeartbeats 2000000 in
theorem artook_4n (s t f l p own oc ep th wd jr g : Int) (A : Option Addr) (n c : Nat) (w : World) (hg : (g == 1) = false) :
    Calls Tryd.prog 17 #[.agg #[.int .i64 s, .int .i64 t, .int .i64 f, .int .i64 l, .int .i64 p], .agg #[.int .i64 own, .int .i64 4, .int .i64 oc, .int .u64 ep, .int .i64 th, .int .u64 wd, .slice A n c, .int .i64 jr], .int .u64 g] w fun e w' => e = .returned (.agg #[.int .i64 own, .int .i64 2, .int .i64 oc, .int .u64 ep, .int .i64 th, .int .u64 wd, .slice A n c, .int .i64 (-1)]) ∧ Below w.heap.size w w' := by
  go_enter Tryd.func17, Tryd.ntmps17
  go_wp2_with fail
  refine bodyPost_ret (v := .agg #[.int .i64 own, .int .i64 2, .int .i64 oc, .int .u64 ep, .int .i64 th, .int .u64 wd, .slice A n c, .int .i64 (-1)]) (by simp [results, Tryd.results17, go_sem]) rfl ⟨rfl, ?_⟩
  repeat (first | exact Below.refl _ _ | exact B0 | (refine Below.setCell ?_ (by first | (show w.heap.size ≤ w.heap.size; omega) | (show w.heap.size ≤ w.heap.size + 1; omega) | (show w.heap.size ≤ w.heap.size + 2; omega) | (show w.heap.size ≤ _; simp)) _) | (refine Below.alloc ?_ (by first | exact Nat.le_refl _ | (simp <;> omega)) _))
set_option maxRecDepth 100000 in
set_option maxHeartbeats 2000000 in
theorem artook_5y (s t f l p own oc ep th wd jr : Int) (A : Option Addr) (n c : Nat) (w : World)  :
    Calls Tryd.prog 17 #[.agg #[.int .i64 s, .int .i64 t, .int .i64 f, .int .i64 l, .int .i64 p], .agg #[.int .i64 own, .int .i64 5, .int .i64 oc, .int .u64 ep, .int .i64 th, .int .u64 wd, .slice A n c, .int .i64 jr], .int .u64 1] w fun e w' => e = .returned (.agg #[.int .i64 own, .int .i64 0, .int .i64 3, .int .u64 ep, .int .i64 th, .int .u64 wd, .slice A n c, .int .i64 (-1)]) ∧ Below w.heap.size w w' := by
  go_enter Tryd.func17, Tryd.ntmps17
  go_wp2_with fail
  refine bodyPost_ret (v := .agg #[.int .i64 own, .int .i64 0, .int .i64 3, .int .u64 ep, .int .i64 th, .int .u64 wd, .slice A n c, .int .i64 (-1)]) (by simp [results, Tryd.results17, go_sem]) rfl ⟨rfl, ?_⟩
  repeat (first | exact Below.refl _ _ | exact B0 | (refine Below.setCell ?_ (by first | (show w.heap.size ≤ w.heap.size; omega) | (show w.heap.size ≤ w.heap.size + 1; omega) | (show w.heap.size ≤ w.heap.size + 2; omega) | (show w.heap.size ≤ _; simp)) _) | (refine Below.alloc ?_ (by first | exact Nat.le_refl _ | (simp <;> omega)) _))
set_option maxRecDepth 100000 in
set_option maxHeartbeats 2000000 in
theorem artook_5n (s t f l p own oc ep th wd jr g : Int) (A : Option Addr) (n c : Nat) (w : World) (hg : (g == 1) = false) :
    Calls Tryd.prog 17 #[.agg #[.int .i64 s, .int .i64 t, .int .i64 f, .int .i64 l, .int .i64 p], .agg #[.int .i64 own, .int .i64 5, .int .i64 oc, .int .u64 ep, .int .i64 th, .int .u64 wd, .slice A n c, .int .i64 jr], .int .u64 g] w fun e w' => e = .returned (.agg #[.int .i64 own, .int .i64 0, .int .i64 2, .int .u64 ep, .int .i64 th, .int .u64 wd, .slice A n c, .int .i64 (-1)]) ∧ Below w.heap.size w w' := by
  go_enter Tryd.func17, Tryd.ntmps17
  go_wp2_with fail
  refine bodyPost_ret (v := .agg #[.int .i64 own, .int .i64 0, .int .i64 2, .int .u64 ep, .int .i64 th, .int .u64 wd, .slice A n c, .int .i64 (-1)]) (by simp [results, Tryd.results17, go_sem]) rfl ⟨rfl, ?_⟩
  repeat (first | exact Below.refl _ _ | exact B0 | (refine Below.setCell ?_ (by first | (show w.heap.size ≤ w.heap.size; omega) | (show w.heap.size ≤ w.heap.size + 1; omega) | (show w.heap.size ≤ w.heap.size + 2; omega) | (show w.heap.size ≤ _; simp)) _) | (refine Below.alloc ?_ (by first | exact Nat.le_refl _ | (simp <;> omega)) _))
set_option maxRecDepth 100000 in
set_option maxHeartbeats 2000000 in
theorem arwant_0 (s t f l p own oc ep th wd jr : Int) (A : Option Addr) (n c : Nat) (w : World)  :
    Calls Tryd.prog 13 #[.agg #[.int .i64 s, .int .i64 t, .int .i64 f, .int .i64 l, .int .i64 p], .agg #[.int .i64 own, .int .i64 0, .int .i64 oc, .int .u64 ep, .int .i64 th, .int .u64 wd, .slice A n c, .int .i64 jr]] w fun e w' => e = .returned (.agg #[.int .i64 0, .int .i64 0, .int .u64 0, .int .u64 0]) ∧ Below w.heap.size w w' := by
  go_enter Tryd.func13, Tryd.ntmps13
  go_wp2_with fail
  refine bodyPost_ret (v := .agg #[.int .i64 0, .int .i64 0, .int .u64 0, .int .u64 0]) (by simp [results, Tryd.results13, go_sem]) rfl ⟨rfl, ?_⟩
  repeat (first | exact Below.refl _ _ | exact B0 | (refine Below.setCell ?_ (by first | (show w.heap.size ≤ w.heap.size; omega) | (show w.heap.size ≤ w.heap.size + 1; omega) | (show w.heap.size ≤ w.heap.size + 2; omega) | (show w.heap.size ≤ _; simp)) _) | (refine Below.alloc ?_ (by first | exact Nat.le_refl _ | (simp <;> omega)) _))
set_option maxRecDepth 100000 in
set_option maxHeartbeats 2000000 in
theorem arwant_1 (s t f l p own oc ep th wd jr : Int) (A : Option Addr) (n c : Nat) (w : World)  :
    Calls Tryd.prog 13 #[.agg #[.int .i64 s, .int .i64 t, .int .i64 f, .int .i64 l, .int .i64 p], .agg #[.int .i64 own, .int .i64 1, .int .i64 oc, .int .u64 ep, .int .i64 th, .int .u64 wd, .slice A n c, .int .i64 jr]] w fun e w' => e = .returned (.agg #[.int .i64 1, .int .i64 0, .int .u64 0, .int .u64 0]) ∧ Below w.heap.size w w' := by
  go_enter Tryd.func13, Tryd.ntmps13
  go_wp2_with fail
  refine bodyPost_ret (v := .agg #[.int .i64 1, .int .i64 0, .int .u64 0, .int .u64 0]) (by simp [results, Tryd.results13, go_sem]) rfl ⟨rfl, ?_⟩
  repeat (first | exact Below.refl _ _ | exact B0 | (refine Below.setCell ?_ (by first | (show w.heap.size ≤ w.heap.size; omega) | (show w.heap.size ≤ w.heap.size + 1; omega) | (show w.heap.size ≤ w.heap.size + 2; omega) | (show w.heap.size ≤ _; simp)) _) | (refine Below.alloc ?_ (by first | exact Nat.le_refl _ | (simp <;> omega)) _))
set_option maxRecDepth 100000 in
set_option maxHeartbeats 2000000 in
theorem arwant_3 (s t f l p own oc ep th wd jr : Int) (A : Option Addr) (n c : Nat) (w : World)  :
    Calls Tryd.prog 13 #[.agg #[.int .i64 s, .int .i64 t, .int .i64 f, .int .i64 l, .int .i64 p], .agg #[.int .i64 own, .int .i64 3, .int .i64 oc, .int .u64 ep, .int .i64 th, .int .u64 wd, .slice A n c, .int .i64 jr]] w fun e w' => e = .returned (.agg #[.int .i64 1, .int .i64 1, .int .u64 0, .int .u64 0]) ∧ Below w.heap.size w w' := by
  go_enter Tryd.func13, Tryd.ntmps13
  go_wp2_with fail
  refine bodyPost_ret (v := .agg #[.int .i64 1, .int .i64 1, .int .u64 0, .int .u64 0]) (by simp [results, Tryd.results13, go_sem]) rfl ⟨rfl, ?_⟩
  repeat (first | exact Below.refl _ _ | exact B0 | (refine Below.setCell ?_ (by first | (show w.heap.size ≤ w.heap.size; omega) | (show w.heap.size ≤ w.heap.size + 1; omega) | (show w.heap.size ≤ w.heap.size + 2; omega) | (show w.heap.size ≤ _; simp)) _) | (refine Below.alloc ?_ (by first | exact Nat.le_refl _ | (simp <;> omega)) _))
set_option maxRecDepth 100000 in
set_option maxHeartbeats 2000000 in
theorem arwant_5 (s t f l p own oc ep th wd jr : Int) (A : Option Addr) (n c : Nat) (w : World) (he : W64 ep) :
    Calls Tryd.prog 13 #[.agg #[.int .i64 s, .int .i64 t, .int .i64 f, .int .i64 l, .int .i64 p], .agg #[.int .i64 own, .int .i64 5, .int .i64 oc, .int .u64 ep, .int .i64 th, .int .u64 wd, .slice A n c, .int .i64 jr]] w fun e w' => e = .returned (.agg #[.int .i64 3, .int .i64 0, .int .u64 ep, .int .u64 ((ep + 1) % 18446744073709551616)]) ∧ Below w.heap.size w w' := by
  have hE : IntKind.u64.wrap (ep + 1) = (ep + 1) % 18446744073709551616 := by simp [IntKind.wrap, IntKind.bits, IntKind.signed]
  generalize (ep + 1) % 18446744073709551616 = e1 at *
  obtain ⟨e0, e9⟩ := he
  go_enter Tryd.func13, Tryd.ntmps13
  go_wp2_with fail
  refine bodyPost_ret (v := .agg #[.int .i64 3, .int .i64 0, .int .u64 ep, .int .u64 e1]) (by simp [results, Tryd.results13, go_sem]) rfl ⟨rfl, ?_⟩
  repeat (first | exact Below.refl _ _ | exact B0 | (refine Below.setCell ?_ (by first | (show w.heap.size ≤ w.heap.size; omega) | (show w.heap.size ≤ w.heap.size + 1; omega) | (show w.heap.size ≤ w.heap.size + 2; omega) | (show w.heap.size ≤ _; simp)) _) | (refine Below.alloc ?_ (by first | exact Nat.le_refl _ | (simp <;> omega)) _))
set_option maxRecDepth 100000 in
set_option maxHeartbeats 2000000 in
theorem arwant_2 (s t f l p own oc ep th wd jr : Int) (A : Option Addr) (n c : Nat) (w : World) (hth : 0 ≤ th ∧ th ≤ 1000) :
    Calls Tryd.prog 13 #[.agg #[.int .i64 s, .int .i64 t, .int .i64 f, .int .i64 l, .int .i64 p], .agg #[.int .i64 own, .int .i64 2, .int .i64 oc, .int .u64 ep, .int .i64 th, .int .u64 wd, .slice A n c, .int .i64 jr]] w fun e w' => e = .returned (.agg #[.int .i64 1, .int .i64 (3 + th), .int .u64 0, .int .u64 0]) ∧ Below w.heap.size w w' := by
  have C := hide (fun w2 => rann_any s t f l p th w2 hth)
  generalize 3 + th = q at *
  have bx := Blk.new w 23 #[.int .i64 s, .int .i64 t, .int .i64 f, .int .i64 l, .int .i64 p]
  have B0 := (Below.refl w.heap.size w).alloc (Nat.le_refl _) (.cells #[.int .i64 s, .int .i64 t, .int .i64 f, .int .i64 l, .int .i64 p] 23)
  have by_ := Blk.new (w.alloc (.cells #[.int .i64 s, .int .i64 t, .int .i64 f, .int .i64 l, .int .i64 p] 23)) 43 #[.int .i64 own, .int .i64 2, .int .i64 oc, .int .u64 ep, .int .i64 th, .int .u64 wd, .slice A n c, .int .i64 jr]
  replace B0 := B0.alloc B0.size (.cells #[.int .i64 own, .int .i64 2, .int .i64 oc, .int .u64 ep, .int .i64 th, .int .u64 wd, .slice A n c, .int .i64 jr] 43)
  replace bx := bx.alloc (.cells #[.int .i64 own, .int .i64 2, .int .i64 oc, .int .u64 ep, .int .i64 th, .int .u64 wd, .slice A n c, .int .i64 jr] 43)
  have bo := Blk.new ((w.alloc (.cells #[.int .i64 s, .int .i64 t, .int .i64 f, .int .i64 l, .int .i64 p] 23)).alloc (.cells #[.int .i64 own, .int .i64 2, .int .i64 oc, .int .u64 ep, .int .i64 th, .int .u64 wd, .slice A n c, .int .i64 jr] 43)) 37 #[.int .i64 0, .int .i64 0, .int .u64 0, .int .u64 0]
  replace B0 := B0.alloc B0.size (.cells #[.int .i64 0, .int .i64 0, .int .u64 0, .int .u64 0] 37)
  replace bx := bx.alloc (.cells #[.int .i64 0, .int .i64 0, .int .u64 0, .int .u64 0] 37)
  replace by_ := by_.alloc (.cells #[.int .i64 0, .int .i64 0, .int .u64 0, .int .u64 0] 37)
  rw [World.size_alloc] at by_ bo
  rw [World.size_alloc] at bo
  go_enter Tryd.func13, Tryd.ntmps13
  go_wp2_with fail
  refine (C.out _).mono ?_
  rintro e w1 ⟨rfl, hb1⟩
  try replace bx := bx.below hb1 bx.lt
  try replace bo := bo.below hb1 bo.lt
  try replace by_ := by_.below hb1 by_.lt
  replace B0 := B0.trans (hb1.mono B0.size)
  clear hb1
  try clear mx lx
  try clear mo lo zo
  try clear my ly zy
  try have mx := fun i => bx.cell i
  try have lx := bx.lt
  try have mo := fun i => bo.cell i
  try have lo := bo.lt
  try have zo := fun i => bo.frozen i
  try have my := fun i => by_.cell i
  try have ly := by_.lt
  try have zy := fun i => by_.frozen i
  go_wp2_with fail
  have b9 := bo.put4 (.int .i64 1) (.int .i64 q) (.int .u64 0) (.int .u64 0)
  have B9 := below_put4 B0 (g := w.heap.size + 1 + 1) (by omega) (.int .i64 1) (.int .i64 q) (.int .u64 0) (.int .u64 0)
  have m9 := fun i => b9.cell i
  refine bodyPost_ret (v := .agg #[.int .i64 1, .int .i64 q, .int .u64 0, .int .u64 0]) (by simp [results, Tryd.results13, go_sem, m9]) rfl ⟨rfl, by first | exact B9 | exact B9.drew⟩
set_option maxHeartbeats 2000000 in
theorem arwant_4 (s t f l p own oc ep th wd jr : Int) (A : Option Addr) (n c : Nat) (w : World) (hth : 0 ≤ th ∧ th ≤ 1000) (hw : W64 wd) :
    Calls Tryd.prog 13 #[.agg #[.int .i64 s, .int .i64 t, .int .i64 f, .int .i64 l, .int .i64 p], .agg #[.int .i64 own, .int .i64 4, .int .i64 oc, .int .u64 ep, .int .i64 th, .int .u64 wd, .slice A n c, .int .i64 jr]] w fun e w' => e = .returned (.agg #[.int .i64 3, .int .i64 (3 + th), .int .u64 wd, .int .u64 (wd - wd % 4 + 2)]) ∧ Below w.heap.size w w' := by
  have C := hide (fun w2 => rann_any s t f l p th w2 hth)
  have M := hide (fun w2 => raevict_any wd w2 hw)
  generalize 3 + th = q at *
  generalize wd - wd % 4 + 2 = y at *
  have bx := Blk.new w 23 #[.int .i64 s, .int .i64 t, .int .i64 f, .int .i64 l, .int .i64 p]
  have B0 := (Below.refl w.heap.size w).alloc (Nat.le_refl _) (.cells #[.int .i64 s, .int .i64 t, .int .i64 f, .int .i64 l, .int .i64 p] 23)
  have by_ := Blk.new (w.alloc (.cells #[.int .i64 s, .int .i64 t, .int .i64 f, .int .i64 l, .int .i64 p] 23)) 43 #[.int .i64 own, .int .i64 4, .int .i64 oc, .int .u64 ep, .int .i64 th, .int .u64 wd, .slice A n c, .int .i64 jr]
  replace B0 := B0.alloc B0.size (.cells #[.int .i64 own, .int .i64 4, .int .i64 oc, .int .u64 ep, .int .i64 th, .int .u64 wd, .slice A n c, .int .i64 jr] 43)
  replace bx := bx.alloc (.cells #[.int .i64 own, .int .i64 4, .int .i64 oc, .int .u64 ep, .int .i64 th, .int .u64 wd, .slice A n c, .int .i64 jr] 43)
  have bo := Blk.new ((w.alloc (.cells #[.int .i64 s, .int .i64 t, .int .i64 f, .int .i64 l, .int .i64 p] 23)).alloc (.cells #[.int .i64 own, .int .i64 4, .int .i64 oc, .int .u64 ep, .int .i64 th, .int .u64 wd, .slice A n c, .int .i64 jr] 43)) 37 #[.int .i64 0, .int .i64 0, .int .u64 0, .int .u64 0]
  replace B0 := B0.alloc B0.size (.cells #[.int .i64 0, .int .i64 0, .int .u64 0, .int .u64 0] 37)
  replace bx := bx.alloc (.cells #[.int .i64 0, .int .i64 0, .int .u64 0, .int .u64 0] 37)
  replace by_ := by_.alloc (.cells #[.int .i64 0, .int .i64 0, .int .u64 0, .int .u64 0] 37)
  rw [World.size_alloc] at by_ bo
  rw [World.size_alloc] at bo
  go_enter Tryd.func13, Tryd.ntmps13
  go_wp2_with fail
  generalize ((w.alloc (.cells #[.int .i64 s, .int .i64 t, .int .i64 f, .int .i64 l, .int .i64 p] 23)).alloc (.cells #[.int .i64 own, .int .i64 4, .int .i64 oc, .int .u64 ep, .int .i64 th, .int .u64 wd, .slice A n c, .int .i64 jr] 43)).alloc (.cells #[.int .i64 0, .int .i64 0, .int .u64 0, .int .u64 0] 37) = w0 at *
  have n1 : w.heap.size + 1 ≠ w.heap.size + 1 + 1 := by omega
  have n2 : w.heap.size ≠ w.heap.size + 1 + 1 := by omega
  have n3 : w.heap.size ≤ w.heap.size + 1 + 1 := by omega
  generalize w.heap.size + 1 + 1 = go at *
  have bd := bx.drewN 1
  have ed := by_.drewN 1
  have od := bo.drewN 1
  have Bd := below_drewN B0 1
  try clear mx lx
  try clear mo lo zo
  try clear my ly zy
  try have mx := fun i => bx.cell i
  try have lx := bx.lt
  try have mo := fun i => bo.cell i
  try have lo := bo.lt
  try have zo := fun i => bo.frozen i
  try have my := fun i => by_.cell i
  try have ly := by_.lt
  try have zy := fun i => by_.frozen i
  go_region_held3 (fun w' => w'.cell? ⟨w.heap.size, 0, none⟩ = some (.int .i64 s) ∧ w'.cell? ⟨w.heap.size, 1, none⟩ = some (.int .i64 t) ∧ w'.cell? ⟨w.heap.size, 2, none⟩ = some (.int .i64 f) ∧ w'.cell? ⟨w.heap.size, 3, none⟩ = some (.int .i64 l) ∧ w'.cell? ⟨w.heap.size, 4, none⟩ = some (.int .i64 p) ∧ w'.cell? ⟨w.heap.size + 1, 0, none⟩ = some (.int .i64 own) ∧ w'.cell? ⟨w.heap.size + 1, 1, none⟩ = some (.int .i64 4) ∧ w'.cell? ⟨w.heap.size + 1, 2, none⟩ = some (.int .i64 oc) ∧ w'.cell? ⟨w.heap.size + 1, 3, none⟩ = some (.int .u64 ep) ∧ w'.cell? ⟨w.heap.size + 1, 4, none⟩ = some (.int .i64 th) ∧ w'.cell? ⟨w.heap.size + 1, 5, none⟩ = some (.int .u64 wd) ∧ w'.cell? ⟨w.heap.size + 1, 6, none⟩ = some (.slice A n c) ∧ w'.cell? ⟨w.heap.size + 1, 7, none⟩ = some (.int .i64 jr)) (first | go_keep | exact ⟨(bd.off4 n2 _ _ _ _).cell 0, (bd.off4 n2 _ _ _ _).cell 1, (bd.off4 n2 _ _ _ _).cell 2, (bd.off4 n2 _ _ _ _).cell 3, (bd.off4 n2 _ _ _ _).cell 4, (ed.off4 n1 _ _ _ _).cell 0, (ed.off4 n1 _ _ _ _).cell 1, (ed.off4 n1 _ _ _ _).cell 2, (ed.off4 n1 _ _ _ _).cell 3, (ed.off4 n1 _ _ _ _).cell 4, (ed.off4 n1 _ _ _ _).cell 5, (ed.off4 n1 _ _ _ _).cell 6, (ed.off4 n1 _ _ _ _).cell 7⟩) ((first | (go_at_call 28; refine (C.out _).mono ?_; rintro e w1 ⟨rfl, hb1⟩; have bd := bd.below hb1 bd.lt; have ed := ed.below hb1 ed.lt; have od := od.below hb1 od.lt; have Bd := Bd.trans (hb1.mono Bd.size); have md := fun i => bd.cell i; have pd := fun i => ed.cell i; have nd := fun i => od.cell i; have zd := fun i => od.frozen i; have ld := bd.lt; have ke := ed.lt; have kd := od.lt) | (go_at_call 29; refine (M.out _).mono ?_; rintro e w' ⟨rfl, rfl⟩)))
  all_goals
    go_wp2_with fail
    have b9 := od.put4 (.int .i64 3) (.int .i64 q) (.int .u64 wd) (.int .u64 y)
    have B9 := below_put4 Bd (g := go) n3 (.int .i64 3) (.int .i64 q) (.int .u64 wd) (.int .u64 y)
    have m9 := fun i => b9.cell i
    refine bodyPost_ret (v := .agg #[.int .i64 3, .int .i64 q, .int .u64 wd, .int .u64 y]) (by simp [results, Tryd.results13, go_sem, m9]) rfl ⟨rfl, B9⟩
set_option maxHeartbeats 1000000 in
theorem has_wrong (s t f l p th : Int) (w : World) (hc : cfgOk s t f l p = false) :
    Calls Tryd.prog 27 #[.agg #[.int .i64 s, .int .i64 t, .int .i64 f, .int .i64 l, .int .i64 p], .int .i64 th] w fun e w' => e = .returned (.bool false) ∧ Below w.heap.size w w' := by
  have C := hide (fun w2 => wrong_any s t f l p w2)
  have hw : 0 ≤ wrg s t f l p := by
    have := wrg_ok (s := s) (t := t) (f := f) (l := l) (p := p)
    rw [hc] at this
    have h2 : ¬ wrg s t f l p < 0 := by simpa using this.symm
    omega
  clear hc
  generalize wrg s t f l p = r at *
  have bx := Blk.new w 23 #[.int .i64 s, .int .i64 t, .int .i64 f, .int .i64 l, .int .i64 p]
  have B0 := (Below.refl w.heap.size w).alloc (Nat.le_refl _) (.cells #[.int .i64 s, .int .i64 t, .int .i64 f, .int .i64 l, .int .i64 p] 23)
  go_enter Tryd.func27, Tryd.ntmps27
  go_wp2_with fail
  refine (C.out _).mono ?_
  rintro e w1 ⟨rfl, hb1⟩
  try replace bx := bx.below hb1 bx.lt
  try replace bo := bo.below hb1 bo.lt
  try replace by_ := by_.below hb1 by_.lt
  replace B0 := B0.trans (hb1.mono B0.size)
  clear hb1
  try clear mx lx
  try clear mo lo zo
  try clear my ly zy
  try have mx := fun i => bx.cell i
  try have lx := bx.lt
  try have mo := fun i => bo.cell i
  try have lo := bo.lt
  try have zo := fun i => bo.frozen i
  try have my := fun i => by_.cell i
  try have ly := by_.lt
  try have zy := fun i => by_.frozen i
  go_wp2_with fail
  go_ret
  exact ⟨rfl, B0⟩
set_option maxHeartbeats 1000000 in
theorem has_lo (s t f l p th : Int) (w : World) (hc : cfgOk s t f l p = true) (h0 : th < 0) :
    Calls Tryd.prog 27 #[.agg #[.int .i64 s, .int .i64 t, .int .i64 f, .int .i64 l, .int .i64 p], .int .i64 th] w fun e w' => e = .returned (.bool false) ∧ Below w.heap.size w w' := by
  have C := hide (fun w2 => wrong_any s t f l p w2)
  have hw : wrg s t f l p < 0 := by
    have := wrg_ok (s := s) (t := t) (f := f) (l := l) (p := p)
    rw [hc] at this
    simpa using this.symm
  clear hc
  generalize wrg s t f l p = r at *
  have bx := Blk.new w 23 #[.int .i64 s, .int .i64 t, .int .i64 f, .int .i64 l, .int .i64 p]
  have B0 := (Below.refl w.heap.size w).alloc (Nat.le_refl _) (.cells #[.int .i64 s, .int .i64 t, .int .i64 f, .int .i64 l, .int .i64 p] 23)
  go_enter Tryd.func27, Tryd.ntmps27
  go_wp2_with fail
  refine (C.out _).mono ?_
  rintro e w1 ⟨rfl, hb1⟩
  try replace bx := bx.below hb1 bx.lt
  try replace bo := bo.below hb1 bo.lt
  try replace by_ := by_.below hb1 by_.lt
  replace B0 := B0.trans (hb1.mono B0.size)
  clear hb1
  try clear mx lx
  try clear mo lo zo
  try clear my ly zy
  try have mx := fun i => bx.cell i
  try have lx := bx.lt
  try have mo := fun i => bo.cell i
  try have lo := bo.lt
  try have zo := fun i => bo.frozen i
  try have my := fun i => by_.cell i
  try have ly := by_.lt
  try have zy := fun i => by_.frozen i
  go_wp2_with fail
  go_ret
  exact ⟨rfl, B0⟩
set_option maxHeartbeats 1000000 in
theorem has_hi (s t f l p th : Int) (w : World) (hc : cfgOk s t f l p = true) (h0 : 0 ≤ th) (h1 : t ≤ th) :
    Calls Tryd.prog 27 #[.agg #[.int .i64 s, .int .i64 t, .int .i64 f, .int .i64 l, .int .i64 p], .int .i64 th] w fun e w' => e = .returned (.bool false) ∧ Below w.heap.size w w' := by
  have C := hide (fun w2 => wrong_any s t f l p w2)
  have hw : wrg s t f l p < 0 := by
    have := wrg_ok (s := s) (t := t) (f := f) (l := l) (p := p)
    rw [hc] at this
    simpa using this.symm
  clear hc
  have h2 : ¬ th < t := by omega
  clear h1
  generalize wrg s t f l p = r at *
  have bx := Blk.new w 23 #[.int .i64 s, .int .i64 t, .int .i64 f, .int .i64 l, .int .i64 p]
  have B0 := (Below.refl w.heap.size w).alloc (Nat.le_refl _) (.cells #[.int .i64 s, .int .i64 t, .int .i64 f, .int .i64 l, .int .i64 p] 23)
  go_enter Tryd.func27, Tryd.ntmps27
  go_wp2_with fail
  refine (C.out _).mono ?_
  rintro e w1 ⟨rfl, hb1⟩
  try replace bx := bx.below hb1 bx.lt
  try replace bo := bo.below hb1 bo.lt
  try replace by_ := by_.below hb1 by_.lt
  replace B0 := B0.trans (hb1.mono B0.size)
  clear hb1
  try clear mx lx
  try clear mo lo zo
  try clear my ly zy
  try have mx := fun i => bx.cell i
  try have lx := bx.lt
  try have mo := fun i => bo.cell i
  try have lo := bo.lt
  try have zo := fun i => bo.frozen i
  try have my := fun i => by_.cell i
  try have ly := by_.lt
  try have zy := fun i => by_.frozen i
  go_wp2_with fail
  go_ret
  exact ⟨by simp [h2], B0⟩
set_option maxHeartbeats 1000000 in
theorem has_yes (s t f l p th : Int) (w : World) (hc : cfgOk s t f l p = true) (h0 : 0 ≤ th) (h1 : th < t) :
    Calls Tryd.prog 27 #[.agg #[.int .i64 s, .int .i64 t, .int .i64 f, .int .i64 l, .int .i64 p], .int .i64 th] w fun e w' => e = .returned (.bool true) ∧ Below w.heap.size w w' := by
  have C := hide (fun w2 => wrong_any s t f l p w2)
  have hw : wrg s t f l p < 0 := by
    have := wrg_ok (s := s) (t := t) (f := f) (l := l) (p := p)
    rw [hc] at this
    simpa using this.symm
  clear hc
  generalize wrg s t f l p = r at *
  have bx := Blk.new w 23 #[.int .i64 s, .int .i64 t, .int .i64 f, .int .i64 l, .int .i64 p]
  have B0 := (Below.refl w.heap.size w).alloc (Nat.le_refl _) (.cells #[.int .i64 s, .int .i64 t, .int .i64 f, .int .i64 l, .int .i64 p] 23)
  go_enter Tryd.func27, Tryd.ntmps27
  go_wp2_with fail
  refine (C.out _).mono ?_
  rintro e w1 ⟨rfl, hb1⟩
  try replace bx := bx.below hb1 bx.lt
  try replace bo := bo.below hb1 bo.lt
  try replace by_ := by_.below hb1 by_.lt
  replace B0 := B0.trans (hb1.mono B0.size)
  clear hb1
  try clear mx lx
  try clear mo lo zo
  try clear my ly zy
  try have mx := fun i => bx.cell i
  try have lx := bx.lt
  try have mo := fun i => bo.cell i
  try have lo := bo.lt
  try have zo := fun i => bo.frozen i
  try have my := fun i => by_.cell i
  try have ly := by_.lt
  try have zy := fun i => by_.frozen i
  go_wp2_with fail
  go_ret
  exact ⟨rfl, B0⟩
set_option maxHeartbeats 1000000 in
theorem arnew_yes (s t f l p own : Int) (w : World) (hc : cfgOk s t f l p = true) (hth : 0 ≤ own ∧ own < t) :
    Calls Tryd.prog 12 #[.agg #[.int .i64 s, .int .i64 t, .int .i64 f, .int .i64 l, .int .i64 p], .int .i64 own] w fun e w' => e = .returned (.agg #[.int .i64 own, .int .i64 1, .int .i64 0, .int .u64 0, .int .i64 0, .int .u64 0, .slice none 0 0, .int .i64 (-1)]) ∧ Below w.heap.size w w' := by
  have C := hide (fun w2 => has_yes s t f l p own w2 hc hth.1 hth.2)
  clear hc hth
  have bx := Blk.new w 23 #[.int .i64 s, .int .i64 t, .int .i64 f, .int .i64 l, .int .i64 p]
  have B0 := (Below.refl w.heap.size w).alloc (Nat.le_refl _) (.cells #[.int .i64 s, .int .i64 t, .int .i64 f, .int .i64 l, .int .i64 p] 23)
  have bo := Blk.new (w.alloc (.cells #[.int .i64 s, .int .i64 t, .int .i64 f, .int .i64 l, .int .i64 p] 23)) 43 #[.int .i64 0, .int .i64 0, .int .i64 0, .int .u64 0, .int .i64 0, .int .u64 0, .slice none 0 0, .int .i64 0]
  replace B0 := B0.alloc B0.size (.cells #[.int .i64 0, .int .i64 0, .int .i64 0, .int .u64 0, .int .i64 0, .int .u64 0, .slice none 0 0, .int .i64 0] 43)
  replace bx := bx.alloc (.cells #[.int .i64 0, .int .i64 0, .int .i64 0, .int .u64 0, .int .i64 0, .int .u64 0, .slice none 0 0, .int .i64 0] 43)
  rw [World.size_alloc] at bo
  go_enter Tryd.func12, Tryd.ntmps12
  go_wp2_with fail
  refine (C.out _).mono ?_
  rintro e w1 ⟨rfl, hb1⟩
  try replace bx := bx.below hb1 bx.lt
  try replace bo := bo.below hb1 bo.lt
  try replace by_ := by_.below hb1 by_.lt
  replace B0 := B0.trans (hb1.mono B0.size)
  clear hb1
  try clear mx lx
  try clear mo lo zo
  try clear my ly zy
  try have mx := fun i => bx.cell i
  try have lx := bx.lt
  try have mo := fun i => bo.cell i
  try have lo := bo.lt
  try have zo := fun i => bo.frozen i
  try have my := fun i => by_.cell i
  try have ly := by_.lt
  try have zy := fun i => by_.frozen i
  go_wp2_with fail
  have b9 := bo.put8 (.int .i64 own) (.int .i64 1) (.int .i64 0) (.int .u64 0) (.int .i64 0) (.int .u64 0) (.slice none 0 0) (.int .i64 (-1))
  have B9 := below_put8 B0 (g := w.heap.size + 1) (by omega) (.int .i64 own) (.int .i64 1) (.int .i64 0) (.int .u64 0) (.int .i64 0) (.int .u64 0) (.slice none 0 0) (.int .i64 (-1))
  have m9 := fun i => b9.cell i
  refine bodyPost_ret (v := .agg #[.int .i64 own, .int .i64 1, .int .i64 0, .int .u64 0, .int .i64 0, .int .u64 0, .slice none 0 0, .int .i64 (-1)]) (by simp [results, Tryd.results12, go_sem, m9]) rfl ⟨rfl, by first | exact B9 | exact B9.drew⟩
set_option maxHeartbeats 1000000 in
theorem arnew_no (s t f l p own : Int) (w : World) (h : cfgOk s t f l p = false ∨ own < 0 ∨ t ≤ own) :
    Calls Tryd.prog 12 #[.agg #[.int .i64 s, .int .i64 t, .int .i64 f, .int .i64 l, .int .i64 p], .int .i64 own] w fun e w' => e = .returned (.agg #[.int .i64 0, .int .i64 0, .int .i64 1, .int .u64 0, .int .i64 0, .int .u64 0, .slice none 0 0, .int .i64 (-1)]) ∧ Below w.heap.size w w' := by
  have HASNO : ∀ w2, Calls Tryd.prog 27 #[.agg #[.int .i64 s, .int .i64 t, .int .i64 f, .int .i64 l, .int .i64 p], .int .i64 own] w2 fun e w' => e = .returned (.bool false) ∧ Below w2.heap.size w2 w' := by
    intro w2
    cases hc : cfgOk s t f l p with
    | false => exact has_wrong s t f l p own w2 hc
    | true =>
      rw [hc] at h
      by_cases h0 : own < 0
      · exact has_lo s t f l p own w2 hc h0
      · exact has_hi s t f l p own w2 hc (by omega) (by rcases h with h | h | h; cases h; omega; omega)
  have C := hide (fun w2 => HASNO w2)
  clear h HASNO
  have bx := Blk.new w 23 #[.int .i64 s, .int .i64 t, .int .i64 f, .int .i64 l, .int .i64 p]
  have B0 := (Below.refl w.heap.size w).alloc (Nat.le_refl _) (.cells #[.int .i64 s, .int .i64 t, .int .i64 f, .int .i64 l, .int .i64 p] 23)
  have bo := Blk.new (w.alloc (.cells #[.int .i64 s, .int .i64 t, .int .i64 f, .int .i64 l, .int .i64 p] 23)) 43 #[.int .i64 0, .int .i64 0, .int .i64 0, .int .u64 0, .int .i64 0, .int .u64 0, .slice none 0 0, .int .i64 0]
  replace B0 := B0.alloc B0.size (.cells #[.int .i64 0, .int .i64 0, .int .i64 0, .int .u64 0, .int .i64 0, .int .u64 0, .slice none 0 0, .int .i64 0] 43)
  replace bx := bx.alloc (.cells #[.int .i64 0, .int .i64 0, .int .i64 0, .int .u64 0, .int .i64 0, .int .u64 0, .slice none 0 0, .int .i64 0] 43)
  rw [World.size_alloc] at bo
  go_enter Tryd.func12, Tryd.ntmps12
  go_wp2_with fail
  refine (C.out _).mono ?_
  rintro e w1 ⟨rfl, hb1⟩
  try replace bx := bx.below hb1 bx.lt
  try replace bo := bo.below hb1 bo.lt
  try replace by_ := by_.below hb1 by_.lt
  replace B0 := B0.trans (hb1.mono B0.size)
  clear hb1
  try clear mx lx
  try clear mo lo zo
  try clear my ly zy
  try have mx := fun i => bx.cell i
  try have lx := bx.lt
  try have mo := fun i => bo.cell i
  try have lo := bo.lt
  try have zo := fun i => bo.frozen i
  try have my := fun i => by_.cell i
  try have ly := by_.lt
  try have zy := fun i => by_.frozen i
  go_wp2_with fail
  have b9 := bo.put8 (.int .i64 0) (.int .i64 0) (.int .i64 1) (.int .u64 0) (.int .i64 0) (.int .u64 0) (.slice none 0 0) (.int .i64 (-1))
  have B9 := below_put8 B0 (g := w.heap.size + 1) (by omega) (.int .i64 0) (.int .i64 0) (.int .i64 1) (.int .u64 0) (.int .i64 0) (.int .u64 0) (.slice none 0 0) (.int .i64 (-1))
  have m9 := fun i => b9.cell i
  refine bodyPost_ret (v := .agg #[.int .i64 0, .int .i64 0, .int .i64 1, .int .u64 0, .int .i64 0, .int .u64 0, .slice none 0 0, .int .i64 (-1)]) (by simp [results, Tryd.results12, go_sem, m9]) rfl ⟨rfl, by first | exact B9 | exact B9.drew⟩
end Go.Proofs.YtglbgddjahenjaaDoor
