/-
  A thread that leaves: its steps.
-/
import Derived.Test.YthmkhcmgpkngmaaDoorEntE
import Derived.Test.YthmkhcmgpkngmaaDoorLayH
import Derived.Deep.RegionHeld3
import Derived.Deep.RegionWith
namespace Go.Proofs.YthmkhcmgpkngmaaDoor
open Go.RowKit
attribute [local go_sem] past_cell past_cell_add

theorem Blk.put8 {w : World} {g : Nat} {T : TypeId} {c0 c1 c2 c3 c4 c5 c6 c7 : Value} (h : Blk w g T #[c0, c1, c2, c3, c4, c5, c6, c7]) (v0 v1 v2 v3 v4 v5 v6 v7 : Value) : Blk ((((((((w.setCell ⟨g, 0, none⟩ v0).setCell ⟨g, 1, none⟩ v1).setCell ⟨g, 2, none⟩ v2).setCell ⟨g, 3, none⟩ v3).setCell ⟨g, 4, none⟩ v4).setCell ⟨g, 5, none⟩ v5).setCell ⟨g, 6, none⟩ v6).setCell ⟨g, 7, none⟩ v7) g T #[v0, v1, v2, v3, v4, v5, v6, v7] := by
  have := ((((((((h.set_ 0 v0).set_ 1 v1).set_ 2 v2).set_ 3 v3).set_ 4 v4).set_ 5 v5).set_ 6 v6).set_ 7 v7)
  simpa only [List.setIfInBounds_toArray, List.set_cons_zero, List.set_cons_succ] using this
theorem Blk.off8 {w : World} {g x : Nat} {T : TypeId} {cur : Array Value} (h : Blk w x T cur) (hne : x ≠ g) (v0 v1 v2 v3 v4 v5 v6 v7 : Value) : Blk ((((((((w.setCell ⟨g, 0, none⟩ v0).setCell ⟨g, 1, none⟩ v1).setCell ⟨g, 2, none⟩ v2).setCell ⟨g, 3, none⟩ v3).setCell ⟨g, 4, none⟩ v4).setCell ⟨g, 5, none⟩ v5).setCell ⟨g, 6, none⟩ v6).setCell ⟨g, 7, none⟩ v7) x T cur := ((((((((h.far (p := ⟨g, 0, none⟩) hne v0).far (p := ⟨g, 1, none⟩) hne v1).far (p := ⟨g, 2, none⟩) hne v2).far (p := ⟨g, 3, none⟩) hne v3).far (p := ⟨g, 4, none⟩) hne v4).far (p := ⟨g, 5, none⟩) hne v5).far (p := ⟨g, 6, none⟩) hne v6).far (p := ⟨g, 7, none⟩) hne v7)
theorem below_put8 {w w0 : World} {L g : Nat} (h : Below L w0 w) (hg : L ≤ g) (v0 v1 v2 v3 v4 v5 v6 v7 : Value) : Below L w0 ((((((((w.setCell ⟨g, 0, none⟩ v0).setCell ⟨g, 1, none⟩ v1).setCell ⟨g, 2, none⟩ v2).setCell ⟨g, 3, none⟩ v3).setCell ⟨g, 4, none⟩ v4).setCell ⟨g, 5, none⟩ v5).setCell ⟨g, 6, none⟩ v6).setCell ⟨g, 7, none⟩ v7) := ((((((((h.setCell (p := ⟨g, 0, none⟩) hg v0).setCell (p := ⟨g, 1, none⟩) hg v1).setCell (p := ⟨g, 2, none⟩) hg v2).setCell (p := ⟨g, 3, none⟩) hg v3).setCell (p := ⟨g, 4, none⟩) hg v4).setCell (p := ⟨g, 5, none⟩) hg v5).setCell (p := ⟨g, 6, none⟩) hg v6).setCell (p := ⟨g, 7, none⟩) hg v7)
set_option maxRecDepth 100000 in
set_option maxHeartbeats 2000000 in
theorem lvnew_t (s t f l p th : Int) (w : World) (hs : 1 ≤ s ∧ s ≤ 1000) (ht : 1 ≤ t ∧ t ≤ 64) (hf : 4 ≤ f ∧ f ≤ 64) (hth : 0 ≤ th ∧ th < t) :
    Calls Tryd.prog 31 #[.agg #[.int .i64 s, .int .i64 t, .int .i64 f, .int .i64 l, .int .i64 p], .int .i64 th, .bool true] w fun e w' => e = .returned (.agg #[.int .i64 s, .int .i64 t, .int .i64 f, .int .i64 l, .int .i64 p, .int .i64 th, .int .i64 3, .int .i64 3]) ∧ Below w.heap.size w w' := by
  have C := hide (fun w2 => lann_any s t f l p th w2 hs ht hf)
  rw [atp4 hth] at C
  have q0 : 0 ≤ 3 + th := by omega
  generalize 3 + th = q at *
  have bx := Blk.new w 27 #[.int .i64 s, .int .i64 t, .int .i64 f, .int .i64 l, .int .i64 p]
  have B0 := (Below.refl w.heap.size w).alloc (Nat.le_refl _) (.cells #[.int .i64 s, .int .i64 t, .int .i64 f, .int .i64 l, .int .i64 p] 27)
  have bo := Blk.new (w.alloc (.cells #[.int .i64 s, .int .i64 t, .int .i64 f, .int .i64 l, .int .i64 p] 27)) 46 #[.int .i64 0, .int .i64 0, .int .i64 0, .int .i64 0, .int .i64 0, .int .i64 0, .int .i64 0, .int .i64 0]
  replace B0 := B0.alloc B0.size (.cells #[.int .i64 0, .int .i64 0, .int .i64 0, .int .i64 0, .int .i64 0, .int .i64 0, .int .i64 0, .int .i64 0] 46)
  replace bx := bx.alloc (.cells #[.int .i64 0, .int .i64 0, .int .i64 0, .int .i64 0, .int .i64 0, .int .i64 0, .int .i64 0, .int .i64 0] 46)
  rw [World.size_alloc] at bo
  go_enter Tryd.func31, Tryd.ntmps31
  go_wp2_with fail
  refine (C.out _).mono ?_
  rintro e w1 ⟨rfl, hb1⟩
  try replace bx := bx.below hb1 bx.lt
  try replace bo := bo.below hb1 bo.lt
  try replace by_ := by_.below hb1 by_.lt
  replace B0 := B0.trans (hb1.mono B0.size)
  clear hb1
  try clear mx lx
  try clear mo lo zo
  try clear my ly zy
  try have mx := fun i => bx.cell i
  try have lx := bx.lt
  try have mo := fun i => bo.cell i
  try have lo := bo.lt
  try have zo := fun i => bo.frozen i
  try have my := fun i => by_.cell i
  try have ly := by_.lt
  try have zy := fun i => by_.frozen i
  go_wp2_with fail
  have b9 := bo.put8 (.int .i64 s) (.int .i64 t) (.int .i64 f) (.int .i64 l) (.int .i64 p) (.int .i64 th) (.int .i64 3) (.int .i64 3)
  have B9 := below_put8 B0 (g := w.heap.size + 1) (by omega) (.int .i64 s) (.int .i64 t) (.int .i64 f) (.int .i64 l) (.int .i64 p) (.int .i64 th) (.int .i64 3) (.int .i64 3)
  have m9 := fun i => b9.cell i
  refine bodyPost_ret (v := .agg #[.int .i64 s, .int .i64 t, .int .i64 f, .int .i64 l, .int .i64 p, .int .i64 th, .int .i64 3, .int .i64 3]) (by simp [results, Tryd.results31, go_sem, m9]) rfl ⟨rfl, by first | exact B9 | exact B9.drew⟩
set_option maxRecDepth 100000 in
set_option maxHeartbeats 2000000 in
theorem lvnew_f (s t f l p th : Int) (w : World) (hs : 1 ≤ s ∧ s ≤ 1000) (ht : 1 ≤ t ∧ t ≤ 64) (hf : 4 ≤ f ∧ f ≤ 64) (hth : 0 ≤ th ∧ th < t) :
    Calls Tryd.prog 31 #[.agg #[.int .i64 s, .int .i64 t, .int .i64 f, .int .i64 l, .int .i64 p], .int .i64 th, .bool false] w fun e w' => e = .returned (.agg #[.int .i64 s, .int .i64 t, .int .i64 f, .int .i64 l, .int .i64 p, .int .i64 th, .int .i64 1, .int .i64 1]) ∧ Below w.heap.size w w' := by
  have C := hide (fun w2 => lann_any s t f l p th w2 hs ht hf)
  rw [atp4 hth] at C
  have q0 : 0 ≤ 3 + th := by omega
  generalize 3 + th = q at *
  have bx := Blk.new w 27 #[.int .i64 s, .int .i64 t, .int .i64 f, .int .i64 l, .int .i64 p]
  have B0 := (Below.refl w.heap.size w).alloc (Nat.le_refl _) (.cells #[.int .i64 s, .int .i64 t, .int .i64 f, .int .i64 l, .int .i64 p] 27)
  have bo := Blk.new (w.alloc (.cells #[.int .i64 s, .int .i64 t, .int .i64 f, .int .i64 l, .int .i64 p] 27)) 46 #[.int .i64 0, .int .i64 0, .int .i64 0, .int .i64 0, .int .i64 0, .int .i64 0, .int .i64 0, .int .i64 0]
  replace B0 := B0.alloc B0.size (.cells #[.int .i64 0, .int .i64 0, .int .i64 0, .int .i64 0, .int .i64 0, .int .i64 0, .int .i64 0, .int .i64 0] 46)
  replace bx := bx.alloc (.cells #[.int .i64 0, .int .i64 0, .int .i64 0, .int .i64 0, .int .i64 0, .int .i64 0, .int .i64 0, .int .i64 0] 46)
  rw [World.size_alloc] at bo
  go_enter Tryd.func31, Tryd.ntmps31
  go_wp2_with fail
  refine (C.out _).mono ?_
  rintro e w1 ⟨rfl, hb1⟩
  try replace bx := bx.below hb1 bx.lt
  try replace bo := bo.below hb1 bo.lt
  try replace by_ := by_.below hb1 by_.lt
  replace B0 := B0.trans (hb1.mono B0.size)
  clear hb1
  try clear mx lx
  try clear mo lo zo
  try clear my ly zy
  try have mx := fun i => bx.cell i
  try have lx := bx.lt
  try have mo := fun i => bo.cell i
  try have lo := bo.lt
  try have zo := fun i => bo.frozen i
  try have my := fun i => by_.cell i
  try have ly := by_.lt
  try have zy := fun i => by_.frozen i
  go_wp2_with fail
  have b9 := bo.put8 (.int .i64 s) (.int .i64 t) (.int .i64 f) (.int .i64 l) (.int .i64 p) (.int .i64 th) (.int .i64 1) (.int .i64 1)
  have B9 := below_put8 B0 (g := w.heap.size + 1) (by omega) (.int .i64 s) (.int .i64 t) (.int .i64 f) (.int .i64 l) (.int .i64 p) (.int .i64 th) (.int .i64 1) (.int .i64 1)
  have m9 := fun i => b9.cell i
  refine bodyPost_ret (v := .agg #[.int .i64 s, .int .i64 t, .int .i64 f, .int .i64 l, .int .i64 p, .int .i64 th, .int .i64 1, .int .i64 1]) (by simp [results, Tryd.results31, go_sem, m9]) rfl ⟨rfl, by first | exact B9 | exact B9.drew⟩
set_option maxRecDepth 100000 in
set_option maxHeartbeats 2000000 in
theorem lvnew_no (s t f l p th : Int) (sl : Bool) (w : World) (hs : 1 ≤ s ∧ s ≤ 1000) (ht : 1 ≤ t ∧ t ≤ 64) (hf : 4 ≤ f ∧ f ≤ 64) (hth : th < 0 ∨ t ≤ th) :
    Calls Tryd.prog 31 #[.agg #[.int .i64 s, .int .i64 t, .int .i64 f, .int .i64 l, .int .i64 p], .int .i64 th, .bool sl] w fun e w' => e = .returned (.agg #[.int .i64 0, .int .i64 0, .int .i64 0, .int .i64 0, .int .i64 0, .int .i64 0, .int .i64 0, .int .i64 0]) ∧ Below w.heap.size w w' := by
  have C := hide (fun w2 => lann_any s t f l p th w2 hs ht hf)
  rw [atp4_no hth] at C
  have bx := Blk.new w 27 #[.int .i64 s, .int .i64 t, .int .i64 f, .int .i64 l, .int .i64 p]
  have B0 := (Below.refl w.heap.size w).alloc (Nat.le_refl _) (.cells #[.int .i64 s, .int .i64 t, .int .i64 f, .int .i64 l, .int .i64 p] 27)
  have bo := Blk.new (w.alloc (.cells #[.int .i64 s, .int .i64 t, .int .i64 f, .int .i64 l, .int .i64 p] 27)) 46 #[.int .i64 0, .int .i64 0, .int .i64 0, .int .i64 0, .int .i64 0, .int .i64 0, .int .i64 0, .int .i64 0]
  replace B0 := B0.alloc B0.size (.cells #[.int .i64 0, .int .i64 0, .int .i64 0, .int .i64 0, .int .i64 0, .int .i64 0, .int .i64 0, .int .i64 0] 46)
  replace bx := bx.alloc (.cells #[.int .i64 0, .int .i64 0, .int .i64 0, .int .i64 0, .int .i64 0, .int .i64 0, .int .i64 0, .int .i64 0] 46)
  rw [World.size_alloc] at bo
  go_enter Tryd.func31, Tryd.ntmps31
  go_wp2_with fail
  refine (C.out _).mono ?_
  rintro e w1 ⟨rfl, hb1⟩
  try replace bx := bx.below hb1 bx.lt
  try replace bo := bo.below hb1 bo.lt
  try replace by_ := by_.below hb1 by_.lt
  replace B0 := B0.trans (hb1.mono B0.size)
  clear hb1
  try clear mx lx
  try clear mo lo zo
  try clear my ly zy
  try have mx := fun i => bx.cell i
  try have lx := bx.lt
  try have mo := fun i => bo.cell i
  try have lo := bo.lt
  try have zo := fun i => bo.frozen i
  try have my := fun i => by_.cell i
  try have ly := by_.lt
  try have zy := fun i => by_.frozen i
  go_wp2_with fail
  have b9 := bo.put8 (.int .i64 0) (.int .i64 0) (.int .i64 0) (.int .i64 0) (.int .i64 0) (.int .i64 0) (.int .i64 0) (.int .i64 0)
  have B9 := below_put8 B0 (g := w.heap.size + 1) (by omega) (.int .i64 0) (.int .i64 0) (.int .i64 0) (.int .i64 0) (.int .i64 0) (.int .i64 0) (.int .i64 0) (.int .i64 0)
  have m9 := fun i => b9.cell i
  refine bodyPost_ret (v := .agg #[.int .i64 0, .int .i64 0, .int .i64 0, .int .i64 0, .int .i64 0, .int .i64 0, .int .i64 0, .int .i64 0]) (by simp [results, Tryd.results31, go_sem, m9]) rfl ⟨rfl, by first | exact B9 | exact B9.drew⟩
set_option maxRecDepth 100000 in
set_option maxHeartbeats 2000000 in
theorem lvnew_zero (th : Int) (sl : Bool) (w : World)  :
    Calls Tryd.prog 31 #[.agg #[.int .i64 0, .int .i64 0, .int .i64 0, .int .i64 0, .int .i64 0], .int .i64 th, .bool sl] w fun e w' => e = .returned (.agg #[.int .i64 0, .int .i64 0, .int .i64 0, .int .i64 0, .int .i64 0, .int .i64 0, .int .i64 0, .int .i64 0]) ∧ Below w.heap.size w w' := by
  have C := hide (fun w2 => lann_zero th w2)
  have bx := Blk.new w 27 #[.int .i64 0, .int .i64 0, .int .i64 0, .int .i64 0, .int .i64 0]
  have B0 := (Below.refl w.heap.size w).alloc (Nat.le_refl _) (.cells #[.int .i64 0, .int .i64 0, .int .i64 0, .int .i64 0, .int .i64 0] 27)
  have bo := Blk.new (w.alloc (.cells #[.int .i64 0, .int .i64 0, .int .i64 0, .int .i64 0, .int .i64 0] 27)) 46 #[.int .i64 0, .int .i64 0, .int .i64 0, .int .i64 0, .int .i64 0, .int .i64 0, .int .i64 0, .int .i64 0]
  replace B0 := B0.alloc B0.size (.cells #[.int .i64 0, .int .i64 0, .int .i64 0, .int .i64 0, .int .i64 0, .int .i64 0, .int .i64 0, .int .i64 0] 46)
  replace bx := bx.alloc (.cells #[.int .i64 0, .int .i64 0, .int .i64 0, .int .i64 0, .int .i64 0, .int .i64 0, .int .i64 0, .int .i64 0] 46)
  rw [World.size_alloc] at bo
  go_enter Tryd.func31, Tryd.ntmps31
  go_wp2_with fail
  refine (C.out _).mono ?_
  rintro e w1 ⟨rfl, hb1⟩
  try replace bx := bx.below hb1 bx.lt
  try replace bo := bo.below hb1 bo.lt
  try replace by_ := by_.below hb1 by_.lt
  replace B0 := B0.trans (hb1.mono B0.size)
  clear hb1
  try clear mx lx
  try clear mo lo zo
  try clear my ly zy
  try have mx := fun i => bx.cell i
  try have lx := bx.lt
  try have mo := fun i => bo.cell i
  try have lo := bo.lt
  try have zo := fun i => bo.frozen i
  try have my := fun i => by_.cell i
  try have ly := by_.lt
  try have zy := fun i => by_.frozen i
  go_wp2_with fail
  have b9 := bo.put8 (.int .i64 0) (.int .i64 0) (.int .i64 0) (.int .i64 0) (.int .i64 0) (.int .i64 0) (.int .i64 0) (.int .i64 0)
  have B9 := below_put8 B0 (g := w.heap.size + 1) (by omega) (.int .i64 0) (.int .i64 0) (.int .i64 0) (.int .i64 0) (.int .i64 0) (.int .i64 0) (.int .i64 0) (.int .i64 0)
  have m9 := fun i => b9.cell i
  refine bodyPost_ret (v := .agg #[.int .i64 0, .int .i64 0, .int .i64 0, .int .i64 0, .int .i64 0, .int .i64 0, .int .i64 0, .int .i64 0]) (by simp [results, Tryd.results31, go_sem, m9]) rfl ⟨rfl, by first | exact B9 | exact B9.drew⟩
set_option maxRecDepth 100000 in
set_option maxHeartbeats 2000000 in
theorem lwant_0 (s t f l p th mo : Int) (w : World)  :
    Calls Tryd.prog 19 #[.agg #[.int .i64 s, .int .i64 t, .int .i64 f, .int .i64 l, .int .i64 p, .int .i64 th, .int .i64 0, .int .i64 mo]] w fun e w' => e = .returned (.agg #[.int .i64 0, .int .i64 0, .int .u64 0, .int .u64 0]) ∧ Below w.heap.size w w' := by
  go_enter Tryd.func19, Tryd.ntmps19
  go_wp2_with fail
  refine bodyPost_ret (v := .agg #[.int .i64 0, .int .i64 0, .int .u64 0, .int .u64 0]) (by simp [results, Tryd.results19, go_sem]) rfl ⟨rfl, ?_⟩
  repeat (first | exact Below.refl _ _ | exact B0 | (refine Below.setCell ?_ (by first | (show w.heap.size ≤ w.heap.size; omega) | (show w.heap.size ≤ w.heap.size + 1; omega) | (show w.heap.size ≤ w.heap.size + 2; omega) | (show w.heap.size ≤ _; simp)) _) | (refine Below.alloc ?_ (by first | exact Nat.le_refl _ | (simp <;> omega)) _))
set_option maxRecDepth 100000 in
set_option maxHeartbeats 2000000 in
theorem lwant_f (s t f l p th mo : Int) (w : World) (hs : 1 ≤ s ∧ s ≤ 1000) (ht : 1 ≤ t ∧ t ≤ 64) (hf : 4 ≤ f ∧ f ≤ 64) (hth : 0 ≤ th ∧ th < t) (hmo : (mo == 0) = false) :
    Calls Tryd.prog 19 #[.agg #[.int .i64 s, .int .i64 t, .int .i64 f, .int .i64 l, .int .i64 p, .int .i64 th, .int .i64 mo, .int .i64 mo]] w fun e w' => e = .returned (.agg #[.int .i64 2, .int .i64 (3 + th), .int .u64 0, .int .u64 0]) ∧ Below w.heap.size w w' := by
  have C := hide (fun w2 => lann_any s t f l p th w2 hs ht hf)
  rw [atp4 hth] at C
  generalize 3 + th = q at *
  have bx := Blk.new w 46 #[.int .i64 s, .int .i64 t, .int .i64 f, .int .i64 l, .int .i64 p, .int .i64 th, .int .i64 mo, .int .i64 mo]
  have B0 := (Below.refl w.heap.size w).alloc (Nat.le_refl _) (.cells #[.int .i64 s, .int .i64 t, .int .i64 f, .int .i64 l, .int .i64 p, .int .i64 th, .int .i64 mo, .int .i64 mo] 46)
  have bo := Blk.new (w.alloc (.cells #[.int .i64 s, .int .i64 t, .int .i64 f, .int .i64 l, .int .i64 p, .int .i64 th, .int .i64 mo, .int .i64 mo] 46)) 39 #[.int .i64 0, .int .i64 0, .int .u64 0, .int .u64 0]
  replace B0 := B0.alloc B0.size (.cells #[.int .i64 0, .int .i64 0, .int .u64 0, .int .u64 0] 39)
  replace bx := bx.alloc (.cells #[.int .i64 0, .int .i64 0, .int .u64 0, .int .u64 0] 39)
  rw [World.size_alloc] at bo
  go_enter Tryd.func19, Tryd.ntmps19
  go_wp2_with fail
  refine (C.out _).mono ?_
  rintro e w1 ⟨rfl, hb1⟩
  try replace bx := bx.below hb1 bx.lt
  try replace bo := bo.below hb1 bo.lt
  try replace by_ := by_.below hb1 by_.lt
  replace B0 := B0.trans (hb1.mono B0.size)
  clear hb1
  try clear mx lx
  try clear mo lo zo
  try clear my ly zy
  try have mx := fun i => bx.cell i
  try have lx := bx.lt
  try have mo := fun i => bo.cell i
  try have lo := bo.lt
  try have zo := fun i => bo.frozen i
  try have my := fun i => by_.cell i
  try have ly := by_.lt
  try have zy := fun i => by_.frozen i
  go_wp2_with fail
  have b9 := bo.put4 (.int .i64 2) (.int .i64 q) (.int .u64 0) (.int .u64 0)
  have B9 := below_put4 B0 (g := w.heap.size + 1) (by omega) (.int .i64 2) (.int .i64 q) (.int .u64 0) (.int .u64 0)
  have m9 := fun i => b9.cell i
  refine bodyPost_ret (v := .agg #[.int .i64 2, .int .i64 q, .int .u64 0, .int .u64 0]) (by simp [results, Tryd.results19, go_sem, m9]) rfl ⟨rfl, by first | exact B9 | exact B9.drew⟩
set_option maxRecDepth 100000 in
set_option maxHeartbeats 2000000 in
theorem lwant_2 (s t f l p th : Int) (w : World) (hs : 1 ≤ s ∧ s ≤ 1000) (ht : 1 ≤ t ∧ t ≤ 64) (hf : 4 ≤ f ∧ f ≤ 64) (hth : 0 ≤ th ∧ th < t) :
    Calls Tryd.prog 19 #[.agg #[.int .i64 s, .int .i64 t, .int .i64 f, .int .i64 l, .int .i64 p, .int .i64 th, .int .i64 2, .int .i64 3]] w fun e w' => e = .returned (.agg #[.int .i64 2, .int .i64 (3 + t + 2 * th + 0), .int .u64 0, .int .u64 0]) ∧ Below w.heap.size w w' := by
  have C := hide (fun w2 => lhaz_any s t f l p th 0 w2 hs ht hf)
  rw [atp5 hth (by omega)] at C
  generalize 3 + t + 2 * th + 0 = q at *
  have bx := Blk.new w 46 #[.int .i64 s, .int .i64 t, .int .i64 f, .int .i64 l, .int .i64 p, .int .i64 th, .int .i64 2, .int .i64 3]
  have B0 := (Below.refl w.heap.size w).alloc (Nat.le_refl _) (.cells #[.int .i64 s, .int .i64 t, .int .i64 f, .int .i64 l, .int .i64 p, .int .i64 th, .int .i64 2, .int .i64 3] 46)
  have bo := Blk.new (w.alloc (.cells #[.int .i64 s, .int .i64 t, .int .i64 f, .int .i64 l, .int .i64 p, .int .i64 th, .int .i64 2, .int .i64 3] 46)) 39 #[.int .i64 0, .int .i64 0, .int .u64 0, .int .u64 0]
  replace B0 := B0.alloc B0.size (.cells #[.int .i64 0, .int .i64 0, .int .u64 0, .int .u64 0] 39)
  replace bx := bx.alloc (.cells #[.int .i64 0, .int .i64 0, .int .u64 0, .int .u64 0] 39)
  rw [World.size_alloc] at bo
  go_enter Tryd.func19, Tryd.ntmps19
  go_wp2_with fail
  refine (C.out _).mono ?_
  rintro e w1 ⟨rfl, hb1⟩
  try replace bx := bx.below hb1 bx.lt
  try replace bo := bo.below hb1 bo.lt
  try replace by_ := by_.below hb1 by_.lt
  replace B0 := B0.trans (hb1.mono B0.size)
  clear hb1
  try clear mx lx
  try clear mo lo zo
  try clear my ly zy
  try have mx := fun i => bx.cell i
  try have lx := bx.lt
  try have mo := fun i => bo.cell i
  try have lo := bo.lt
  try have zo := fun i => bo.frozen i
  try have my := fun i => by_.cell i
  try have ly := by_.lt
  try have zy := fun i => by_.frozen i
  go_wp2_with fail
  have b9 := bo.put4 (.int .i64 2) (.int .i64 q) (.int .u64 0) (.int .u64 0)
  have B9 := below_put4 B0 (g := w.heap.size + 1) (by omega) (.int .i64 2) (.int .i64 q) (.int .u64 0) (.int .u64 0)
  have m9 := fun i => b9.cell i
  refine bodyPost_ret (v := .agg #[.int .i64 2, .int .i64 q, .int .u64 0, .int .u64 0]) (by simp [results, Tryd.results19, go_sem, m9]) rfl ⟨rfl, by first | exact B9 | exact B9.drew⟩
set_option maxRecDepth 100000 in
set_option maxHeartbeats 2000000 in
theorem lwant_1 (s t f l p th : Int) (w : World) (hs : 1 ≤ s ∧ s ≤ 1000) (ht : 1 ≤ t ∧ t ≤ 64) (hf : 4 ≤ f ∧ f ≤ 64) (hth : 0 ≤ th ∧ th < t) :
    Calls Tryd.prog 19 #[.agg #[.int .i64 s, .int .i64 t, .int .i64 f, .int .i64 l, .int .i64 p, .int .i64 th, .int .i64 1, .int .i64 3]] w fun e w' => e = .returned (.agg #[.int .i64 2, .int .i64 (3 + t + 2 * th + 1), .int .u64 0, .int .u64 0]) ∧ Below w.heap.size w w' := by
  have C := hide (fun w2 => lhaz_any s t f l p th 1 w2 hs ht hf)
  rw [atp5 hth (by omega)] at C
  generalize 3 + t + 2 * th + 1 = q at *
  have bx := Blk.new w 46 #[.int .i64 s, .int .i64 t, .int .i64 f, .int .i64 l, .int .i64 p, .int .i64 th, .int .i64 1, .int .i64 3]
  have B0 := (Below.refl w.heap.size w).alloc (Nat.le_refl _) (.cells #[.int .i64 s, .int .i64 t, .int .i64 f, .int .i64 l, .int .i64 p, .int .i64 th, .int .i64 1, .int .i64 3] 46)
  have bo := Blk.new (w.alloc (.cells #[.int .i64 s, .int .i64 t, .int .i64 f, .int .i64 l, .int .i64 p, .int .i64 th, .int .i64 1, .int .i64 3] 46)) 39 #[.int .i64 0, .int .i64 0, .int .u64 0, .int .u64 0]
  replace B0 := B0.alloc B0.size (.cells #[.int .i64 0, .int .i64 0, .int .u64 0, .int .u64 0] 39)
  replace bx := bx.alloc (.cells #[.int .i64 0, .int .i64 0, .int .u64 0, .int .u64 0] 39)
  rw [World.size_alloc] at bo
  go_enter Tryd.func19, Tryd.ntmps19
  go_wp2_with fail
  refine (C.out _).mono ?_
  rintro e w1 ⟨rfl, hb1⟩
  try replace bx := bx.below hb1 bx.lt
  try replace bo := bo.below hb1 bo.lt
  try replace by_ := by_.below hb1 by_.lt
  replace B0 := B0.trans (hb1.mono B0.size)
  clear hb1
  try clear mx lx
  try clear mo lo zo
  try clear my ly zy
  try have mx := fun i => bx.cell i
  try have lx := bx.lt
  try have mo := fun i => bo.cell i
  try have lo := bo.lt
  try have zo := fun i => bo.frozen i
  try have my := fun i => by_.cell i
  try have ly := by_.lt
  try have zy := fun i => by_.frozen i
  go_wp2_with fail
  have b9 := bo.put4 (.int .i64 2) (.int .i64 q) (.int .u64 0) (.int .u64 0)
  have B9 := below_put4 B0 (g := w.heap.size + 1) (by omega) (.int .i64 2) (.int .i64 q) (.int .u64 0) (.int .u64 0)
  have m9 := fun i => b9.cell i
  refine bodyPost_ret (v := .agg #[.int .i64 2, .int .i64 q, .int .u64 0, .int .u64 0]) (by simp [results, Tryd.results19, go_sem, m9]) rfl ⟨rfl, by first | exact B9 | exact B9.drew⟩
set_option maxRecDepth 100000 in
set_option maxHeartbeats 2000000 in
theorem ltook_0 (s t f l p th mo g : Int) (w : World)  :
    Calls Tryd.prog 32 #[.agg #[.int .i64 s, .int .i64 t, .int .i64 f, .int .i64 l, .int .i64 p, .int .i64 th, .int .i64 0, .int .i64 mo], .int .u64 g] w fun e w' => e = .returned (.agg #[.int .i64 s, .int .i64 t, .int .i64 f, .int .i64 l, .int .i64 p, .int .i64 th, .int .i64 0, .int .i64 mo]) ∧ Below w.heap.size w w' := by
  go_enter Tryd.func32, Tryd.ntmps32
  go_wp2_with fail
  refine bodyPost_ret (v := .agg #[.int .i64 s, .int .i64 t, .int .i64 f, .int .i64 l, .int .i64 p, .int .i64 th, .int .i64 0, .int .i64 mo]) (by simp [results, Tryd.results32, go_sem] <;> decide) rfl ⟨rfl, ?_⟩
  repeat (first | exact Below.refl _ _ | exact B0 | (refine Below.setCell ?_ (by first | (show w.heap.size ≤ w.heap.size; omega) | (show w.heap.size ≤ w.heap.size + 1; omega) | (show w.heap.size ≤ w.heap.size + 2; omega) | (show w.heap.size ≤ _; simp)) _) | (refine Below.alloc ?_ (by first | exact Nat.le_refl _ | (simp <;> omega)) _))
set_option maxRecDepth 100000 in
set_option maxHeartbeats 2000000 in
theorem ltook_1 (s t f l p th mo g : Int) (w : World)  :
    Calls Tryd.prog 32 #[.agg #[.int .i64 s, .int .i64 t, .int .i64 f, .int .i64 l, .int .i64 p, .int .i64 th, .int .i64 1, .int .i64 mo], .int .u64 g] w fun e w' => e = .returned (.agg #[.int .i64 s, .int .i64 t, .int .i64 f, .int .i64 l, .int .i64 p, .int .i64 th, .int .i64 0, .int .i64 mo]) ∧ Below w.heap.size w w' := by
  go_enter Tryd.func32, Tryd.ntmps32
  go_wp2_with fail
  refine bodyPost_ret (v := .agg #[.int .i64 s, .int .i64 t, .int .i64 f, .int .i64 l, .int .i64 p, .int .i64 th, .int .i64 0, .int .i64 mo]) (by simp [results, Tryd.results32, go_sem] <;> decide) rfl ⟨rfl, ?_⟩
  repeat (first | exact Below.refl _ _ | exact B0 | (refine Below.setCell ?_ (by first | (show w.heap.size ≤ w.heap.size; omega) | (show w.heap.size ≤ w.heap.size + 1; omega) | (show w.heap.size ≤ w.heap.size + 2; omega) | (show w.heap.size ≤ _; simp)) _) | (refine Below.alloc ?_ (by first | exact Nat.le_refl _ | (simp <;> omega)) _))
set_option maxRecDepth 100000 in
set_option maxHeartbeats 2000000 in
theorem ltook_2 (s t f l p th mo g : Int) (w : World)  :
    Calls Tryd.prog 32 #[.agg #[.int .i64 s, .int .i64 t, .int .i64 f, .int .i64 l, .int .i64 p, .int .i64 th, .int .i64 2, .int .i64 mo], .int .u64 g] w fun e w' => e = .returned (.agg #[.int .i64 s, .int .i64 t, .int .i64 f, .int .i64 l, .int .i64 p, .int .i64 th, .int .i64 1, .int .i64 mo]) ∧ Below w.heap.size w w' := by
  go_enter Tryd.func32, Tryd.ntmps32
  go_wp2_with fail
  refine bodyPost_ret (v := .agg #[.int .i64 s, .int .i64 t, .int .i64 f, .int .i64 l, .int .i64 p, .int .i64 th, .int .i64 1, .int .i64 mo]) (by simp [results, Tryd.results32, go_sem] <;> decide) rfl ⟨rfl, ?_⟩
  repeat (first | exact Below.refl _ _ | exact B0 | (refine Below.setCell ?_ (by first | (show w.heap.size ≤ w.heap.size; omega) | (show w.heap.size ≤ w.heap.size + 1; omega) | (show w.heap.size ≤ w.heap.size + 2; omega) | (show w.heap.size ≤ _; simp)) _) | (refine Below.alloc ?_ (by first | exact Nat.le_refl _ | (simp <;> omega)) _))
set_option maxRecDepth 100000 in
set_option maxHeartbeats 2000000 in
theorem ltook_3 (s t f l p th mo g : Int) (w : World)  :
    Calls Tryd.prog 32 #[.agg #[.int .i64 s, .int .i64 t, .int .i64 f, .int .i64 l, .int .i64 p, .int .i64 th, .int .i64 3, .int .i64 mo], .int .u64 g] w fun e w' => e = .returned (.agg #[.int .i64 s, .int .i64 t, .int .i64 f, .int .i64 l, .int .i64 p, .int .i64 th, .int .i64 2, .int .i64 mo]) ∧ Below w.heap.size w w' := by
  go_enter Tryd.func32, Tryd.ntmps32
  go_wp2_with fail
  refine bodyPost_ret (v := .agg #[.int .i64 s, .int .i64 t, .int .i64 f, .int .i64 l, .int .i64 p, .int .i64 th, .int .i64 2, .int .i64 mo]) (by simp [results, Tryd.results32, go_sem] <;> decide) rfl ⟨rfl, ?_⟩
  repeat (first | exact Below.refl _ _ | exact B0 | (refine Below.setCell ?_ (by first | (show w.heap.size ≤ w.heap.size; omega) | (show w.heap.size ≤ w.heap.size + 1; omega) | (show w.heap.size ≤ w.heap.size + 2; omega) | (show w.heap.size ≤ _; simp)) _) | (refine Below.alloc ?_ (by first | exact Nat.le_refl _ | (simp <;> omega)) _))
set_option maxRecDepth 100000 in
set_option maxHeartbeats 2000000 in
theorem ldone_0 (s t f l p th mo : Int) (w : World)  :
    Calls Tryd.prog 18 #[.agg #[.int .i64 s, .int .i64 t, .int .i64 f, .int .i64 l, .int .i64 p, .int .i64 th, .int .i64 0, .int .i64 mo]] w fun e w' => e = .returned (.bool true) ∧ Below w.heap.size w w' := by
  have bx := Blk.new w 46 #[.int .i64 s, .int .i64 t, .int .i64 f, .int .i64 l, .int .i64 p, .int .i64 th, .int .i64 0, .int .i64 mo]
  have B0 := (Below.refl w.heap.size w).alloc (Nat.le_refl _) (.cells #[.int .i64 s, .int .i64 t, .int .i64 f, .int .i64 l, .int .i64 p, .int .i64 th, .int .i64 0, .int .i64 mo] 46)
  go_enter Tryd.func18, Tryd.ntmps18
  go_wp2_with fail
  go_ret
  exact ⟨rfl, B0⟩
set_option maxRecDepth 100000 in
set_option maxHeartbeats 2000000 in
theorem ldone_n (s t f l p th mo k : Int) (w : World) (hk : (k == 0) = false) :
    Calls Tryd.prog 18 #[.agg #[.int .i64 s, .int .i64 t, .int .i64 f, .int .i64 l, .int .i64 p, .int .i64 th, .int .i64 k, .int .i64 mo]] w fun e w' => e = .returned (.bool false) ∧ Below w.heap.size w w' := by
  have bx := Blk.new w 46 #[.int .i64 s, .int .i64 t, .int .i64 f, .int .i64 l, .int .i64 p, .int .i64 th, .int .i64 k, .int .i64 mo]
  have B0 := (Below.refl w.heap.size w).alloc (Nat.le_refl _) (.cells #[.int .i64 s, .int .i64 t, .int .i64 f, .int .i64 l, .int .i64 p, .int .i64 th, .int .i64 k, .int .i64 mo] 46)
  go_enter Tryd.func18, Tryd.ntmps18
  go_wp2_with fail
  go_ret
  exact ⟨rfl, B0⟩
end Go.Proofs.YthmkhcmgpkngmaaDoor
