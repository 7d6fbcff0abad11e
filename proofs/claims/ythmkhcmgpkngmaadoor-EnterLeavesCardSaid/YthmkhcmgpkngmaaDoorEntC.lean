/-
  The accesses that a thread wants that announces itself.
-/
import Derived.Test.YthmkhcmgpkngmaaDoorEntB
import Derived.Test.YthmkhcmgpkngmaaDoorLayH
import Derived.Deep.RegionHeld3
import Derived.Deep.RegionWith
namespace Go.Proofs.YthmkhcmgpkngmaaDoor
open Go.RowKit
attribute [local go_sem] past_cell past_cell_add

set_option maxHeartbeats 1000000 in
theorem enword_any (s t f l p th k : Int) (sl : Bool) (ep ck kind : Int) (w : World) (hs : 1 ≤ s ∧ s ≤ 1000) (ht : 1 ≤ t ∧ t ≤ 64) (hf : 4 ≤ f ∧ f ≤ 64) (hk : 1 ≤ kind ∧ kind ≤ 3) :
    Calls Tryd.prog 44 #[.agg #[.int .i64 s, .int .i64 t, .int .i64 f, .int .i64 l, .int .i64 p, .int .i64 th, .int .i64 k, .bool sl, .int .u64 ep, .int .u64 ck], .int .i64 kind] w fun e w' => e = .returned (.agg #[.int .i64 1, .int .i64 (kind - 1), .int .u64 0, .int .u64 0]) ∧ Below w.heap.size w w' := by
  have C := hide (fun w2 => at_any s t f l p kind 0 0 w2 hs ht hf)
  rw [atp_first hk] at C
  have bx := Blk.new w 30 #[.int .i64 s, .int .i64 t, .int .i64 f, .int .i64 l, .int .i64 p, .int .i64 th, .int .i64 k, .bool sl, .int .u64 ep, .int .u64 ck]
  have B0 := (Below.refl w.heap.size w).alloc (Nat.le_refl _) (.cells #[.int .i64 s, .int .i64 t, .int .i64 f, .int .i64 l, .int .i64 p, .int .i64 th, .int .i64 k, .bool sl, .int .u64 ep, .int .u64 ck] 30)
  have bo := Blk.new (w.alloc (.cells #[.int .i64 s, .int .i64 t, .int .i64 f, .int .i64 l, .int .i64 p, .int .i64 th, .int .i64 k, .bool sl, .int .u64 ep, .int .u64 ck] 30)) 39 #[.int .i64 0, .int .i64 0, .int .u64 0, .int .u64 0]
  replace B0 := B0.alloc B0.size (.cells #[.int .i64 0, .int .i64 0, .int .u64 0, .int .u64 0] 39)
  replace bx := bx.alloc (.cells #[.int .i64 0, .int .i64 0, .int .u64 0, .int .u64 0] 39)
  rw [World.size_alloc] at bo
  generalize kind - 1 = q at *
  go_enter Tryd.func44, Tryd.ntmps44
  go_wp2_with fail
  refine (C.out _).mono ?_
  rintro e w1 ⟨rfl, hb1⟩
  try replace bx := bx.below hb1 bx.lt
  try replace bo := bo.below hb1 bo.lt
  try replace by_ := by_.below hb1 by_.lt
  replace B0 := B0.trans (hb1.mono B0.size)
  clear hb1
  try clear mx lx
  try clear mo lo zo
  try clear my ly zy
  try have mx := fun i => bx.cell i
  try have lx := bx.lt
  try have mo := fun i => bo.cell i
  try have lo := bo.lt
  try have zo := fun i => bo.frozen i
  try have my := fun i => by_.cell i
  try have ly := by_.lt
  try have zy := fun i => by_.frozen i
  go_wp2_with fail
  have b9 := bo.put4 (.int .i64 1) (.int .i64 q) (.int .u64 0) (.int .u64 0)
  have B9 := below_put4 B0 (g := w.heap.size + 1) (by omega) (.int .i64 1) (.int .i64 q) (.int .u64 0) (.int .u64 0)
  have m9 := fun i => b9.cell i
  refine bodyPost_ret (v := .agg #[.int .i64 1, .int .i64 q, .int .u64 0, .int .u64 0]) (by simp [results, Tryd.results44, go_sem, m9]) rfl ⟨rfl, by first | exact B9 | exact B9.drew⟩
set_option maxHeartbeats 1000000 in
theorem enann_t (s t f l p th k ep ck : Int) (w : World) (he : W64 ep) (hk : W64 ck) :
    Calls Tryd.prog 45 #[.agg #[.int .i64 s, .int .i64 t, .int .i64 f, .int .i64 l, .int .i64 p, .int .i64 th, .int .i64 k, .bool true, .int .u64 ep, .int .u64 ck]] w fun e w' => e = .returned (.int .u64 (amake 3 ep ck)) ∧ Below w.heap.size w w' := by
  have C := hide (fun w2 => amake_any 3 ep ck w2 ⟨by omega, by omega⟩ he hk)
  have B0 := (Below.refl w.heap.size w).alloc (Nat.le_refl _) (.cells #[.int .i64 s, .int .i64 t, .int .i64 f, .int .i64 l, .int .i64 p, .int .i64 th, .int .i64 k, .bool true, .int .u64 ep, .int .u64 ck] 30)
  go_enter Tryd.func45, Tryd.ntmps45
  go_wp2_with fail
  refine (C.out _).mono ?_
  rintro e w' ⟨rfl, rfl⟩
  go_wp2_with fail
  go_ret
  exact ⟨rfl, B0⟩
set_option maxHeartbeats 1000000 in
theorem enann_f (s t f l p th k ep ck : Int) (w : World) (he : W64 ep) (hk : W64 ck) :
    Calls Tryd.prog 45 #[.agg #[.int .i64 s, .int .i64 t, .int .i64 f, .int .i64 l, .int .i64 p, .int .i64 th, .int .i64 k, .bool false, .int .u64 ep, .int .u64 ck]] w fun e w' => e = .returned (.int .u64 (amake 1 ep ck)) ∧ Below w.heap.size w w' := by
  have C := hide (fun w2 => amake_any 1 ep ck w2 ⟨by omega, by omega⟩ he hk)
  have B0 := (Below.refl w.heap.size w).alloc (Nat.le_refl _) (.cells #[.int .i64 s, .int .i64 t, .int .i64 f, .int .i64 l, .int .i64 p, .int .i64 th, .int .i64 k, .bool false, .int .u64 ep, .int .u64 ck] 30)
  go_enter Tryd.func45, Tryd.ntmps45
  go_wp2_with fail
  refine (C.out _).mono ?_
  rintro e w' ⟨rfl, rfl⟩
  go_wp2_with fail
  go_ret
  exact ⟨rfl, B0⟩
theorem enann_any (s t f l p th k : Int) (sl : Bool) (ep ck : Int) (w : World) (he : W64 ep) (hk : W64 ck) :
    Calls Tryd.prog 45 #[.agg #[.int .i64 s, .int .i64 t, .int .i64 f, .int .i64 l, .int .i64 p, .int .i64 th, .int .i64 k, .bool sl, .int .u64 ep, .int .u64 ck]] w fun e w' => e = .returned (.int .u64 (amake (if sl = true then 3 else 1) ep ck)) ∧ Below w.heap.size w w' := by
  cases sl
  · exact enann_f s t f l p th k ep ck w he hk
  · exact enann_t s t f l p th k ep ck w he hk
set_option maxHeartbeats 1000000 in
theorem enwant_0 (s t f l p th : Int) (sl : Bool) (ep ck : Int) (w : World) :
    Calls Tryd.prog 14 #[.agg #[.int .i64 s, .int .i64 t, .int .i64 f, .int .i64 l, .int .i64 p, .int .i64 th, .int .i64 0, .bool sl, .int .u64 ep, .int .u64 ck]] w fun e w' => e = .returned (.agg #[.int .i64 0, .int .i64 0, .int .u64 0, .int .u64 0]) ∧ Below w.heap.size w w' := by
  go_enter Tryd.func14, Tryd.ntmps14
  go_wp2_with fail
  refine bodyPost_ret (v := .agg #[.int .i64 0, .int .i64 0, .int .u64 0, .int .u64 0]) (by simp [results, Tryd.results14, go_sem]) rfl ⟨rfl, ?_⟩
  repeat (first | exact Below.refl _ _ | exact B0 | (refine Below.setCell ?_ (by first | (show w.heap.size ≤ w.heap.size; omega) | (show w.heap.size ≤ w.heap.size + 1; omega) | (show w.heap.size ≤ w.heap.size + 2; omega) | (show w.heap.size ≤ _; simp)) _) | (refine Below.alloc ?_ (by first | exact Nat.le_refl _ | (simp <;> omega)) _))
set_option maxHeartbeats 1000000 in
theorem enwant_1 (s t f l p th : Int) (sl : Bool) (ep ck : Int) (w : World) (hs : 1 ≤ s ∧ s ≤ 1000) (ht : 1 ≤ t ∧ t ≤ 64) (hf : 4 ≤ f ∧ f ≤ 64) (hth : 0 ≤ th ∧ th < t) :
    Calls Tryd.prog 14 #[.agg #[.int .i64 s, .int .i64 t, .int .i64 f, .int .i64 l, .int .i64 p, .int .i64 th, .int .i64 1, .bool sl, .int .u64 ep, .int .u64 ck]] w fun e w' => e = .returned (.agg #[.int .i64 1, .int .i64 (3 + th), .int .u64 0, .int .u64 0]) ∧ Below w.heap.size w w' := by
  have C := hide (fun w2 => lann_any s t f l p th w2 hs ht hf)
  rw [atp4 hth] at C
  generalize 3 + th = q at *
  have bx := Blk.new w 30 #[.int .i64 s, .int .i64 t, .int .i64 f, .int .i64 l, .int .i64 p, .int .i64 th, .int .i64 1, .bool sl, .int .u64 ep, .int .u64 ck]
  have B0 := (Below.refl w.heap.size w).alloc (Nat.le_refl _) (.cells #[.int .i64 s, .int .i64 t, .int .i64 f, .int .i64 l, .int .i64 p, .int .i64 th, .int .i64 1, .bool sl, .int .u64 ep, .int .u64 ck] 30)
  have bo := Blk.new (w.alloc (.cells #[.int .i64 s, .int .i64 t, .int .i64 f, .int .i64 l, .int .i64 p, .int .i64 th, .int .i64 1, .bool sl, .int .u64 ep, .int .u64 ck] 30)) 39 #[.int .i64 0, .int .i64 0, .int .u64 0, .int .u64 0]
  replace B0 := B0.alloc B0.size (.cells #[.int .i64 0, .int .i64 0, .int .u64 0, .int .u64 0] 39)
  replace bx := bx.alloc (.cells #[.int .i64 0, .int .i64 0, .int .u64 0, .int .u64 0] 39)
  rw [World.size_alloc] at bo
  go_enter Tryd.func14, Tryd.ntmps14
  go_wp2_with fail
  refine (C.out _).mono ?_
  rintro e w1 ⟨rfl, hb1⟩
  try replace bx := bx.below hb1 bx.lt
  try replace bo := bo.below hb1 bo.lt
  try replace by_ := by_.below hb1 by_.lt
  replace B0 := B0.trans (hb1.mono B0.size)
  clear hb1
  try clear mx lx
  try clear mo lo zo
  try clear my ly zy
  try have mx := fun i => bx.cell i
  try have lx := bx.lt
  try have mo := fun i => bo.cell i
  try have lo := bo.lt
  try have zo := fun i => bo.frozen i
  try have my := fun i => by_.cell i
  try have ly := by_.lt
  try have zy := fun i => by_.frozen i
  go_wp2_with fail
  have b9 := bo.put4 (.int .i64 1) (.int .i64 q) (.int .u64 0) (.int .u64 0)
  have B9 := below_put4 B0 (g := w.heap.size + 1) (by omega) (.int .i64 1) (.int .i64 q) (.int .u64 0) (.int .u64 0)
  have m9 := fun i => b9.cell i
  refine bodyPost_ret (v := .agg #[.int .i64 1, .int .i64 q, .int .u64 0, .int .u64 0]) (by simp [results, Tryd.results14, go_sem, m9]) rfl ⟨rfl, by first | exact B9 | exact B9.drew⟩
set_option maxHeartbeats 1000000 in
theorem enwant_2 (s t f l p th : Int) (sl : Bool) (ep ck : Int) (w : World) (hs : 1 ≤ s ∧ s ≤ 1000) (ht : 1 ≤ t ∧ t ≤ 64) (hf : 4 ≤ f ∧ f ≤ 64) (_hth : 0 ≤ th ∧ th < t) :
    Calls Tryd.prog 14 #[.agg #[.int .i64 s, .int .i64 t, .int .i64 f, .int .i64 l, .int .i64 p, .int .i64 th, .int .i64 2, .bool sl, .int .u64 ep, .int .u64 ck]] w fun e w' => e = .returned (.agg #[.int .i64 1, .int .i64 0, .int .u64 0, .int .u64 0]) ∧ Below w.heap.size w w' := by
  have C := hide (fun w2 => enword_any s t f l p th 2 sl ep ck 1 w2 hs ht hf ⟨by omega, by omega⟩)
  have bx := Blk.new w 30 #[.int .i64 s, .int .i64 t, .int .i64 f, .int .i64 l, .int .i64 p, .int .i64 th, .int .i64 2, .bool sl, .int .u64 ep, .int .u64 ck]
  have B0 := (Below.refl w.heap.size w).alloc (Nat.le_refl _) (.cells #[.int .i64 s, .int .i64 t, .int .i64 f, .int .i64 l, .int .i64 p, .int .i64 th, .int .i64 2, .bool sl, .int .u64 ep, .int .u64 ck] 30)
  have bo := Blk.new (w.alloc (.cells #[.int .i64 s, .int .i64 t, .int .i64 f, .int .i64 l, .int .i64 p, .int .i64 th, .int .i64 2, .bool sl, .int .u64 ep, .int .u64 ck] 30)) 39 #[.int .i64 0, .int .i64 0, .int .u64 0, .int .u64 0]
  replace B0 := B0.alloc B0.size (.cells #[.int .i64 0, .int .i64 0, .int .u64 0, .int .u64 0] 39)
  replace bx := bx.alloc (.cells #[.int .i64 0, .int .i64 0, .int .u64 0, .int .u64 0] 39)
  rw [World.size_alloc] at bo
  go_enter Tryd.func14, Tryd.ntmps14
  go_wp2_with fail
  refine (C.out _).mono ?_
  rintro e w1 ⟨rfl, hb1⟩
  try replace bx := bx.below hb1 bx.lt
  try replace bo := bo.below hb1 bo.lt
  try replace by_ := by_.below hb1 by_.lt
  replace B0 := B0.trans (hb1.mono B0.size)
  clear hb1
  try clear mx lx
  try clear mo lo zo
  try clear my ly zy
  try have mx := fun i => bx.cell i
  try have lx := bx.lt
  try have mo := fun i => bo.cell i
  try have lo := bo.lt
  try have zo := fun i => bo.frozen i
  try have my := fun i => by_.cell i
  try have ly := by_.lt
  try have zy := fun i => by_.frozen i
  go_wp2_with fail
  have b9 := bo.put4 (.int .i64 1) (.int .i64 0) (.int .u64 0) (.int .u64 0)
  have B9 := below_put4 B0 (g := w.heap.size + 1) (by omega) (.int .i64 1) (.int .i64 0) (.int .u64 0) (.int .u64 0)
  have m9 := fun i => b9.cell i
  refine bodyPost_ret (v := .agg #[.int .i64 1, .int .i64 0, .int .u64 0, .int .u64 0]) (by simp [results, Tryd.results14, go_sem, m9]) rfl ⟨rfl, by first | exact B9 | exact B9.drew⟩
set_option maxHeartbeats 1000000 in
theorem enwant_3 (s t f l p th : Int) (sl : Bool) (ep ck : Int) (w : World) (hs : 1 ≤ s ∧ s ≤ 1000) (ht : 1 ≤ t ∧ t ≤ 64) (hf : 4 ≤ f ∧ f ≤ 64) (_hth : 0 ≤ th ∧ th < t) :
    Calls Tryd.prog 14 #[.agg #[.int .i64 s, .int .i64 t, .int .i64 f, .int .i64 l, .int .i64 p, .int .i64 th, .int .i64 3, .bool sl, .int .u64 ep, .int .u64 ck]] w fun e w' => e = .returned (.agg #[.int .i64 1, .int .i64 1, .int .u64 0, .int .u64 0]) ∧ Below w.heap.size w w' := by
  have C := hide (fun w2 => enword_any s t f l p th 3 sl ep ck 2 w2 hs ht hf ⟨by omega, by omega⟩)
  have bx := Blk.new w 30 #[.int .i64 s, .int .i64 t, .int .i64 f, .int .i64 l, .int .i64 p, .int .i64 th, .int .i64 3, .bool sl, .int .u64 ep, .int .u64 ck]
  have B0 := (Below.refl w.heap.size w).alloc (Nat.le_refl _) (.cells #[.int .i64 s, .int .i64 t, .int .i64 f, .int .i64 l, .int .i64 p, .int .i64 th, .int .i64 3, .bool sl, .int .u64 ep, .int .u64 ck] 30)
  have bo := Blk.new (w.alloc (.cells #[.int .i64 s, .int .i64 t, .int .i64 f, .int .i64 l, .int .i64 p, .int .i64 th, .int .i64 3, .bool sl, .int .u64 ep, .int .u64 ck] 30)) 39 #[.int .i64 0, .int .i64 0, .int .u64 0, .int .u64 0]
  replace B0 := B0.alloc B0.size (.cells #[.int .i64 0, .int .i64 0, .int .u64 0, .int .u64 0] 39)
  replace bx := bx.alloc (.cells #[.int .i64 0, .int .i64 0, .int .u64 0, .int .u64 0] 39)
  rw [World.size_alloc] at bo
  go_enter Tryd.func14, Tryd.ntmps14
  go_wp2_with fail
  refine (C.out _).mono ?_
  rintro e w1 ⟨rfl, hb1⟩
  try replace bx := bx.below hb1 bx.lt
  try replace bo := bo.below hb1 bo.lt
  try replace by_ := by_.below hb1 by_.lt
  replace B0 := B0.trans (hb1.mono B0.size)
  clear hb1
  try clear mx lx
  try clear mo lo zo
  try clear my ly zy
  try have mx := fun i => bx.cell i
  try have lx := bx.lt
  try have mo := fun i => bo.cell i
  try have lo := bo.lt
  try have zo := fun i => bo.frozen i
  try have my := fun i => by_.cell i
  try have ly := by_.lt
  try have zy := fun i => by_.frozen i
  go_wp2_with fail
  have b9 := bo.put4 (.int .i64 1) (.int .i64 1) (.int .u64 0) (.int .u64 0)
  have B9 := below_put4 B0 (g := w.heap.size + 1) (by omega) (.int .i64 1) (.int .i64 1) (.int .u64 0) (.int .u64 0)
  have m9 := fun i => b9.cell i
  refine bodyPost_ret (v := .agg #[.int .i64 1, .int .i64 1, .int .u64 0, .int .u64 0]) (by simp [results, Tryd.results14, go_sem, m9]) rfl ⟨rfl, by first | exact B9 | exact B9.drew⟩
set_option maxHeartbeats 1000000 in
theorem endone_0 (s t f l p th : Int) (sl : Bool) (ep ck : Int) (w : World) :
    Calls Tryd.prog 13 #[.agg #[.int .i64 s, .int .i64 t, .int .i64 f, .int .i64 l, .int .i64 p, .int .i64 th, .int .i64 0, .bool sl, .int .u64 ep, .int .u64 ck]] w fun e w' => e = .returned (.tuple #[.bool sl, .bool true]) ∧ Below w.heap.size w w' := by
  have B0 := (Below.refl w.heap.size w).alloc (Nat.le_refl _) (.cells #[.int .i64 s, .int .i64 t, .int .i64 f, .int .i64 l, .int .i64 p, .int .i64 th, .int .i64 0, .bool sl, .int .u64 ep, .int .u64 ck] 30)
  go_enter Tryd.func13, Tryd.ntmps13
  go_wp2_with fail
  go_ret2
  exact ⟨rfl, B0⟩
set_option maxHeartbeats 1000000 in
theorem endone_1 (s t f l p th k : Int) (sl : Bool) (ep ck : Int) (w : World) (hk : (k == 0) = false) :
    Calls Tryd.prog 13 #[.agg #[.int .i64 s, .int .i64 t, .int .i64 f, .int .i64 l, .int .i64 p, .int .i64 th, .int .i64 k, .bool sl, .int .u64 ep, .int .u64 ck]] w fun e w' => e = .returned (.tuple #[.bool false, .bool false]) ∧ Below w.heap.size w w' := by
  have B0 := (Below.refl w.heap.size w).alloc (Nat.le_refl _) (.cells #[.int .i64 s, .int .i64 t, .int .i64 f, .int .i64 l, .int .i64 p, .int .i64 th, .int .i64 k, .bool sl, .int .u64 ep, .int .u64 ck] 30)
  have q : (k != 0) = true := by rw [bne, hk]; rfl
  go_enter Tryd.func13, Tryd.ntmps13
  go_wp2_with fail
  go_ret2
  exact ⟨rfl, B0⟩
set_option maxHeartbeats 1000000 in
theorem rann_any (s t f l p th : Int) (w : World) (hth : 0 ≤ th ∧ th ≤ 1000) :
    Calls Tryd.prog 46 #[.agg #[.int .i64 s, .int .i64 t, .int .i64 f, .int .i64 l, .int .i64 p], .int .i64 th] w fun e w' => e = .returned (.int .i64 (3 + th)) ∧ Below w.heap.size w w' := by
  have B0 := (Below.refl w.heap.size w).alloc (Nat.le_refl _) (.cells #[.int .i64 s, .int .i64 t, .int .i64 f, .int .i64 l, .int .i64 p] 23)
  have h0 : IntKind.i64.wrap (3 + th) = 3 + th := IntWalk.i64_in _ (by omega)
  go_enter Tryd.func46, Tryd.ntmps46
  go_wp2_with fail
  go_ret
  exact ⟨rfl, B0⟩
set_option maxHeartbeats 1000000 in
theorem erwant_0 (s t f l p th : Int) (sl : Bool) (ep ck : Int) (w : World) :
    Calls Tryd.prog 15 #[.agg #[.int .i64 s, .int .i64 t, .int .i64 f, .int .i64 l, .int .i64 p], .agg #[.int .i64 th, .int .i64 0, .bool sl, .int .u64 ep, .int .u64 ck]] w fun e w' => e = .returned (.agg #[.int .i64 0, .int .i64 0, .int .u64 0, .int .u64 0]) ∧ Below w.heap.size w w' := by
  go_enter Tryd.func15, Tryd.ntmps15
  go_wp2_with fail
  refine bodyPost_ret (v := .agg #[.int .i64 0, .int .i64 0, .int .u64 0, .int .u64 0]) (by simp [results, Tryd.results15, go_sem]) rfl ⟨rfl, ?_⟩
  repeat (first | exact Below.refl _ _ | exact B0 | (refine Below.setCell ?_ (by first | (show w.heap.size ≤ w.heap.size; omega) | (show w.heap.size ≤ w.heap.size + 1; omega) | (show w.heap.size ≤ w.heap.size + 2; omega) | (show w.heap.size ≤ _; simp)) _) | (refine Below.alloc ?_ (by first | exact Nat.le_refl _ | (simp <;> omega)) _))
set_option maxHeartbeats 1000000 in
theorem erwant_2 (s t f l p th : Int) (sl : Bool) (ep ck : Int) (w : World) :
    Calls Tryd.prog 15 #[.agg #[.int .i64 s, .int .i64 t, .int .i64 f, .int .i64 l, .int .i64 p], .agg #[.int .i64 th, .int .i64 2, .bool sl, .int .u64 ep, .int .u64 ck]] w fun e w' => e = .returned (.agg #[.int .i64 1, .int .i64 0, .int .u64 0, .int .u64 0]) ∧ Below w.heap.size w w' := by
  go_enter Tryd.func15, Tryd.ntmps15
  go_wp2_with fail
  refine bodyPost_ret (v := .agg #[.int .i64 1, .int .i64 0, .int .u64 0, .int .u64 0]) (by simp [results, Tryd.results15, go_sem]) rfl ⟨rfl, ?_⟩
  repeat (first | exact Below.refl _ _ | exact B0 | (refine Below.setCell ?_ (by first | (show w.heap.size ≤ w.heap.size; omega) | (show w.heap.size ≤ w.heap.size + 1; omega) | (show w.heap.size ≤ w.heap.size + 2; omega) | (show w.heap.size ≤ _; simp)) _) | (refine Below.alloc ?_ (by first | exact Nat.le_refl _ | (simp <;> omega)) _))
set_option maxHeartbeats 1000000 in
theorem erwant_3 (s t f l p th : Int) (sl : Bool) (ep ck : Int) (w : World) :
    Calls Tryd.prog 15 #[.agg #[.int .i64 s, .int .i64 t, .int .i64 f, .int .i64 l, .int .i64 p], .agg #[.int .i64 th, .int .i64 3, .bool sl, .int .u64 ep, .int .u64 ck]] w fun e w' => e = .returned (.agg #[.int .i64 1, .int .i64 1, .int .u64 0, .int .u64 0]) ∧ Below w.heap.size w w' := by
  go_enter Tryd.func15, Tryd.ntmps15
  go_wp2_with fail
  refine bodyPost_ret (v := .agg #[.int .i64 1, .int .i64 1, .int .u64 0, .int .u64 0]) (by simp [results, Tryd.results15, go_sem]) rfl ⟨rfl, ?_⟩
  repeat (first | exact Below.refl _ _ | exact B0 | (refine Below.setCell ?_ (by first | (show w.heap.size ≤ w.heap.size; omega) | (show w.heap.size ≤ w.heap.size + 1; omega) | (show w.heap.size ≤ w.heap.size + 2; omega) | (show w.heap.size ≤ _; simp)) _) | (refine Below.alloc ?_ (by first | exact Nat.le_refl _ | (simp <;> omega)) _))
set_option maxHeartbeats 1000000 in
theorem erwant_1 (s t f l p th : Int) (sl : Bool) (ep ck : Int) (w : World) (hth : 0 ≤ th ∧ th ≤ 1000) :
    Calls Tryd.prog 15 #[.agg #[.int .i64 s, .int .i64 t, .int .i64 f, .int .i64 l, .int .i64 p], .agg #[.int .i64 th, .int .i64 1, .bool sl, .int .u64 ep, .int .u64 ck]] w fun e w' => e = .returned (.agg #[.int .i64 1, .int .i64 (3 + th), .int .u64 0, .int .u64 0]) ∧ Below w.heap.size w w' := by
  have C := hide (fun w2 => rann_any s t f l p th w2 hth)
  generalize 3 + th = q at *
  have bx := Blk.new w 23 #[.int .i64 s, .int .i64 t, .int .i64 f, .int .i64 l, .int .i64 p]
  have B0 := (Below.refl w.heap.size w).alloc (Nat.le_refl _) (.cells #[.int .i64 s, .int .i64 t, .int .i64 f, .int .i64 l, .int .i64 p] 23)
  have by_ := Blk.new (w.alloc (.cells #[.int .i64 s, .int .i64 t, .int .i64 f, .int .i64 l, .int .i64 p] 23)) 34 #[.int .i64 th, .int .i64 1, .bool sl, .int .u64 ep, .int .u64 ck]
  replace B0 := B0.alloc B0.size (.cells #[.int .i64 th, .int .i64 1, .bool sl, .int .u64 ep, .int .u64 ck] 34)
  replace bx := bx.alloc (.cells #[.int .i64 th, .int .i64 1, .bool sl, .int .u64 ep, .int .u64 ck] 34)
  have bo := Blk.new ((w.alloc (.cells #[.int .i64 s, .int .i64 t, .int .i64 f, .int .i64 l, .int .i64 p] 23)).alloc (.cells #[.int .i64 th, .int .i64 1, .bool sl, .int .u64 ep, .int .u64 ck] 34)) 39 #[.int .i64 0, .int .i64 0, .int .u64 0, .int .u64 0]
  replace B0 := B0.alloc B0.size (.cells #[.int .i64 0, .int .i64 0, .int .u64 0, .int .u64 0] 39)
  replace bx := bx.alloc (.cells #[.int .i64 0, .int .i64 0, .int .u64 0, .int .u64 0] 39)
  replace by_ := by_.alloc (.cells #[.int .i64 0, .int .i64 0, .int .u64 0, .int .u64 0] 39)
  rw [World.size_alloc] at by_ bo
  rw [World.size_alloc] at bo
  go_enter Tryd.func15, Tryd.ntmps15
  go_wp2_with fail
  refine (C.out _).mono ?_
  rintro e w1 ⟨rfl, hb1⟩
  try replace bx := bx.below hb1 bx.lt
  try replace bo := bo.below hb1 bo.lt
  try replace by_ := by_.below hb1 by_.lt
  replace B0 := B0.trans (hb1.mono B0.size)
  clear hb1
  try clear mx lx
  try clear mo lo zo
  try clear my ly zy
  try have mx := fun i => bx.cell i
  try have lx := bx.lt
  try have mo := fun i => bo.cell i
  try have lo := bo.lt
  try have zo := fun i => bo.frozen i
  try have my := fun i => by_.cell i
  try have ly := by_.lt
  try have zy := fun i => by_.frozen i
  go_wp2_with fail
  have b9 := bo.put4 (.int .i64 1) (.int .i64 q) (.int .u64 0) (.int .u64 0)
  have B9 := below_put4 B0 (g := w.heap.size + 1 + 1) (by omega) (.int .i64 1) (.int .i64 q) (.int .u64 0) (.int .u64 0)
  have m9 := fun i => b9.cell i
  refine bodyPost_ret (v := .agg #[.int .i64 1, .int .i64 q, .int .u64 0, .int .u64 0]) (by simp [results, Tryd.results15, go_sem, m9]) rfl ⟨rfl, by first | exact B9 | exact B9.drew⟩
end Go.Proofs.YthmkhcmgpkngmaaDoor
