/-
  What a Push wants; the reference's Push.
-/
import Derived.Test.YthmkhcmgpkngmaaDoorPsh
import Derived.Test.YthmkhcmgpkngmaaDoorStkD
import Derived.Test.YthmkhcmgpkngmaaDoorLayH
import Derived.Deep.RegionHeld3
import Derived.Deep.RegionWith
namespace Go.Proofs.YthmkhcmgpkngmaaDoor
open Go.RowKit
attribute [local go_sem] past_cell past_cell_add

set_option maxRecDepth 100000 in
set_option maxHeartbeats 2000000 in
theorem pswant_1 (s t f l p sl hd tr : Int) (w : World) (hs : 1 ≤ s ∧ s ≤ 1000) (ht : 1 ≤ t ∧ t ≤ 64) (hf : 4 ≤ f ∧ f ≤ 64) :
    Calls Tryd.prog 36 #[.agg #[.int .i64 s, .int .i64 t, .int .i64 f, .int .i64 l, .int .i64 p, .int .i64 1, .int .i64 sl, .int .u64 hd, .int .i64 tr]] w fun e w' => e = .returned (.agg #[.int .i64 1, .int .i64 2, .int .u64 0, .int .u64 0]) ∧ Below w.heap.size w w' := by
  have C := hide (fun w2 => headAt_any s t f l p sl hd tr 1 w2 hs ht hf)
  have D := hide (fun w2 => sload_any 2 w2)
  have hmf : ∀ (fn : Fn) (first cap : Array Value) (w : World), (Instr.makeFunc fn first cap).run Tryd.prog w = .ok (.func fn first cap) w := fun _ _ _ _ => rfl
  have bx := Blk.new w 70 #[.int .i64 s, .int .i64 t, .int .i64 f, .int .i64 l, .int .i64 p, .int .i64 1, .int .i64 sl, .int .u64 hd, .int .i64 tr]
  have B0 := (Below.refl w.heap.size w).alloc (Nat.le_refl _) (.cells #[.int .i64 s, .int .i64 t, .int .i64 f, .int .i64 l, .int .i64 p, .int .i64 1, .int .i64 sl, .int .u64 hd, .int .i64 tr] 70)
  have bo := Blk.new (w.alloc (.cells #[.int .i64 s, .int .i64 t, .int .i64 f, .int .i64 l, .int .i64 p, .int .i64 1, .int .i64 sl, .int .u64 hd, .int .i64 tr] 70)) 39 #[.int .i64 0, .int .i64 0, .int .u64 0, .int .u64 0]
  replace B0 := B0.alloc B0.size (.cells #[.int .i64 0, .int .i64 0, .int .u64 0, .int .u64 0] 39)
  replace bx := bx.alloc (.cells #[.int .i64 0, .int .i64 0, .int .u64 0, .int .u64 0] 39)
  rw [World.size_alloc] at bo
  go_enter Tryd.func36, Tryd.ntmps36
  go_wp2_with fail
  refine (C.out _).mono ?_
  rintro e w1 ⟨rfl, hb1⟩
  try replace bx := bx.below hb1 bx.lt
  try replace bo := bo.below hb1 bo.lt
  try replace by_ := by_.below hb1 by_.lt
  replace B0 := B0.trans (hb1.mono B0.size)
  clear hb1
  try clear mx lx
  try clear mo lo zo
  try clear my ly zy
  try have mx := fun i => bx.cell i
  try have lx := bx.lt
  try have mo := fun i => bo.cell i
  try have lo := bo.lt
  try have zo := fun i => bo.frozen i
  try have my := fun i => by_.cell i
  try have ly := by_.lt
  try have zy := fun i => by_.frozen i
  go_wp2_with fail
  refine (D.out _).mono ?_
  rintro e w2 ⟨rfl, hb1⟩
  try replace bx := bx.below hb1 bx.lt
  try replace bo := bo.below hb1 bo.lt
  try replace by_ := by_.below hb1 by_.lt
  replace B0 := B0.trans (hb1.mono B0.size)
  clear hb1
  try clear mx lx
  try clear mo lo zo
  try clear my ly zy
  try have mx := fun i => bx.cell i
  try have lx := bx.lt
  try have mo := fun i => bo.cell i
  try have lo := bo.lt
  try have zo := fun i => bo.frozen i
  try have my := fun i => by_.cell i
  try have ly := by_.lt
  try have zy := fun i => by_.frozen i
  go_wp2_with fail
  have b9 := bo.put4 (.int .i64 1) (.int .i64 2) (.int .u64 0) (.int .u64 0)
  have B9 := below_put4 B0 (g := w.heap.size + 1) (by omega) (.int .i64 1) (.int .i64 2) (.int .u64 0) (.int .u64 0)
  have m9 := fun i => b9.cell i
  refine bodyPost_ret (v := .agg #[.int .i64 1, .int .i64 2, .int .u64 0, .int .u64 0]) (by simp [results, Tryd.results36, go_sem, m9]) rfl ⟨rfl, by first | exact B9 | exact B9.drew⟩
set_option maxRecDepth 100000 in
set_option maxHeartbeats 2000000 in
theorem pswant_3 (s t f l p sl hd tr : Int) (w : World) (hs : 1 ≤ s ∧ s ≤ 1000) (ht : 1 ≤ t ∧ t ≤ 64) (hf : 4 ≤ f ∧ f ≤ 64) (hh : W64 hd) (hsl : 1 ≤ sl ∧ sl ≤ s) :
    Calls Tryd.prog 36 #[.agg #[.int .i64 s, .int .i64 t, .int .i64 f, .int .i64 l, .int .i64 p, .int .i64 3, .int .i64 sl, .int .u64 hd, .int .i64 tr]] w fun e w' => e = .returned (.agg #[.int .i64 3, .int .i64 2, .int .u64 hd, .int .u64 (hturn hd sl)]) ∧ Below w.heap.size w w' := by
  have C := hide (fun w2 => swap_any s t f l p sl hd tr 3 sl w2 hs ht hf hh ⟨by omega, by omega⟩)
  generalize hturn hd sl = y at *
  have hmf : ∀ (fn : Fn) (first cap : Array Value) (w : World), (Instr.makeFunc fn first cap).run Tryd.prog w = .ok (.func fn first cap) w := fun _ _ _ _ => rfl
  have bx := Blk.new w 70 #[.int .i64 s, .int .i64 t, .int .i64 f, .int .i64 l, .int .i64 p, .int .i64 3, .int .i64 sl, .int .u64 hd, .int .i64 tr]
  have B0 := (Below.refl w.heap.size w).alloc (Nat.le_refl _) (.cells #[.int .i64 s, .int .i64 t, .int .i64 f, .int .i64 l, .int .i64 p, .int .i64 3, .int .i64 sl, .int .u64 hd, .int .i64 tr] 70)
  have bo := Blk.new (w.alloc (.cells #[.int .i64 s, .int .i64 t, .int .i64 f, .int .i64 l, .int .i64 p, .int .i64 3, .int .i64 sl, .int .u64 hd, .int .i64 tr] 70)) 39 #[.int .i64 0, .int .i64 0, .int .u64 0, .int .u64 0]
  replace B0 := B0.alloc B0.size (.cells #[.int .i64 0, .int .i64 0, .int .u64 0, .int .u64 0] 39)
  replace bx := bx.alloc (.cells #[.int .i64 0, .int .i64 0, .int .u64 0, .int .u64 0] 39)
  rw [World.size_alloc] at bo
  go_enter Tryd.func36, Tryd.ntmps36
  go_wp2_with fail
  refine (C.out _).mono ?_
  rintro e w1 ⟨rfl, hb1⟩
  try replace bx := bx.below hb1 bx.lt
  try replace bo := bo.below hb1 bo.lt
  try replace by_ := by_.below hb1 by_.lt
  replace B0 := B0.trans (hb1.mono B0.size)
  clear hb1
  try clear mx lx
  try clear mo lo zo
  try clear my ly zy
  try have mx := fun i => bx.cell i
  try have lx := bx.lt
  try have mo := fun i => bo.cell i
  try have lo := bo.lt
  try have zo := fun i => bo.frozen i
  try have my := fun i => by_.cell i
  try have ly := by_.lt
  try have zy := fun i => by_.frozen i
  go_wp2_with fail
  have b9 := bo.put4 (.int .i64 3) (.int .i64 2) (.int .u64 hd) (.int .u64 y)
  have B9 := below_put4 B0 (g := w.heap.size + 1) (by omega) (.int .i64 3) (.int .i64 2) (.int .u64 hd) (.int .u64 y)
  have m9 := fun i => b9.cell i
  refine bodyPost_ret (v := .agg #[.int .i64 3, .int .i64 2, .int .u64 hd, .int .u64 y]) (by simp [results, Tryd.results36, go_sem, m9]) rfl ⟨rfl, by first | exact B9 | exact B9.drew⟩
set_option maxRecDepth 100000 in
set_option maxHeartbeats 2000000 in
theorem pswant_2 (s t f l p sl hd tr : Int) (w : World) (hs : 1 ≤ s ∧ s ≤ 1000) (ht : 1 ≤ t ∧ t ≤ 64) (hf : 4 ≤ f ∧ f ≤ 64) (hh : W64 hd) (hsl : 1 ≤ sl ∧ sl ≤ s) :
    Calls Tryd.prog 36 #[.agg #[.int .i64 s, .int .i64 t, .int .i64 f, .int .i64 l, .int .i64 p, .int .i64 2, .int .i64 sl, .int .u64 hd, .int .i64 tr]] w fun e w' => e = .returned (.agg #[.int .i64 2, .int .i64 (3 + 3 * t + sl * (3 + 2 * f) + 2), .int .u64 0, .int .u64 (hd % 65536)]) ∧ Below w.heap.size w w' := by
  have C := hide (fun w2 => llnk_any s t f l p sl w2 hs ht hf)
  rw [atp8 (by omega)] at C
  have M := hide (fun w2 => htell_slot hd w2 hh)
  have e1 : IntKind.u64.wrap (hd % 65536) = hd % 65536 := IntWalk.u64_in _ (by omega)
  generalize hd % 65536 = y at *
  generalize 3 + 3 * t + sl * (3 + 2 * f) + 2 = q at *
  have hmf : ∀ (fn : Fn) (first cap : Array Value) (w : World), (Instr.makeFunc fn first cap).run Tryd.prog w = .ok (.func fn first cap) w := fun _ _ _ _ => rfl
  have bx := Blk.new w 70 #[.int .i64 s, .int .i64 t, .int .i64 f, .int .i64 l, .int .i64 p, .int .i64 2, .int .i64 sl, .int .u64 hd, .int .i64 tr]
  have B0 := (Below.refl w.heap.size w).alloc (Nat.le_refl _) (.cells #[.int .i64 s, .int .i64 t, .int .i64 f, .int .i64 l, .int .i64 p, .int .i64 2, .int .i64 sl, .int .u64 hd, .int .i64 tr] 70)
  have bo := Blk.new (w.alloc (.cells #[.int .i64 s, .int .i64 t, .int .i64 f, .int .i64 l, .int .i64 p, .int .i64 2, .int .i64 sl, .int .u64 hd, .int .i64 tr] 70)) 39 #[.int .i64 0, .int .i64 0, .int .u64 0, .int .u64 0]
  replace B0 := B0.alloc B0.size (.cells #[.int .i64 0, .int .i64 0, .int .u64 0, .int .u64 0] 39)
  replace bx := bx.alloc (.cells #[.int .i64 0, .int .i64 0, .int .u64 0, .int .u64 0] 39)
  rw [World.size_alloc] at bo
  go_enter Tryd.func36, Tryd.ntmps36
  go_wp2_with fail
  generalize (w.alloc (.cells #[.int .i64 s, .int .i64 t, .int .i64 f, .int .i64 l, .int .i64 p, .int .i64 2, .int .i64 sl, .int .u64 hd, .int .i64 tr] 70)).alloc (.cells #[.int .i64 0, .int .i64 0, .int .u64 0, .int .u64 0] 39) = w0 at *
  have bd := bx.drewN 1
  have od := bo.drewN 1
  have Bd := below_drewN B0 1
  try clear mx lx
  try clear mo lo zo
  try clear my ly zy
  try have mx := fun i => bx.cell i
  try have lx := bx.lt
  try have mo := fun i => bo.cell i
  try have lo := bo.lt
  try have zo := fun i => bo.frozen i
  try have my := fun i => by_.cell i
  try have ly := by_.lt
  try have zy := fun i => by_.frozen i
  go_region_held3 (fun w' => w'.cell? ⟨w.heap.size, 0, none⟩ = some (.int .i64 s) ∧ w'.cell? ⟨w.heap.size, 1, none⟩ = some (.int .i64 t) ∧ w'.cell? ⟨w.heap.size, 2, none⟩ = some (.int .i64 f) ∧ w'.cell? ⟨w.heap.size, 3, none⟩ = some (.int .i64 l) ∧ w'.cell? ⟨w.heap.size, 4, none⟩ = some (.int .i64 p) ∧ w'.cell? ⟨w.heap.size, 5, none⟩ = some (.int .i64 2) ∧ w'.cell? ⟨w.heap.size, 6, none⟩ = some (.int .i64 sl) ∧ w'.cell? ⟨w.heap.size, 7, none⟩ = some (.int .u64 hd) ∧ w'.cell? ⟨w.heap.size, 8, none⟩ = some (.int .i64 tr)) (go_keep) ((first | (go_at_call 55; refine (C.out _).mono ?_; rintro e w1 ⟨rfl, hb1⟩; have bd := bd.below hb1 bd.lt; have od := od.below hb1 od.lt; have Bd := Bd.trans (hb1.mono Bd.size); have md := fun i => bd.cell i; have nd := fun i => od.cell i; have zd := fun i => od.frozen i; have ld := bd.lt; have kd := od.lt) | (go_at_call 59; refine (M.out _).mono ?_; rintro e w1 ⟨rfl, hb1⟩; have bd := bd.below hb1 bd.lt; have od := od.below hb1 od.lt; have Bd := Bd.trans (hb1.mono Bd.size); have md := fun i => bd.cell i; have nd := fun i => od.cell i; have zd := fun i => od.frozen i; have ld := bd.lt; have kd := od.lt)))
  all_goals
    go_wp2_with fail
    have b9 := od.put4 (.int .i64 2) (.int .i64 q) (.int .u64 0) (.int .u64 y)
    have B9 := below_put4 Bd (g := w.heap.size + 1) (by omega) (.int .i64 2) (.int .i64 q) (.int .u64 0) (.int .u64 y)
    have m9 := fun i => b9.cell i
    refine bodyPost_ret (v := .agg #[.int .i64 2, .int .i64 q, .int .u64 0, .int .u64 y]) (by simp [results, Tryd.results36, go_sem, m9]) rfl ⟨rfl, B9⟩
set_option maxRecDepth 100000 in
set_option maxHeartbeats 2000000 in
theorem psdone_1 (s t f l p sl hd tr k : Int) (w : World) (hk : (k == 0) = false) :
    Calls Tryd.prog 35 #[.agg #[.int .i64 s, .int .i64 t, .int .i64 f, .int .i64 l, .int .i64 p, .int .i64 k, .int .i64 sl, .int .u64 hd, .int .i64 tr]] w fun e w' => e = .returned (.bool false) ∧ Below w.heap.size w w' := by
  have bx := Blk.new w 70 #[.int .i64 s, .int .i64 t, .int .i64 f, .int .i64 l, .int .i64 p, .int .i64 k, .int .i64 sl, .int .u64 hd, .int .i64 tr]
  have B0 := (Below.refl w.heap.size w).alloc (Nat.le_refl _) (.cells #[.int .i64 s, .int .i64 t, .int .i64 f, .int .i64 l, .int .i64 p, .int .i64 k, .int .i64 sl, .int .u64 hd, .int .i64 tr] 70)
  go_enter Tryd.func35, Tryd.ntmps35
  go_wp2_with fail
  go_ret
  exact ⟨rfl, B0⟩
set_option maxRecDepth 100000 in
set_option maxHeartbeats 2000000 in
theorem pstries_any (s t f l p sl hd tr k : Int) (w : World)  :
    Calls Tryd.prog 39 #[.agg #[.int .i64 s, .int .i64 t, .int .i64 f, .int .i64 l, .int .i64 p, .int .i64 k, .int .i64 sl, .int .u64 hd, .int .i64 tr]] w fun e w' => e = .returned (.int .i64 tr) ∧ Below w.heap.size w w' := by
  have bx := Blk.new w 70 #[.int .i64 s, .int .i64 t, .int .i64 f, .int .i64 l, .int .i64 p, .int .i64 k, .int .i64 sl, .int .u64 hd, .int .i64 tr]
  have B0 := (Below.refl w.heap.size w).alloc (Nat.le_refl _) (.cells #[.int .i64 s, .int .i64 t, .int .i64 f, .int .i64 l, .int .i64 p, .int .i64 k, .int .i64 sl, .int .u64 hd, .int .i64 tr] 70)
  go_enter Tryd.func39, Tryd.ntmps39
  go_wp2_with fail
  go_ret
  exact ⟨rfl, B0⟩
set_option maxRecDepth 100000 in
set_option maxHeartbeats 2000000 in
theorem rsnew_yes (s t f l p n : Int) (w : World) (hc : cfgOk s t f l p = true) (h0 : 1 ≤ n) (h1 : n ≤ s) :
    Calls Tryd.prog 37 #[.agg #[.int .i64 s, .int .i64 t, .int .i64 f, .int .i64 l, .int .i64 p], .int .i64 n] w fun e w' => e = .returned (.agg #[.int .i64 1, .int .u64 0, .int .i64 n, .int .i64 0]) ∧ Below w.heap.size w w' := by
  have hw : wrg s t f l p < 0 := by
    have := wrg_ok (s := s) (t := t) (f := f) (l := l) (p := p)
    rw [hc] at this
    simpa using this.symm
  clear hc
  have C := hide (fun w2 => wrong_any s t f l p w2)
  generalize wrg s t f l p = r at *
  have h2 : ¬ n < 1 := by omega
  have h3 : ¬ s < n := by omega
  have bx := Blk.new w 23 #[.int .i64 s, .int .i64 t, .int .i64 f, .int .i64 l, .int .i64 p]
  have B0 := (Below.refl w.heap.size w).alloc (Nat.le_refl _) (.cells #[.int .i64 s, .int .i64 t, .int .i64 f, .int .i64 l, .int .i64 p] 23)
  have bo := Blk.new (w.alloc (.cells #[.int .i64 s, .int .i64 t, .int .i64 f, .int .i64 l, .int .i64 p] 23)) 75 #[.int .i64 0, .int .u64 0, .int .i64 0, .int .i64 0]
  replace B0 := B0.alloc B0.size (.cells #[.int .i64 0, .int .u64 0, .int .i64 0, .int .i64 0] 75)
  replace bx := bx.alloc (.cells #[.int .i64 0, .int .u64 0, .int .i64 0, .int .i64 0] 75)
  rw [World.size_alloc] at bo
  go_enter Tryd.func37, Tryd.ntmps37
  go_wp2_with fail
  refine (C.out _).mono ?_
  rintro e w1 ⟨rfl, hb1⟩
  try replace bx := bx.below hb1 bx.lt
  try replace bo := bo.below hb1 bo.lt
  try replace by_ := by_.below hb1 by_.lt
  replace B0 := B0.trans (hb1.mono B0.size)
  clear hb1
  try clear mx lx
  try clear mo lo zo
  try clear my ly zy
  try have mx := fun i => bx.cell i
  try have lx := bx.lt
  try have mo := fun i => bo.cell i
  try have lo := bo.lt
  try have zo := fun i => bo.frozen i
  try have my := fun i => by_.cell i
  try have ly := by_.lt
  try have zy := fun i => by_.frozen i
  go_wp2_with fail
  have b9 := bo.put4 (.int .i64 1) (.int .u64 0) (.int .i64 n) (.int .i64 0)
  have B9 := below_put4 B0 (g := w.heap.size + 1) (by omega) (.int .i64 1) (.int .u64 0) (.int .i64 n) (.int .i64 0)
  have m9 := fun i => b9.cell i
  refine bodyPost_ret (v := .agg #[.int .i64 1, .int .u64 0, .int .i64 n, .int .i64 0]) (by simp [results, Tryd.results37, go_sem, m9]) rfl ⟨rfl, by first | exact B9 | exact B9.drew⟩
set_option maxRecDepth 100000 in
set_option maxHeartbeats 2000000 in
theorem rsnew_lo (s t f l p n : Int) (w : World) (hc : cfgOk s t f l p = true) (h0 : n < 1) :
    Calls Tryd.prog 37 #[.agg #[.int .i64 s, .int .i64 t, .int .i64 f, .int .i64 l, .int .i64 p], .int .i64 n] w fun e w' => e = .returned (.agg #[.int .i64 0, .int .u64 0, .int .i64 0, .int .i64 0]) ∧ Below w.heap.size w w' := by
  have hw : wrg s t f l p < 0 := by
    have := wrg_ok (s := s) (t := t) (f := f) (l := l) (p := p)
    rw [hc] at this
    simpa using this.symm
  clear hc
  have C := hide (fun w2 => wrong_any s t f l p w2)
  generalize wrg s t f l p = r at *
  have bx := Blk.new w 23 #[.int .i64 s, .int .i64 t, .int .i64 f, .int .i64 l, .int .i64 p]
  have B0 := (Below.refl w.heap.size w).alloc (Nat.le_refl _) (.cells #[.int .i64 s, .int .i64 t, .int .i64 f, .int .i64 l, .int .i64 p] 23)
  have bo := Blk.new (w.alloc (.cells #[.int .i64 s, .int .i64 t, .int .i64 f, .int .i64 l, .int .i64 p] 23)) 75 #[.int .i64 0, .int .u64 0, .int .i64 0, .int .i64 0]
  replace B0 := B0.alloc B0.size (.cells #[.int .i64 0, .int .u64 0, .int .i64 0, .int .i64 0] 75)
  replace bx := bx.alloc (.cells #[.int .i64 0, .int .u64 0, .int .i64 0, .int .i64 0] 75)
  rw [World.size_alloc] at bo
  go_enter Tryd.func37, Tryd.ntmps37
  go_wp2_with fail
  refine (C.out _).mono ?_
  rintro e w1 ⟨rfl, hb1⟩
  try replace bx := bx.below hb1 bx.lt
  try replace bo := bo.below hb1 bo.lt
  try replace by_ := by_.below hb1 by_.lt
  replace B0 := B0.trans (hb1.mono B0.size)
  clear hb1
  try clear mx lx
  try clear mo lo zo
  try clear my ly zy
  try have mx := fun i => bx.cell i
  try have lx := bx.lt
  try have mo := fun i => bo.cell i
  try have lo := bo.lt
  try have zo := fun i => bo.frozen i
  try have my := fun i => by_.cell i
  try have ly := by_.lt
  try have zy := fun i => by_.frozen i
  go_wp2_with fail
  have b9 := bo.put4 (.int .i64 0) (.int .u64 0) (.int .i64 0) (.int .i64 0)
  have B9 := below_put4 B0 (g := w.heap.size + 1) (by omega) (.int .i64 0) (.int .u64 0) (.int .i64 0) (.int .i64 0)
  have m9 := fun i => b9.cell i
  refine bodyPost_ret (v := .agg #[.int .i64 0, .int .u64 0, .int .i64 0, .int .i64 0]) (by simp [results, Tryd.results37, go_sem, m9]) rfl ⟨rfl, by first | exact B9 | exact B9.drew⟩
set_option maxRecDepth 100000 in
set_option maxHeartbeats 2000000 in
theorem rsnew_hi (s t f l p n : Int) (w : World) (hc : cfgOk s t f l p = true) (h0 : 1 ≤ n) (h1 : s < n) :
    Calls Tryd.prog 37 #[.agg #[.int .i64 s, .int .i64 t, .int .i64 f, .int .i64 l, .int .i64 p], .int .i64 n] w fun e w' => e = .returned (.agg #[.int .i64 0, .int .u64 0, .int .i64 0, .int .i64 0]) ∧ Below w.heap.size w w' := by
  have hw : wrg s t f l p < 0 := by
    have := wrg_ok (s := s) (t := t) (f := f) (l := l) (p := p)
    rw [hc] at this
    simpa using this.symm
  clear hc
  have C := hide (fun w2 => wrong_any s t f l p w2)
  generalize wrg s t f l p = r at *
  have h2 : ¬ n < 1 := by omega
  have bx := Blk.new w 23 #[.int .i64 s, .int .i64 t, .int .i64 f, .int .i64 l, .int .i64 p]
  have B0 := (Below.refl w.heap.size w).alloc (Nat.le_refl _) (.cells #[.int .i64 s, .int .i64 t, .int .i64 f, .int .i64 l, .int .i64 p] 23)
  have bo := Blk.new (w.alloc (.cells #[.int .i64 s, .int .i64 t, .int .i64 f, .int .i64 l, .int .i64 p] 23)) 75 #[.int .i64 0, .int .u64 0, .int .i64 0, .int .i64 0]
  replace B0 := B0.alloc B0.size (.cells #[.int .i64 0, .int .u64 0, .int .i64 0, .int .i64 0] 75)
  replace bx := bx.alloc (.cells #[.int .i64 0, .int .u64 0, .int .i64 0, .int .i64 0] 75)
  rw [World.size_alloc] at bo
  go_enter Tryd.func37, Tryd.ntmps37
  go_wp2_with fail
  refine (C.out _).mono ?_
  rintro e w1 ⟨rfl, hb1⟩
  try replace bx := bx.below hb1 bx.lt
  try replace bo := bo.below hb1 bo.lt
  try replace by_ := by_.below hb1 by_.lt
  replace B0 := B0.trans (hb1.mono B0.size)
  clear hb1
  try clear mx lx
  try clear mo lo zo
  try clear my ly zy
  try have mx := fun i => bx.cell i
  try have lx := bx.lt
  try have mo := fun i => bo.cell i
  try have lo := bo.lt
  try have zo := fun i => bo.frozen i
  try have my := fun i => by_.cell i
  try have ly := by_.lt
  try have zy := fun i => by_.frozen i
  go_wp2_with fail
  have b9 := bo.put4 (.int .i64 0) (.int .u64 0) (.int .i64 0) (.int .i64 0)
  have B9 := below_put4 B0 (g := w.heap.size + 1) (by omega) (.int .i64 0) (.int .u64 0) (.int .i64 0) (.int .i64 0)
  have m9 := fun i => b9.cell i
  refine bodyPost_ret (v := .agg #[.int .i64 0, .int .u64 0, .int .i64 0, .int .i64 0]) (by simp [results, Tryd.results37, go_sem, m9]) rfl ⟨rfl, by first | exact B9 | exact B9.drew⟩
set_option maxRecDepth 100000 in
set_option maxHeartbeats 2000000 in
theorem rsnew_no (s t f l p n : Int) (w : World) (hc : cfgOk s t f l p = false) :
    Calls Tryd.prog 37 #[.agg #[.int .i64 s, .int .i64 t, .int .i64 f, .int .i64 l, .int .i64 p], .int .i64 n] w fun e w' => e = .returned (.agg #[.int .i64 0, .int .u64 0, .int .i64 0, .int .i64 0]) ∧ Below w.heap.size w w' := by
  have hw : 0 ≤ wrg s t f l p := by
    have := wrg_ok (s := s) (t := t) (f := f) (l := l) (p := p)
    rw [hc] at this
    have h2 : ¬ wrg s t f l p < 0 := by simpa using this.symm
    omega
  clear hc
  have C := hide (fun w2 => wrong_any s t f l p w2)
  generalize wrg s t f l p = r at *
  have bx := Blk.new w 23 #[.int .i64 s, .int .i64 t, .int .i64 f, .int .i64 l, .int .i64 p]
  have B0 := (Below.refl w.heap.size w).alloc (Nat.le_refl _) (.cells #[.int .i64 s, .int .i64 t, .int .i64 f, .int .i64 l, .int .i64 p] 23)
  have bo := Blk.new (w.alloc (.cells #[.int .i64 s, .int .i64 t, .int .i64 f, .int .i64 l, .int .i64 p] 23)) 75 #[.int .i64 0, .int .u64 0, .int .i64 0, .int .i64 0]
  replace B0 := B0.alloc B0.size (.cells #[.int .i64 0, .int .u64 0, .int .i64 0, .int .i64 0] 75)
  replace bx := bx.alloc (.cells #[.int .i64 0, .int .u64 0, .int .i64 0, .int .i64 0] 75)
  rw [World.size_alloc] at bo
  go_enter Tryd.func37, Tryd.ntmps37
  go_wp2_with fail
  refine (C.out _).mono ?_
  rintro e w1 ⟨rfl, hb1⟩
  try replace bx := bx.below hb1 bx.lt
  try replace bo := bo.below hb1 bo.lt
  try replace by_ := by_.below hb1 by_.lt
  replace B0 := B0.trans (hb1.mono B0.size)
  clear hb1
  try clear mx lx
  try clear mo lo zo
  try clear my ly zy
  try have mx := fun i => bx.cell i
  try have lx := bx.lt
  try have mo := fun i => bo.cell i
  try have lo := bo.lt
  try have zo := fun i => bo.frozen i
  try have my := fun i => by_.cell i
  try have ly := by_.lt
  try have zy := fun i => by_.frozen i
  go_wp2_with fail
  have b9 := bo.put4 (.int .i64 0) (.int .u64 0) (.int .i64 0) (.int .i64 0)
  have B9 := below_put4 B0 (g := w.heap.size + 1) (by omega) (.int .i64 0) (.int .u64 0) (.int .i64 0) (.int .i64 0)
  have m9 := fun i => b9.cell i
  refine bodyPost_ret (v := .agg #[.int .i64 0, .int .u64 0, .int .i64 0, .int .i64 0]) (by simp [results, Tryd.results37, go_sem, m9]) rfl ⟨rfl, by first | exact B9 | exact B9.drew⟩
set_option maxRecDepth 100000 in
set_option maxHeartbeats 2000000 in
theorem rswant_0 (s t f l p sl hd tr : Int) (w : World)  :
    Calls Tryd.prog 38 #[.agg #[.int .i64 s, .int .i64 t, .int .i64 f, .int .i64 l, .int .i64 p], .agg #[.int .i64 0, .int .u64 hd, .int .i64 sl, .int .i64 tr]] w fun e w' => e = .returned (.agg #[.int .i64 0, .int .i64 0, .int .u64 0, .int .u64 0]) ∧ Below w.heap.size w w' := by
  go_enter Tryd.func38, Tryd.ntmps38
  go_wp2_with fail
  refine bodyPost_ret (v := .agg #[.int .i64 0, .int .i64 0, .int .u64 0, .int .u64 0]) (by simp [results, Tryd.results38, go_sem]) rfl ⟨rfl, ?_⟩
  repeat (first | exact Below.refl _ _ | exact B0 | (refine Below.setCell ?_ (by first | (show w.heap.size ≤ w.heap.size; omega) | (show w.heap.size ≤ w.heap.size + 1; omega) | (show w.heap.size ≤ w.heap.size + 2; omega) | (show w.heap.size ≤ _; simp)) _) | (refine Below.alloc ?_ (by first | exact Nat.le_refl _ | (simp <;> omega)) _))
set_option maxRecDepth 100000 in
set_option maxHeartbeats 2000000 in
theorem rswant_1 (s t f l p sl hd tr : Int) (w : World)  :
    Calls Tryd.prog 38 #[.agg #[.int .i64 s, .int .i64 t, .int .i64 f, .int .i64 l, .int .i64 p], .agg #[.int .i64 1, .int .u64 hd, .int .i64 sl, .int .i64 tr]] w fun e w' => e = .returned (.agg #[.int .i64 1, .int .i64 2, .int .u64 0, .int .u64 0]) ∧ Below w.heap.size w w' := by
  go_enter Tryd.func38, Tryd.ntmps38
  go_wp2_with fail
  refine bodyPost_ret (v := .agg #[.int .i64 1, .int .i64 2, .int .u64 0, .int .u64 0]) (by simp [results, Tryd.results38, go_sem]) rfl ⟨rfl, ?_⟩
  repeat (first | exact Below.refl _ _ | exact B0 | (refine Below.setCell ?_ (by first | (show w.heap.size ≤ w.heap.size; omega) | (show w.heap.size ≤ w.heap.size + 1; omega) | (show w.heap.size ≤ w.heap.size + 2; omega) | (show w.heap.size ≤ _; simp)) _) | (refine Below.alloc ?_ (by first | exact Nat.le_refl _ | (simp <;> omega)) _))
set_option maxRecDepth 100000 in
set_option maxHeartbeats 2000000 in
theorem rswant_2 (s t f l p sl hd tr : Int) (w : World) (hs : 1 ≤ s ∧ s ≤ 1000) (ht : 1 ≤ t ∧ t ≤ 64) (hf : 4 ≤ f ∧ f ≤ 64) (hsl : 0 ≤ sl ∧ sl ≤ s) (hh : W64 hd) :
    Calls Tryd.prog 38 #[.agg #[.int .i64 s, .int .i64 t, .int .i64 f, .int .i64 l, .int .i64 p], .agg #[.int .i64 2, .int .u64 hd, .int .i64 sl, .int .i64 tr]] w fun e w' => e = .returned (.agg #[.int .i64 2, .int .i64 (3 + 3 * t + sl * (3 + 2 * f) + 2), .int .u64 0, .int .u64 (hd % 65536)]) ∧ Below w.heap.size w w' := by
  have C := hide (fun w2 => rlnk_any s t f l p sl w2 hs ht hf hsl)
  have M := hide (fun w2 => rhslot_any hd w2 hh)
  have e1 : IntKind.u64.wrap (hd % 65536) = hd % 65536 := IntWalk.u64_in _ (by omega)
  generalize hd % 65536 = y at *
  generalize 3 + 3 * t + sl * (3 + 2 * f) + 2 = q at *
  have bx := Blk.new w 23 #[.int .i64 s, .int .i64 t, .int .i64 f, .int .i64 l, .int .i64 p]
  have B0 := (Below.refl w.heap.size w).alloc (Nat.le_refl _) (.cells #[.int .i64 s, .int .i64 t, .int .i64 f, .int .i64 l, .int .i64 p] 23)
  have by_ := Blk.new (w.alloc (.cells #[.int .i64 s, .int .i64 t, .int .i64 f, .int .i64 l, .int .i64 p] 23)) 75 #[.int .i64 2, .int .u64 hd, .int .i64 sl, .int .i64 tr]
  replace B0 := B0.alloc B0.size (.cells #[.int .i64 2, .int .u64 hd, .int .i64 sl, .int .i64 tr] 75)
  replace bx := bx.alloc (.cells #[.int .i64 2, .int .u64 hd, .int .i64 sl, .int .i64 tr] 75)
  have bo := Blk.new ((w.alloc (.cells #[.int .i64 s, .int .i64 t, .int .i64 f, .int .i64 l, .int .i64 p] 23)).alloc (.cells #[.int .i64 2, .int .u64 hd, .int .i64 sl, .int .i64 tr] 75)) 39 #[.int .i64 0, .int .i64 0, .int .u64 0, .int .u64 0]
  replace B0 := B0.alloc B0.size (.cells #[.int .i64 0, .int .i64 0, .int .u64 0, .int .u64 0] 39)
  replace bx := bx.alloc (.cells #[.int .i64 0, .int .i64 0, .int .u64 0, .int .u64 0] 39)
  replace by_ := by_.alloc (.cells #[.int .i64 0, .int .i64 0, .int .u64 0, .int .u64 0] 39)
  rw [World.size_alloc] at by_ bo
  rw [World.size_alloc] at bo
  go_enter Tryd.func38, Tryd.ntmps38
  go_wp2_with fail
  generalize ((w.alloc (.cells #[.int .i64 s, .int .i64 t, .int .i64 f, .int .i64 l, .int .i64 p] 23)).alloc (.cells #[.int .i64 2, .int .u64 hd, .int .i64 sl, .int .i64 tr] 75)).alloc (.cells #[.int .i64 0, .int .i64 0, .int .u64 0, .int .u64 0] 39) = w0 at *
  have n1 : w.heap.size + 1 ≠ w.heap.size + 1 + 1 := by omega
  have n2 : w.heap.size ≠ w.heap.size + 1 + 1 := by omega
  have n3 : w.heap.size ≤ w.heap.size + 1 + 1 := by omega
  generalize w.heap.size + 1 + 1 = go at *
  have bd := bx.drewN 1
  have ed := by_.drewN 1
  have od := bo.drewN 1
  have Bd := below_drewN B0 1
  try clear mx lx
  try clear mo lo zo
  try clear my ly zy
  try have mx := fun i => bx.cell i
  try have lx := bx.lt
  try have mo := fun i => bo.cell i
  try have lo := bo.lt
  try have zo := fun i => bo.frozen i
  try have my := fun i => by_.cell i
  try have ly := by_.lt
  try have zy := fun i => by_.frozen i
  go_region_held3 (fun w' => w'.cell? ⟨w.heap.size, 0, none⟩ = some (.int .i64 s) ∧ w'.cell? ⟨w.heap.size, 1, none⟩ = some (.int .i64 t) ∧ w'.cell? ⟨w.heap.size, 2, none⟩ = some (.int .i64 f) ∧ w'.cell? ⟨w.heap.size, 3, none⟩ = some (.int .i64 l) ∧ w'.cell? ⟨w.heap.size, 4, none⟩ = some (.int .i64 p) ∧ w'.cell? ⟨w.heap.size + 1, 0, none⟩ = some (.int .i64 2) ∧ w'.cell? ⟨w.heap.size + 1, 1, none⟩ = some (.int .u64 hd) ∧ w'.cell? ⟨w.heap.size + 1, 2, none⟩ = some (.int .i64 sl) ∧ w'.cell? ⟨w.heap.size + 1, 3, none⟩ = some (.int .i64 tr)) (first | go_keep | exact ⟨(bd.off4 n2 _ _ _ _).cell 0, (bd.off4 n2 _ _ _ _).cell 1, (bd.off4 n2 _ _ _ _).cell 2, (bd.off4 n2 _ _ _ _).cell 3, (bd.off4 n2 _ _ _ _).cell 4, (ed.off4 n1 _ _ _ _).cell 0, (ed.off4 n1 _ _ _ _).cell 1, (ed.off4 n1 _ _ _ _).cell 2, (ed.off4 n1 _ _ _ _).cell 3⟩) ((first | (go_at_call 57; refine (C.out _).mono ?_; rintro e w1 ⟨rfl, hb1⟩; have bd := bd.below hb1 bd.lt; have ed := ed.below hb1 ed.lt; have od := od.below hb1 od.lt; have Bd := Bd.trans (hb1.mono Bd.size); have md := fun i => bd.cell i; have pd := fun i => ed.cell i; have nd := fun i => od.cell i; have zd := fun i => od.frozen i; have ld := bd.lt; have ke := ed.lt; have kd := od.lt) | (go_at_call 63; refine (M.out _).mono ?_; rintro e w' ⟨rfl, rfl⟩)))
  all_goals
    go_wp2_with fail
    have b9 := od.put4 (.int .i64 2) (.int .i64 q) (.int .u64 0) (.int .u64 y)
    have B9 := below_put4 Bd (g := go) n3 (.int .i64 2) (.int .i64 q) (.int .u64 0) (.int .u64 y)
    have m9 := fun i => b9.cell i
    refine bodyPost_ret (v := .agg #[.int .i64 2, .int .i64 q, .int .u64 0, .int .u64 y]) (by simp [results, Tryd.results38, go_sem, m9]) rfl ⟨rfl, B9⟩
set_option maxRecDepth 100000 in
set_option maxHeartbeats 2000000 in
theorem rswant_3 (s t f l p sl hd tr : Int) (w : World) (hh : W64 hd) (hsl : 0 ≤ sl ∧ sl ≤ 1000) :
    Calls Tryd.prog 38 #[.agg #[.int .i64 s, .int .i64 t, .int .i64 f, .int .i64 l, .int .i64 p], .agg #[.int .i64 3, .int .u64 hd, .int .i64 sl, .int .i64 tr]] w fun e w' => e = .returned (.agg #[.int .i64 3, .int .i64 2, .int .u64 hd, .int .u64 (hturn hd sl)]) ∧ Below w.heap.size w w' := by
  have M := hide (fun w2 => rhturn_any hd sl w2 hh ⟨by omega, by omega⟩)
  generalize hturn hd sl = y at *
  have bx := Blk.new w 23 #[.int .i64 s, .int .i64 t, .int .i64 f, .int .i64 l, .int .i64 p]
  have B0 := (Below.refl w.heap.size w).alloc (Nat.le_refl _) (.cells #[.int .i64 s, .int .i64 t, .int .i64 f, .int .i64 l, .int .i64 p] 23)
  have by_ := Blk.new (w.alloc (.cells #[.int .i64 s, .int .i64 t, .int .i64 f, .int .i64 l, .int .i64 p] 23)) 75 #[.int .i64 3, .int .u64 hd, .int .i64 sl, .int .i64 tr]
  replace B0 := B0.alloc B0.size (.cells #[.int .i64 3, .int .u64 hd, .int .i64 sl, .int .i64 tr] 75)
  replace bx := bx.alloc (.cells #[.int .i64 3, .int .u64 hd, .int .i64 sl, .int .i64 tr] 75)
  have bo := Blk.new ((w.alloc (.cells #[.int .i64 s, .int .i64 t, .int .i64 f, .int .i64 l, .int .i64 p] 23)).alloc (.cells #[.int .i64 3, .int .u64 hd, .int .i64 sl, .int .i64 tr] 75)) 39 #[.int .i64 0, .int .i64 0, .int .u64 0, .int .u64 0]
  replace B0 := B0.alloc B0.size (.cells #[.int .i64 0, .int .i64 0, .int .u64 0, .int .u64 0] 39)
  replace bx := bx.alloc (.cells #[.int .i64 0, .int .i64 0, .int .u64 0, .int .u64 0] 39)
  replace by_ := by_.alloc (.cells #[.int .i64 0, .int .i64 0, .int .u64 0, .int .u64 0] 39)
  rw [World.size_alloc] at by_ bo
  rw [World.size_alloc] at bo
  go_enter Tryd.func38, Tryd.ntmps38
  go_wp2_with fail
  generalize ((w.alloc (.cells #[.int .i64 s, .int .i64 t, .int .i64 f, .int .i64 l, .int .i64 p] 23)).alloc (.cells #[.int .i64 3, .int .u64 hd, .int .i64 sl, .int .i64 tr] 75)).alloc (.cells #[.int .i64 0, .int .i64 0, .int .u64 0, .int .u64 0] 39) = w0 at *
  have n1 : w.heap.size + 1 ≠ w.heap.size + 1 + 1 := by omega
  have n2 : w.heap.size ≠ w.heap.size + 1 + 1 := by omega
  have n3 : w.heap.size ≤ w.heap.size + 1 + 1 := by omega
  generalize w.heap.size + 1 + 1 = go at *
  try clear mx lx
  try clear mo lo zo
  try clear my ly zy
  try have mx := fun i => bx.cell i
  try have lx := bx.lt
  try have mo := fun i => bo.cell i
  try have lo := bo.lt
  try have zo := fun i => bo.frozen i
  try have my := fun i => by_.cell i
  try have ly := by_.lt
  try have zy := fun i => by_.frozen i
  go_region_with ((first | (go_at_call 58; refine (M.out _).mono ?_; rintro e w' ⟨rfl, rfl⟩)))
  all_goals
    go_wp2_with fail
    have b9 := (bo.put4 (.int .i64 3) (.int .i64 2) (.int .u64 hd) (.int .u64 y)).drew
    have b8 := bo.drew.put4 (.int .i64 3) (.int .i64 2) (.int .u64 hd) (.int .u64 y)
    have B9 := (below_put4 B0 (g := go) n3 (.int .i64 3) (.int .i64 2) (.int .u64 hd) (.int .u64 y)).drew
    have B8 := below_put4 B0.drew (g := go) n3 (.int .i64 3) (.int .i64 2) (.int .u64 hd) (.int .u64 y)
    have m9 := fun i => b9.cell i
    have m8 := fun i => b8.cell i
    first
      | refine bodyPost_ret (v := .agg #[.int .i64 3, .int .i64 2, .int .u64 hd, .int .u64 y]) (by simp [results, Tryd.results38, go_sem, m9]) rfl ⟨rfl, B9⟩
      | refine bodyPost_ret (v := .agg #[.int .i64 3, .int .i64 2, .int .u64 hd, .int .u64 y]) (by simp [results, Tryd.results38, go_sem, m8]) rfl ⟨rfl, B8⟩
set_option maxRecDepth 100000 in
set_option maxHeartbeats 2000000 in
theorem rstook_0 (sl hd tr g : Int) (w : World)  :
    Calls Tryd.prog 40 #[.agg #[.int .i64 0, .int .u64 hd, .int .i64 sl, .int .i64 tr], .int .u64 g] w fun e w' => e = .returned (.agg #[.int .i64 0, .int .u64 hd, .int .i64 sl, .int .i64 tr]) ∧ Below w.heap.size w w' := by
  go_enter Tryd.func40, Tryd.ntmps40
  go_wp2_with fail
  refine bodyPost_ret (v := .agg #[.int .i64 0, .int .u64 hd, .int .i64 sl, .int .i64 tr]) (by simp [results, Tryd.results40, go_sem]) rfl ⟨rfl, ?_⟩
  repeat (first | exact Below.refl _ _ | exact B0 | (refine Below.setCell ?_ (by first | (show w.heap.size ≤ w.heap.size; omega) | (show w.heap.size ≤ w.heap.size + 1; omega) | (show w.heap.size ≤ w.heap.size + 2; omega) | (show w.heap.size ≤ _; simp)) _) | (refine Below.alloc ?_ (by first | exact Nat.le_refl _ | (simp <;> omega)) _))
set_option maxRecDepth 100000 in
set_option maxHeartbeats 2000000 in
theorem rstook_1 (sl hd tr g : Int) (w : World)  :
    Calls Tryd.prog 40 #[.agg #[.int .i64 1, .int .u64 hd, .int .i64 sl, .int .i64 tr], .int .u64 g] w fun e w' => e = .returned (.agg #[.int .i64 2, .int .u64 g, .int .i64 sl, .int .i64 tr]) ∧ Below w.heap.size w w' := by
  go_enter Tryd.func40, Tryd.ntmps40
  go_wp2_with fail
  refine bodyPost_ret (v := .agg #[.int .i64 2, .int .u64 g, .int .i64 sl, .int .i64 tr]) (by simp [results, Tryd.results40, go_sem]) rfl ⟨rfl, ?_⟩
  repeat (first | exact Below.refl _ _ | exact B0 | (refine Below.setCell ?_ (by first | (show w.heap.size ≤ w.heap.size; omega) | (show w.heap.size ≤ w.heap.size + 1; omega) | (show w.heap.size ≤ w.heap.size + 2; omega) | (show w.heap.size ≤ _; simp)) _) | (refine Below.alloc ?_ (by first | exact Nat.le_refl _ | (simp <;> omega)) _))
set_option maxRecDepth 100000 in
set_option maxHeartbeats 2000000 in
theorem rstook_2 (sl hd tr g : Int) (w : World)  :
    Calls Tryd.prog 40 #[.agg #[.int .i64 2, .int .u64 hd, .int .i64 sl, .int .i64 tr], .int .u64 g] w fun e w' => e = .returned (.agg #[.int .i64 3, .int .u64 hd, .int .i64 sl, .int .i64 tr]) ∧ Below w.heap.size w w' := by
  go_enter Tryd.func40, Tryd.ntmps40
  go_wp2_with fail
  refine bodyPost_ret (v := .agg #[.int .i64 3, .int .u64 hd, .int .i64 sl, .int .i64 tr]) (by simp [results, Tryd.results40, go_sem]) rfl ⟨rfl, ?_⟩
  repeat (first | exact Below.refl _ _ | exact B0 | (refine Below.setCell ?_ (by first | (show w.heap.size ≤ w.heap.size; omega) | (show w.heap.size ≤ w.heap.size + 1; omega) | (show w.heap.size ≤ w.heap.size + 2; omega) | (show w.heap.size ≤ _; simp)) _) | (refine Below.alloc ?_ (by first | exact Nat.le_refl _ | (simp <;> omega)) _))
set_option maxRecDepth 100000 in
set_option maxHeartbeats 2000000 in
theorem rstook_3y (sl hd tr : Int) (w : World)  :
    Calls Tryd.prog 40 #[.agg #[.int .i64 3, .int .u64 hd, .int .i64 sl, .int .i64 tr], .int .u64 1] w fun e w' => e = .returned (.agg #[.int .i64 0, .int .u64 hd, .int .i64 sl, .int .i64 tr]) ∧ Below w.heap.size w w' := by
  go_enter Tryd.func40, Tryd.ntmps40
  go_wp2_with fail
  refine bodyPost_ret (v := .agg #[.int .i64 0, .int .u64 hd, .int .i64 sl, .int .i64 tr]) (by simp [results, Tryd.results40, go_sem]) rfl ⟨rfl, ?_⟩
  repeat (first | exact Below.refl _ _ | exact B0 | (refine Below.setCell ?_ (by first | (show w.heap.size ≤ w.heap.size; omega) | (show w.heap.size ≤ w.heap.size + 1; omega) | (show w.heap.size ≤ w.heap.size + 2; omega) | (show w.heap.size ≤ _; simp)) _) | (refine Below.alloc ?_ (by first | exact Nat.le_refl _ | (simp <;> omega)) _))
set_option maxRecDepth 100000 in
set_option maxHeartbeats 2000000 in
theorem rstook_3n (sl hd tr g : Int) (w : World) (hg : (g == 1) = false) :
    Calls Tryd.prog 40 #[.agg #[.int .i64 3, .int .u64 hd, .int .i64 sl, .int .i64 tr], .int .u64 g] w fun e w' => e = .returned (.agg #[.int .i64 1, .int .u64 hd, .int .i64 sl, .int .i64 (wrap64 (tr + 1))]) ∧ Below w.heap.size w w' := by
  go_enter Tryd.func40, Tryd.ntmps40
  go_wp2_with fail
  refine bodyPost_ret (v := .agg #[.int .i64 1, .int .u64 hd, .int .i64 sl, .int .i64 (wrap64 (tr + 1))]) (by simp [results, Tryd.results40, go_sem]) rfl ⟨rfl, ?_⟩
  repeat (first | exact Below.refl _ _ | exact B0 | (refine Below.setCell ?_ (by first | (show w.heap.size ≤ w.heap.size; omega) | (show w.heap.size ≤ w.heap.size + 1; omega) | (show w.heap.size ≤ w.heap.size + 2; omega) | (show w.heap.size ≤ _; simp)) _) | (refine Below.alloc ?_ (by first | exact Nat.le_refl _ | (simp <;> omega)) _))

def rsV (x : Int × Int × Int × Int) : Value := .agg #[.int .i64 x.1, .int .u64 x.2.2.1, .int .i64 x.2.1, .int .i64 x.2.2.2]
theorem rstook_any (g : Int) (x : Int × Int × Int × Int) (w : World) (hx : PsOk x) :
    Calls Tryd.prog 40 #[rsV x, .int .u64 g] w fun e w' => e = .returned (rsV (psTook x g)) ∧ Below w.heap.size w w' := by
  obtain ⟨k, sl, hd, tr⟩ := x
  unfold PsOk at hx
  simp only at hx
  rcases hx with rfl | rfl | rfl | rfl
  · exact rstook_0 sl hd tr g w
  · exact rstook_1 sl hd tr g w
  · exact rstook_2 sl hd tr g w
  · by_cases h0 : g = 1
    · subst h0
      exact rstook_3y sl hd tr w
    · rw [show psTook (3, sl, hd, tr) g = (1, sl, hd, wrap64 (tr + 1)) by simp [psTook, h0]]
      exact rstook_3n sl hd tr g w (by simpa using h0)
def psAsk (t f : Int) (x : Int × Int × Int × Int) : Int × Int × Int × Int :=
  if x.1 = 1 then (1, 2, 0, 0)
  else if x.1 = 2 then (2, 3 + 3 * t + x.2.1 * (3 + 2 * f) + 2, 0, x.2.2.1 % 65536)
  else if x.1 = 3 then (3, 2, x.2.2.1, hturn x.2.2.1 x.2.1)
  else (0, 0, 0, 0)
/-- Where it has not come, its slot is one of the layout's. -/
def PsIn (s : Int) (x : Int × Int × Int × Int) : Prop := PsOk x ∧ W64 x.2.2.1 ∧ (x.1 = 0 ∨ (1 ≤ x.2.1 ∧ x.2.1 ≤ s))
theorem psTook_in {s g : Int} {x : Int × Int × Int × Int} (h : PsIn s x) (hg : W64 g) : PsIn s (psTook x g) := by
  obtain ⟨h1, h2, h3⟩ := h
  refine ⟨psTook_ok h1, ?_, ?_⟩
  · unfold psTook
    split
    · exact h2
    · split
      · exact hg
      · split
        · exact h2
        · split <;> exact h2
  · unfold psTook
    split
    · exact h3
    · next h0 =>
      have h3 := h3.resolve_left h0
      split
      · exact .inr h3
      · split
        · exact .inr h3
        · split <;> exact .inr h3
theorem pswant_any (s t f l p : Int) (x : Int × Int × Int × Int) (w : World) (hx : PsIn s x) (h : x.1 = 0 ∨ ((1 ≤ s ∧ s ≤ 1000) ∧ (1 ≤ t ∧ t ≤ 64) ∧ (4 ≤ f ∧ f ≤ 64))) :
    Calls Tryd.prog 36 #[psV s t f l p x] w fun e w' => e = .returned (.agg #[.int .i64 (psAsk t f x).1, .int .i64 (psAsk t f x).2.1, .int .u64 (psAsk t f x).2.2.1, .int .u64 (psAsk t f x).2.2.2]) ∧ Below w.heap.size w w' := by
  obtain ⟨k, sl, hd, tr⟩ := x
  obtain ⟨hk, h1, h2⟩ := hx
  unfold PsOk at hk
  simp only at hk h1 h2 h
  rcases hk with rfl | rfl | rfl | rfl
  · exact pswant_0 s t f l p sl hd tr w
  all_goals
    obtain ⟨hs, ht, hf⟩ := h.resolve_left (by decide)
    have h2 := h2.resolve_left (by decide)
  · exact pswant_1 s t f l p sl hd tr w hs ht hf
  · exact pswant_2 s t f l p sl hd tr w hs ht hf h1 h2
  · exact pswant_3 s t f l p sl hd tr w hs ht hf h1 h2
theorem rswant_any (s t f l p : Int) (x : Int × Int × Int × Int) (w : World) (hx : PsIn s x) (h : x.1 = 0 ∨ ((1 ≤ s ∧ s ≤ 1000) ∧ (1 ≤ t ∧ t ≤ 64) ∧ (4 ≤ f ∧ f ≤ 64))) :
    Calls Tryd.prog 38 #[.agg #[.int .i64 s, .int .i64 t, .int .i64 f, .int .i64 l, .int .i64 p], rsV x] w fun e w' => e = .returned (.agg #[.int .i64 (psAsk t f x).1, .int .i64 (psAsk t f x).2.1, .int .u64 (psAsk t f x).2.2.1, .int .u64 (psAsk t f x).2.2.2]) ∧ Below w.heap.size w w' := by
  obtain ⟨k, sl, hd, tr⟩ := x
  obtain ⟨hk, h1, h2⟩ := hx
  unfold PsOk at hk
  simp only at hk h1 h2 h
  rcases hk with rfl | rfl | rfl | rfl
  · exact rswant_0 s t f l p sl hd tr w
  all_goals
    obtain ⟨hs, ht, hf⟩ := h.resolve_left (by decide)
    have h2 := h2.resolve_left (by decide)
  · exact rswant_1 s t f l p sl hd tr w
  · exact rswant_2 s t f l p sl hd tr w hs ht hf (by omega) h1
  · exact rswant_3 s t f l p sl hd tr w h1 (by omega)
end Go.Proofs.YthmkhcmgpkngmaaDoor
