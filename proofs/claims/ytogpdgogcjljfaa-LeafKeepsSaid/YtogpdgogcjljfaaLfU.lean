/-
  leaf.Put, leaf.Drop.
-/
import Derived.Test.YtogpdgogcjljfaaLfM
namespace Go.Proofs.Ytogpdgogcjljfaa
open Go.RowKit

theorem sl_one {w : World} {g : Nat} {x : Int} (h : Blk w g 22 #[.int .u64 x]) : Sl w w.heap.size (.slice (some ⟨g, 0, none⟩) 1 1) [x] :=
  ⟨some ⟨g, 0, none⟩, 1, rfl, by simp, by omega, (Reads.blk h 1 1 (by simp)).more h.lt⟩
/-- A list with one word put in place of those from i on, ahead of j. -/
def putL (l : List Int) (i j : Nat) (ins : List Int) : List Int := cutL l 0 i ++ ins ++ cutL l j l.length
theorem cell_word {w : World} {B n : Nat} {ad : Addr} {l : List Int} (h : Reads w B 1 (some ad) n (ints .u64 l)) {j : Nat} (hj : j < n) (hl : j < l.length) {w2 : World} (hB : Below B w w2) : w2.cell? (ad.add j) = some (.int .u64 l[j]) := by
  obtain ⟨a', ea, hk, zz⟩ := (h.below hB).word hj
  injection ea with ea
  subst ea
  exact zz
theorem find_right {b : Bool} {ks vs : List Int} {key : Int} (hr : rightB b ks vs = true) : findN b ks vs key = lowN key ks ∧ findB b ks vs key = hasB key ks := by
  unfold findN findB
  rw [hr]
  simp
theorem has_lt {key : Int} {ks : List Int} (h : riseB ks = true) (hh : hasB key ks = true) : lowN key ks < ks.length := by
  rw [has_iff h] at hh
  simp only [Bool.and_eq_true, decide_eq_true_eq] at hh
  exact hh.1
set_option maxHeartbeats 2000000 in
theorem put_no (v : Value) (b : Bool) (ks vs : List Int) (l key val : Int) (w : World) (hl : ks.length ≤ 1000) (h : Nd w w.heap.size v b ks vs l) (hr : rightB b ks vs = false) :
    Calls Try.prog 20 #[v, .int .u64 key, .int .u64 val] w fun e w' => e = .returned (.tuple #[.agg #[.bool false, .slice none 0 0, .slice none 0 0, .int .u64 0], .int .u64 0, .bool false]) ∧ Below w.heap.size w w' := by
  have Rt := hide (fun w2 (hB : Below w.heap.size w w2) => right_any v b ks vs l w2 (by omega) ((h.below hB).more hB.size))
  rw [hr] at Rt
  obtain ⟨k0, u0, rfl, hk0, hu0⟩ := h
  have HK := hide hk0
  have HV := hide hu0
  obtain ⟨A, c, rfl, hc1, hc2, hrk⟩ := hk0
  obtain ⟨B, d, rfl, hd1, hd2, hrv⟩ := hu0
  clear hrk hrv HK HV hc1 hd1 hl hr
  generalize ks.length = n at *
  generalize vs.length = m at *
  have bx := Blk.new w 27 #[.bool b, .slice A n c, .slice B m d, .int .u64 l]
  have B0 := (Below.refl w.heap.size w).alloc (Nat.le_refl _) (.cells #[.bool b, .slice A n c, .slice B m d, .int .u64 l] 27)
  have bo := Blk.new (w.alloc (.cells #[.bool b, .slice A n c, .slice B m d, .int .u64 l] 27)) 27 #[.bool false, .slice none 0 0, .slice none 0 0, .int .u64 0]
  replace bx := bx.alloc (.cells #[.bool false, .slice none 0 0, .slice none 0 0, .int .u64 0] 27)
  replace B0 := B0.alloc B0.size (.cells #[.bool false, .slice none 0 0, .slice none 0 0, .int .u64 0] 27)
  simp only [World.size_alloc] at bo
  have n3 := hide (show w.heap.size ≤ w.heap.size + 1 by omega)
  have n4 := hide (show w.heap.size + 1 < w.heap.size + 1 + 1 by omega)
  have n5 := hide (show w.heap.size ≠ w.heap.size + 1 by omega)
  go_enter Try.func20, Try.ntmps20
  go_wp2_with fail
  refine (Rt.out _ B0).mono ?_
  rintro e w1 ⟨rfl, hb1⟩
  try replace bx := bx.below hb1 bx.lt
  try replace bo := bo.below hb1 bo.lt
  try replace by_ := by_.below hb1 by_.lt
  replace B0 := B0.trans (hb1.mono B0.size)
  clear hb1
  try clear mx lx
  try clear mo lo zo
  try clear my ly zy
  try have mx := fun i => bx.cell i
  try have lx := bx.lt
  try have mo := fun i => bo.cell i
  try have lo := bo.lt
  try have zo := fun i => bo.frozen i
  try have my := fun i => by_.cell i
  try have ly := by_.lt
  try have zy := fun i => by_.frozen i
  go_wp2_with fail
  have b9 := bo.setN (.bool false) (.slice none 0 0) (.slice none 0 0) (.int .u64 0)
  have B9 := below_setN B0 (g := w.heap.size + 1) n3.out (.bool false) (.slice none 0 0) (.slice none 0 0) (.int .u64 0)
  have m9 := fun i => b9.cell i
  refine bodyPost_ret (v := .tuple #[.agg #[.bool false, .slice none 0 0, .slice none 0 0, .int .u64 0], .int .u64 0, .bool false]) (by simp [results, Try.results20, go_sem, m9]) rfl ⟨rfl, B9⟩
set_option maxHeartbeats 2000000 in
theorem drop_no (v : Value) (b : Bool) (ks vs : List Int) (l key : Int) (w : World) (hl : ks.length ≤ 1000) (h : Nd w w.heap.size v b ks vs l) (hr : rightB b ks vs = false) :
    Calls Try.prog 21 #[v, .int .u64 key] w fun e w' => e = .returned (.tuple #[.agg #[.bool false, .slice none 0 0, .slice none 0 0, .int .u64 0], .int .u64 0, .bool false]) ∧ Below w.heap.size w w' := by
  have Rt := hide (fun w2 (hB : Below w.heap.size w w2) => right_any v b ks vs l w2 (by omega) ((h.below hB).more hB.size))
  rw [hr] at Rt
  obtain ⟨k0, u0, rfl, hk0, hu0⟩ := h
  have HK := hide hk0
  have HV := hide hu0
  obtain ⟨A, c, rfl, hc1, hc2, hrk⟩ := hk0
  obtain ⟨B, d, rfl, hd1, hd2, hrv⟩ := hu0
  clear hrk hrv HK HV hc1 hd1 hl hr
  generalize ks.length = n at *
  generalize vs.length = m at *
  have bx := Blk.new w 27 #[.bool b, .slice A n c, .slice B m d, .int .u64 l]
  have B0 := (Below.refl w.heap.size w).alloc (Nat.le_refl _) (.cells #[.bool b, .slice A n c, .slice B m d, .int .u64 l] 27)
  have bo := Blk.new (w.alloc (.cells #[.bool b, .slice A n c, .slice B m d, .int .u64 l] 27)) 27 #[.bool false, .slice none 0 0, .slice none 0 0, .int .u64 0]
  replace bx := bx.alloc (.cells #[.bool false, .slice none 0 0, .slice none 0 0, .int .u64 0] 27)
  replace B0 := B0.alloc B0.size (.cells #[.bool false, .slice none 0 0, .slice none 0 0, .int .u64 0] 27)
  simp only [World.size_alloc] at bo
  have n3 := hide (show w.heap.size ≤ w.heap.size + 1 by omega)
  have n4 := hide (show w.heap.size + 1 < w.heap.size + 1 + 1 by omega)
  have n5 := hide (show w.heap.size ≠ w.heap.size + 1 by omega)
  go_enter Try.func21, Try.ntmps21
  go_wp2_with fail
  refine (Rt.out _ B0).mono ?_
  rintro e w1 ⟨rfl, hb1⟩
  try replace bx := bx.below hb1 bx.lt
  try replace bo := bo.below hb1 bo.lt
  try replace by_ := by_.below hb1 by_.lt
  replace B0 := B0.trans (hb1.mono B0.size)
  clear hb1
  try clear mx lx
  try clear mo lo zo
  try clear my ly zy
  try have mx := fun i => bx.cell i
  try have lx := bx.lt
  try have mo := fun i => bo.cell i
  try have lo := bo.lt
  try have zo := fun i => bo.frozen i
  try have my := fun i => by_.cell i
  try have ly := by_.lt
  try have zy := fun i => by_.frozen i
  go_wp2_with fail
  have b9 := bo.setN (.bool false) (.slice none 0 0) (.slice none 0 0) (.int .u64 0)
  have B9 := below_setN B0 (g := w.heap.size + 1) n3.out (.bool false) (.slice none 0 0) (.slice none 0 0) (.int .u64 0)
  have m9 := fun i => b9.cell i
  refine bodyPost_ret (v := .tuple #[.agg #[.bool false, .slice none 0 0, .slice none 0 0, .int .u64 0], .int .u64 0, .bool false]) (by simp [results, Try.results21, go_sem, m9]) rfl ⟨rfl, B9⟩
set_option maxRecDepth 100000 in
set_option maxHeartbeats 4000000 in
theorem put_yes (v : Value) (b : Bool) (ks vs : List Int) (l key val : Int) (w : World) (hl : ks.length ≤ 1000) (h : Nd w w.heap.size v b ks vs l) (hr : rightB b ks vs = true) (hh : hasB key ks = true) :
    Calls Try.prog 20 #[v, .int .u64 key, .int .u64 val] w fun e w' => (∃ u, e = .returned (.tuple #[u, .int .u64 (vs.getD (lowN key ks) 0), .bool true]) ∧ NdO w' w.heap.size u false (ks) (putL vs (lowN key ks) (lowN key ks + 1) [val]) l) ∧ Below w.heap.size w w' := by
  have Rt := hide (fun w2 (hB : Below w.heap.size w w2) => right_any v b ks vs l w2 (by omega) ((h.below hB).more hB.size))
  have Fd := hide (fun w2 (hB : Below w.heap.size w w2) => find_any v b ks vs l key w2 hl ((h.below hB).more hB.size))
  rw [(find_right hr).1, (find_right hr).2, hh] at Fd
  rw [hr] at Rt
  have hkv : ks.length = vs.length := by
    unfold rightB at hr
    simp only [Bool.and_eq_true, beq_iff_eq] at hr
    exact hr.1.2
  have hri := rightB_rise hr
  have hle := lowN_le key ks
  have hlt := has_lt hri hh
  generalize lowN key ks = q at *
  obtain ⟨k0, u0, rfl, hk0, hu0⟩ := h
  have Cl := hide (fun w2 (hB : Below w.heap.size w w2) => clone_any k0 ks w2 (by omega) ((hk0.below hB).more hB.size))
  have Sp := hide (fun g w2 (hB : Below w.heap.size w w2) (hbl : Blk w2 g 22 #[.int .u64 val]) => spliced_any u0 (.slice (some ⟨g, 0, none⟩) 1 1) vs [val] q (q + 1) w2 (by omega) (by omega) (by omega) (by simp) ((hu0.below hB).more hB.size) (sl_one hbl))
  obtain ⟨A, c, rfl, hc1, hc2, hrk⟩ := hk0
  obtain ⟨B, d, rfl, hd1, hd2, hrv⟩ := hu0
  have hqv : q < vs.length := by omega
  obtain ⟨ad, rfl, hvl, _⟩ := hrv.word hqv
  have Zc := hide (fun w2 (hB : Below w.heap.size w w2) => cell_word hrv hqv hvl hB)
  have G1 := hide (show vs.getD q 0 = vs[q] by simp [List.getD, hvl])
  rw [G1.out]
  generalize vs[q] = old at *
  rw [show ((q + 1 : Nat) : Int) = (q : Int) + 1 by omega] at Sp
  have hq1 : IntKind.i64.wrap ((q : Int) + 1) = (q : Int) + 1 := IntWalk.i64_in _ (by omega)
  have hq2 : (q : Int) < (vs.length : Int) := by omega
  have hq3 : (0 : Int) ≤ (q : Int) := by omega
  have hm1 : vs.length ≤ 1000 := by omega
  show Calls _ _ _ _ fun e w' => (∃ u, e = .returned (.tuple #[u, .int .u64 old, .bool true]) ∧ NdO w' w.heap.size u false ks (cutL vs 0 q ++ [val] ++ cutL vs (q + 1) vs.length) l) ∧ Below w.heap.size w w'
  generalize cutL vs 0 q ++ [val] ++ cutL vs (q + 1) vs.length = vv at *
  clear hrk hrv hvl G1 hqv hr hh hri hle hlt hc1 hkv
  generalize hkl : ks.length = n at *
  have HKL := hide hkl
  clear hkl
  generalize vs.length = m at *

  have bx := Blk.new w 27 #[.bool b, .slice A n c, .slice (some ad) m d, .int .u64 l]
  have B0 := (Below.refl w.heap.size w).alloc (Nat.le_refl _) (.cells #[.bool b, .slice A n c, .slice (some ad) m d, .int .u64 l] 27)
  have bo := Blk.new (w.alloc (.cells #[.bool b, .slice A n c, .slice (some ad) m d, .int .u64 l] 27)) 27 #[.bool false, .slice none 0 0, .slice none 0 0, .int .u64 0]
  replace bx := bx.alloc (.cells #[.bool false, .slice none 0 0, .slice none 0 0, .int .u64 0] 27)
  replace B0 := B0.alloc B0.size (.cells #[.bool false, .slice none 0 0, .slice none 0 0, .int .u64 0] 27)
  simp only [World.size_alloc] at bo
  have n3 := hide (show w.heap.size ≤ w.heap.size + 1 by omega)
  have n4 := hide (show w.heap.size + 1 < w.heap.size + 1 + 1 by omega)
  have n5 := hide (show w.heap.size ≠ w.heap.size + 1 by omega)
  go_enter Try.func20, Try.ntmps20
  go_wp2_with fail
  refine (Rt.out _ B0).mono ?_
  rintro e w1 ⟨rfl, hb1⟩
  try replace bx := bx.below hb1 bx.lt
  try replace bo := bo.below hb1 bo.lt
  try replace by_ := by_.below hb1 by_.lt
  replace B0 := B0.trans (hb1.mono B0.size)
  clear hb1
  try clear mx lx
  try clear mo lo zo
  try clear my ly zy
  try have mx := fun i => bx.cell i
  try have lx := bx.lt
  try have mo := fun i => bo.cell i
  try have lo := bo.lt
  try have zo := fun i => bo.frozen i
  try have my := fun i => by_.cell i
  try have ly := by_.lt
  try have zy := fun i => by_.frozen i
  go_wp2_with fail
  refine (Fd.out _ B0).mono ?_
  rintro e w2 ⟨rfl, hb1⟩
  try replace bx := bx.below hb1 bx.lt
  try replace bo := bo.below hb1 bo.lt
  try replace by_ := by_.below hb1 by_.lt
  replace B0 := B0.trans (hb1.mono B0.size)
  clear hb1
  try clear mx lx
  try clear mo lo zo
  try clear my ly zy
  try have mx := fun i => bx.cell i
  try have lx := bx.lt
  try have mo := fun i => bo.cell i
  try have lo := bo.lt
  try have zo := fun i => bo.frozen i
  try have my := fun i => by_.cell i
  try have ly := by_.lt
  try have zy := fun i => by_.frozen i
  go_wp2_with fail
  clear mx lx mo lo zo Rt Fd
  replace bx := bx.drew
  replace bo := bo.drew
  have hb := B0.drew
  clear B0
  have HB1 := hide (show w.heap.size + 1 + 1 ≤ w2.drew.heap.size from bo.lt)
  have HG := n4
  have HLE := hide (show w.heap.size ≤ w.heap.size + 1 + 1 by omega)
  refine wp_region_heldZ [] (fun w' => (w'.cell? ⟨w.heap.size, 0, none⟩ = some (.bool b) ∧ w'.cell? ⟨w.heap.size, 1, none⟩ = some (.slice A n c) ∧ w'.cell? ⟨w.heap.size, 2, none⟩ = some (.slice (some ad) m d) ∧ w'.cell? ⟨w.heap.size, 3, none⟩ = some (.int .u64 l)) ∧ w'.cell? (ad.add q) = some (.int .u64 old)) (by kernel_rfl) (by exact ⟨cellsN bx, Zc.out _ hb⟩) (fun hHeld => ?_)
  generalize w2.drew = wy at *
  refine' wpAnyZ_takeA (i := 0) (v := ?_) (opAt rfl) (by kernel_rfl) (by kernel_rfl) (by kernel_rfl) (by kernel_rfl) (fun _ _ _ h => h) (by assumption) (by rfl) (fun w hSw => ?_) ?_
  rotate_left
  · (try dsimp only at hSw); go_simp; (try with_reducible rfl)
  try simp only [Act.put, List.setIfInBounds_toArray, List.set_cons_zero, List.set_cons_succ]
  refine' wpAnyZ_takeA (i := 1) (v := ?_) (opAt rfl) (by kernel_rfl) (by kernel_rfl) (by kernel_rfl) (by kernel_rfl) (fun _ _ _ h => h) (by assumption) (by rfl) (fun w hSw => ?_) ?_
  rotate_left
  · (try dsimp only at hSw); go_simp; (try with_reducible rfl)
  try simp only [Act.put, List.setIfInBounds_toArray, List.set_cons_zero, List.set_cons_succ]
  refine' wpAnyZ_takeA (i := 3) (v := ?_) (opAt rfl) (by kernel_rfl) (by kernel_rfl) (by kernel_rfl) (by kernel_rfl) (fun _ _ _ h => h) (by assumption) (by rfl) (fun w hSw => ?_) ?_
  rotate_left
  · (try dsimp only at hSw); go_simp; (try with_reducible rfl)
  try simp only [Act.put, List.setIfInBounds_toArray, List.set_cons_zero, List.set_cons_succ]
  refine' wpAnyZ_takeA (i := 4) (v := ?_) (opAt rfl) (by kernel_rfl) (by kernel_rfl) (by kernel_rfl) (by kernel_rfl) (fun _ _ _ h => h) (by assumption) (by rfl) (fun w hSw => ?_) ?_
  rotate_left
  · (try dsimp only at hSw); go_simp; (try with_reducible rfl)
  try simp only [Act.put, List.setIfInBounds_toArray, List.set_cons_zero, List.set_cons_succ]
  refine' wpAnyZ_takeA (i := 5) (v := ?_) (opAt rfl) (by kernel_rfl) (by kernel_rfl) (by kernel_rfl) (by kernel_rfl) (fun _ _ _ h => h) (by assumption) (by rfl) (fun w hSw => ?_) ?_
  rotate_left
  · (try dsimp only at hSw); go_simp; (try with_reducible rfl)
  try simp only [Act.put, List.setIfInBounds_toArray, List.set_cons_zero, List.set_cons_succ]
  refine' wpAnyZ_takeA (i := 6) (v := ?_) (opAt rfl) (by kernel_rfl) (by kernel_rfl) (by kernel_rfl) (by kernel_rfl) (fun _ _ _ h => h) (by assumption) (by rfl) (fun w hSw => ?_) ?_
  rotate_left
  · (try dsimp only at hSw); go_simp; (try with_reducible rfl)
  try simp only [Act.put, List.setIfInBounds_toArray, List.set_cons_zero, List.set_cons_succ]
  refine' wpAnyZ_takeA (i := 7) (v := ?_) (opAt rfl) (by kernel_rfl) (by kernel_rfl) (by kernel_rfl) (by kernel_rfl) (fun _ _ _ h => h) (by assumption) (by rfl) (fun w hSw => ?_) ?_
  rotate_left
  · (try dsimp only at hSw); go_simp; (try with_reducible rfl)
  try simp only [Act.put, List.setIfInBounds_toArray, List.set_cons_zero, List.set_cons_succ]
  refine' wpAnyZ_takeA (i := 8) (v := ?_) (opAt rfl) (by kernel_rfl) (by kernel_rfl) (by kernel_rfl) (by kernel_rfl) (fun _ _ _ h => h) (by assumption) (by rfl) (fun w hSw => ?_) ?_
  rotate_left
  · (try dsimp only at hSw); go_simp; (try with_reducible rfl)
  try simp only [Act.put, List.setIfInBounds_toArray, List.set_cons_zero, List.set_cons_succ]
  refine' wpAnyZ_takeA (i := 11) (v := ?_) (opAt rfl) (by kernel_rfl) (by kernel_rfl) (by kernel_rfl) (by kernel_rfl) (fun _ _ _ h => h) (by assumption) (by rfl) (fun w hSw => ?_) ?_
  rotate_left
  · (try dsimp only at hSw); go_simp; (try with_reducible rfl)
  try simp only [Act.put, List.setIfInBounds_toArray, List.set_cons_zero, List.set_cons_succ]
  refine' wpAnyZ_takeA (i := 12) (v := ?_) (opAt rfl) (by kernel_rfl) (by kernel_rfl) (by kernel_rfl) (by kernel_rfl) (fun _ _ _ h => h) (by assumption) (by rfl) (fun w hSw => ?_) ?_
  rotate_left
  · (try dsimp only at hSw); go_simp; (try with_reducible rfl)
  try simp only [Act.put, List.setIfInBounds_toArray, List.set_cons_zero, List.set_cons_succ]
  refine' wpAnyZ_takeA (i := 14) (v := ?_) (opAt rfl) (by kernel_rfl) (by kernel_rfl) (by kernel_rfl) (by kernel_rfl) (fun _ _ _ h => h) (by assumption) (by rfl) (fun w hSw => ?_) ?_
  rotate_left
  · (try dsimp only at hSw); go_simp; (try with_reducible rfl)
  try simp only [Act.put, List.setIfInBounds_toArray, List.set_cons_zero, List.set_cons_succ]
  refine' wpAnyZ_takeA (i := 15) (v := ?_) (opAt rfl) (by kernel_rfl) (by kernel_rfl) (by kernel_rfl) (by kernel_rfl) (fun _ _ _ h => h) (by assumption) (by rfl) (fun w hSw => ?_) ?_
  rotate_left
  · (try dsimp only at hSw); go_simp; (try with_reducible rfl)
  try simp only [Act.put, List.setIfInBounds_toArray, List.set_cons_zero, List.set_cons_succ]
  refine' wpAnyZ_takeA (i := 16) (v := ?_) (opAt rfl) (by kernel_rfl) (by kernel_rfl) (by kernel_rfl) (by kernel_rfl) (fun _ _ _ h => h) (by assumption) (by rfl) (fun w hSw => ?_) ?_
  rotate_left
  · (try dsimp only at hSw); go_simp; (try with_reducible rfl)
  try simp only [Act.put, List.setIfInBounds_toArray, List.set_cons_zero, List.set_cons_succ]
  refine' wpAnyZ_takeA (i := 17) (v := ?_) (opAt rfl) (by kernel_rfl) (by kernel_rfl) (by kernel_rfl) (by kernel_rfl) (fun _ _ _ h => h) (by assumption) (by rfl) (fun w hSw => ?_) ?_
  rotate_left
  · (try dsimp only at hSw); go_simp; (try with_reducible rfl)
  try simp only [Act.put, List.setIfInBounds_toArray, List.set_cons_zero, List.set_cons_succ]
  refine' wpAnyZ_takeA (i := 18) (v := ?_) (opAt rfl) (by kernel_rfl) (by kernel_rfl) (by kernel_rfl) (by kernel_rfl) (fun _ _ _ h => h) (by assumption) (by rfl) (fun w hSw => ?_) ?_
  rotate_left
  · (try dsimp only at hSw); go_simp; (try with_reducible rfl)
  try simp only [Act.put, List.setIfInBounds_toArray, List.set_cons_zero, List.set_cons_succ]
  refine wpAnyZ_ready (rs := [2, 9]) (by kernel_rfl) (by simp) ?_
  refine AllReadyZ.cons (opAt rfl) (fun K hK => ?_) ?_
  · skip
    go_simp
    refine (Cl.out _ hb).mono ?_
    rintro e wc ⟨⟨u1, rfl, r1⟩, hb1⟩
    replace r1 := own_mono (show World.ownsRow _ _ _ _ _ _ _ from r1) HB1.out
    replace HB1 := hide (Nat.le_trans HB1.out hb1.size)
    replace bx := bx.below hb1 bx.lt
    replace bo := bo.below hb1 bo.lt
    replace hb := hb.trans (hb1.mono hb.size)
    clear hb1
    obtain ⟨A1, d1, rfl⟩ := Own.val (show Own _ _ _ _ from r1)
    try go_wp2_with fail
    refine hK.out _ _ (by exact ⟨cellsN bx, Zc.out _ hb⟩) (fun hHeld => ?_)
    clear hK K
    try simp only [Act.put, List.setIfInBounds_toArray, List.set_cons_zero, List.set_cons_succ]
    refine wpAnyZ_ready (rs := [9]) (by kernel_rfl) (by simp) ?_
    refine AllReadyZ.cons (opAt rfl) (fun K hK => ?_) ?_
    · skip
      go_simp
      replace bx := bx.alloc (.cells #[.int .u64 val] 22)
      replace bo := bo.alloc (.cells #[.int .u64 val] 22)
      replace r1 := r1.alloc (.cells #[.int .u64 val] 22)
      have bk := Blk.new wc 22 #[.int .u64 val]
      replace hb := hb.alloc hb.size (.cells #[.int .u64 val] 22)
      replace HB1 := hide (Nat.le_trans HB1.out (show wc.heap.size ≤ (wc.alloc (.cells #[.int .u64 val] 22)).heap.size by rw [World.size_alloc]; exact Nat.le_succ _))
      generalize wc.alloc (.cells #[.int .u64 val] 22) = wbk at *
      refine hK.out _ _ (by exact ⟨cellsN bx, Zc.out _ hb⟩) (fun hHeld => ?_)
      clear hK K
      try simp only [Act.put, List.setIfInBounds_toArray, List.set_cons_zero, List.set_cons_succ]
      refine wpAnyZ_ready (rs := [10]) (by kernel_rfl) (by simp) ?_
      refine AllReadyZ.cons (opAt rfl) (fun K hK => ?_) ?_
      · skip
        go_simp
        refine (Sp.out _ _ hb bk).mono ?_
        rintro e wc ⟨⟨u2, rfl, r2⟩, hb1⟩
        replace r2 := own_mono (show World.ownsRow _ _ _ _ _ _ _ from r2) HB1.out
        replace HB1 := hide (Nat.le_trans HB1.out hb1.size)
        replace bx := bx.below hb1 bx.lt
        replace bo := bo.below hb1 bo.lt
        replace r1 := own_below r1 hb1
        replace hb := hb.trans (hb1.mono hb.size)
        clear hb1
        obtain ⟨A2, d2, rfl⟩ := Own.val (show Own _ _ _ _ from r2)
        try go_wp2_with fail
        refine hK.out _ _ (by exact ⟨cellsN bx, Zc.out _ hb⟩) (fun hHeld => ?_)
        clear hK K
        try simp only [Act.put, List.setIfInBounds_toArray, List.set_cons_zero, List.set_cons_succ]
        refine' wpAnyZ_takeA (i := 13) (v := ?_) (opAt rfl) (by kernel_rfl) (by kernel_rfl) (by kernel_rfl) (by kernel_rfl) (fun _ _ _ h => h) (by assumption) (by rfl) (fun w hSw => ?_) ?_
        rotate_left
        · (try dsimp only at hSw); go_simp; (try with_reducible rfl)
        try simp only [Act.put, List.setIfInBounds_toArray, List.set_cons_zero, List.set_cons_succ]
        refine wpAnyZ_ready (rs := [19]) (by kernel_rfl) (by simp) ?_
        refine AllReadyZ.cons (opAt rfl) (fun K hK => ?_) ?_
        · skip
          have zq := fun i => bo.frozen i
          have mq := fun i => bo.cell i
          go_simp
          clear zq mq
          replace bo := bo.setN (.bool false) (.slice A1 ks.length d1) (.slice A2 vv.length d2) (.int .u64 l)
          replace bx := bx.far4 n5.out (.bool false) (.slice A1 ks.length d1) (.slice A2 vv.length d2) (.int .u64 l)
          have R1 := own_farN r1 HG.out (.bool false) (.slice A1 ks.length d1) (.slice A2 vv.length d2) (.int .u64 l)
          have R2 := own_farN r2 HG.out (.bool false) (.slice A1 ks.length d1) (.slice A2 vv.length d2) (.int .u64 l)
          replace hb := below_setN hb (g := w.heap.size + 1) n3.out (.bool false) (.slice A1 ks.length d1) (.slice A2 vv.length d2) (.int .u64 l)
          clear r1 r2
          generalize ((((wc.setCell ⟨w.heap.size + 1, 0, none⟩ (.bool false)).setCell ⟨w.heap.size + 1, 1, none⟩ (.slice A1 ks.length d1)).setCell ⟨w.heap.size + 1, 2, none⟩ (.slice A2 vv.length d2)).setCell ⟨w.heap.size + 1, 3, none⟩ (.int .u64 l)) = wz at *
          refine hK.out _ _ (by exact ⟨cellsN bx, Zc.out _ hb⟩) (fun hHeld => ?_)
          clear hK K
          try simp only [Act.put, List.setIfInBounds_toArray, List.set_cons_zero, List.set_cons_succ]
          refine' wpAnyZ_takeA (i := 20) (v := ?_) (opAt rfl) (by kernel_rfl) (by kernel_rfl) (by kernel_rfl) (by kernel_rfl) (fun _ _ _ h => h) (by assumption) (by rfl) (fun w hSw => ?_) ?_
          rotate_left
          · (try dsimp only at hSw); go_simp; (try with_reducible rfl)
          try simp only [Act.put, List.setIfInBounds_toArray, List.set_cons_zero, List.set_cons_succ]
          refine' wpAnyZ_takeA (i := 21) (v := ?_) (opAt rfl) (by kernel_rfl) (by kernel_rfl) (by kernel_rfl) (by kernel_rfl) (fun _ _ _ h => h) (by assumption) (by rfl) (fun w hSw => ?_) ?_
          rotate_left
          · (try dsimp only at hSw); go_simp; (try with_reducible rfl)
          try simp only [Act.put, List.setIfInBounds_toArray, List.set_cons_zero, List.set_cons_succ]
          refine wpAnyZ_done (by kernel_rfl) ?_ _
          have m1 := fun i => bo.cell i
          go_wp2_with fail
          refine bodyPost_ret (v := .tuple #[.agg #[.bool false, .slice A1 ks.length d1, .slice A2 vv.length d2, .int .u64 l], .int .u64 old, .bool true]) (by simp [results, Try.results20, go_sem, m1]) rfl ⟨⟨_, rfl, _, _, rfl, own_mono R1 HLE.out, own_mono R2 HLE.out⟩, hb⟩
        exact AllReadyZ.nil
      exact AllReadyZ.nil
    exact AllReadyZ.nil
  refine AllReadyZ.cons (opAt rfl) (fun K hK => ?_) ?_
  · skip
    go_simp
    replace bx := bx.alloc (.cells #[.int .u64 val] 22)
    replace bo := bo.alloc (.cells #[.int .u64 val] 22)
    have bk := Blk.new wy 22 #[.int .u64 val]
    replace hb := hb.alloc hb.size (.cells #[.int .u64 val] 22)
    replace HB1 := hide (Nat.le_trans HB1.out (show wy.heap.size ≤ (wy.alloc (.cells #[.int .u64 val] 22)).heap.size by rw [World.size_alloc]; exact Nat.le_succ _))
    generalize wy.alloc (.cells #[.int .u64 val] 22) = wbk at *
    refine hK.out _ _ (by exact ⟨cellsN bx, Zc.out _ hb⟩) (fun hHeld => ?_)
    clear hK K
    try simp only [Act.put, List.setIfInBounds_toArray, List.set_cons_zero, List.set_cons_succ]
    refine wpAnyZ_ready (rs := [2]) (by kernel_rfl) (by simp) ?_
    refine AllReadyZ.cons (opAt rfl) (fun K hK => ?_) ?_
    · skip
      go_simp
      refine (Cl.out _ hb).mono ?_
      rintro e wc ⟨⟨u1, rfl, r1⟩, hb1⟩
      replace r1 := own_mono (show World.ownsRow _ _ _ _ _ _ _ from r1) HB1.out
      replace HB1 := hide (Nat.le_trans HB1.out hb1.size)
      replace bx := bx.below hb1 bx.lt
      replace bo := bo.below hb1 bo.lt
      replace bk := bk.below hb1 bk.lt
      replace hb := hb.trans (hb1.mono hb.size)
      clear hb1
      obtain ⟨A1, d1, rfl⟩ := Own.val (show Own _ _ _ _ from r1)
      try go_wp2_with fail
      refine hK.out _ _ (by exact ⟨cellsN bx, Zc.out _ hb⟩) (fun hHeld => ?_)
      clear hK K
      try simp only [Act.put, List.setIfInBounds_toArray, List.set_cons_zero, List.set_cons_succ]
      refine wpAnyZ_ready (rs := [10]) (by kernel_rfl) (by simp) ?_
      refine AllReadyZ.cons (opAt rfl) (fun K hK => ?_) ?_
      · skip
        go_simp
        refine (Sp.out _ _ hb bk).mono ?_
        rintro e wc ⟨⟨u2, rfl, r2⟩, hb1⟩
        replace r2 := own_mono (show World.ownsRow _ _ _ _ _ _ _ from r2) HB1.out
        replace HB1 := hide (Nat.le_trans HB1.out hb1.size)
        replace bx := bx.below hb1 bx.lt
        replace bo := bo.below hb1 bo.lt
        replace r1 := own_below r1 hb1
        replace hb := hb.trans (hb1.mono hb.size)
        clear hb1
        obtain ⟨A2, d2, rfl⟩ := Own.val (show Own _ _ _ _ from r2)
        try go_wp2_with fail
        refine hK.out _ _ (by exact ⟨cellsN bx, Zc.out _ hb⟩) (fun hHeld => ?_)
        clear hK K
        try simp only [Act.put, List.setIfInBounds_toArray, List.set_cons_zero, List.set_cons_succ]
        refine' wpAnyZ_takeA (i := 13) (v := ?_) (opAt rfl) (by kernel_rfl) (by kernel_rfl) (by kernel_rfl) (by kernel_rfl) (fun _ _ _ h => h) (by assumption) (by rfl) (fun w hSw => ?_) ?_
        rotate_left
        · (try dsimp only at hSw); go_simp; (try with_reducible rfl)
        try simp only [Act.put, List.setIfInBounds_toArray, List.set_cons_zero, List.set_cons_succ]
        refine wpAnyZ_ready (rs := [19]) (by kernel_rfl) (by simp) ?_
        refine AllReadyZ.cons (opAt rfl) (fun K hK => ?_) ?_
        · skip
          have zq := fun i => bo.frozen i
          have mq := fun i => bo.cell i
          go_simp
          clear zq mq
          replace bo := bo.setN (.bool false) (.slice A1 ks.length d1) (.slice A2 vv.length d2) (.int .u64 l)
          replace bx := bx.far4 n5.out (.bool false) (.slice A1 ks.length d1) (.slice A2 vv.length d2) (.int .u64 l)
          have R1 := own_farN r1 HG.out (.bool false) (.slice A1 ks.length d1) (.slice A2 vv.length d2) (.int .u64 l)
          have R2 := own_farN r2 HG.out (.bool false) (.slice A1 ks.length d1) (.slice A2 vv.length d2) (.int .u64 l)
          replace hb := below_setN hb (g := w.heap.size + 1) n3.out (.bool false) (.slice A1 ks.length d1) (.slice A2 vv.length d2) (.int .u64 l)
          clear r1 r2
          generalize ((((wc.setCell ⟨w.heap.size + 1, 0, none⟩ (.bool false)).setCell ⟨w.heap.size + 1, 1, none⟩ (.slice A1 ks.length d1)).setCell ⟨w.heap.size + 1, 2, none⟩ (.slice A2 vv.length d2)).setCell ⟨w.heap.size + 1, 3, none⟩ (.int .u64 l)) = wz at *
          refine hK.out _ _ (by exact ⟨cellsN bx, Zc.out _ hb⟩) (fun hHeld => ?_)
          clear hK K
          try simp only [Act.put, List.setIfInBounds_toArray, List.set_cons_zero, List.set_cons_succ]
          refine' wpAnyZ_takeA (i := 20) (v := ?_) (opAt rfl) (by kernel_rfl) (by kernel_rfl) (by kernel_rfl) (by kernel_rfl) (fun _ _ _ h => h) (by assumption) (by rfl) (fun w hSw => ?_) ?_
          rotate_left
          · (try dsimp only at hSw); go_simp; (try with_reducible rfl)
          try simp only [Act.put, List.setIfInBounds_toArray, List.set_cons_zero, List.set_cons_succ]
          refine' wpAnyZ_takeA (i := 21) (v := ?_) (opAt rfl) (by kernel_rfl) (by kernel_rfl) (by kernel_rfl) (by kernel_rfl) (fun _ _ _ h => h) (by assumption) (by rfl) (fun w hSw => ?_) ?_
          rotate_left
          · (try dsimp only at hSw); go_simp; (try with_reducible rfl)
          try simp only [Act.put, List.setIfInBounds_toArray, List.set_cons_zero, List.set_cons_succ]
          refine wpAnyZ_done (by kernel_rfl) ?_ _
          have m1 := fun i => bo.cell i
          go_wp2_with fail
          refine bodyPost_ret (v := .tuple #[.agg #[.bool false, .slice A1 ks.length d1, .slice A2 vv.length d2, .int .u64 l], .int .u64 old, .bool true]) (by simp [results, Try.results20, go_sem, m1]) rfl ⟨⟨_, rfl, _, _, rfl, own_mono R1 HLE.out, own_mono R2 HLE.out⟩, hb⟩
        exact AllReadyZ.nil
      exact AllReadyZ.nil
    exact AllReadyZ.nil
  exact AllReadyZ.nil
set_option maxRecDepth 100000 in
set_option maxHeartbeats 4000000 in
theorem put_new (v : Value) (b : Bool) (ks vs : List Int) (l key val : Int) (w : World) (hl : ks.length ≤ 1000) (h : Nd w w.heap.size v b ks vs l) (hr : rightB b ks vs = true) (hh : hasB key ks = false) :
    Calls Try.prog 20 #[v, .int .u64 key, .int .u64 val] w fun e w' => (∃ u, e = .returned (.tuple #[u, .int .u64 0, .bool false]) ∧ NdO w' w.heap.size u false (putL ks (lowN key ks) (lowN key ks) [key]) (putL vs (lowN key ks) (lowN key ks) [val]) l) ∧ Below w.heap.size w w' := by
  have Rt := hide (fun w2 (hB : Below w.heap.size w w2) => right_any v b ks vs l w2 (by omega) ((h.below hB).more hB.size))
  have Fd := hide (fun w2 (hB : Below w.heap.size w w2) => find_any v b ks vs l key w2 hl ((h.below hB).more hB.size))
  rw [(find_right hr).1, (find_right hr).2, hh] at Fd
  rw [hr] at Rt
  have hkv : ks.length = vs.length := by
    unfold rightB at hr
    simp only [Bool.and_eq_true, beq_iff_eq] at hr
    exact hr.1.2
  have hri := rightB_rise hr
  have hle := lowN_le key ks
  generalize lowN key ks = q at *
  obtain ⟨k0, u0, rfl, hk0, hu0⟩ := h
  have Sk := hide (fun g w2 (hB : Below w.heap.size w w2) (hbl : Blk w2 g 22 #[.int .u64 key]) => spliced_any k0 (.slice (some ⟨g, 0, none⟩) 1 1) ks [key] q q w2 (by omega) (by omega) (by omega) (by simp) ((hk0.below hB).more hB.size) (sl_one hbl))
  have Sp := hide (fun g w2 (hB : Below w.heap.size w w2) (hbl : Blk w2 g 22 #[.int .u64 val]) => spliced_any u0 (.slice (some ⟨g, 0, none⟩) 1 1) vs [val] q q w2 (by omega) (by omega) (by omega) (by simp) ((hu0.below hB).more hB.size) (sl_one hbl))
  obtain ⟨A, c, rfl, hc1, hc2, hrk⟩ := hk0
  obtain ⟨B, d, rfl, hd1, hd2, hrv⟩ := hu0
  show Calls _ _ _ _ fun e w' => (∃ u, e = .returned (.tuple #[u, .int .u64 0, .bool false]) ∧ NdO w' w.heap.size u false (cutL ks 0 q ++ [key] ++ cutL ks q ks.length) (cutL vs 0 q ++ [val] ++ cutL vs q vs.length) l) ∧ Below w.heap.size w w'
  generalize cutL ks 0 q ++ [key] ++ cutL ks q ks.length = kk at *
  generalize cutL vs 0 q ++ [val] ++ cutL vs q vs.length = vv at *
  clear hrk hrv hr hh hri hle hc1 hd1 hkv hl
  generalize ks.length = n at *
  generalize vs.length = m at *

  have bx := Blk.new w 27 #[.bool b, .slice A n c, .slice B m d, .int .u64 l]
  have B0 := (Below.refl w.heap.size w).alloc (Nat.le_refl _) (.cells #[.bool b, .slice A n c, .slice B m d, .int .u64 l] 27)
  have bo := Blk.new (w.alloc (.cells #[.bool b, .slice A n c, .slice B m d, .int .u64 l] 27)) 27 #[.bool false, .slice none 0 0, .slice none 0 0, .int .u64 0]
  replace bx := bx.alloc (.cells #[.bool false, .slice none 0 0, .slice none 0 0, .int .u64 0] 27)
  replace B0 := B0.alloc B0.size (.cells #[.bool false, .slice none 0 0, .slice none 0 0, .int .u64 0] 27)
  simp only [World.size_alloc] at bo
  have n3 := hide (show w.heap.size ≤ w.heap.size + 1 by omega)
  have n4 := hide (show w.heap.size + 1 < w.heap.size + 1 + 1 by omega)
  have n5 := hide (show w.heap.size ≠ w.heap.size + 1 by omega)
  go_enter Try.func20, Try.ntmps20
  go_wp2_with fail
  refine (Rt.out _ B0).mono ?_
  rintro e w1 ⟨rfl, hb1⟩
  try replace bx := bx.below hb1 bx.lt
  try replace bo := bo.below hb1 bo.lt
  try replace by_ := by_.below hb1 by_.lt
  replace B0 := B0.trans (hb1.mono B0.size)
  clear hb1
  try clear mx lx
  try clear mo lo zo
  try clear my ly zy
  try have mx := fun i => bx.cell i
  try have lx := bx.lt
  try have mo := fun i => bo.cell i
  try have lo := bo.lt
  try have zo := fun i => bo.frozen i
  try have my := fun i => by_.cell i
  try have ly := by_.lt
  try have zy := fun i => by_.frozen i
  go_wp2_with fail
  refine (Fd.out _ B0).mono ?_
  rintro e w2 ⟨rfl, hb1⟩
  try replace bx := bx.below hb1 bx.lt
  try replace bo := bo.below hb1 bo.lt
  try replace by_ := by_.below hb1 by_.lt
  replace B0 := B0.trans (hb1.mono B0.size)
  clear hb1
  try clear mx lx
  try clear mo lo zo
  try clear my ly zy
  try have mx := fun i => bx.cell i
  try have lx := bx.lt
  try have mo := fun i => bo.cell i
  try have lo := bo.lt
  try have zo := fun i => bo.frozen i
  try have my := fun i => by_.cell i
  try have ly := by_.lt
  try have zy := fun i => by_.frozen i
  go_wp2_with fail
  clear mx lx mo lo zo Rt Fd
  replace bx := bx.drew
  replace bo := bo.drew
  have hb := B0.drew
  clear B0
  have HB1 := hide (show w.heap.size + 1 + 1 ≤ w2.drew.heap.size from bo.lt)
  have HG := n4
  have HLE := hide (show w.heap.size ≤ w.heap.size + 1 + 1 by omega)
  refine wp_region_heldZ [] (fun w' => w'.cell? ⟨w.heap.size, 0, none⟩ = some (.bool b) ∧ w'.cell? ⟨w.heap.size, 1, none⟩ = some (.slice A n c) ∧ w'.cell? ⟨w.heap.size, 2, none⟩ = some (.slice B m d) ∧ w'.cell? ⟨w.heap.size, 3, none⟩ = some (.int .u64 l)) (by kernel_rfl) (by exact cellsN bx) (fun hHeld => ?_)
  generalize w2.drew = wy at *
  refine' wpAnyZ_takeA (i := 0) (v := ?_) (opAt rfl) (by kernel_rfl) (by kernel_rfl) (by kernel_rfl) (by kernel_rfl) (fun _ _ _ h => h) (by assumption) (by rfl) (fun w hSw => ?_) ?_
  rotate_left
  · (try dsimp only at hSw); go_simp; (try with_reducible rfl)
  try simp only [Act.put, List.setIfInBounds_toArray, List.set_cons_zero, List.set_cons_succ]
  refine' wpAnyZ_takeA (i := 1) (v := ?_) (opAt rfl) (by kernel_rfl) (by kernel_rfl) (by kernel_rfl) (by kernel_rfl) (fun _ _ _ h => h) (by assumption) (by rfl) (fun w hSw => ?_) ?_
  rotate_left
  · (try dsimp only at hSw); go_simp; (try with_reducible rfl)
  try simp only [Act.put, List.setIfInBounds_toArray, List.set_cons_zero, List.set_cons_succ]
  refine' wpAnyZ_takeA (i := 2) (v := ?_) (opAt rfl) (by kernel_rfl) (by kernel_rfl) (by kernel_rfl) (by kernel_rfl) (fun _ _ _ h => h) (by assumption) (by rfl) (fun w hSw => ?_) ?_
  rotate_left
  · (try dsimp only at hSw); go_simp; (try with_reducible rfl)
  try simp only [Act.put, List.setIfInBounds_toArray, List.set_cons_zero, List.set_cons_succ]
  refine' wpAnyZ_takeA (i := 3) (v := ?_) (opAt rfl) (by kernel_rfl) (by kernel_rfl) (by kernel_rfl) (by kernel_rfl) (fun _ _ _ h => h) (by assumption) (by rfl) (fun w hSw => ?_) ?_
  rotate_left
  · (try dsimp only at hSw); go_simp; (try with_reducible rfl)
  try simp only [Act.put, List.setIfInBounds_toArray, List.set_cons_zero, List.set_cons_succ]
  refine' wpAnyZ_takeA (i := 4) (v := ?_) (opAt rfl) (by kernel_rfl) (by kernel_rfl) (by kernel_rfl) (by kernel_rfl) (fun _ _ _ h => h) (by assumption) (by rfl) (fun w hSw => ?_) ?_
  rotate_left
  · (try dsimp only at hSw); go_simp; (try with_reducible rfl)
  try simp only [Act.put, List.setIfInBounds_toArray, List.set_cons_zero, List.set_cons_succ]
  refine' wpAnyZ_takeA (i := 7) (v := ?_) (opAt rfl) (by kernel_rfl) (by kernel_rfl) (by kernel_rfl) (by kernel_rfl) (fun _ _ _ h => h) (by assumption) (by rfl) (fun w hSw => ?_) ?_
  rotate_left
  · (try dsimp only at hSw); go_simp; (try with_reducible rfl)
  try simp only [Act.put, List.setIfInBounds_toArray, List.set_cons_zero, List.set_cons_succ]
  refine' wpAnyZ_takeA (i := 8) (v := ?_) (opAt rfl) (by kernel_rfl) (by kernel_rfl) (by kernel_rfl) (by kernel_rfl) (fun _ _ _ h => h) (by assumption) (by rfl) (fun w hSw => ?_) ?_
  rotate_left
  · (try dsimp only at hSw); go_simp; (try with_reducible rfl)
  try simp only [Act.put, List.setIfInBounds_toArray, List.set_cons_zero, List.set_cons_succ]
  refine' wpAnyZ_takeA (i := 9) (v := ?_) (opAt rfl) (by kernel_rfl) (by kernel_rfl) (by kernel_rfl) (by kernel_rfl) (fun _ _ _ h => h) (by assumption) (by rfl) (fun w hSw => ?_) ?_
  rotate_left
  · (try dsimp only at hSw); go_simp; (try with_reducible rfl)
  try simp only [Act.put, List.setIfInBounds_toArray, List.set_cons_zero, List.set_cons_succ]
  refine' wpAnyZ_takeA (i := 10) (v := ?_) (opAt rfl) (by kernel_rfl) (by kernel_rfl) (by kernel_rfl) (by kernel_rfl) (fun _ _ _ h => h) (by assumption) (by rfl) (fun w hSw => ?_) ?_
  rotate_left
  · (try dsimp only at hSw); go_simp; (try with_reducible rfl)
  try simp only [Act.put, List.setIfInBounds_toArray, List.set_cons_zero, List.set_cons_succ]
  refine' wpAnyZ_takeA (i := 11) (v := ?_) (opAt rfl) (by kernel_rfl) (by kernel_rfl) (by kernel_rfl) (by kernel_rfl) (fun _ _ _ h => h) (by assumption) (by rfl) (fun w hSw => ?_) ?_
  rotate_left
  · (try dsimp only at hSw); go_simp; (try with_reducible rfl)
  try simp only [Act.put, List.setIfInBounds_toArray, List.set_cons_zero, List.set_cons_succ]
  refine' wpAnyZ_takeA (i := 14) (v := ?_) (opAt rfl) (by kernel_rfl) (by kernel_rfl) (by kernel_rfl) (by kernel_rfl) (fun _ _ _ h => h) (by assumption) (by rfl) (fun w hSw => ?_) ?_
  rotate_left
  · (try dsimp only at hSw); go_simp; (try with_reducible rfl)
  try simp only [Act.put, List.setIfInBounds_toArray, List.set_cons_zero, List.set_cons_succ]
  refine' wpAnyZ_takeA (i := 15) (v := ?_) (opAt rfl) (by kernel_rfl) (by kernel_rfl) (by kernel_rfl) (by kernel_rfl) (fun _ _ _ h => h) (by assumption) (by rfl) (fun w hSw => ?_) ?_
  rotate_left
  · (try dsimp only at hSw); go_simp; (try with_reducible rfl)
  try simp only [Act.put, List.setIfInBounds_toArray, List.set_cons_zero, List.set_cons_succ]
  refine wpAnyZ_ready (rs := [5, 12]) (by kernel_rfl) (by simp) ?_
  refine AllReadyZ.cons (opAt rfl) (fun K hK => ?_) ?_
  · skip
    go_simp
    replace bx := bx.alloc (.cells #[.int .u64 key] 22)
    replace bo := bo.alloc (.cells #[.int .u64 key] 22)
    have bk := Blk.new wy 22 #[.int .u64 key]
    replace hb := hb.alloc hb.size (.cells #[.int .u64 key] 22)
    replace HB1 := hide (Nat.le_trans HB1.out (show wy.heap.size ≤ (wy.alloc (.cells #[.int .u64 key] 22)).heap.size by rw [World.size_alloc]; exact Nat.le_succ _))
    generalize wy.alloc (.cells #[.int .u64 key] 22) = wbk at *
    refine hK.out _ _ (by exact cellsN bx) (fun hHeld => ?_)
    clear hK K
    try simp only [Act.put, List.setIfInBounds_toArray, List.set_cons_zero, List.set_cons_succ]
    refine wpAnyZ_ready (rs := [6, 12]) (by kernel_rfl) (by simp) ?_
    refine AllReadyZ.cons (opAt rfl) (fun K hK => ?_) ?_
    · skip
      go_simp
      refine (Sk.out _ _ hb bk).mono ?_
      rintro e wc ⟨⟨u1, rfl, r1⟩, hb1⟩
      replace r1 := own_mono (show World.ownsRow _ _ _ _ _ _ _ from r1) HB1.out
      replace HB1 := hide (Nat.le_trans HB1.out hb1.size)
      replace bx := bx.below hb1 bx.lt
      replace bo := bo.below hb1 bo.lt
      replace hb := hb.trans (hb1.mono hb.size)
      clear hb1
      obtain ⟨A1, d1, rfl⟩ := Own.val (show Own _ _ _ _ from r1)
      try go_wp2_with fail
      refine hK.out _ _ (by exact cellsN bx) (fun hHeld => ?_)
      clear hK K
      try simp only [Act.put, List.setIfInBounds_toArray, List.set_cons_zero, List.set_cons_succ]
      refine wpAnyZ_ready (rs := [12]) (by kernel_rfl) (by simp) ?_
      refine AllReadyZ.cons (opAt rfl) (fun K hK => ?_) ?_
      · skip
        go_simp
        replace bx := bx.alloc (.cells #[.int .u64 val] 22)
        replace bo := bo.alloc (.cells #[.int .u64 val] 22)
        replace r1 := r1.alloc (.cells #[.int .u64 val] 22)
        have bv := Blk.new wc 22 #[.int .u64 val]
        replace hb := hb.alloc hb.size (.cells #[.int .u64 val] 22)
        replace HB1 := hide (Nat.le_trans HB1.out (show wc.heap.size ≤ (wc.alloc (.cells #[.int .u64 val] 22)).heap.size by rw [World.size_alloc]; exact Nat.le_succ _))
        generalize wc.alloc (.cells #[.int .u64 val] 22) = wbv at *
        refine hK.out _ _ (by exact cellsN bx) (fun hHeld => ?_)
        clear hK K
        try simp only [Act.put, List.setIfInBounds_toArray, List.set_cons_zero, List.set_cons_succ]
        refine wpAnyZ_ready (rs := [13]) (by kernel_rfl) (by simp) ?_
        refine AllReadyZ.cons (opAt rfl) (fun K hK => ?_) ?_
        · skip
          go_simp
          refine (Sp.out _ _ hb bv).mono ?_
          rintro e wc ⟨⟨u2, rfl, r2⟩, hb1⟩
          replace r2 := own_mono (show World.ownsRow _ _ _ _ _ _ _ from r2) HB1.out
          replace HB1 := hide (Nat.le_trans HB1.out hb1.size)
          replace bx := bx.below hb1 bx.lt
          replace bo := bo.below hb1 bo.lt
          replace r1 := own_below r1 hb1
          replace hb := hb.trans (hb1.mono hb.size)
          clear hb1
          obtain ⟨A2, d2, rfl⟩ := Own.val (show Own _ _ _ _ from r2)
          try go_wp2_with fail
          refine hK.out _ _ (by exact cellsN bx) (fun hHeld => ?_)
          clear hK K
          try simp only [Act.put, List.setIfInBounds_toArray, List.set_cons_zero, List.set_cons_succ]
          refine' wpAnyZ_takeA (i := 16) (v := ?_) (opAt rfl) (by kernel_rfl) (by kernel_rfl) (by kernel_rfl) (by kernel_rfl) (fun _ _ _ h => h) (by assumption) (by rfl) (fun w hSw => ?_) ?_
          rotate_left
          · (try dsimp only at hSw); go_simp; (try with_reducible rfl)
          try simp only [Act.put, List.setIfInBounds_toArray, List.set_cons_zero, List.set_cons_succ]
          refine wpAnyZ_ready (rs := [17]) (by kernel_rfl) (by simp) ?_
          refine AllReadyZ.cons (opAt rfl) (fun K hK => ?_) ?_
          · skip
            have zq := fun i => bo.frozen i
            have mq := fun i => bo.cell i
            go_simp
            clear zq mq
            replace bo := bo.setN (.bool false) (.slice A1 kk.length d1) (.slice A2 vv.length d2) (.int .u64 l)
            replace bx := bx.far4 n5.out (.bool false) (.slice A1 kk.length d1) (.slice A2 vv.length d2) (.int .u64 l)
            have R1 := own_farN r1 HG.out (.bool false) (.slice A1 kk.length d1) (.slice A2 vv.length d2) (.int .u64 l)
            have R2 := own_farN r2 HG.out (.bool false) (.slice A1 kk.length d1) (.slice A2 vv.length d2) (.int .u64 l)
            replace hb := below_setN hb (g := w.heap.size + 1) n3.out (.bool false) (.slice A1 kk.length d1) (.slice A2 vv.length d2) (.int .u64 l)
            clear r1 r2
            generalize ((((wc.setCell ⟨w.heap.size + 1, 0, none⟩ (.bool false)).setCell ⟨w.heap.size + 1, 1, none⟩ (.slice A1 kk.length d1)).setCell ⟨w.heap.size + 1, 2, none⟩ (.slice A2 vv.length d2)).setCell ⟨w.heap.size + 1, 3, none⟩ (.int .u64 l)) = wz at *
            refine hK.out _ _ (by exact cellsN bx) (fun hHeld => ?_)
            clear hK K
            try simp only [Act.put, List.setIfInBounds_toArray, List.set_cons_zero, List.set_cons_succ]
            refine' wpAnyZ_takeA (i := 18) (v := ?_) (opAt rfl) (by kernel_rfl) (by kernel_rfl) (by kernel_rfl) (by kernel_rfl) (fun _ _ _ h => h) (by assumption) (by rfl) (fun w hSw => ?_) ?_
            rotate_left
            · (try dsimp only at hSw); go_simp; (try with_reducible rfl)
            try simp only [Act.put, List.setIfInBounds_toArray, List.set_cons_zero, List.set_cons_succ]
            refine' wpAnyZ_takeA (i := 19) (v := ?_) (opAt rfl) (by kernel_rfl) (by kernel_rfl) (by kernel_rfl) (by kernel_rfl) (fun _ _ _ h => h) (by assumption) (by rfl) (fun w hSw => ?_) ?_
            rotate_left
            · (try dsimp only at hSw); go_simp; (try with_reducible rfl)
            try simp only [Act.put, List.setIfInBounds_toArray, List.set_cons_zero, List.set_cons_succ]
            refine wpAnyZ_done (by kernel_rfl) ?_ _
            have m1 := fun i => bo.cell i
            go_wp2_with fail
            refine bodyPost_ret (v := .tuple #[.agg #[.bool false, .slice A1 kk.length d1, .slice A2 vv.length d2, .int .u64 l], .int .u64 0, .bool false]) (by simp [results, Try.results20, go_sem, m1]) rfl ⟨⟨_, rfl, _, _, rfl, own_mono R1 HLE.out, own_mono R2 HLE.out⟩, hb⟩
          exact AllReadyZ.nil
        exact AllReadyZ.nil
      exact AllReadyZ.nil
    refine AllReadyZ.cons (opAt rfl) (fun K hK => ?_) ?_
    · skip
      go_simp
      replace bx := bx.alloc (.cells #[.int .u64 val] 22)
      replace bo := bo.alloc (.cells #[.int .u64 val] 22)
      replace bk := bk.alloc (.cells #[.int .u64 val] 22)
      have bv := Blk.new wbk 22 #[.int .u64 val]
      replace hb := hb.alloc hb.size (.cells #[.int .u64 val] 22)
      replace HB1 := hide (Nat.le_trans HB1.out (show wbk.heap.size ≤ (wbk.alloc (.cells #[.int .u64 val] 22)).heap.size by rw [World.size_alloc]; exact Nat.le_succ _))
      generalize wbk.alloc (.cells #[.int .u64 val] 22) = wbv at *
      refine hK.out _ _ (by exact cellsN bx) (fun hHeld => ?_)
      clear hK K
      try simp only [Act.put, List.setIfInBounds_toArray, List.set_cons_zero, List.set_cons_succ]
      refine wpAnyZ_ready (rs := [6]) (by kernel_rfl) (by simp) ?_
      refine AllReadyZ.cons (opAt rfl) (fun K hK => ?_) ?_
      · skip
        go_simp
        refine (Sk.out _ _ hb bk).mono ?_
        rintro e wc ⟨⟨u1, rfl, r1⟩, hb1⟩
        replace r1 := own_mono (show World.ownsRow _ _ _ _ _ _ _ from r1) HB1.out
        replace HB1 := hide (Nat.le_trans HB1.out hb1.size)
        replace bx := bx.below hb1 bx.lt
        replace bo := bo.below hb1 bo.lt
        replace bv := bv.below hb1 bv.lt
        replace hb := hb.trans (hb1.mono hb.size)
        clear hb1
        obtain ⟨A1, d1, rfl⟩ := Own.val (show Own _ _ _ _ from r1)
        try go_wp2_with fail
        refine hK.out _ _ (by exact cellsN bx) (fun hHeld => ?_)
        clear hK K
        try simp only [Act.put, List.setIfInBounds_toArray, List.set_cons_zero, List.set_cons_succ]
        refine wpAnyZ_ready (rs := [13]) (by kernel_rfl) (by simp) ?_
        refine AllReadyZ.cons (opAt rfl) (fun K hK => ?_) ?_
        · skip
          go_simp
          refine (Sp.out _ _ hb bv).mono ?_
          rintro e wc ⟨⟨u2, rfl, r2⟩, hb1⟩
          replace r2 := own_mono (show World.ownsRow _ _ _ _ _ _ _ from r2) HB1.out
          replace HB1 := hide (Nat.le_trans HB1.out hb1.size)
          replace bx := bx.below hb1 bx.lt
          replace bo := bo.below hb1 bo.lt
          replace r1 := own_below r1 hb1
          replace hb := hb.trans (hb1.mono hb.size)
          clear hb1
          obtain ⟨A2, d2, rfl⟩ := Own.val (show Own _ _ _ _ from r2)
          try go_wp2_with fail
          refine hK.out _ _ (by exact cellsN bx) (fun hHeld => ?_)
          clear hK K
          try simp only [Act.put, List.setIfInBounds_toArray, List.set_cons_zero, List.set_cons_succ]
          refine' wpAnyZ_takeA (i := 16) (v := ?_) (opAt rfl) (by kernel_rfl) (by kernel_rfl) (by kernel_rfl) (by kernel_rfl) (fun _ _ _ h => h) (by assumption) (by rfl) (fun w hSw => ?_) ?_
          rotate_left
          · (try dsimp only at hSw); go_simp; (try with_reducible rfl)
          try simp only [Act.put, List.setIfInBounds_toArray, List.set_cons_zero, List.set_cons_succ]
          refine wpAnyZ_ready (rs := [17]) (by kernel_rfl) (by simp) ?_
          refine AllReadyZ.cons (opAt rfl) (fun K hK => ?_) ?_
          · skip
            have zq := fun i => bo.frozen i
            have mq := fun i => bo.cell i
            go_simp
            clear zq mq
            replace bo := bo.setN (.bool false) (.slice A1 kk.length d1) (.slice A2 vv.length d2) (.int .u64 l)
            replace bx := bx.far4 n5.out (.bool false) (.slice A1 kk.length d1) (.slice A2 vv.length d2) (.int .u64 l)
            have R1 := own_farN r1 HG.out (.bool false) (.slice A1 kk.length d1) (.slice A2 vv.length d2) (.int .u64 l)
            have R2 := own_farN r2 HG.out (.bool false) (.slice A1 kk.length d1) (.slice A2 vv.length d2) (.int .u64 l)
            replace hb := below_setN hb (g := w.heap.size + 1) n3.out (.bool false) (.slice A1 kk.length d1) (.slice A2 vv.length d2) (.int .u64 l)
            clear r1 r2
            generalize ((((wc.setCell ⟨w.heap.size + 1, 0, none⟩ (.bool false)).setCell ⟨w.heap.size + 1, 1, none⟩ (.slice A1 kk.length d1)).setCell ⟨w.heap.size + 1, 2, none⟩ (.slice A2 vv.length d2)).setCell ⟨w.heap.size + 1, 3, none⟩ (.int .u64 l)) = wz at *
            refine hK.out _ _ (by exact cellsN bx) (fun hHeld => ?_)
            clear hK K
            try simp only [Act.put, List.setIfInBounds_toArray, List.set_cons_zero, List.set_cons_succ]
            refine' wpAnyZ_takeA (i := 18) (v := ?_) (opAt rfl) (by kernel_rfl) (by kernel_rfl) (by kernel_rfl) (by kernel_rfl) (fun _ _ _ h => h) (by assumption) (by rfl) (fun w hSw => ?_) ?_
            rotate_left
            · (try dsimp only at hSw); go_simp; (try with_reducible rfl)
            try simp only [Act.put, List.setIfInBounds_toArray, List.set_cons_zero, List.set_cons_succ]
            refine' wpAnyZ_takeA (i := 19) (v := ?_) (opAt rfl) (by kernel_rfl) (by kernel_rfl) (by kernel_rfl) (by kernel_rfl) (fun _ _ _ h => h) (by assumption) (by rfl) (fun w hSw => ?_) ?_
            rotate_left
            · (try dsimp only at hSw); go_simp; (try with_reducible rfl)
            try simp only [Act.put, List.setIfInBounds_toArray, List.set_cons_zero, List.set_cons_succ]
            refine wpAnyZ_done (by kernel_rfl) ?_ _
            have m1 := fun i => bo.cell i
            go_wp2_with fail
            refine bodyPost_ret (v := .tuple #[.agg #[.bool false, .slice A1 kk.length d1, .slice A2 vv.length d2, .int .u64 l], .int .u64 0, .bool false]) (by simp [results, Try.results20, go_sem, m1]) rfl ⟨⟨_, rfl, _, _, rfl, own_mono R1 HLE.out, own_mono R2 HLE.out⟩, hb⟩
          exact AllReadyZ.nil
        exact AllReadyZ.nil
      exact AllReadyZ.nil
    exact AllReadyZ.nil
  refine AllReadyZ.cons (opAt rfl) (fun K hK => ?_) ?_
  · skip
    go_simp
    replace bx := bx.alloc (.cells #[.int .u64 val] 22)
    replace bo := bo.alloc (.cells #[.int .u64 val] 22)
    have bv := Blk.new wy 22 #[.int .u64 val]
    replace hb := hb.alloc hb.size (.cells #[.int .u64 val] 22)
    replace HB1 := hide (Nat.le_trans HB1.out (show wy.heap.size ≤ (wy.alloc (.cells #[.int .u64 val] 22)).heap.size by rw [World.size_alloc]; exact Nat.le_succ _))
    generalize wy.alloc (.cells #[.int .u64 val] 22) = wbv at *
    refine hK.out _ _ (by exact cellsN bx) (fun hHeld => ?_)
    clear hK K
    try simp only [Act.put, List.setIfInBounds_toArray, List.set_cons_zero, List.set_cons_succ]
    refine wpAnyZ_ready (rs := [5]) (by kernel_rfl) (by simp) ?_
    refine AllReadyZ.cons (opAt rfl) (fun K hK => ?_) ?_
    · skip
      go_simp
      replace bx := bx.alloc (.cells #[.int .u64 key] 22)
      replace bo := bo.alloc (.cells #[.int .u64 key] 22)
      replace bv := bv.alloc (.cells #[.int .u64 key] 22)
      have bk := Blk.new wbv 22 #[.int .u64 key]
      replace hb := hb.alloc hb.size (.cells #[.int .u64 key] 22)
      replace HB1 := hide (Nat.le_trans HB1.out (show wbv.heap.size ≤ (wbv.alloc (.cells #[.int .u64 key] 22)).heap.size by rw [World.size_alloc]; exact Nat.le_succ _))
      generalize wbv.alloc (.cells #[.int .u64 key] 22) = wbk at *
      refine hK.out _ _ (by exact cellsN bx) (fun hHeld => ?_)
      clear hK K
      try simp only [Act.put, List.setIfInBounds_toArray, List.set_cons_zero, List.set_cons_succ]
      refine wpAnyZ_ready (rs := [6]) (by kernel_rfl) (by simp) ?_
      refine AllReadyZ.cons (opAt rfl) (fun K hK => ?_) ?_
      · skip
        go_simp
        refine (Sk.out _ _ hb bk).mono ?_
        rintro e wc ⟨⟨u1, rfl, r1⟩, hb1⟩
        replace r1 := own_mono (show World.ownsRow _ _ _ _ _ _ _ from r1) HB1.out
        replace HB1 := hide (Nat.le_trans HB1.out hb1.size)
        replace bx := bx.below hb1 bx.lt
        replace bo := bo.below hb1 bo.lt
        replace bv := bv.below hb1 bv.lt
        replace hb := hb.trans (hb1.mono hb.size)
        clear hb1
        obtain ⟨A1, d1, rfl⟩ := Own.val (show Own _ _ _ _ from r1)
        try go_wp2_with fail
        refine hK.out _ _ (by exact cellsN bx) (fun hHeld => ?_)
        clear hK K
        try simp only [Act.put, List.setIfInBounds_toArray, List.set_cons_zero, List.set_cons_succ]
        refine wpAnyZ_ready (rs := [13]) (by kernel_rfl) (by simp) ?_
        refine AllReadyZ.cons (opAt rfl) (fun K hK => ?_) ?_
        · skip
          go_simp
          refine (Sp.out _ _ hb bv).mono ?_
          rintro e wc ⟨⟨u2, rfl, r2⟩, hb1⟩
          replace r2 := own_mono (show World.ownsRow _ _ _ _ _ _ _ from r2) HB1.out
          replace HB1 := hide (Nat.le_trans HB1.out hb1.size)
          replace bx := bx.below hb1 bx.lt
          replace bo := bo.below hb1 bo.lt
          replace r1 := own_below r1 hb1
          replace hb := hb.trans (hb1.mono hb.size)
          clear hb1
          obtain ⟨A2, d2, rfl⟩ := Own.val (show Own _ _ _ _ from r2)
          try go_wp2_with fail
          refine hK.out _ _ (by exact cellsN bx) (fun hHeld => ?_)
          clear hK K
          try simp only [Act.put, List.setIfInBounds_toArray, List.set_cons_zero, List.set_cons_succ]
          refine' wpAnyZ_takeA (i := 16) (v := ?_) (opAt rfl) (by kernel_rfl) (by kernel_rfl) (by kernel_rfl) (by kernel_rfl) (fun _ _ _ h => h) (by assumption) (by rfl) (fun w hSw => ?_) ?_
          rotate_left
          · (try dsimp only at hSw); go_simp; (try with_reducible rfl)
          try simp only [Act.put, List.setIfInBounds_toArray, List.set_cons_zero, List.set_cons_succ]
          refine wpAnyZ_ready (rs := [17]) (by kernel_rfl) (by simp) ?_
          refine AllReadyZ.cons (opAt rfl) (fun K hK => ?_) ?_
          · skip
            have zq := fun i => bo.frozen i
            have mq := fun i => bo.cell i
            go_simp
            clear zq mq
            replace bo := bo.setN (.bool false) (.slice A1 kk.length d1) (.slice A2 vv.length d2) (.int .u64 l)
            replace bx := bx.far4 n5.out (.bool false) (.slice A1 kk.length d1) (.slice A2 vv.length d2) (.int .u64 l)
            have R1 := own_farN r1 HG.out (.bool false) (.slice A1 kk.length d1) (.slice A2 vv.length d2) (.int .u64 l)
            have R2 := own_farN r2 HG.out (.bool false) (.slice A1 kk.length d1) (.slice A2 vv.length d2) (.int .u64 l)
            replace hb := below_setN hb (g := w.heap.size + 1) n3.out (.bool false) (.slice A1 kk.length d1) (.slice A2 vv.length d2) (.int .u64 l)
            clear r1 r2
            generalize ((((wc.setCell ⟨w.heap.size + 1, 0, none⟩ (.bool false)).setCell ⟨w.heap.size + 1, 1, none⟩ (.slice A1 kk.length d1)).setCell ⟨w.heap.size + 1, 2, none⟩ (.slice A2 vv.length d2)).setCell ⟨w.heap.size + 1, 3, none⟩ (.int .u64 l)) = wz at *
            refine hK.out _ _ (by exact cellsN bx) (fun hHeld => ?_)
            clear hK K
            try simp only [Act.put, List.setIfInBounds_toArray, List.set_cons_zero, List.set_cons_succ]
            refine' wpAnyZ_takeA (i := 18) (v := ?_) (opAt rfl) (by kernel_rfl) (by kernel_rfl) (by kernel_rfl) (by kernel_rfl) (fun _ _ _ h => h) (by assumption) (by rfl) (fun w hSw => ?_) ?_
            rotate_left
            · (try dsimp only at hSw); go_simp; (try with_reducible rfl)
            try simp only [Act.put, List.setIfInBounds_toArray, List.set_cons_zero, List.set_cons_succ]
            refine' wpAnyZ_takeA (i := 19) (v := ?_) (opAt rfl) (by kernel_rfl) (by kernel_rfl) (by kernel_rfl) (by kernel_rfl) (fun _ _ _ h => h) (by assumption) (by rfl) (fun w hSw => ?_) ?_
            rotate_left
            · (try dsimp only at hSw); go_simp; (try with_reducible rfl)
            try simp only [Act.put, List.setIfInBounds_toArray, List.set_cons_zero, List.set_cons_succ]
            refine wpAnyZ_done (by kernel_rfl) ?_ _
            have m1 := fun i => bo.cell i
            go_wp2_with fail
            refine bodyPost_ret (v := .tuple #[.agg #[.bool false, .slice A1 kk.length d1, .slice A2 vv.length d2, .int .u64 l], .int .u64 0, .bool false]) (by simp [results, Try.results20, go_sem, m1]) rfl ⟨⟨_, rfl, _, _, rfl, own_mono R1 HLE.out, own_mono R2 HLE.out⟩, hb⟩
          exact AllReadyZ.nil
        exact AllReadyZ.nil
      exact AllReadyZ.nil
    exact AllReadyZ.nil
  exact AllReadyZ.nil
set_option maxRecDepth 100000 in
set_option maxHeartbeats 4000000 in
theorem drop_yes (v : Value) (b : Bool) (ks vs : List Int) (l key : Int) (w : World) (hl : ks.length ≤ 1000) (h : Nd w w.heap.size v b ks vs l) (hr : rightB b ks vs = true) (hh : hasB key ks = true) :
    Calls Try.prog 21 #[v, .int .u64 key] w fun e w' => (∃ u, e = .returned (.tuple #[u, .int .u64 (vs.getD (lowN key ks) 0), .bool true]) ∧ NdO w' w.heap.size u false (putL ks (lowN key ks) (lowN key ks + 1) []) (putL vs (lowN key ks) (lowN key ks + 1) []) l) ∧ Below w.heap.size w w' := by
  have Rt := hide (fun w2 (hB : Below w.heap.size w w2) => right_any v b ks vs l w2 (by omega) ((h.below hB).more hB.size))
  have Fd := hide (fun w2 (hB : Below w.heap.size w w2) => find_any v b ks vs l key w2 hl ((h.below hB).more hB.size))
  rw [(find_right hr).1, (find_right hr).2, hh] at Fd
  rw [hr] at Rt
  have hkv : ks.length = vs.length := by
    unfold rightB at hr
    simp only [Bool.and_eq_true, beq_iff_eq] at hr
    exact hr.1.2
  have hri := rightB_rise hr
  have hle := lowN_le key ks
  have hlt := has_lt hri hh
  generalize lowN key ks = q at *
  obtain ⟨k0, u0, rfl, hk0, hu0⟩ := h
  have Sk := hide (fun w2 (hB : Below w.heap.size w w2) => spliced_any k0 (.slice none 0 0) ks [] q (q + 1) w2 (by omega) (by omega) (by omega) (by simp) ((hk0.below hB).more hB.size) (Sl.nil _ _))
  have Sp := hide (fun w2 (hB : Below w.heap.size w w2) => spliced_any u0 (.slice none 0 0) vs [] q (q + 1) w2 (by omega) (by omega) (by omega) (by simp) ((hu0.below hB).more hB.size) (Sl.nil _ _))
  obtain ⟨A, c, rfl, hc1, hc2, hrk⟩ := hk0
  obtain ⟨B, d, rfl, hd1, hd2, hrv⟩ := hu0
  have hqv : q < vs.length := by omega
  obtain ⟨ad, rfl, hvl, _⟩ := hrv.word hqv
  have Zc := hide (fun w2 (hB : Below w.heap.size w w2) => cell_word hrv hqv hvl hB)
  have G1 := hide (show vs.getD q 0 = vs[q] by simp [List.getD, hvl])
  rw [G1.out]
  generalize vs[q] = old at *
  rw [show ((q + 1 : Nat) : Int) = (q : Int) + 1 by omega] at Sp Sk
  have hq1 : IntKind.i64.wrap ((q : Int) + 1) = (q : Int) + 1 := IntWalk.i64_in _ (by omega)
  have hq2 : (q : Int) < (vs.length : Int) := by omega
  have hq3 : (0 : Int) ≤ (q : Int) := by omega
  have hm1 : vs.length ≤ 1000 := by omega
  show Calls _ _ _ _ fun e w' => (∃ u, e = .returned (.tuple #[u, .int .u64 old, .bool true]) ∧ NdO w' w.heap.size u false (cutL ks 0 q ++ [] ++ cutL ks (q + 1) ks.length) (cutL vs 0 q ++ [] ++ cutL vs (q + 1) vs.length) l) ∧ Below w.heap.size w w'
  generalize cutL ks 0 q ++ [] ++ cutL ks (q + 1) ks.length = kk at *
  generalize cutL vs 0 q ++ [] ++ cutL vs (q + 1) vs.length = vv at *
  clear hrk hrv hvl G1 hqv hr hh hri hle hlt hc1 hkv hl
  generalize ks.length = n at *
  generalize vs.length = m at *

  have bx := Blk.new w 27 #[.bool b, .slice A n c, .slice (some ad) m d, .int .u64 l]
  have B0 := (Below.refl w.heap.size w).alloc (Nat.le_refl _) (.cells #[.bool b, .slice A n c, .slice (some ad) m d, .int .u64 l] 27)
  have bo := Blk.new (w.alloc (.cells #[.bool b, .slice A n c, .slice (some ad) m d, .int .u64 l] 27)) 27 #[.bool false, .slice none 0 0, .slice none 0 0, .int .u64 0]
  replace bx := bx.alloc (.cells #[.bool false, .slice none 0 0, .slice none 0 0, .int .u64 0] 27)
  replace B0 := B0.alloc B0.size (.cells #[.bool false, .slice none 0 0, .slice none 0 0, .int .u64 0] 27)
  simp only [World.size_alloc] at bo
  have n3 := hide (show w.heap.size ≤ w.heap.size + 1 by omega)
  have n4 := hide (show w.heap.size + 1 < w.heap.size + 1 + 1 by omega)
  have n5 := hide (show w.heap.size ≠ w.heap.size + 1 by omega)
  go_enter Try.func21, Try.ntmps21
  go_wp2_with fail
  refine (Rt.out _ B0).mono ?_
  rintro e w1 ⟨rfl, hb1⟩
  try replace bx := bx.below hb1 bx.lt
  try replace bo := bo.below hb1 bo.lt
  try replace by_ := by_.below hb1 by_.lt
  replace B0 := B0.trans (hb1.mono B0.size)
  clear hb1
  try clear mx lx
  try clear mo lo zo
  try clear my ly zy
  try have mx := fun i => bx.cell i
  try have lx := bx.lt
  try have mo := fun i => bo.cell i
  try have lo := bo.lt
  try have zo := fun i => bo.frozen i
  try have my := fun i => by_.cell i
  try have ly := by_.lt
  try have zy := fun i => by_.frozen i
  go_wp2_with fail
  refine (Fd.out _ B0).mono ?_
  rintro e w2 ⟨rfl, hb1⟩
  try replace bx := bx.below hb1 bx.lt
  try replace bo := bo.below hb1 bo.lt
  try replace by_ := by_.below hb1 by_.lt
  replace B0 := B0.trans (hb1.mono B0.size)
  clear hb1
  try clear mx lx
  try clear mo lo zo
  try clear my ly zy
  try have mx := fun i => bx.cell i
  try have lx := bx.lt
  try have mo := fun i => bo.cell i
  try have lo := bo.lt
  try have zo := fun i => bo.frozen i
  try have my := fun i => by_.cell i
  try have ly := by_.lt
  try have zy := fun i => by_.frozen i
  go_wp2_with fail
  clear mx lx mo lo zo Rt Fd
  replace bx := bx.drew
  replace bo := bo.drew
  have hb := B0.drew
  clear B0
  have HB1 := hide (show w.heap.size + 1 + 1 ≤ w2.drew.heap.size from bo.lt)
  have HG := n4
  have HLE := hide (show w.heap.size ≤ w.heap.size + 1 + 1 by omega)
  refine wp_region_heldZ [] (fun w' => (w'.cell? ⟨w.heap.size, 0, none⟩ = some (.bool b) ∧ w'.cell? ⟨w.heap.size, 1, none⟩ = some (.slice A n c) ∧ w'.cell? ⟨w.heap.size, 2, none⟩ = some (.slice (some ad) m d) ∧ w'.cell? ⟨w.heap.size, 3, none⟩ = some (.int .u64 l)) ∧ w'.cell? (ad.add q) = some (.int .u64 old)) (by kernel_rfl) (by exact ⟨cellsN bx, Zc.out _ hb⟩) (fun hHeld => ?_)
  generalize w2.drew = wy at *
  refine' wpAnyZ_takeA (i := 0) (v := ?_) (opAt rfl) (by kernel_rfl) (by kernel_rfl) (by kernel_rfl) (by kernel_rfl) (fun _ _ _ h => h) (by assumption) (by rfl) (fun w hSw => ?_) ?_
  rotate_left
  · (try dsimp only at hSw); go_simp; (try with_reducible rfl)
  try simp only [Act.put, List.setIfInBounds_toArray, List.set_cons_zero, List.set_cons_succ]
  refine' wpAnyZ_takeA (i := 1) (v := ?_) (opAt rfl) (by kernel_rfl) (by kernel_rfl) (by kernel_rfl) (by kernel_rfl) (fun _ _ _ h => h) (by assumption) (by rfl) (fun w hSw => ?_) ?_
  rotate_left
  · (try dsimp only at hSw); go_simp; (try with_reducible rfl)
  try simp only [Act.put, List.setIfInBounds_toArray, List.set_cons_zero, List.set_cons_succ]
  refine' wpAnyZ_takeA (i := 2) (v := ?_) (opAt rfl) (by kernel_rfl) (by kernel_rfl) (by kernel_rfl) (by kernel_rfl) (fun _ _ _ h => h) (by assumption) (by rfl) (fun w hSw => ?_) ?_
  rotate_left
  · (try dsimp only at hSw); go_simp; (try with_reducible rfl)
  try simp only [Act.put, List.setIfInBounds_toArray, List.set_cons_zero, List.set_cons_succ]
  refine' wpAnyZ_takeA (i := 3) (v := ?_) (opAt rfl) (by kernel_rfl) (by kernel_rfl) (by kernel_rfl) (by kernel_rfl) (fun _ _ _ h => h) (by assumption) (by rfl) (fun w hSw => ?_) ?_
  rotate_left
  · (try dsimp only at hSw); go_simp; (try with_reducible rfl)
  try simp only [Act.put, List.setIfInBounds_toArray, List.set_cons_zero, List.set_cons_succ]
  refine' wpAnyZ_takeA (i := 4) (v := ?_) (opAt rfl) (by kernel_rfl) (by kernel_rfl) (by kernel_rfl) (by kernel_rfl) (fun _ _ _ h => h) (by assumption) (by rfl) (fun w hSw => ?_) ?_
  rotate_left
  · (try dsimp only at hSw); go_simp; (try with_reducible rfl)
  try simp only [Act.put, List.setIfInBounds_toArray, List.set_cons_zero, List.set_cons_succ]
  refine' wpAnyZ_takeA (i := 6) (v := ?_) (opAt rfl) (by kernel_rfl) (by kernel_rfl) (by kernel_rfl) (by kernel_rfl) (fun _ _ _ h => h) (by assumption) (by rfl) (fun w hSw => ?_) ?_
  rotate_left
  · (try dsimp only at hSw); go_simp; (try with_reducible rfl)
  try simp only [Act.put, List.setIfInBounds_toArray, List.set_cons_zero, List.set_cons_succ]
  refine' wpAnyZ_takeA (i := 7) (v := ?_) (opAt rfl) (by kernel_rfl) (by kernel_rfl) (by kernel_rfl) (by kernel_rfl) (fun _ _ _ h => h) (by assumption) (by rfl) (fun w hSw => ?_) ?_
  rotate_left
  · (try dsimp only at hSw); go_simp; (try with_reducible rfl)
  try simp only [Act.put, List.setIfInBounds_toArray, List.set_cons_zero, List.set_cons_succ]
  refine' wpAnyZ_takeA (i := 8) (v := ?_) (opAt rfl) (by kernel_rfl) (by kernel_rfl) (by kernel_rfl) (by kernel_rfl) (fun _ _ _ h => h) (by assumption) (by rfl) (fun w hSw => ?_) ?_
  rotate_left
  · (try dsimp only at hSw); go_simp; (try with_reducible rfl)
  try simp only [Act.put, List.setIfInBounds_toArray, List.set_cons_zero, List.set_cons_succ]
  refine' wpAnyZ_takeA (i := 9) (v := ?_) (opAt rfl) (by kernel_rfl) (by kernel_rfl) (by kernel_rfl) (by kernel_rfl) (fun _ _ _ h => h) (by assumption) (by rfl) (fun w hSw => ?_) ?_
  rotate_left
  · (try dsimp only at hSw); go_simp; (try with_reducible rfl)
  try simp only [Act.put, List.setIfInBounds_toArray, List.set_cons_zero, List.set_cons_succ]
  refine' wpAnyZ_takeA (i := 10) (v := ?_) (opAt rfl) (by kernel_rfl) (by kernel_rfl) (by kernel_rfl) (by kernel_rfl) (fun _ _ _ h => h) (by assumption) (by rfl) (fun w hSw => ?_) ?_
  rotate_left
  · (try dsimp only at hSw); go_simp; (try with_reducible rfl)
  try simp only [Act.put, List.setIfInBounds_toArray, List.set_cons_zero, List.set_cons_succ]
  refine' wpAnyZ_takeA (i := 12) (v := ?_) (opAt rfl) (by kernel_rfl) (by kernel_rfl) (by kernel_rfl) (by kernel_rfl) (fun _ _ _ h => h) (by assumption) (by rfl) (fun w hSw => ?_) ?_
  rotate_left
  · (try dsimp only at hSw); go_simp; (try with_reducible rfl)
  try simp only [Act.put, List.setIfInBounds_toArray, List.set_cons_zero, List.set_cons_succ]
  refine' wpAnyZ_takeA (i := 13) (v := ?_) (opAt rfl) (by kernel_rfl) (by kernel_rfl) (by kernel_rfl) (by kernel_rfl) (fun _ _ _ h => h) (by assumption) (by rfl) (fun w hSw => ?_) ?_
  rotate_left
  · (try dsimp only at hSw); go_simp; (try with_reducible rfl)
  try simp only [Act.put, List.setIfInBounds_toArray, List.set_cons_zero, List.set_cons_succ]
  refine' wpAnyZ_takeA (i := 15) (v := ?_) (opAt rfl) (by kernel_rfl) (by kernel_rfl) (by kernel_rfl) (by kernel_rfl) (fun _ _ _ h => h) (by assumption) (by rfl) (fun w hSw => ?_) ?_
  rotate_left
  · (try dsimp only at hSw); go_simp; (try with_reducible rfl)
  try simp only [Act.put, List.setIfInBounds_toArray, List.set_cons_zero, List.set_cons_succ]
  refine' wpAnyZ_takeA (i := 16) (v := ?_) (opAt rfl) (by kernel_rfl) (by kernel_rfl) (by kernel_rfl) (by kernel_rfl) (fun _ _ _ h => h) (by assumption) (by rfl) (fun w hSw => ?_) ?_
  rotate_left
  · (try dsimp only at hSw); go_simp; (try with_reducible rfl)
  try simp only [Act.put, List.setIfInBounds_toArray, List.set_cons_zero, List.set_cons_succ]
  refine' wpAnyZ_takeA (i := 17) (v := ?_) (opAt rfl) (by kernel_rfl) (by kernel_rfl) (by kernel_rfl) (by kernel_rfl) (fun _ _ _ h => h) (by assumption) (by rfl) (fun w hSw => ?_) ?_
  rotate_left
  · (try dsimp only at hSw); go_simp; (try with_reducible rfl)
  try simp only [Act.put, List.setIfInBounds_toArray, List.set_cons_zero, List.set_cons_succ]
  refine' wpAnyZ_takeA (i := 18) (v := ?_) (opAt rfl) (by kernel_rfl) (by kernel_rfl) (by kernel_rfl) (by kernel_rfl) (fun _ _ _ h => h) (by assumption) (by rfl) (fun w hSw => ?_) ?_
  rotate_left
  · (try dsimp only at hSw); go_simp; (try with_reducible rfl)
  try simp only [Act.put, List.setIfInBounds_toArray, List.set_cons_zero, List.set_cons_succ]
  refine' wpAnyZ_takeA (i := 19) (v := ?_) (opAt rfl) (by kernel_rfl) (by kernel_rfl) (by kernel_rfl) (by kernel_rfl) (fun _ _ _ h => h) (by assumption) (by rfl) (fun w hSw => ?_) ?_
  rotate_left
  · (try dsimp only at hSw); go_simp; (try with_reducible rfl)
  try simp only [Act.put, List.setIfInBounds_toArray, List.set_cons_zero, List.set_cons_succ]
  refine wpAnyZ_ready (rs := [5]) (by kernel_rfl) (by simp) ?_
  refine AllReadyZ.cons (opAt rfl) (fun K hK => ?_) ?_
  · skip
    go_simp
    refine (Sk.out _ hb).mono ?_
    rintro e wc ⟨⟨u1, rfl, r1⟩, hb1⟩
    replace r1 := own_mono (show World.ownsRow _ _ _ _ _ _ _ from r1) HB1.out
    replace HB1 := hide (Nat.le_trans HB1.out hb1.size)
    replace bx := bx.below hb1 bx.lt
    replace bo := bo.below hb1 bo.lt
    replace hb := hb.trans (hb1.mono hb.size)
    clear hb1
    obtain ⟨A1, d1, rfl⟩ := Own.val (show Own _ _ _ _ from r1)
    try go_wp2_with fail
    refine hK.out _ _ (by exact ⟨cellsN bx, Zc.out _ hb⟩) (fun hHeld => ?_)
    clear hK K
    try simp only [Act.put, List.setIfInBounds_toArray, List.set_cons_zero, List.set_cons_succ]
    refine wpAnyZ_ready (rs := [11]) (by kernel_rfl) (by simp) ?_
    refine AllReadyZ.cons (opAt rfl) (fun K hK => ?_) ?_
    · skip
      go_simp
      refine (Sp.out _ hb).mono ?_
      rintro e wc ⟨⟨u2, rfl, r2⟩, hb1⟩
      replace r2 := own_mono (show World.ownsRow _ _ _ _ _ _ _ from r2) HB1.out
      replace HB1 := hide (Nat.le_trans HB1.out hb1.size)
      replace bx := bx.below hb1 bx.lt
      replace bo := bo.below hb1 bo.lt
      replace r1 := own_below r1 hb1
      replace hb := hb.trans (hb1.mono hb.size)
      clear hb1
      obtain ⟨A2, d2, rfl⟩ := Own.val (show Own _ _ _ _ from r2)
      try go_wp2_with fail
      refine hK.out _ _ (by exact ⟨cellsN bx, Zc.out _ hb⟩) (fun hHeld => ?_)
      clear hK K
      try simp only [Act.put, List.setIfInBounds_toArray, List.set_cons_zero, List.set_cons_succ]
      refine' wpAnyZ_takeA (i := 14) (v := ?_) (opAt rfl) (by kernel_rfl) (by kernel_rfl) (by kernel_rfl) (by kernel_rfl) (fun _ _ _ h => h) (by assumption) (by rfl) (fun w hSw => ?_) ?_
      rotate_left
      · (try dsimp only at hSw); go_simp; (try with_reducible rfl)
      try simp only [Act.put, List.setIfInBounds_toArray, List.set_cons_zero, List.set_cons_succ]
      refine wpAnyZ_ready (rs := [20]) (by kernel_rfl) (by simp) ?_
      refine AllReadyZ.cons (opAt rfl) (fun K hK => ?_) ?_
      · skip
        have zq := fun i => bo.frozen i
        have mq := fun i => bo.cell i
        go_simp
        clear zq mq
        replace bo := bo.setN (.bool false) (.slice A1 kk.length d1) (.slice A2 vv.length d2) (.int .u64 l)
        replace bx := bx.far4 n5.out (.bool false) (.slice A1 kk.length d1) (.slice A2 vv.length d2) (.int .u64 l)
        have R1 := own_farN r1 HG.out (.bool false) (.slice A1 kk.length d1) (.slice A2 vv.length d2) (.int .u64 l)
        have R2 := own_farN r2 HG.out (.bool false) (.slice A1 kk.length d1) (.slice A2 vv.length d2) (.int .u64 l)
        replace hb := below_setN hb (g := w.heap.size + 1) n3.out (.bool false) (.slice A1 kk.length d1) (.slice A2 vv.length d2) (.int .u64 l)
        clear r1 r2
        generalize ((((wc.setCell ⟨w.heap.size + 1, 0, none⟩ (.bool false)).setCell ⟨w.heap.size + 1, 1, none⟩ (.slice A1 kk.length d1)).setCell ⟨w.heap.size + 1, 2, none⟩ (.slice A2 vv.length d2)).setCell ⟨w.heap.size + 1, 3, none⟩ (.int .u64 l)) = wz at *
        refine hK.out _ _ (by exact ⟨cellsN bx, Zc.out _ hb⟩) (fun hHeld => ?_)
        clear hK K
        try simp only [Act.put, List.setIfInBounds_toArray, List.set_cons_zero, List.set_cons_succ]
        refine' wpAnyZ_takeA (i := 21) (v := ?_) (opAt rfl) (by kernel_rfl) (by kernel_rfl) (by kernel_rfl) (by kernel_rfl) (fun _ _ _ h => h) (by assumption) (by rfl) (fun w hSw => ?_) ?_
        rotate_left
        · (try dsimp only at hSw); go_simp; (try with_reducible rfl)
        try simp only [Act.put, List.setIfInBounds_toArray, List.set_cons_zero, List.set_cons_succ]
        refine' wpAnyZ_takeA (i := 22) (v := ?_) (opAt rfl) (by kernel_rfl) (by kernel_rfl) (by kernel_rfl) (by kernel_rfl) (fun _ _ _ h => h) (by assumption) (by rfl) (fun w hSw => ?_) ?_
        rotate_left
        · (try dsimp only at hSw); go_simp; (try with_reducible rfl)
        try simp only [Act.put, List.setIfInBounds_toArray, List.set_cons_zero, List.set_cons_succ]
        refine wpAnyZ_done (by kernel_rfl) ?_ _
        have m1 := fun i => bo.cell i
        go_wp2_with fail
        refine bodyPost_ret (v := .tuple #[.agg #[.bool false, .slice A1 kk.length d1, .slice A2 vv.length d2, .int .u64 l], .int .u64 old, .bool true]) (by simp [results, Try.results21, go_sem, m1]) rfl ⟨⟨_, rfl, _, _, rfl, own_mono R1 HLE.out, own_mono R2 HLE.out⟩, hb⟩
      exact AllReadyZ.nil
    exact AllReadyZ.nil
  exact AllReadyZ.nil
set_option maxRecDepth 100000 in
set_option maxHeartbeats 4000000 in
theorem drop_not (v : Value) (b : Bool) (ks vs : List Int) (l key : Int) (w : World) (hl : ks.length ≤ 1000) (h : Nd w w.heap.size v b ks vs l) (hr : rightB b ks vs = true) (hh : hasB key ks = false) :
    Calls Try.prog 21 #[v, .int .u64 key] w fun e w' => (∃ u, e = .returned (.tuple #[u, .int .u64 0, .bool false]) ∧ NdO w' w.heap.size u false (ks) (vs) l) ∧ Below w.heap.size w w' := by
  have Rt := hide (fun w2 (hB : Below w.heap.size w w2) => right_any v b ks vs l w2 (by omega) ((h.below hB).more hB.size))
  have Fd := hide (fun w2 (hB : Below w.heap.size w w2) => find_any v b ks vs l key w2 hl ((h.below hB).more hB.size))
  rw [(find_right hr).1, (find_right hr).2, hh] at Fd
  rw [hr] at Rt
  have hkv : ks.length = vs.length := by
    unfold rightB at hr
    simp only [Bool.and_eq_true, beq_iff_eq] at hr
    exact hr.1.2
  have hri := rightB_rise hr
  have hle := lowN_le key ks
  have Ct := hide (fun w2 (hB : Below w.heap.size w w2) => cut_any v b ks vs l l 0 ks.length w2 (by omega) (by omega) (by omega) (by omega) (by omega) ((h.below hB).more hB.size))
  have e1 : cutL ks 0 ks.length = ks := by unfold cutL; simp
  have e2 : cutL vs 0 ks.length = vs := by rw [hkv]; unfold cutL; simp
  rw [e1, e2] at Ct
  have zz : ((0 : Nat) : Int) = 0 := rfl
  rw [zz] at Ct
  obtain ⟨k0, u0, rfl, hk0, hu0⟩ := h
  obtain ⟨A, c, rfl, hc1, hc2, hrk⟩ := hk0
  obtain ⟨B, d, rfl, hd1, hd2, hrv⟩ := hu0
  clear e1 e2 zz hrk hrv hr hh hri hle hc1 hd1 hkv hl
  generalize hn : ks.length = n at *
  generalize hm : vs.length = m at *
  replace hn := hide hn
  replace hm := hide hm

  have bx := Blk.new w 27 #[.bool b, .slice A n c, .slice B m d, .int .u64 l]
  have B0 := (Below.refl w.heap.size w).alloc (Nat.le_refl _) (.cells #[.bool b, .slice A n c, .slice B m d, .int .u64 l] 27)
  have bo := Blk.new (w.alloc (.cells #[.bool b, .slice A n c, .slice B m d, .int .u64 l] 27)) 27 #[.bool false, .slice none 0 0, .slice none 0 0, .int .u64 0]
  replace bx := bx.alloc (.cells #[.bool false, .slice none 0 0, .slice none 0 0, .int .u64 0] 27)
  replace B0 := B0.alloc B0.size (.cells #[.bool false, .slice none 0 0, .slice none 0 0, .int .u64 0] 27)
  simp only [World.size_alloc] at bo
  have n3 := hide (show w.heap.size ≤ w.heap.size + 1 by omega)
  have n4 := hide (show w.heap.size + 1 < w.heap.size + 1 + 1 by omega)
  have n5 := hide (show w.heap.size ≠ w.heap.size + 1 by omega)
  go_enter Try.func21, Try.ntmps21
  go_wp2_with fail
  refine (Rt.out _ B0).mono ?_
  rintro e w1 ⟨rfl, hb1⟩
  try replace bx := bx.below hb1 bx.lt
  try replace bo := bo.below hb1 bo.lt
  try replace by_ := by_.below hb1 by_.lt
  replace B0 := B0.trans (hb1.mono B0.size)
  clear hb1
  try clear mx lx
  try clear mo lo zo
  try clear my ly zy
  try have mx := fun i => bx.cell i
  try have lx := bx.lt
  try have mo := fun i => bo.cell i
  try have lo := bo.lt
  try have zo := fun i => bo.frozen i
  try have my := fun i => by_.cell i
  try have ly := by_.lt
  try have zy := fun i => by_.frozen i
  go_wp2_with fail
  refine (Fd.out _ B0).mono ?_
  rintro e w2 ⟨rfl, hb1⟩
  try replace bx := bx.below hb1 bx.lt
  try replace bo := bo.below hb1 bo.lt
  try replace by_ := by_.below hb1 by_.lt
  replace B0 := B0.trans (hb1.mono B0.size)
  clear hb1
  try clear mx lx
  try clear mo lo zo
  try clear my ly zy
  try have mx := fun i => bx.cell i
  try have lx := bx.lt
  try have mo := fun i => bo.cell i
  try have lo := bo.lt
  try have zo := fun i => bo.frozen i
  try have my := fun i => by_.cell i
  try have ly := by_.lt
  try have zy := fun i => by_.frozen i
  go_wp2_with fail
  have hlt2 := bo.lt
  refine (Ct.out _ B0).mono ?_
  rintro e w3 ⟨⟨u, rfl, hu⟩, hb1⟩
  replace bo := bo.below hb1 bo.lt
  replace B0 := B0.trans (hb1.mono B0.size)
  obtain ⟨A1, d1, A2, d2, rfl⟩ := hu.val
  have hu2 := (hu.farN hlt2 (.bool false) (.slice A1 ks.length d1) (.slice A2 vs.length d2) (.int .u64 l)).mono (show w.heap.size ≤ w2.heap.size by omega)
  clear hb1 mo lo zo mx lx bx hu hlt2
  rw [hn.out, hm.out] at *
  have mo := fun i => bo.cell i
  have zo := fun i => bo.frozen i
  go_wp2_with fail
  have b9 := bo.setN (.bool false) (.slice A1 n d1) (.slice A2 m d2) (.int .u64 l)
  have B9 := below_setN B0 (g := w.heap.size + 1) n3.out (.bool false) (.slice A1 n d1) (.slice A2 m d2) (.int .u64 l)
  have m9 := fun i => b9.cell i
  refine bodyPost_ret (v := .tuple #[.agg #[.bool false, .slice A1 n d1, .slice A2 m d2, .int .u64 l], .int .u64 0, .bool false]) (by simp [results, Try.results21, go_sem, m9]) rfl ⟨⟨_, rfl, hu2⟩, B9⟩
end Go.Proofs.Ytogpdgogcjljfaa
