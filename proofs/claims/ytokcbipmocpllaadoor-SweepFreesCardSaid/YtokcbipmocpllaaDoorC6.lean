/-
  sweep.New.
-/
import Derived.Test.YtokcbipmocpllaaDoorC5
import Derived.RegionTactic
import Derived.Deep.RegionHeld3
import Derived.Deep.OwnRows
import Derived.Deep.LoopGhost
import Derived.Deep.RegionWith
namespace Go.Proofs.YtokcbipmocpllaaDoor
open Go.RowKit

set_option linter.unusedSimpArgs false in
set_option maxRecDepth 100000 in
set_option maxHeartbeats 4000000 in
theorem snew_yes (s t f l p q : Int) (A : Option Addr) (n c : Nat) (r : List (Int × Int)) (v : Value) (ks : List Int) (w : World) (hn : n ≤ 1000) (hk : ks.length ≤ 1000) (hr : Reads w w.heap.size 2 A n (rec2 r)) (hs : Sl w w.heap.size v ks)
    (SZ0 : ∀ w2, Calls Tryd.prog 41 #[.agg #[.int .i64 s, .int .i64 t, .int .i64 f, .int .i64 l, .int .i64 p]] w2 fun e w' => e = .returned (.int .i64 q) ∧ Below w2.heap.size w2 w') (hq : 0 < q) :
    Calls Tryd.prog 17 #[.agg #[.int .i64 s, .int .i64 t, .int .i64 f, .int .i64 l, .int .i64 p], .agg #[.slice A n c, v]] w fun e w' => (∃ A1 c1 A4 c4, e = .returned (.agg #[.slice A1 n c1, .slice A4 ks.length c4, .int .i64 s, .int .i64 t, .int .i64 f, .int .i64 l, .int .i64 p, .int .i64 1, .int .u64 0, .slice none 0 0, .slice none 0 0, .int .i64 0, .int .i64 0, .int .i64 0, .int .i64 0, .int .i64 0, .int .i64 0, .int .i64 0, .int .u64 0, .int .i64 0, .slice none 0 0, .int .i64 0]) ∧ OwnR w' w.heap.size (.slice A1 n c1) n r ∧ Own w' w.heap.size (.slice A4 ks.length c4) ks) ∧ Below w.heap.size w w' := by
  obtain ⟨A2, c2, rfl, q1, q2, q3⟩ := hs
  have HS := hide (show Sl w w.heap.size (.slice A2 ks.length c2) ks from ⟨A2, c2, rfl, q1, q2, q3⟩)
  have CP := hide (fun w2 (h : Below w.heap.size w w2) => copied_any A n c r (.slice A2 ks.length c2) ks w2 hn hk ((hr.below h).more h.size) ((HS.out.below h).more h.size))
  have SZ := hide SZ0
  have B0 := (((Below.refl w.heap.size w).alloc (Nat.le_refl _) (.cells #[.int .i64 s, .int .i64 t, .int .i64 f, .int .i64 l, .int .i64 p] 44)).alloc (by simp only [World.size_alloc]; omega) (.cells #[.slice A n c, .slice A2 ks.length c2] 25)).alloc (by simp only [World.size_alloc]; omega) (.cells #[.slice none 0 0, .slice none 0 0, .int .i64 0, .int .i64 0, .int .i64 0, .int .i64 0, .int .i64 0, .int .i64 0, .int .u64 0, .slice none 0 0, .slice none 0 0, .int .i64 0, .int .i64 0, .int .i64 0, .int .i64 0, .int .i64 0, .int .i64 0, .int .i64 0, .int .u64 0, .int .i64 0, .slice none 0 0, .int .i64 0] 51)
  have bx := ((Blk.new w 44 #[.int .i64 s, .int .i64 t, .int .i64 f, .int .i64 l, .int .i64 p]).alloc (.cells #[.slice A n c, .slice A2 ks.length c2] 25)).alloc (.cells #[.slice none 0 0, .slice none 0 0, .int .i64 0, .int .i64 0, .int .i64 0, .int .i64 0, .int .i64 0, .int .i64 0, .int .u64 0, .slice none 0 0, .slice none 0 0, .int .i64 0, .int .i64 0, .int .i64 0, .int .i64 0, .int .i64 0, .int .i64 0, .int .i64 0, .int .u64 0, .int .i64 0, .slice none 0 0, .int .i64 0] 51)
  have by_ := (Blk.new (w.alloc (.cells #[.int .i64 s, .int .i64 t, .int .i64 f, .int .i64 l, .int .i64 p] 44)) 25 #[.slice A n c, .slice A2 ks.length c2]).alloc (.cells #[.slice none 0 0, .slice none 0 0, .int .i64 0, .int .i64 0, .int .i64 0, .int .i64 0, .int .i64 0, .int .i64 0, .int .u64 0, .slice none 0 0, .slice none 0 0, .int .i64 0, .int .i64 0, .int .i64 0, .int .i64 0, .int .i64 0, .int .i64 0, .int .i64 0, .int .u64 0, .int .i64 0, .slice none 0 0, .int .i64 0] 51)
  have bo := Blk.new ((w.alloc (.cells #[.int .i64 s, .int .i64 t, .int .i64 f, .int .i64 l, .int .i64 p] 44)).alloc (.cells #[.slice A n c, .slice A2 ks.length c2] 25)) 51 #[.slice none 0 0, .slice none 0 0, .int .i64 0, .int .i64 0, .int .i64 0, .int .i64 0, .int .i64 0, .int .i64 0, .int .u64 0, .slice none 0 0, .slice none 0 0, .int .i64 0, .int .i64 0, .int .i64 0, .int .i64 0, .int .i64 0, .int .i64 0, .int .i64 0, .int .u64 0, .int .i64 0, .slice none 0 0, .int .i64 0]
  simp only [World.size_alloc] at bo by_
  clear q1 q2 q3 hn hk hr SZ0
  go_enter Tryd.func17, Tryd.ntmps17
  go_wp2_with fail
  generalize ((w.alloc (.cells #[.int .i64 s, .int .i64 t, .int .i64 f, .int .i64 l, .int .i64 p] 44)).alloc (.cells #[.slice A n c, .slice A2 ks.length c2] 25)).alloc (.cells #[.slice none 0 0, .slice none 0 0, .int .i64 0, .int .i64 0, .int .i64 0, .int .i64 0, .int .i64 0, .int .i64 0, .int .u64 0, .slice none 0 0, .slice none 0 0, .int .i64 0, .int .i64 0, .int .i64 0, .int .i64 0, .int .i64 0, .int .i64 0, .int .i64 0, .int .u64 0, .int .i64 0, .slice none 0 0, .int .i64 0] 51) = w0 at *
  refine wp_region_heldZ [5] (fun w' => w'.cell? ⟨w.heap.size, 0, none⟩ = some (.int .i64 s) ∧ w'.cell? ⟨w.heap.size, 1, none⟩ = some (.int .i64 t) ∧ w'.cell? ⟨w.heap.size, 2, none⟩ = some (.int .i64 f) ∧ w'.cell? ⟨w.heap.size, 3, none⟩ = some (.int .i64 l) ∧ w'.cell? ⟨w.heap.size, 4, none⟩ = some (.int .i64 p) ∧ w'.cell? ⟨w.heap.size + 1, 0, none⟩ = some (.slice A n c) ∧ w'.cell? ⟨w.heap.size + 1, 1, none⟩ = some (.slice A2 ks.length c2)) (by kernel_rfl) (by exact ⟨bx.cell 0, bx.cell 1, bx.cell 2, bx.cell 3, bx.cell 4, by_.cell 0, by_.cell 1⟩) (fun hHeld => ?_)
  replace bx := bx.drew
  replace by_ := by_.drew
  replace bo := bo.drew
  replace B0 := B0.drew
  generalize w0.drew = wd at *
  refine' wpAnyZ_takeA (i := 0) (v := ?_) (opAt rfl) (by kernel_rfl) (by kernel_rfl) (by kernel_rfl) (by kernel_rfl) (fun _ _ _ h => h) (by assumption) (by rfl) (fun w hSw => ?_) ?_
  rotate_left
  · (try dsimp only at hSw); go_simp; (try with_reducible rfl)
  try simp only [Act.put, List.setIfInBounds_toArray, List.set_cons_zero, List.set_cons_succ]
  refine' wpAnyZ_takeA (i := 2) (v := ?_) (opAt rfl) (by kernel_rfl) (by kernel_rfl) (by kernel_rfl) (by kernel_rfl) (fun _ _ _ h => h) (by assumption) (by rfl) (fun w hSw => ?_) ?_
  rotate_left
  · (try dsimp only at hSw); go_simp; (try with_reducible rfl)
  try simp only [Act.put, List.setIfInBounds_toArray, List.set_cons_zero, List.set_cons_succ]
  refine wpAnyZ_ready (rs := [1, 4]) (by kernel_rfl) (by simp) ?_
  refine AllReadyZ.cons (opAt rfl) (fun K hK => ?_) ?_
  · skip
    go_simp
    refine (CP.out _ B0).mono ?_
    rintro e w1 ⟨⟨A1, c1, u4, rfl, r3, o4⟩, hb1⟩
    have r3 := own_mono r3 B0.size
    have o4 := own_mono o4 B0.size
    obtain ⟨A4, c4, rfl⟩ := Own.val o4
    replace bx := bx.below hb1 bx.lt
    replace by_ := by_.below hb1 by_.lt
    replace bo := bo.below hb1 bo.lt
    replace B0 := B0.trans (hb1.mono B0.size)
    clear hb1
    try go_wp2_with fail
    refine hK.out _ _ (by exact ⟨bx.cell 0, bx.cell 1, bx.cell 2, bx.cell 3, bx.cell 4, by_.cell 0, by_.cell 1⟩) (fun hHeld => ?_)
    clear hK K
    try simp only [Act.put, List.setIfInBounds_toArray, List.set_cons_zero, List.set_cons_succ]
    refine' wpAnyZ_takeA (i := 3) (v := ?_) (opAt rfl) (by kernel_rfl) (by kernel_rfl) (by kernel_rfl) (by kernel_rfl) (fun _ _ _ h => h) (by assumption) (by rfl) (fun w hSw => ?_) ?_
    rotate_left
    · (try dsimp only at hSw); go_simp; (try with_reducible rfl)
    try simp only [Act.put, List.setIfInBounds_toArray, List.set_cons_zero, List.set_cons_succ]
    refine wpAnyZ_ready (rs := [4]) (by kernel_rfl) (by simp) ?_
    refine AllReadyZ.cons (opAt rfl) (fun K hK => ?_) ?_
    · skip
      go_simp
      have HG5 := hide (show w.heap.size + 3 ≤ w1.heap.size by have := bo.lt; omega)
      have bv := Blk.new w1 51 #[.slice none 0 0, .slice none 0 0, .int .i64 0, .int .i64 0, .int .i64 0, .int .i64 0, .int .i64 0, .int .i64 0, .int .u64 0, .slice none 0 0, .slice none 0 0, .int .i64 0, .int .i64 0, .int .i64 0, .int .i64 0, .int .i64 0, .int .i64 0, .int .i64 0, .int .u64 0, .int .i64 0, .slice none 0 0, .int .i64 0]
      replace bx := bx.alloc (.cells #[.slice none 0 0, .slice none 0 0, .int .i64 0, .int .i64 0, .int .i64 0, .int .i64 0, .int .i64 0, .int .i64 0, .int .u64 0, .slice none 0 0, .slice none 0 0, .int .i64 0, .int .i64 0, .int .i64 0, .int .i64 0, .int .i64 0, .int .i64 0, .int .i64 0, .int .u64 0, .int .i64 0, .slice none 0 0, .int .i64 0] 51)
      replace by_ := by_.alloc (.cells #[.slice none 0 0, .slice none 0 0, .int .i64 0, .int .i64 0, .int .i64 0, .int .i64 0, .int .i64 0, .int .i64 0, .int .u64 0, .slice none 0 0, .slice none 0 0, .int .i64 0, .int .i64 0, .int .i64 0, .int .i64 0, .int .i64 0, .int .i64 0, .int .i64 0, .int .u64 0, .int .i64 0, .slice none 0 0, .int .i64 0] 51)
      replace bo := bo.alloc (.cells #[.slice none 0 0, .slice none 0 0, .int .i64 0, .int .i64 0, .int .i64 0, .int .i64 0, .int .i64 0, .int .i64 0, .int .u64 0, .slice none 0 0, .slice none 0 0, .int .i64 0, .int .i64 0, .int .i64 0, .int .i64 0, .int .i64 0, .int .i64 0, .int .i64 0, .int .u64 0, .int .i64 0, .slice none 0 0, .int .i64 0] 51)
      replace r3 := World.ownsRow.alloc r3 (.cells #[.slice none 0 0, .slice none 0 0, .int .i64 0, .int .i64 0, .int .i64 0, .int .i64 0, .int .i64 0, .int .i64 0, .int .u64 0, .slice none 0 0, .slice none 0 0, .int .i64 0, .int .i64 0, .int .i64 0, .int .i64 0, .int .i64 0, .int .i64 0, .int .i64 0, .int .u64 0, .int .i64 0, .slice none 0 0, .int .i64 0] 51)
      replace o4 := World.ownsRow.alloc o4 (.cells #[.slice none 0 0, .slice none 0 0, .int .i64 0, .int .i64 0, .int .i64 0, .int .i64 0, .int .i64 0, .int .i64 0, .int .u64 0, .slice none 0 0, .slice none 0 0, .int .i64 0, .int .i64 0, .int .i64 0, .int .i64 0, .int .i64 0, .int .i64 0, .int .i64 0, .int .u64 0, .int .i64 0, .slice none 0 0, .int .i64 0] 51)
      replace B0 := B0.alloc B0.size (.cells #[.slice none 0 0, .slice none 0 0, .int .i64 0, .int .i64 0, .int .i64 0, .int .i64 0, .int .i64 0, .int .i64 0, .int .u64 0, .slice none 0 0, .slice none 0 0, .int .i64 0, .int .i64 0, .int .i64 0, .int .i64 0, .int .i64 0, .int .i64 0, .int .i64 0, .int .u64 0, .int .i64 0, .slice none 0 0, .int .i64 0] 51)
      generalize w1.heap.size = g5 at *
      generalize w1.alloc (.cells #[.slice none 0 0, .slice none 0 0, .int .i64 0, .int .i64 0, .int .i64 0, .int .i64 0, .int .i64 0, .int .i64 0, .int .u64 0, .slice none 0 0, .slice none 0 0, .int .i64 0, .int .i64 0, .int .i64 0, .int .i64 0, .int .i64 0, .int .i64 0, .int .i64 0, .int .u64 0, .int .i64 0, .slice none 0 0, .int .i64 0] 51) = w2 at *
      refine hK.out _ _ (by exact ⟨bx.cell 0, bx.cell 1, bx.cell 2, bx.cell 3, bx.cell 4, by_.cell 0, by_.cell 1⟩) (fun hHeld => ?_)
      clear hK K
      try simp only [Act.put, List.setIfInBounds_toArray, List.set_cons_zero, List.set_cons_succ]
      refine wpAnyZ_ready (rs := [5]) (by kernel_rfl) (by simp) ?_
      refine AllReadyZ.last (opAt rfl) (by kernel_rfl) (fun K hK => ?_) ?_
      · skip
        refine wp_store_mid 51 (.tmp 5) (.tmp 9) rfl g5 0 #[.slice A1 n c1, .slice A4 ks.length c4, .int .i64 s, .int .i64 t, .int .i64 f, .int .i64 l, .int .i64 p, .int .i64 0, .int .u64 0, .slice none 0 0, .slice none 0 0, .int .i64 0, .int .i64 0, .int .i64 0, .int .i64 0, .int .i64 0, .int .i64 0, .int .i64 0, .int .u64 0, .int .i64 0, .slice none 0 0, .int .i64 0] (by rfl) (by rfl) (bv.there rfl) (by kernel_rfl) (by kernel_rfl) ?_
        refine hK.out _ _ ?_
        clear hK K
        try simp only [Act.put, List.setIfInBounds_toArray, List.set_cons_zero, List.set_cons_succ]
        refine wpAnyZ_done (by kernel_rfl) ?_ _
        replace r3 := (show World.ownsRow (w2.setCells g5 0 [.slice A1 n c1, .slice A4 ks.length c4, .int .i64 s, .int .i64 t, .int .i64 f, .int .i64 l, .int .i64 p, .int .i64 0, .int .u64 0, .slice none 0 0, .slice none 0 0, .int .i64 0, .int .i64 0, .int .i64 0, .int .i64 0, .int .i64 0, .int .i64 0, .int .i64 0, .int .u64 0, .int .i64 0, .slice none 0 0, .int .i64 0]) _ _ _ _ _ _ from by rw [putL_eq]; exact own_putT (by decide) _ _ _ 0 bv r3)
        replace o4 := (show World.ownsRow (w2.setCells g5 0 [.slice A1 n c1, .slice A4 ks.length c4, .int .i64 s, .int .i64 t, .int .i64 f, .int .i64 l, .int .i64 p, .int .i64 0, .int .u64 0, .slice none 0 0, .slice none 0 0, .int .i64 0, .int .i64 0, .int .i64 0, .int .i64 0, .int .i64 0, .int .i64 0, .int .i64 0, .int .u64 0, .int .i64 0, .slice none 0 0, .int .i64 0]) _ _ _ _ _ _ from by rw [putL_eq]; exact own_putT (by decide) _ _ _ 0 bv o4)
        replace bx := (show Blk (w2.setCells g5 0 [.slice A1 n c1, .slice A4 ks.length c4, .int .i64 s, .int .i64 t, .int .i64 f, .int .i64 l, .int .i64 p, .int .i64 0, .int .u64 0, .slice none 0 0, .slice none 0 0, .int .i64 0, .int .i64 0, .int .i64 0, .int .i64 0, .int .i64 0, .int .i64 0, .int .i64 0, .int .u64 0, .int .i64 0, .slice none 0 0, .int .i64 0]) _ _ _ from by rw [putL_eq]; exact Blk.offL (by have := HG5.out; omega) _ _ 0 bx)
        replace bo := (show Blk (w2.setCells g5 0 [.slice A1 n c1, .slice A4 ks.length c4, .int .i64 s, .int .i64 t, .int .i64 f, .int .i64 l, .int .i64 p, .int .i64 0, .int .u64 0, .slice none 0 0, .slice none 0 0, .int .i64 0, .int .i64 0, .int .i64 0, .int .i64 0, .int .i64 0, .int .i64 0, .int .i64 0, .int .u64 0, .int .i64 0, .slice none 0 0, .int .i64 0]) _ _ _ from by rw [putL_eq]; exact Blk.offL (by have := HG5.out; omega) _ _ 0 bo)
        replace B0 := (show Below w.heap.size w (w2.setCells g5 0 [.slice A1 n c1, .slice A4 ks.length c4, .int .i64 s, .int .i64 t, .int .i64 f, .int .i64 l, .int .i64 p, .int .i64 0, .int .u64 0, .slice none 0 0, .slice none 0 0, .int .i64 0, .int .i64 0, .int .i64 0, .int .i64 0, .int .i64 0, .int .i64 0, .int .i64 0, .int .u64 0, .int .i64 0, .slice none 0 0, .int .i64 0]) from by rw [putL_eq]; exact Below.putL (by have := HG5.out; omega) _ _ 0 B0)
        replace bv := (show Blk (w2.setCells g5 0 [.slice A1 n c1, .slice A4 ks.length c4, .int .i64 s, .int .i64 t, .int .i64 f, .int .i64 l, .int .i64 p, .int .i64 0, .int .u64 0, .slice none 0 0, .slice none 0 0, .int .i64 0, .int .i64 0, .int .i64 0, .int .i64 0, .int .i64 0, .int .i64 0, .int .i64 0, .int .u64 0, .int .i64 0, .slice none 0 0, .int .i64 0]) g5 51 #[.slice A1 n c1, .slice A4 ks.length c4, .int .i64 s, .int .i64 t, .int .i64 f, .int .i64 l, .int .i64 p, .int .i64 0, .int .u64 0, .slice none 0 0, .slice none 0 0, .int .i64 0, .int .i64 0, .int .i64 0, .int .i64 0, .int .i64 0, .int .i64 0, .int .i64 0, .int .u64 0, .int .i64 0, .slice none 0 0, .int .i64 0] from by rw [putL_eq]; have h9 := Blk.putL [.slice A1 n c1, .slice A4 ks.length c4, .int .i64 s, .int .i64 t, .int .i64 f, .int .i64 l, .int .i64 p, .int .i64 0, .int .u64 0, .slice none 0 0, .slice none 0 0, .int .i64 0, .int .i64 0, .int .i64 0, .int .i64 0, .int .i64 0, .int .i64 0, .int .i64 0, .int .u64 0, .int .i64 0, .slice none 0 0, .int .i64 0] _ _ 0 bv; simpa only [setL, List.setIfInBounds_toArray, List.set_cons_zero, List.set_cons_succ] using h9)
        clear by_ hHeld
        generalize w2.setCells g5 0 [.slice A1 n c1, .slice A4 ks.length c4, .int .i64 s, .int .i64 t, .int .i64 f, .int .i64 l, .int .i64 p, .int .i64 0, .int .u64 0, .slice none 0 0, .slice none 0 0, .int .i64 0, .int .i64 0, .int .i64 0, .int .i64 0, .int .i64 0, .int .i64 0, .int .i64 0, .int .u64 0, .int .i64 0, .slice none 0 0, .int .i64 0] = w9 at *
        have mx := fun i => bx.cell i
        go_wp2_with fail
        refine (SZ.out _).mono ?_
        rintro e w10 ⟨rfl, hb1⟩
        replace r3 := own_below r3 hb1
        replace o4 := own_below o4 hb1
        replace bo := bo.below hb1 bo.lt
        replace bv := bv.below hb1 bv.lt
        replace B0 := B0.trans (hb1.mono B0.size)
        clear hb1 mx bx
        have hm7 := bv.cell 7
        have hz7 := bv.frozen 7
        have bv2 := bv.set_ 7 (.int .i64 1)
        have bo2 := bo.far (p := ⟨g5, 7, none⟩) (by have := HG5.out; show w.heap.size + 1 + 1 ≠ g5; omega) (.int .i64 1)
        skip
        go_wp2_with (first | (refine wpList_load_mid rfl 51 (.tmp 5) rfl g5 0 (by rfl) [.slice A1 n c1, .slice A4 ks.length c4, .int .i64 s, .int .i64 t, .int .i64 f, .int .i64 l, .int .i64 p, .int .i64 1, .int .u64 0, .slice none 0 0, .slice none 0 0, .int .i64 0, .int .i64 0, .int .i64 0, .int .i64 0, .int .i64 0, .int .i64 0, .int .i64 0, .int .u64 0, .int .i64 0, .slice none 0 0, .int .i64 0] _ bv2.range Tryd.underlying51 rfl (by kernel_rfl) ?_) | (refine wpList_store_mid rfl 51 (.tmp 4) (.tmp 14) rfl (w.heap.size + 1 + 1) 0 #[.slice A1 n c1, .slice A4 ks.length c4, .int .i64 s, .int .i64 t, .int .i64 f, .int .i64 l, .int .i64 p, .int .i64 1, .int .u64 0, .slice none 0 0, .slice none 0 0, .int .i64 0, .int .i64 0, .int .i64 0, .int .i64 0, .int .i64 0, .int .i64 0, .int .i64 0, .int .u64 0, .int .i64 0, .slice none 0 0, .int .i64 0] (by rfl) (by rfl) (bo2.there rfl) (by kernel_rfl) (by kernel_rfl) ?_))
        replace r3 := own_set1 (j := 7) r3 bv (by decide) (.int .i64 1)
        replace o4 := own_set1 (j := 7) o4 bv (by decide) (.int .i64 1)
        replace B0 := B0.setCell (p := ⟨g5, 7, none⟩) (show w.heap.size ≤ g5 by have := HG5.out; omega) (.int .i64 1)
        replace r3 := (show World.ownsRow ((w10.setCell ⟨g5, 7, none⟩ (.int .i64 1)).setCells (w.heap.size + 1 + 1) 0 [.slice A1 n c1, .slice A4 ks.length c4, .int .i64 s, .int .i64 t, .int .i64 f, .int .i64 l, .int .i64 p, .int .i64 1, .int .u64 0, .slice none 0 0, .slice none 0 0, .int .i64 0, .int .i64 0, .int .i64 0, .int .i64 0, .int .i64 0, .int .i64 0, .int .i64 0, .int .u64 0, .int .i64 0, .slice none 0 0, .int .i64 0]) _ _ _ _ _ _ from by rw [putL_eq]; exact own_putT (by decide) _ _ _ 0 bo2 r3)
        replace o4 := (show World.ownsRow ((w10.setCell ⟨g5, 7, none⟩ (.int .i64 1)).setCells (w.heap.size + 1 + 1) 0 [.slice A1 n c1, .slice A4 ks.length c4, .int .i64 s, .int .i64 t, .int .i64 f, .int .i64 l, .int .i64 p, .int .i64 1, .int .u64 0, .slice none 0 0, .slice none 0 0, .int .i64 0, .int .i64 0, .int .i64 0, .int .i64 0, .int .i64 0, .int .i64 0, .int .i64 0, .int .u64 0, .int .i64 0, .slice none 0 0, .int .i64 0]) _ _ _ _ _ _ from by rw [putL_eq]; exact own_putT (by decide) _ _ _ 0 bo2 o4)
        replace B0 := (show Below w.heap.size w ((w10.setCell ⟨g5, 7, none⟩ (.int .i64 1)).setCells (w.heap.size + 1 + 1) 0 [.slice A1 n c1, .slice A4 ks.length c4, .int .i64 s, .int .i64 t, .int .i64 f, .int .i64 l, .int .i64 p, .int .i64 1, .int .u64 0, .slice none 0 0, .slice none 0 0, .int .i64 0, .int .i64 0, .int .i64 0, .int .i64 0, .int .i64 0, .int .i64 0, .int .i64 0, .int .u64 0, .int .i64 0, .slice none 0 0, .int .i64 0]) from by rw [putL_eq]; exact Below.putL (by omega) _ _ 0 B0)
        have bo3 := (show Blk ((w10.setCell ⟨g5, 7, none⟩ (.int .i64 1)).setCells (w.heap.size + 1 + 1) 0 [.slice A1 n c1, .slice A4 ks.length c4, .int .i64 s, .int .i64 t, .int .i64 f, .int .i64 l, .int .i64 p, .int .i64 1, .int .u64 0, .slice none 0 0, .slice none 0 0, .int .i64 0, .int .i64 0, .int .i64 0, .int .i64 0, .int .i64 0, .int .i64 0, .int .i64 0, .int .u64 0, .int .i64 0, .slice none 0 0, .int .i64 0]) (w.heap.size + 1 + 1) 51 #[.slice A1 n c1, .slice A4 ks.length c4, .int .i64 s, .int .i64 t, .int .i64 f, .int .i64 l, .int .i64 p, .int .i64 1, .int .u64 0, .slice none 0 0, .slice none 0 0, .int .i64 0, .int .i64 0, .int .i64 0, .int .i64 0, .int .i64 0, .int .i64 0, .int .i64 0, .int .u64 0, .int .i64 0, .slice none 0 0, .int .i64 0] from by rw [putL_eq]; have h9 := Blk.putL [.slice A1 n c1, .slice A4 ks.length c4, .int .i64 s, .int .i64 t, .int .i64 f, .int .i64 l, .int .i64 p, .int .i64 1, .int .u64 0, .slice none 0 0, .slice none 0 0, .int .i64 0, .int .i64 0, .int .i64 0, .int .i64 0, .int .i64 0, .int .i64 0, .int .i64 0, .int .u64 0, .int .i64 0, .slice none 0 0, .int .i64 0] _ _ 0 bo2; simpa only [setL, List.setIfInBounds_toArray, List.set_cons_zero, List.set_cons_succ] using h9)
        generalize (w10.setCell ⟨g5, 7, none⟩ (.int .i64 1)).setCells (w.heap.size + 1 + 1) 0 [.slice A1 n c1, .slice A4 ks.length c4, .int .i64 s, .int .i64 t, .int .i64 f, .int .i64 l, .int .i64 p, .int .i64 1, .int .u64 0, .slice none 0 0, .slice none 0 0, .int .i64 0, .int .i64 0, .int .i64 0, .int .i64 0, .int .i64 0, .int .i64 0, .int .i64 0, .int .u64 0, .int .i64 0, .slice none 0 0, .int .i64 0] = w12 at *
        have hres : (loadVar 51 ⟨w.heap.size + 1 + 1, 0, none⟩).run Tryd.prog w12 = .ok (.agg #[.slice A1 n c1, .slice A4 ks.length c4, .int .i64 s, .int .i64 t, .int .i64 f, .int .i64 l, .int .i64 p, .int .i64 1, .int .u64 0, .slice none 0 0, .slice none 0 0, .int .i64 0, .int .i64 0, .int .i64 0, .int .i64 0, .int .i64 0, .int .i64 0, .int .i64 0, .int .u64 0, .int .i64 0, .slice none 0 0, .int .i64 0]) w12 := run_loadVar_mid w12 _ 0 _ [.slice A1 n c1, .slice A4 ks.length c4, .int .i64 s, .int .i64 t, .int .i64 f, .int .i64 l, .int .i64 p, .int .i64 1, .int .u64 0, .slice none 0 0, .slice none 0 0, .int .i64 0, .int .i64 0, .int .i64 0, .int .i64 0, .int .i64 0, .int .i64 0, .int .i64 0, .int .u64 0, .int .i64 0, .slice none 0 0, .int .i64 0] _ bo3.range Tryd.underlying51 rfl (by kernel_rfl)
        refine bodyPost_ret (v := .agg #[.slice A1 n c1, .slice A4 ks.length c4, .int .i64 s, .int .i64 t, .int .i64 f, .int .i64 l, .int .i64 p, .int .i64 1, .int .u64 0, .slice none 0 0, .slice none 0 0, .int .i64 0, .int .i64 0, .int .i64 0, .int .i64 0, .int .i64 0, .int .i64 0, .int .i64 0, .int .u64 0, .int .i64 0, .slice none 0 0, .int .i64 0]) (by simp [results, Tryd.results17, Act.put, asAddr, hres]) rfl ⟨⟨A1, c1, A4, c4, rfl, r3, o4⟩, B0⟩
      exact AllReadyZ.nil
    exact AllReadyZ.nil
  refine AllReadyZ.cons (opAt rfl) (fun K hK => ?_) ?_
  · skip
    go_simp
    have HG5 := hide (show w.heap.size + 3 ≤ wd.heap.size by have := bo.lt; omega)
    have bv := Blk.new wd 51 #[.slice none 0 0, .slice none 0 0, .int .i64 0, .int .i64 0, .int .i64 0, .int .i64 0, .int .i64 0, .int .i64 0, .int .u64 0, .slice none 0 0, .slice none 0 0, .int .i64 0, .int .i64 0, .int .i64 0, .int .i64 0, .int .i64 0, .int .i64 0, .int .i64 0, .int .u64 0, .int .i64 0, .slice none 0 0, .int .i64 0]
    replace bx := bx.alloc (.cells #[.slice none 0 0, .slice none 0 0, .int .i64 0, .int .i64 0, .int .i64 0, .int .i64 0, .int .i64 0, .int .i64 0, .int .u64 0, .slice none 0 0, .slice none 0 0, .int .i64 0, .int .i64 0, .int .i64 0, .int .i64 0, .int .i64 0, .int .i64 0, .int .i64 0, .int .u64 0, .int .i64 0, .slice none 0 0, .int .i64 0] 51)
    replace by_ := by_.alloc (.cells #[.slice none 0 0, .slice none 0 0, .int .i64 0, .int .i64 0, .int .i64 0, .int .i64 0, .int .i64 0, .int .i64 0, .int .u64 0, .slice none 0 0, .slice none 0 0, .int .i64 0, .int .i64 0, .int .i64 0, .int .i64 0, .int .i64 0, .int .i64 0, .int .i64 0, .int .u64 0, .int .i64 0, .slice none 0 0, .int .i64 0] 51)
    replace bo := bo.alloc (.cells #[.slice none 0 0, .slice none 0 0, .int .i64 0, .int .i64 0, .int .i64 0, .int .i64 0, .int .i64 0, .int .i64 0, .int .u64 0, .slice none 0 0, .slice none 0 0, .int .i64 0, .int .i64 0, .int .i64 0, .int .i64 0, .int .i64 0, .int .i64 0, .int .i64 0, .int .u64 0, .int .i64 0, .slice none 0 0, .int .i64 0] 51)
    replace B0 := B0.alloc B0.size (.cells #[.slice none 0 0, .slice none 0 0, .int .i64 0, .int .i64 0, .int .i64 0, .int .i64 0, .int .i64 0, .int .i64 0, .int .u64 0, .slice none 0 0, .slice none 0 0, .int .i64 0, .int .i64 0, .int .i64 0, .int .i64 0, .int .i64 0, .int .i64 0, .int .i64 0, .int .u64 0, .int .i64 0, .slice none 0 0, .int .i64 0] 51)
    generalize wd.heap.size = g5 at *
    generalize wd.alloc (.cells #[.slice none 0 0, .slice none 0 0, .int .i64 0, .int .i64 0, .int .i64 0, .int .i64 0, .int .i64 0, .int .i64 0, .int .u64 0, .slice none 0 0, .slice none 0 0, .int .i64 0, .int .i64 0, .int .i64 0, .int .i64 0, .int .i64 0, .int .i64 0, .int .i64 0, .int .u64 0, .int .i64 0, .slice none 0 0, .int .i64 0] 51) = w1 at *
    refine hK.out _ _ (by exact ⟨bx.cell 0, bx.cell 1, bx.cell 2, bx.cell 3, bx.cell 4, by_.cell 0, by_.cell 1⟩) (fun hHeld => ?_)
    clear hK K
    try simp only [Act.put, List.setIfInBounds_toArray, List.set_cons_zero, List.set_cons_succ]
    refine wpAnyZ_ready (rs := [1]) (by kernel_rfl) (by simp) ?_
    refine AllReadyZ.cons (opAt rfl) (fun K hK => ?_) ?_
    · skip
      go_simp
      refine (CP.out _ B0).mono ?_
      rintro e w2 ⟨⟨A1, c1, u4, rfl, r3, o4⟩, hb1⟩
      have r3 := own_mono r3 B0.size
      have o4 := own_mono o4 B0.size
      obtain ⟨A4, c4, rfl⟩ := Own.val o4
      replace bv := bv.below hb1 bv.lt
      replace bx := bx.below hb1 bx.lt
      replace by_ := by_.below hb1 by_.lt
      replace bo := bo.below hb1 bo.lt
      replace B0 := B0.trans (hb1.mono B0.size)
      clear hb1
      try go_wp2_with fail
      refine hK.out _ _ (by exact ⟨bx.cell 0, bx.cell 1, bx.cell 2, bx.cell 3, bx.cell 4, by_.cell 0, by_.cell 1⟩) (fun hHeld => ?_)
      clear hK K
      try simp only [Act.put, List.setIfInBounds_toArray, List.set_cons_zero, List.set_cons_succ]
      refine' wpAnyZ_takeA (i := 3) (v := ?_) (opAt rfl) (by kernel_rfl) (by kernel_rfl) (by kernel_rfl) (by kernel_rfl) (fun _ _ _ h => h) (by assumption) (by rfl) (fun w hSw => ?_) ?_
      rotate_left
      · (try dsimp only at hSw); go_simp; (try with_reducible rfl)
      try simp only [Act.put, List.setIfInBounds_toArray, List.set_cons_zero, List.set_cons_succ]
      refine wpAnyZ_ready (rs := [5]) (by kernel_rfl) (by simp) ?_
      refine AllReadyZ.last (opAt rfl) (by kernel_rfl) (fun K hK => ?_) ?_
      · skip
        refine wp_store_mid 51 (.tmp 5) (.tmp 9) rfl g5 0 #[.slice A1 n c1, .slice A4 ks.length c4, .int .i64 s, .int .i64 t, .int .i64 f, .int .i64 l, .int .i64 p, .int .i64 0, .int .u64 0, .slice none 0 0, .slice none 0 0, .int .i64 0, .int .i64 0, .int .i64 0, .int .i64 0, .int .i64 0, .int .i64 0, .int .i64 0, .int .u64 0, .int .i64 0, .slice none 0 0, .int .i64 0] (by rfl) (by rfl) (bv.there rfl) (by kernel_rfl) (by kernel_rfl) ?_
        refine hK.out _ _ ?_
        clear hK K
        try simp only [Act.put, List.setIfInBounds_toArray, List.set_cons_zero, List.set_cons_succ]
        refine wpAnyZ_done (by kernel_rfl) ?_ _
        replace r3 := (show World.ownsRow (w2.setCells g5 0 [.slice A1 n c1, .slice A4 ks.length c4, .int .i64 s, .int .i64 t, .int .i64 f, .int .i64 l, .int .i64 p, .int .i64 0, .int .u64 0, .slice none 0 0, .slice none 0 0, .int .i64 0, .int .i64 0, .int .i64 0, .int .i64 0, .int .i64 0, .int .i64 0, .int .i64 0, .int .u64 0, .int .i64 0, .slice none 0 0, .int .i64 0]) _ _ _ _ _ _ from by rw [putL_eq]; exact own_putT (by decide) _ _ _ 0 bv r3)
        replace o4 := (show World.ownsRow (w2.setCells g5 0 [.slice A1 n c1, .slice A4 ks.length c4, .int .i64 s, .int .i64 t, .int .i64 f, .int .i64 l, .int .i64 p, .int .i64 0, .int .u64 0, .slice none 0 0, .slice none 0 0, .int .i64 0, .int .i64 0, .int .i64 0, .int .i64 0, .int .i64 0, .int .i64 0, .int .i64 0, .int .u64 0, .int .i64 0, .slice none 0 0, .int .i64 0]) _ _ _ _ _ _ from by rw [putL_eq]; exact own_putT (by decide) _ _ _ 0 bv o4)
        replace bx := (show Blk (w2.setCells g5 0 [.slice A1 n c1, .slice A4 ks.length c4, .int .i64 s, .int .i64 t, .int .i64 f, .int .i64 l, .int .i64 p, .int .i64 0, .int .u64 0, .slice none 0 0, .slice none 0 0, .int .i64 0, .int .i64 0, .int .i64 0, .int .i64 0, .int .i64 0, .int .i64 0, .int .i64 0, .int .u64 0, .int .i64 0, .slice none 0 0, .int .i64 0]) _ _ _ from by rw [putL_eq]; exact Blk.offL (by have := HG5.out; omega) _ _ 0 bx)
        replace bo := (show Blk (w2.setCells g5 0 [.slice A1 n c1, .slice A4 ks.length c4, .int .i64 s, .int .i64 t, .int .i64 f, .int .i64 l, .int .i64 p, .int .i64 0, .int .u64 0, .slice none 0 0, .slice none 0 0, .int .i64 0, .int .i64 0, .int .i64 0, .int .i64 0, .int .i64 0, .int .i64 0, .int .i64 0, .int .u64 0, .int .i64 0, .slice none 0 0, .int .i64 0]) _ _ _ from by rw [putL_eq]; exact Blk.offL (by have := HG5.out; omega) _ _ 0 bo)
        replace B0 := (show Below w.heap.size w (w2.setCells g5 0 [.slice A1 n c1, .slice A4 ks.length c4, .int .i64 s, .int .i64 t, .int .i64 f, .int .i64 l, .int .i64 p, .int .i64 0, .int .u64 0, .slice none 0 0, .slice none 0 0, .int .i64 0, .int .i64 0, .int .i64 0, .int .i64 0, .int .i64 0, .int .i64 0, .int .i64 0, .int .u64 0, .int .i64 0, .slice none 0 0, .int .i64 0]) from by rw [putL_eq]; exact Below.putL (by have := HG5.out; omega) _ _ 0 B0)
        replace bv := (show Blk (w2.setCells g5 0 [.slice A1 n c1, .slice A4 ks.length c4, .int .i64 s, .int .i64 t, .int .i64 f, .int .i64 l, .int .i64 p, .int .i64 0, .int .u64 0, .slice none 0 0, .slice none 0 0, .int .i64 0, .int .i64 0, .int .i64 0, .int .i64 0, .int .i64 0, .int .i64 0, .int .i64 0, .int .u64 0, .int .i64 0, .slice none 0 0, .int .i64 0]) g5 51 #[.slice A1 n c1, .slice A4 ks.length c4, .int .i64 s, .int .i64 t, .int .i64 f, .int .i64 l, .int .i64 p, .int .i64 0, .int .u64 0, .slice none 0 0, .slice none 0 0, .int .i64 0, .int .i64 0, .int .i64 0, .int .i64 0, .int .i64 0, .int .i64 0, .int .i64 0, .int .u64 0, .int .i64 0, .slice none 0 0, .int .i64 0] from by rw [putL_eq]; have h9 := Blk.putL [.slice A1 n c1, .slice A4 ks.length c4, .int .i64 s, .int .i64 t, .int .i64 f, .int .i64 l, .int .i64 p, .int .i64 0, .int .u64 0, .slice none 0 0, .slice none 0 0, .int .i64 0, .int .i64 0, .int .i64 0, .int .i64 0, .int .i64 0, .int .i64 0, .int .i64 0, .int .u64 0, .int .i64 0, .slice none 0 0, .int .i64 0] _ _ 0 bv; simpa only [setL, List.setIfInBounds_toArray, List.set_cons_zero, List.set_cons_succ] using h9)
        clear by_ hHeld
        generalize w2.setCells g5 0 [.slice A1 n c1, .slice A4 ks.length c4, .int .i64 s, .int .i64 t, .int .i64 f, .int .i64 l, .int .i64 p, .int .i64 0, .int .u64 0, .slice none 0 0, .slice none 0 0, .int .i64 0, .int .i64 0, .int .i64 0, .int .i64 0, .int .i64 0, .int .i64 0, .int .i64 0, .int .u64 0, .int .i64 0, .slice none 0 0, .int .i64 0] = w9 at *
        have mx := fun i => bx.cell i
        go_wp2_with fail
        refine (SZ.out _).mono ?_
        rintro e w10 ⟨rfl, hb1⟩
        replace r3 := own_below r3 hb1
        replace o4 := own_below o4 hb1
        replace bo := bo.below hb1 bo.lt
        replace bv := bv.below hb1 bv.lt
        replace B0 := B0.trans (hb1.mono B0.size)
        clear hb1 mx bx
        have hm7 := bv.cell 7
        have hz7 := bv.frozen 7
        have bv2 := bv.set_ 7 (.int .i64 1)
        have bo2 := bo.far (p := ⟨g5, 7, none⟩) (by have := HG5.out; show w.heap.size + 1 + 1 ≠ g5; omega) (.int .i64 1)
        skip
        go_wp2_with (first | (refine wpList_load_mid rfl 51 (.tmp 5) rfl g5 0 (by rfl) [.slice A1 n c1, .slice A4 ks.length c4, .int .i64 s, .int .i64 t, .int .i64 f, .int .i64 l, .int .i64 p, .int .i64 1, .int .u64 0, .slice none 0 0, .slice none 0 0, .int .i64 0, .int .i64 0, .int .i64 0, .int .i64 0, .int .i64 0, .int .i64 0, .int .i64 0, .int .u64 0, .int .i64 0, .slice none 0 0, .int .i64 0] _ bv2.range Tryd.underlying51 rfl (by kernel_rfl) ?_) | (refine wpList_store_mid rfl 51 (.tmp 4) (.tmp 14) rfl (w.heap.size + 1 + 1) 0 #[.slice A1 n c1, .slice A4 ks.length c4, .int .i64 s, .int .i64 t, .int .i64 f, .int .i64 l, .int .i64 p, .int .i64 1, .int .u64 0, .slice none 0 0, .slice none 0 0, .int .i64 0, .int .i64 0, .int .i64 0, .int .i64 0, .int .i64 0, .int .i64 0, .int .i64 0, .int .u64 0, .int .i64 0, .slice none 0 0, .int .i64 0] (by rfl) (by rfl) (bo2.there rfl) (by kernel_rfl) (by kernel_rfl) ?_))
        replace r3 := own_set1 (j := 7) r3 bv (by decide) (.int .i64 1)
        replace o4 := own_set1 (j := 7) o4 bv (by decide) (.int .i64 1)
        replace B0 := B0.setCell (p := ⟨g5, 7, none⟩) (show w.heap.size ≤ g5 by have := HG5.out; omega) (.int .i64 1)
        replace r3 := (show World.ownsRow ((w10.setCell ⟨g5, 7, none⟩ (.int .i64 1)).setCells (w.heap.size + 1 + 1) 0 [.slice A1 n c1, .slice A4 ks.length c4, .int .i64 s, .int .i64 t, .int .i64 f, .int .i64 l, .int .i64 p, .int .i64 1, .int .u64 0, .slice none 0 0, .slice none 0 0, .int .i64 0, .int .i64 0, .int .i64 0, .int .i64 0, .int .i64 0, .int .i64 0, .int .i64 0, .int .u64 0, .int .i64 0, .slice none 0 0, .int .i64 0]) _ _ _ _ _ _ from by rw [putL_eq]; exact own_putT (by decide) _ _ _ 0 bo2 r3)
        replace o4 := (show World.ownsRow ((w10.setCell ⟨g5, 7, none⟩ (.int .i64 1)).setCells (w.heap.size + 1 + 1) 0 [.slice A1 n c1, .slice A4 ks.length c4, .int .i64 s, .int .i64 t, .int .i64 f, .int .i64 l, .int .i64 p, .int .i64 1, .int .u64 0, .slice none 0 0, .slice none 0 0, .int .i64 0, .int .i64 0, .int .i64 0, .int .i64 0, .int .i64 0, .int .i64 0, .int .i64 0, .int .u64 0, .int .i64 0, .slice none 0 0, .int .i64 0]) _ _ _ _ _ _ from by rw [putL_eq]; exact own_putT (by decide) _ _ _ 0 bo2 o4)
        replace B0 := (show Below w.heap.size w ((w10.setCell ⟨g5, 7, none⟩ (.int .i64 1)).setCells (w.heap.size + 1 + 1) 0 [.slice A1 n c1, .slice A4 ks.length c4, .int .i64 s, .int .i64 t, .int .i64 f, .int .i64 l, .int .i64 p, .int .i64 1, .int .u64 0, .slice none 0 0, .slice none 0 0, .int .i64 0, .int .i64 0, .int .i64 0, .int .i64 0, .int .i64 0, .int .i64 0, .int .i64 0, .int .u64 0, .int .i64 0, .slice none 0 0, .int .i64 0]) from by rw [putL_eq]; exact Below.putL (by omega) _ _ 0 B0)
        have bo3 := (show Blk ((w10.setCell ⟨g5, 7, none⟩ (.int .i64 1)).setCells (w.heap.size + 1 + 1) 0 [.slice A1 n c1, .slice A4 ks.length c4, .int .i64 s, .int .i64 t, .int .i64 f, .int .i64 l, .int .i64 p, .int .i64 1, .int .u64 0, .slice none 0 0, .slice none 0 0, .int .i64 0, .int .i64 0, .int .i64 0, .int .i64 0, .int .i64 0, .int .i64 0, .int .i64 0, .int .u64 0, .int .i64 0, .slice none 0 0, .int .i64 0]) (w.heap.size + 1 + 1) 51 #[.slice A1 n c1, .slice A4 ks.length c4, .int .i64 s, .int .i64 t, .int .i64 f, .int .i64 l, .int .i64 p, .int .i64 1, .int .u64 0, .slice none 0 0, .slice none 0 0, .int .i64 0, .int .i64 0, .int .i64 0, .int .i64 0, .int .i64 0, .int .i64 0, .int .i64 0, .int .u64 0, .int .i64 0, .slice none 0 0, .int .i64 0] from by rw [putL_eq]; have h9 := Blk.putL [.slice A1 n c1, .slice A4 ks.length c4, .int .i64 s, .int .i64 t, .int .i64 f, .int .i64 l, .int .i64 p, .int .i64 1, .int .u64 0, .slice none 0 0, .slice none 0 0, .int .i64 0, .int .i64 0, .int .i64 0, .int .i64 0, .int .i64 0, .int .i64 0, .int .i64 0, .int .u64 0, .int .i64 0, .slice none 0 0, .int .i64 0] _ _ 0 bo2; simpa only [setL, List.setIfInBounds_toArray, List.set_cons_zero, List.set_cons_succ] using h9)
        generalize (w10.setCell ⟨g5, 7, none⟩ (.int .i64 1)).setCells (w.heap.size + 1 + 1) 0 [.slice A1 n c1, .slice A4 ks.length c4, .int .i64 s, .int .i64 t, .int .i64 f, .int .i64 l, .int .i64 p, .int .i64 1, .int .u64 0, .slice none 0 0, .slice none 0 0, .int .i64 0, .int .i64 0, .int .i64 0, .int .i64 0, .int .i64 0, .int .i64 0, .int .i64 0, .int .u64 0, .int .i64 0, .slice none 0 0, .int .i64 0] = w12 at *
        have hres : (loadVar 51 ⟨w.heap.size + 1 + 1, 0, none⟩).run Tryd.prog w12 = .ok (.agg #[.slice A1 n c1, .slice A4 ks.length c4, .int .i64 s, .int .i64 t, .int .i64 f, .int .i64 l, .int .i64 p, .int .i64 1, .int .u64 0, .slice none 0 0, .slice none 0 0, .int .i64 0, .int .i64 0, .int .i64 0, .int .i64 0, .int .i64 0, .int .i64 0, .int .i64 0, .int .u64 0, .int .i64 0, .slice none 0 0, .int .i64 0]) w12 := run_loadVar_mid w12 _ 0 _ [.slice A1 n c1, .slice A4 ks.length c4, .int .i64 s, .int .i64 t, .int .i64 f, .int .i64 l, .int .i64 p, .int .i64 1, .int .u64 0, .slice none 0 0, .slice none 0 0, .int .i64 0, .int .i64 0, .int .i64 0, .int .i64 0, .int .i64 0, .int .i64 0, .int .i64 0, .int .u64 0, .int .i64 0, .slice none 0 0, .int .i64 0] _ bo3.range Tryd.underlying51 rfl (by kernel_rfl)
        refine bodyPost_ret (v := .agg #[.slice A1 n c1, .slice A4 ks.length c4, .int .i64 s, .int .i64 t, .int .i64 f, .int .i64 l, .int .i64 p, .int .i64 1, .int .u64 0, .slice none 0 0, .slice none 0 0, .int .i64 0, .int .i64 0, .int .i64 0, .int .i64 0, .int .i64 0, .int .i64 0, .int .i64 0, .int .u64 0, .int .i64 0, .slice none 0 0, .int .i64 0]) (by simp [results, Tryd.results17, Act.put, asAddr, hres]) rfl ⟨⟨A1, c1, A4, c4, rfl, r3, o4⟩, B0⟩
      exact AllReadyZ.nil
    exact AllReadyZ.nil
  exact AllReadyZ.nil
set_option linter.unusedSimpArgs false in
set_option maxRecDepth 100000 in
set_option maxHeartbeats 4000000 in
theorem snew_no (s t f l p q : Int) (A : Option Addr) (n c : Nat) (r : List (Int × Int)) (v : Value) (ks : List Int) (w : World) (hn : n ≤ 1000) (hk : ks.length ≤ 1000) (hr : Reads w w.heap.size 2 A n (rec2 r)) (hs : Sl w w.heap.size v ks)
    (SZ0 : ∀ w2, Calls Tryd.prog 41 #[.agg #[.int .i64 s, .int .i64 t, .int .i64 f, .int .i64 l, .int .i64 p]] w2 fun e w' => e = .returned (.int .i64 q) ∧ Below w2.heap.size w2 w') (hq : ¬ 0 < q) :
    Calls Tryd.prog 17 #[.agg #[.int .i64 s, .int .i64 t, .int .i64 f, .int .i64 l, .int .i64 p], .agg #[.slice A n c, v]] w fun e w' => (∃ A1 c1 A4 c4, e = .returned (.agg #[.slice A1 n c1, .slice A4 ks.length c4, .int .i64 s, .int .i64 t, .int .i64 f, .int .i64 l, .int .i64 p, .int .i64 0, .int .u64 0, .slice none 0 0, .slice none 0 0, .int .i64 0, .int .i64 0, .int .i64 0, .int .i64 0, .int .i64 0, .int .i64 0, .int .i64 0, .int .u64 0, .int .i64 0, .slice none 0 0, .int .i64 0]) ∧ OwnR w' w.heap.size (.slice A1 n c1) n r ∧ Own w' w.heap.size (.slice A4 ks.length c4) ks) ∧ Below w.heap.size w w' := by
  obtain ⟨A2, c2, rfl, q1, q2, q3⟩ := hs
  have HS := hide (show Sl w w.heap.size (.slice A2 ks.length c2) ks from ⟨A2, c2, rfl, q1, q2, q3⟩)
  have CP := hide (fun w2 (h : Below w.heap.size w w2) => copied_any A n c r (.slice A2 ks.length c2) ks w2 hn hk ((hr.below h).more h.size) ((HS.out.below h).more h.size))
  have SZ := hide SZ0
  have B0 := (((Below.refl w.heap.size w).alloc (Nat.le_refl _) (.cells #[.int .i64 s, .int .i64 t, .int .i64 f, .int .i64 l, .int .i64 p] 44)).alloc (by simp only [World.size_alloc]; omega) (.cells #[.slice A n c, .slice A2 ks.length c2] 25)).alloc (by simp only [World.size_alloc]; omega) (.cells #[.slice none 0 0, .slice none 0 0, .int .i64 0, .int .i64 0, .int .i64 0, .int .i64 0, .int .i64 0, .int .i64 0, .int .u64 0, .slice none 0 0, .slice none 0 0, .int .i64 0, .int .i64 0, .int .i64 0, .int .i64 0, .int .i64 0, .int .i64 0, .int .i64 0, .int .u64 0, .int .i64 0, .slice none 0 0, .int .i64 0] 51)
  have bx := ((Blk.new w 44 #[.int .i64 s, .int .i64 t, .int .i64 f, .int .i64 l, .int .i64 p]).alloc (.cells #[.slice A n c, .slice A2 ks.length c2] 25)).alloc (.cells #[.slice none 0 0, .slice none 0 0, .int .i64 0, .int .i64 0, .int .i64 0, .int .i64 0, .int .i64 0, .int .i64 0, .int .u64 0, .slice none 0 0, .slice none 0 0, .int .i64 0, .int .i64 0, .int .i64 0, .int .i64 0, .int .i64 0, .int .i64 0, .int .i64 0, .int .u64 0, .int .i64 0, .slice none 0 0, .int .i64 0] 51)
  have by_ := (Blk.new (w.alloc (.cells #[.int .i64 s, .int .i64 t, .int .i64 f, .int .i64 l, .int .i64 p] 44)) 25 #[.slice A n c, .slice A2 ks.length c2]).alloc (.cells #[.slice none 0 0, .slice none 0 0, .int .i64 0, .int .i64 0, .int .i64 0, .int .i64 0, .int .i64 0, .int .i64 0, .int .u64 0, .slice none 0 0, .slice none 0 0, .int .i64 0, .int .i64 0, .int .i64 0, .int .i64 0, .int .i64 0, .int .i64 0, .int .i64 0, .int .u64 0, .int .i64 0, .slice none 0 0, .int .i64 0] 51)
  have bo := Blk.new ((w.alloc (.cells #[.int .i64 s, .int .i64 t, .int .i64 f, .int .i64 l, .int .i64 p] 44)).alloc (.cells #[.slice A n c, .slice A2 ks.length c2] 25)) 51 #[.slice none 0 0, .slice none 0 0, .int .i64 0, .int .i64 0, .int .i64 0, .int .i64 0, .int .i64 0, .int .i64 0, .int .u64 0, .slice none 0 0, .slice none 0 0, .int .i64 0, .int .i64 0, .int .i64 0, .int .i64 0, .int .i64 0, .int .i64 0, .int .i64 0, .int .u64 0, .int .i64 0, .slice none 0 0, .int .i64 0]
  simp only [World.size_alloc] at bo by_
  clear q1 q2 q3 hn hk hr SZ0
  go_enter Tryd.func17, Tryd.ntmps17
  go_wp2_with fail
  generalize ((w.alloc (.cells #[.int .i64 s, .int .i64 t, .int .i64 f, .int .i64 l, .int .i64 p] 44)).alloc (.cells #[.slice A n c, .slice A2 ks.length c2] 25)).alloc (.cells #[.slice none 0 0, .slice none 0 0, .int .i64 0, .int .i64 0, .int .i64 0, .int .i64 0, .int .i64 0, .int .i64 0, .int .u64 0, .slice none 0 0, .slice none 0 0, .int .i64 0, .int .i64 0, .int .i64 0, .int .i64 0, .int .i64 0, .int .i64 0, .int .i64 0, .int .u64 0, .int .i64 0, .slice none 0 0, .int .i64 0] 51) = w0 at *
  refine wp_region_heldZ [5] (fun w' => w'.cell? ⟨w.heap.size, 0, none⟩ = some (.int .i64 s) ∧ w'.cell? ⟨w.heap.size, 1, none⟩ = some (.int .i64 t) ∧ w'.cell? ⟨w.heap.size, 2, none⟩ = some (.int .i64 f) ∧ w'.cell? ⟨w.heap.size, 3, none⟩ = some (.int .i64 l) ∧ w'.cell? ⟨w.heap.size, 4, none⟩ = some (.int .i64 p) ∧ w'.cell? ⟨w.heap.size + 1, 0, none⟩ = some (.slice A n c) ∧ w'.cell? ⟨w.heap.size + 1, 1, none⟩ = some (.slice A2 ks.length c2)) (by kernel_rfl) (by exact ⟨bx.cell 0, bx.cell 1, bx.cell 2, bx.cell 3, bx.cell 4, by_.cell 0, by_.cell 1⟩) (fun hHeld => ?_)
  replace bx := bx.drew
  replace by_ := by_.drew
  replace bo := bo.drew
  replace B0 := B0.drew
  generalize w0.drew = wd at *
  refine' wpAnyZ_takeA (i := 0) (v := ?_) (opAt rfl) (by kernel_rfl) (by kernel_rfl) (by kernel_rfl) (by kernel_rfl) (fun _ _ _ h => h) (by assumption) (by rfl) (fun w hSw => ?_) ?_
  rotate_left
  · (try dsimp only at hSw); go_simp; (try with_reducible rfl)
  try simp only [Act.put, List.setIfInBounds_toArray, List.set_cons_zero, List.set_cons_succ]
  refine' wpAnyZ_takeA (i := 2) (v := ?_) (opAt rfl) (by kernel_rfl) (by kernel_rfl) (by kernel_rfl) (by kernel_rfl) (fun _ _ _ h => h) (by assumption) (by rfl) (fun w hSw => ?_) ?_
  rotate_left
  · (try dsimp only at hSw); go_simp; (try with_reducible rfl)
  try simp only [Act.put, List.setIfInBounds_toArray, List.set_cons_zero, List.set_cons_succ]
  refine wpAnyZ_ready (rs := [1, 4]) (by kernel_rfl) (by simp) ?_
  refine AllReadyZ.cons (opAt rfl) (fun K hK => ?_) ?_
  · skip
    go_simp
    refine (CP.out _ B0).mono ?_
    rintro e w1 ⟨⟨A1, c1, u4, rfl, r3, o4⟩, hb1⟩
    have r3 := own_mono r3 B0.size
    have o4 := own_mono o4 B0.size
    obtain ⟨A4, c4, rfl⟩ := Own.val o4
    replace bx := bx.below hb1 bx.lt
    replace by_ := by_.below hb1 by_.lt
    replace bo := bo.below hb1 bo.lt
    replace B0 := B0.trans (hb1.mono B0.size)
    clear hb1
    try go_wp2_with fail
    refine hK.out _ _ (by exact ⟨bx.cell 0, bx.cell 1, bx.cell 2, bx.cell 3, bx.cell 4, by_.cell 0, by_.cell 1⟩) (fun hHeld => ?_)
    clear hK K
    try simp only [Act.put, List.setIfInBounds_toArray, List.set_cons_zero, List.set_cons_succ]
    refine' wpAnyZ_takeA (i := 3) (v := ?_) (opAt rfl) (by kernel_rfl) (by kernel_rfl) (by kernel_rfl) (by kernel_rfl) (fun _ _ _ h => h) (by assumption) (by rfl) (fun w hSw => ?_) ?_
    rotate_left
    · (try dsimp only at hSw); go_simp; (try with_reducible rfl)
    try simp only [Act.put, List.setIfInBounds_toArray, List.set_cons_zero, List.set_cons_succ]
    refine wpAnyZ_ready (rs := [4]) (by kernel_rfl) (by simp) ?_
    refine AllReadyZ.cons (opAt rfl) (fun K hK => ?_) ?_
    · skip
      go_simp
      have HG5 := hide (show w.heap.size + 3 ≤ w1.heap.size by have := bo.lt; omega)
      have bv := Blk.new w1 51 #[.slice none 0 0, .slice none 0 0, .int .i64 0, .int .i64 0, .int .i64 0, .int .i64 0, .int .i64 0, .int .i64 0, .int .u64 0, .slice none 0 0, .slice none 0 0, .int .i64 0, .int .i64 0, .int .i64 0, .int .i64 0, .int .i64 0, .int .i64 0, .int .i64 0, .int .u64 0, .int .i64 0, .slice none 0 0, .int .i64 0]
      replace bx := bx.alloc (.cells #[.slice none 0 0, .slice none 0 0, .int .i64 0, .int .i64 0, .int .i64 0, .int .i64 0, .int .i64 0, .int .i64 0, .int .u64 0, .slice none 0 0, .slice none 0 0, .int .i64 0, .int .i64 0, .int .i64 0, .int .i64 0, .int .i64 0, .int .i64 0, .int .i64 0, .int .u64 0, .int .i64 0, .slice none 0 0, .int .i64 0] 51)
      replace by_ := by_.alloc (.cells #[.slice none 0 0, .slice none 0 0, .int .i64 0, .int .i64 0, .int .i64 0, .int .i64 0, .int .i64 0, .int .i64 0, .int .u64 0, .slice none 0 0, .slice none 0 0, .int .i64 0, .int .i64 0, .int .i64 0, .int .i64 0, .int .i64 0, .int .i64 0, .int .i64 0, .int .u64 0, .int .i64 0, .slice none 0 0, .int .i64 0] 51)
      replace bo := bo.alloc (.cells #[.slice none 0 0, .slice none 0 0, .int .i64 0, .int .i64 0, .int .i64 0, .int .i64 0, .int .i64 0, .int .i64 0, .int .u64 0, .slice none 0 0, .slice none 0 0, .int .i64 0, .int .i64 0, .int .i64 0, .int .i64 0, .int .i64 0, .int .i64 0, .int .i64 0, .int .u64 0, .int .i64 0, .slice none 0 0, .int .i64 0] 51)
      replace r3 := World.ownsRow.alloc r3 (.cells #[.slice none 0 0, .slice none 0 0, .int .i64 0, .int .i64 0, .int .i64 0, .int .i64 0, .int .i64 0, .int .i64 0, .int .u64 0, .slice none 0 0, .slice none 0 0, .int .i64 0, .int .i64 0, .int .i64 0, .int .i64 0, .int .i64 0, .int .i64 0, .int .i64 0, .int .u64 0, .int .i64 0, .slice none 0 0, .int .i64 0] 51)
      replace o4 := World.ownsRow.alloc o4 (.cells #[.slice none 0 0, .slice none 0 0, .int .i64 0, .int .i64 0, .int .i64 0, .int .i64 0, .int .i64 0, .int .i64 0, .int .u64 0, .slice none 0 0, .slice none 0 0, .int .i64 0, .int .i64 0, .int .i64 0, .int .i64 0, .int .i64 0, .int .i64 0, .int .i64 0, .int .u64 0, .int .i64 0, .slice none 0 0, .int .i64 0] 51)
      replace B0 := B0.alloc B0.size (.cells #[.slice none 0 0, .slice none 0 0, .int .i64 0, .int .i64 0, .int .i64 0, .int .i64 0, .int .i64 0, .int .i64 0, .int .u64 0, .slice none 0 0, .slice none 0 0, .int .i64 0, .int .i64 0, .int .i64 0, .int .i64 0, .int .i64 0, .int .i64 0, .int .i64 0, .int .u64 0, .int .i64 0, .slice none 0 0, .int .i64 0] 51)
      generalize w1.heap.size = g5 at *
      generalize w1.alloc (.cells #[.slice none 0 0, .slice none 0 0, .int .i64 0, .int .i64 0, .int .i64 0, .int .i64 0, .int .i64 0, .int .i64 0, .int .u64 0, .slice none 0 0, .slice none 0 0, .int .i64 0, .int .i64 0, .int .i64 0, .int .i64 0, .int .i64 0, .int .i64 0, .int .i64 0, .int .u64 0, .int .i64 0, .slice none 0 0, .int .i64 0] 51) = w2 at *
      refine hK.out _ _ (by exact ⟨bx.cell 0, bx.cell 1, bx.cell 2, bx.cell 3, bx.cell 4, by_.cell 0, by_.cell 1⟩) (fun hHeld => ?_)
      clear hK K
      try simp only [Act.put, List.setIfInBounds_toArray, List.set_cons_zero, List.set_cons_succ]
      refine wpAnyZ_ready (rs := [5]) (by kernel_rfl) (by simp) ?_
      refine AllReadyZ.last (opAt rfl) (by kernel_rfl) (fun K hK => ?_) ?_
      · skip
        refine wp_store_mid 51 (.tmp 5) (.tmp 9) rfl g5 0 #[.slice A1 n c1, .slice A4 ks.length c4, .int .i64 s, .int .i64 t, .int .i64 f, .int .i64 l, .int .i64 p, .int .i64 0, .int .u64 0, .slice none 0 0, .slice none 0 0, .int .i64 0, .int .i64 0, .int .i64 0, .int .i64 0, .int .i64 0, .int .i64 0, .int .i64 0, .int .u64 0, .int .i64 0, .slice none 0 0, .int .i64 0] (by rfl) (by rfl) (bv.there rfl) (by kernel_rfl) (by kernel_rfl) ?_
        refine hK.out _ _ ?_
        clear hK K
        try simp only [Act.put, List.setIfInBounds_toArray, List.set_cons_zero, List.set_cons_succ]
        refine wpAnyZ_done (by kernel_rfl) ?_ _
        replace r3 := (show World.ownsRow (w2.setCells g5 0 [.slice A1 n c1, .slice A4 ks.length c4, .int .i64 s, .int .i64 t, .int .i64 f, .int .i64 l, .int .i64 p, .int .i64 0, .int .u64 0, .slice none 0 0, .slice none 0 0, .int .i64 0, .int .i64 0, .int .i64 0, .int .i64 0, .int .i64 0, .int .i64 0, .int .i64 0, .int .u64 0, .int .i64 0, .slice none 0 0, .int .i64 0]) _ _ _ _ _ _ from by rw [putL_eq]; exact own_putT (by decide) _ _ _ 0 bv r3)
        replace o4 := (show World.ownsRow (w2.setCells g5 0 [.slice A1 n c1, .slice A4 ks.length c4, .int .i64 s, .int .i64 t, .int .i64 f, .int .i64 l, .int .i64 p, .int .i64 0, .int .u64 0, .slice none 0 0, .slice none 0 0, .int .i64 0, .int .i64 0, .int .i64 0, .int .i64 0, .int .i64 0, .int .i64 0, .int .i64 0, .int .u64 0, .int .i64 0, .slice none 0 0, .int .i64 0]) _ _ _ _ _ _ from by rw [putL_eq]; exact own_putT (by decide) _ _ _ 0 bv o4)
        replace bx := (show Blk (w2.setCells g5 0 [.slice A1 n c1, .slice A4 ks.length c4, .int .i64 s, .int .i64 t, .int .i64 f, .int .i64 l, .int .i64 p, .int .i64 0, .int .u64 0, .slice none 0 0, .slice none 0 0, .int .i64 0, .int .i64 0, .int .i64 0, .int .i64 0, .int .i64 0, .int .i64 0, .int .i64 0, .int .u64 0, .int .i64 0, .slice none 0 0, .int .i64 0]) _ _ _ from by rw [putL_eq]; exact Blk.offL (by have := HG5.out; omega) _ _ 0 bx)
        replace bo := (show Blk (w2.setCells g5 0 [.slice A1 n c1, .slice A4 ks.length c4, .int .i64 s, .int .i64 t, .int .i64 f, .int .i64 l, .int .i64 p, .int .i64 0, .int .u64 0, .slice none 0 0, .slice none 0 0, .int .i64 0, .int .i64 0, .int .i64 0, .int .i64 0, .int .i64 0, .int .i64 0, .int .i64 0, .int .u64 0, .int .i64 0, .slice none 0 0, .int .i64 0]) _ _ _ from by rw [putL_eq]; exact Blk.offL (by have := HG5.out; omega) _ _ 0 bo)
        replace B0 := (show Below w.heap.size w (w2.setCells g5 0 [.slice A1 n c1, .slice A4 ks.length c4, .int .i64 s, .int .i64 t, .int .i64 f, .int .i64 l, .int .i64 p, .int .i64 0, .int .u64 0, .slice none 0 0, .slice none 0 0, .int .i64 0, .int .i64 0, .int .i64 0, .int .i64 0, .int .i64 0, .int .i64 0, .int .i64 0, .int .u64 0, .int .i64 0, .slice none 0 0, .int .i64 0]) from by rw [putL_eq]; exact Below.putL (by have := HG5.out; omega) _ _ 0 B0)
        replace bv := (show Blk (w2.setCells g5 0 [.slice A1 n c1, .slice A4 ks.length c4, .int .i64 s, .int .i64 t, .int .i64 f, .int .i64 l, .int .i64 p, .int .i64 0, .int .u64 0, .slice none 0 0, .slice none 0 0, .int .i64 0, .int .i64 0, .int .i64 0, .int .i64 0, .int .i64 0, .int .i64 0, .int .i64 0, .int .u64 0, .int .i64 0, .slice none 0 0, .int .i64 0]) g5 51 #[.slice A1 n c1, .slice A4 ks.length c4, .int .i64 s, .int .i64 t, .int .i64 f, .int .i64 l, .int .i64 p, .int .i64 0, .int .u64 0, .slice none 0 0, .slice none 0 0, .int .i64 0, .int .i64 0, .int .i64 0, .int .i64 0, .int .i64 0, .int .i64 0, .int .i64 0, .int .u64 0, .int .i64 0, .slice none 0 0, .int .i64 0] from by rw [putL_eq]; have h9 := Blk.putL [.slice A1 n c1, .slice A4 ks.length c4, .int .i64 s, .int .i64 t, .int .i64 f, .int .i64 l, .int .i64 p, .int .i64 0, .int .u64 0, .slice none 0 0, .slice none 0 0, .int .i64 0, .int .i64 0, .int .i64 0, .int .i64 0, .int .i64 0, .int .i64 0, .int .i64 0, .int .u64 0, .int .i64 0, .slice none 0 0, .int .i64 0] _ _ 0 bv; simpa only [setL, List.setIfInBounds_toArray, List.set_cons_zero, List.set_cons_succ] using h9)
        clear by_ hHeld
        generalize w2.setCells g5 0 [.slice A1 n c1, .slice A4 ks.length c4, .int .i64 s, .int .i64 t, .int .i64 f, .int .i64 l, .int .i64 p, .int .i64 0, .int .u64 0, .slice none 0 0, .slice none 0 0, .int .i64 0, .int .i64 0, .int .i64 0, .int .i64 0, .int .i64 0, .int .i64 0, .int .i64 0, .int .u64 0, .int .i64 0, .slice none 0 0, .int .i64 0] = w9 at *
        have mx := fun i => bx.cell i
        go_wp2_with fail
        refine (SZ.out _).mono ?_
        rintro e w10 ⟨rfl, hb1⟩
        replace r3 := own_below r3 hb1
        replace o4 := own_below o4 hb1
        replace bo := bo.below hb1 bo.lt
        replace bv := bv.below hb1 bv.lt
        replace B0 := B0.trans (hb1.mono B0.size)
        clear hb1 mx bx
        have hm7 := bv.cell 7
        have hz7 := bv.frozen 7
        have bv2 := bv
        have bo2 := bo
        go_wp2_with (first | (refine wpList_load_mid rfl 51 (.tmp 5) rfl g5 0 (by rfl) [.slice A1 n c1, .slice A4 ks.length c4, .int .i64 s, .int .i64 t, .int .i64 f, .int .i64 l, .int .i64 p, .int .i64 0, .int .u64 0, .slice none 0 0, .slice none 0 0, .int .i64 0, .int .i64 0, .int .i64 0, .int .i64 0, .int .i64 0, .int .i64 0, .int .i64 0, .int .u64 0, .int .i64 0, .slice none 0 0, .int .i64 0] _ bv2.range Tryd.underlying51 rfl (by kernel_rfl) ?_) | (refine wpList_store_mid rfl 51 (.tmp 4) (.tmp 14) rfl (w.heap.size + 1 + 1) 0 #[.slice A1 n c1, .slice A4 ks.length c4, .int .i64 s, .int .i64 t, .int .i64 f, .int .i64 l, .int .i64 p, .int .i64 0, .int .u64 0, .slice none 0 0, .slice none 0 0, .int .i64 0, .int .i64 0, .int .i64 0, .int .i64 0, .int .i64 0, .int .i64 0, .int .i64 0, .int .u64 0, .int .i64 0, .slice none 0 0, .int .i64 0] (by rfl) (by rfl) (bo2.there rfl) (by kernel_rfl) (by kernel_rfl) ?_))
        replace r3 := (show World.ownsRow (w10.setCells (w.heap.size + 1 + 1) 0 [.slice A1 n c1, .slice A4 ks.length c4, .int .i64 s, .int .i64 t, .int .i64 f, .int .i64 l, .int .i64 p, .int .i64 0, .int .u64 0, .slice none 0 0, .slice none 0 0, .int .i64 0, .int .i64 0, .int .i64 0, .int .i64 0, .int .i64 0, .int .i64 0, .int .i64 0, .int .u64 0, .int .i64 0, .slice none 0 0, .int .i64 0]) _ _ _ _ _ _ from by rw [putL_eq]; exact own_putT (by decide) _ _ _ 0 bo2 r3)
        replace o4 := (show World.ownsRow (w10.setCells (w.heap.size + 1 + 1) 0 [.slice A1 n c1, .slice A4 ks.length c4, .int .i64 s, .int .i64 t, .int .i64 f, .int .i64 l, .int .i64 p, .int .i64 0, .int .u64 0, .slice none 0 0, .slice none 0 0, .int .i64 0, .int .i64 0, .int .i64 0, .int .i64 0, .int .i64 0, .int .i64 0, .int .i64 0, .int .u64 0, .int .i64 0, .slice none 0 0, .int .i64 0]) _ _ _ _ _ _ from by rw [putL_eq]; exact own_putT (by decide) _ _ _ 0 bo2 o4)
        replace B0 := (show Below w.heap.size w (w10.setCells (w.heap.size + 1 + 1) 0 [.slice A1 n c1, .slice A4 ks.length c4, .int .i64 s, .int .i64 t, .int .i64 f, .int .i64 l, .int .i64 p, .int .i64 0, .int .u64 0, .slice none 0 0, .slice none 0 0, .int .i64 0, .int .i64 0, .int .i64 0, .int .i64 0, .int .i64 0, .int .i64 0, .int .i64 0, .int .u64 0, .int .i64 0, .slice none 0 0, .int .i64 0]) from by rw [putL_eq]; exact Below.putL (by omega) _ _ 0 B0)
        have bo3 := (show Blk (w10.setCells (w.heap.size + 1 + 1) 0 [.slice A1 n c1, .slice A4 ks.length c4, .int .i64 s, .int .i64 t, .int .i64 f, .int .i64 l, .int .i64 p, .int .i64 0, .int .u64 0, .slice none 0 0, .slice none 0 0, .int .i64 0, .int .i64 0, .int .i64 0, .int .i64 0, .int .i64 0, .int .i64 0, .int .i64 0, .int .u64 0, .int .i64 0, .slice none 0 0, .int .i64 0]) (w.heap.size + 1 + 1) 51 #[.slice A1 n c1, .slice A4 ks.length c4, .int .i64 s, .int .i64 t, .int .i64 f, .int .i64 l, .int .i64 p, .int .i64 0, .int .u64 0, .slice none 0 0, .slice none 0 0, .int .i64 0, .int .i64 0, .int .i64 0, .int .i64 0, .int .i64 0, .int .i64 0, .int .i64 0, .int .u64 0, .int .i64 0, .slice none 0 0, .int .i64 0] from by rw [putL_eq]; have h9 := Blk.putL [.slice A1 n c1, .slice A4 ks.length c4, .int .i64 s, .int .i64 t, .int .i64 f, .int .i64 l, .int .i64 p, .int .i64 0, .int .u64 0, .slice none 0 0, .slice none 0 0, .int .i64 0, .int .i64 0, .int .i64 0, .int .i64 0, .int .i64 0, .int .i64 0, .int .i64 0, .int .u64 0, .int .i64 0, .slice none 0 0, .int .i64 0] _ _ 0 bo2; simpa only [setL, List.setIfInBounds_toArray, List.set_cons_zero, List.set_cons_succ] using h9)
        generalize w10.setCells (w.heap.size + 1 + 1) 0 [.slice A1 n c1, .slice A4 ks.length c4, .int .i64 s, .int .i64 t, .int .i64 f, .int .i64 l, .int .i64 p, .int .i64 0, .int .u64 0, .slice none 0 0, .slice none 0 0, .int .i64 0, .int .i64 0, .int .i64 0, .int .i64 0, .int .i64 0, .int .i64 0, .int .i64 0, .int .u64 0, .int .i64 0, .slice none 0 0, .int .i64 0] = w12 at *
        have hres : (loadVar 51 ⟨w.heap.size + 1 + 1, 0, none⟩).run Tryd.prog w12 = .ok (.agg #[.slice A1 n c1, .slice A4 ks.length c4, .int .i64 s, .int .i64 t, .int .i64 f, .int .i64 l, .int .i64 p, .int .i64 0, .int .u64 0, .slice none 0 0, .slice none 0 0, .int .i64 0, .int .i64 0, .int .i64 0, .int .i64 0, .int .i64 0, .int .i64 0, .int .i64 0, .int .u64 0, .int .i64 0, .slice none 0 0, .int .i64 0]) w12 := run_loadVar_mid w12 _ 0 _ [.slice A1 n c1, .slice A4 ks.length c4, .int .i64 s, .int .i64 t, .int .i64 f, .int .i64 l, .int .i64 p, .int .i64 0, .int .u64 0, .slice none 0 0, .slice none 0 0, .int .i64 0, .int .i64 0, .int .i64 0, .int .i64 0, .int .i64 0, .int .i64 0, .int .i64 0, .int .u64 0, .int .i64 0, .slice none 0 0, .int .i64 0] _ bo3.range Tryd.underlying51 rfl (by kernel_rfl)
        refine bodyPost_ret (v := .agg #[.slice A1 n c1, .slice A4 ks.length c4, .int .i64 s, .int .i64 t, .int .i64 f, .int .i64 l, .int .i64 p, .int .i64 0, .int .u64 0, .slice none 0 0, .slice none 0 0, .int .i64 0, .int .i64 0, .int .i64 0, .int .i64 0, .int .i64 0, .int .i64 0, .int .i64 0, .int .u64 0, .int .i64 0, .slice none 0 0, .int .i64 0]) (by simp [results, Tryd.results17, Act.put, asAddr, hres]) rfl ⟨⟨A1, c1, A4, c4, rfl, r3, o4⟩, B0⟩
      exact AllReadyZ.nil
    exact AllReadyZ.nil
  refine AllReadyZ.cons (opAt rfl) (fun K hK => ?_) ?_
  · skip
    go_simp
    have HG5 := hide (show w.heap.size + 3 ≤ wd.heap.size by have := bo.lt; omega)
    have bv := Blk.new wd 51 #[.slice none 0 0, .slice none 0 0, .int .i64 0, .int .i64 0, .int .i64 0, .int .i64 0, .int .i64 0, .int .i64 0, .int .u64 0, .slice none 0 0, .slice none 0 0, .int .i64 0, .int .i64 0, .int .i64 0, .int .i64 0, .int .i64 0, .int .i64 0, .int .i64 0, .int .u64 0, .int .i64 0, .slice none 0 0, .int .i64 0]
    replace bx := bx.alloc (.cells #[.slice none 0 0, .slice none 0 0, .int .i64 0, .int .i64 0, .int .i64 0, .int .i64 0, .int .i64 0, .int .i64 0, .int .u64 0, .slice none 0 0, .slice none 0 0, .int .i64 0, .int .i64 0, .int .i64 0, .int .i64 0, .int .i64 0, .int .i64 0, .int .i64 0, .int .u64 0, .int .i64 0, .slice none 0 0, .int .i64 0] 51)
    replace by_ := by_.alloc (.cells #[.slice none 0 0, .slice none 0 0, .int .i64 0, .int .i64 0, .int .i64 0, .int .i64 0, .int .i64 0, .int .i64 0, .int .u64 0, .slice none 0 0, .slice none 0 0, .int .i64 0, .int .i64 0, .int .i64 0, .int .i64 0, .int .i64 0, .int .i64 0, .int .i64 0, .int .u64 0, .int .i64 0, .slice none 0 0, .int .i64 0] 51)
    replace bo := bo.alloc (.cells #[.slice none 0 0, .slice none 0 0, .int .i64 0, .int .i64 0, .int .i64 0, .int .i64 0, .int .i64 0, .int .i64 0, .int .u64 0, .slice none 0 0, .slice none 0 0, .int .i64 0, .int .i64 0, .int .i64 0, .int .i64 0, .int .i64 0, .int .i64 0, .int .i64 0, .int .u64 0, .int .i64 0, .slice none 0 0, .int .i64 0] 51)
    replace B0 := B0.alloc B0.size (.cells #[.slice none 0 0, .slice none 0 0, .int .i64 0, .int .i64 0, .int .i64 0, .int .i64 0, .int .i64 0, .int .i64 0, .int .u64 0, .slice none 0 0, .slice none 0 0, .int .i64 0, .int .i64 0, .int .i64 0, .int .i64 0, .int .i64 0, .int .i64 0, .int .i64 0, .int .u64 0, .int .i64 0, .slice none 0 0, .int .i64 0] 51)
    generalize wd.heap.size = g5 at *
    generalize wd.alloc (.cells #[.slice none 0 0, .slice none 0 0, .int .i64 0, .int .i64 0, .int .i64 0, .int .i64 0, .int .i64 0, .int .i64 0, .int .u64 0, .slice none 0 0, .slice none 0 0, .int .i64 0, .int .i64 0, .int .i64 0, .int .i64 0, .int .i64 0, .int .i64 0, .int .i64 0, .int .u64 0, .int .i64 0, .slice none 0 0, .int .i64 0] 51) = w1 at *
    refine hK.out _ _ (by exact ⟨bx.cell 0, bx.cell 1, bx.cell 2, bx.cell 3, bx.cell 4, by_.cell 0, by_.cell 1⟩) (fun hHeld => ?_)
    clear hK K
    try simp only [Act.put, List.setIfInBounds_toArray, List.set_cons_zero, List.set_cons_succ]
    refine wpAnyZ_ready (rs := [1]) (by kernel_rfl) (by simp) ?_
    refine AllReadyZ.cons (opAt rfl) (fun K hK => ?_) ?_
    · skip
      go_simp
      refine (CP.out _ B0).mono ?_
      rintro e w2 ⟨⟨A1, c1, u4, rfl, r3, o4⟩, hb1⟩
      have r3 := own_mono r3 B0.size
      have o4 := own_mono o4 B0.size
      obtain ⟨A4, c4, rfl⟩ := Own.val o4
      replace bv := bv.below hb1 bv.lt
      replace bx := bx.below hb1 bx.lt
      replace by_ := by_.below hb1 by_.lt
      replace bo := bo.below hb1 bo.lt
      replace B0 := B0.trans (hb1.mono B0.size)
      clear hb1
      try go_wp2_with fail
      refine hK.out _ _ (by exact ⟨bx.cell 0, bx.cell 1, bx.cell 2, bx.cell 3, bx.cell 4, by_.cell 0, by_.cell 1⟩) (fun hHeld => ?_)
      clear hK K
      try simp only [Act.put, List.setIfInBounds_toArray, List.set_cons_zero, List.set_cons_succ]
      refine' wpAnyZ_takeA (i := 3) (v := ?_) (opAt rfl) (by kernel_rfl) (by kernel_rfl) (by kernel_rfl) (by kernel_rfl) (fun _ _ _ h => h) (by assumption) (by rfl) (fun w hSw => ?_) ?_
      rotate_left
      · (try dsimp only at hSw); go_simp; (try with_reducible rfl)
      try simp only [Act.put, List.setIfInBounds_toArray, List.set_cons_zero, List.set_cons_succ]
      refine wpAnyZ_ready (rs := [5]) (by kernel_rfl) (by simp) ?_
      refine AllReadyZ.last (opAt rfl) (by kernel_rfl) (fun K hK => ?_) ?_
      · skip
        refine wp_store_mid 51 (.tmp 5) (.tmp 9) rfl g5 0 #[.slice A1 n c1, .slice A4 ks.length c4, .int .i64 s, .int .i64 t, .int .i64 f, .int .i64 l, .int .i64 p, .int .i64 0, .int .u64 0, .slice none 0 0, .slice none 0 0, .int .i64 0, .int .i64 0, .int .i64 0, .int .i64 0, .int .i64 0, .int .i64 0, .int .i64 0, .int .u64 0, .int .i64 0, .slice none 0 0, .int .i64 0] (by rfl) (by rfl) (bv.there rfl) (by kernel_rfl) (by kernel_rfl) ?_
        refine hK.out _ _ ?_
        clear hK K
        try simp only [Act.put, List.setIfInBounds_toArray, List.set_cons_zero, List.set_cons_succ]
        refine wpAnyZ_done (by kernel_rfl) ?_ _
        replace r3 := (show World.ownsRow (w2.setCells g5 0 [.slice A1 n c1, .slice A4 ks.length c4, .int .i64 s, .int .i64 t, .int .i64 f, .int .i64 l, .int .i64 p, .int .i64 0, .int .u64 0, .slice none 0 0, .slice none 0 0, .int .i64 0, .int .i64 0, .int .i64 0, .int .i64 0, .int .i64 0, .int .i64 0, .int .i64 0, .int .u64 0, .int .i64 0, .slice none 0 0, .int .i64 0]) _ _ _ _ _ _ from by rw [putL_eq]; exact own_putT (by decide) _ _ _ 0 bv r3)
        replace o4 := (show World.ownsRow (w2.setCells g5 0 [.slice A1 n c1, .slice A4 ks.length c4, .int .i64 s, .int .i64 t, .int .i64 f, .int .i64 l, .int .i64 p, .int .i64 0, .int .u64 0, .slice none 0 0, .slice none 0 0, .int .i64 0, .int .i64 0, .int .i64 0, .int .i64 0, .int .i64 0, .int .i64 0, .int .i64 0, .int .u64 0, .int .i64 0, .slice none 0 0, .int .i64 0]) _ _ _ _ _ _ from by rw [putL_eq]; exact own_putT (by decide) _ _ _ 0 bv o4)
        replace bx := (show Blk (w2.setCells g5 0 [.slice A1 n c1, .slice A4 ks.length c4, .int .i64 s, .int .i64 t, .int .i64 f, .int .i64 l, .int .i64 p, .int .i64 0, .int .u64 0, .slice none 0 0, .slice none 0 0, .int .i64 0, .int .i64 0, .int .i64 0, .int .i64 0, .int .i64 0, .int .i64 0, .int .i64 0, .int .u64 0, .int .i64 0, .slice none 0 0, .int .i64 0]) _ _ _ from by rw [putL_eq]; exact Blk.offL (by have := HG5.out; omega) _ _ 0 bx)
        replace bo := (show Blk (w2.setCells g5 0 [.slice A1 n c1, .slice A4 ks.length c4, .int .i64 s, .int .i64 t, .int .i64 f, .int .i64 l, .int .i64 p, .int .i64 0, .int .u64 0, .slice none 0 0, .slice none 0 0, .int .i64 0, .int .i64 0, .int .i64 0, .int .i64 0, .int .i64 0, .int .i64 0, .int .i64 0, .int .u64 0, .int .i64 0, .slice none 0 0, .int .i64 0]) _ _ _ from by rw [putL_eq]; exact Blk.offL (by have := HG5.out; omega) _ _ 0 bo)
        replace B0 := (show Below w.heap.size w (w2.setCells g5 0 [.slice A1 n c1, .slice A4 ks.length c4, .int .i64 s, .int .i64 t, .int .i64 f, .int .i64 l, .int .i64 p, .int .i64 0, .int .u64 0, .slice none 0 0, .slice none 0 0, .int .i64 0, .int .i64 0, .int .i64 0, .int .i64 0, .int .i64 0, .int .i64 0, .int .i64 0, .int .u64 0, .int .i64 0, .slice none 0 0, .int .i64 0]) from by rw [putL_eq]; exact Below.putL (by have := HG5.out; omega) _ _ 0 B0)
        replace bv := (show Blk (w2.setCells g5 0 [.slice A1 n c1, .slice A4 ks.length c4, .int .i64 s, .int .i64 t, .int .i64 f, .int .i64 l, .int .i64 p, .int .i64 0, .int .u64 0, .slice none 0 0, .slice none 0 0, .int .i64 0, .int .i64 0, .int .i64 0, .int .i64 0, .int .i64 0, .int .i64 0, .int .i64 0, .int .u64 0, .int .i64 0, .slice none 0 0, .int .i64 0]) g5 51 #[.slice A1 n c1, .slice A4 ks.length c4, .int .i64 s, .int .i64 t, .int .i64 f, .int .i64 l, .int .i64 p, .int .i64 0, .int .u64 0, .slice none 0 0, .slice none 0 0, .int .i64 0, .int .i64 0, .int .i64 0, .int .i64 0, .int .i64 0, .int .i64 0, .int .i64 0, .int .u64 0, .int .i64 0, .slice none 0 0, .int .i64 0] from by rw [putL_eq]; have h9 := Blk.putL [.slice A1 n c1, .slice A4 ks.length c4, .int .i64 s, .int .i64 t, .int .i64 f, .int .i64 l, .int .i64 p, .int .i64 0, .int .u64 0, .slice none 0 0, .slice none 0 0, .int .i64 0, .int .i64 0, .int .i64 0, .int .i64 0, .int .i64 0, .int .i64 0, .int .i64 0, .int .u64 0, .int .i64 0, .slice none 0 0, .int .i64 0] _ _ 0 bv; simpa only [setL, List.setIfInBounds_toArray, List.set_cons_zero, List.set_cons_succ] using h9)
        clear by_ hHeld
        generalize w2.setCells g5 0 [.slice A1 n c1, .slice A4 ks.length c4, .int .i64 s, .int .i64 t, .int .i64 f, .int .i64 l, .int .i64 p, .int .i64 0, .int .u64 0, .slice none 0 0, .slice none 0 0, .int .i64 0, .int .i64 0, .int .i64 0, .int .i64 0, .int .i64 0, .int .i64 0, .int .i64 0, .int .u64 0, .int .i64 0, .slice none 0 0, .int .i64 0] = w9 at *
        have mx := fun i => bx.cell i
        go_wp2_with fail
        refine (SZ.out _).mono ?_
        rintro e w10 ⟨rfl, hb1⟩
        replace r3 := own_below r3 hb1
        replace o4 := own_below o4 hb1
        replace bo := bo.below hb1 bo.lt
        replace bv := bv.below hb1 bv.lt
        replace B0 := B0.trans (hb1.mono B0.size)
        clear hb1 mx bx
        have hm7 := bv.cell 7
        have hz7 := bv.frozen 7
        have bv2 := bv
        have bo2 := bo
        go_wp2_with (first | (refine wpList_load_mid rfl 51 (.tmp 5) rfl g5 0 (by rfl) [.slice A1 n c1, .slice A4 ks.length c4, .int .i64 s, .int .i64 t, .int .i64 f, .int .i64 l, .int .i64 p, .int .i64 0, .int .u64 0, .slice none 0 0, .slice none 0 0, .int .i64 0, .int .i64 0, .int .i64 0, .int .i64 0, .int .i64 0, .int .i64 0, .int .i64 0, .int .u64 0, .int .i64 0, .slice none 0 0, .int .i64 0] _ bv2.range Tryd.underlying51 rfl (by kernel_rfl) ?_) | (refine wpList_store_mid rfl 51 (.tmp 4) (.tmp 14) rfl (w.heap.size + 1 + 1) 0 #[.slice A1 n c1, .slice A4 ks.length c4, .int .i64 s, .int .i64 t, .int .i64 f, .int .i64 l, .int .i64 p, .int .i64 0, .int .u64 0, .slice none 0 0, .slice none 0 0, .int .i64 0, .int .i64 0, .int .i64 0, .int .i64 0, .int .i64 0, .int .i64 0, .int .i64 0, .int .u64 0, .int .i64 0, .slice none 0 0, .int .i64 0] (by rfl) (by rfl) (bo2.there rfl) (by kernel_rfl) (by kernel_rfl) ?_))
        replace r3 := (show World.ownsRow (w10.setCells (w.heap.size + 1 + 1) 0 [.slice A1 n c1, .slice A4 ks.length c4, .int .i64 s, .int .i64 t, .int .i64 f, .int .i64 l, .int .i64 p, .int .i64 0, .int .u64 0, .slice none 0 0, .slice none 0 0, .int .i64 0, .int .i64 0, .int .i64 0, .int .i64 0, .int .i64 0, .int .i64 0, .int .i64 0, .int .u64 0, .int .i64 0, .slice none 0 0, .int .i64 0]) _ _ _ _ _ _ from by rw [putL_eq]; exact own_putT (by decide) _ _ _ 0 bo2 r3)
        replace o4 := (show World.ownsRow (w10.setCells (w.heap.size + 1 + 1) 0 [.slice A1 n c1, .slice A4 ks.length c4, .int .i64 s, .int .i64 t, .int .i64 f, .int .i64 l, .int .i64 p, .int .i64 0, .int .u64 0, .slice none 0 0, .slice none 0 0, .int .i64 0, .int .i64 0, .int .i64 0, .int .i64 0, .int .i64 0, .int .i64 0, .int .i64 0, .int .u64 0, .int .i64 0, .slice none 0 0, .int .i64 0]) _ _ _ _ _ _ from by rw [putL_eq]; exact own_putT (by decide) _ _ _ 0 bo2 o4)
        replace B0 := (show Below w.heap.size w (w10.setCells (w.heap.size + 1 + 1) 0 [.slice A1 n c1, .slice A4 ks.length c4, .int .i64 s, .int .i64 t, .int .i64 f, .int .i64 l, .int .i64 p, .int .i64 0, .int .u64 0, .slice none 0 0, .slice none 0 0, .int .i64 0, .int .i64 0, .int .i64 0, .int .i64 0, .int .i64 0, .int .i64 0, .int .i64 0, .int .u64 0, .int .i64 0, .slice none 0 0, .int .i64 0]) from by rw [putL_eq]; exact Below.putL (by omega) _ _ 0 B0)
        have bo3 := (show Blk (w10.setCells (w.heap.size + 1 + 1) 0 [.slice A1 n c1, .slice A4 ks.length c4, .int .i64 s, .int .i64 t, .int .i64 f, .int .i64 l, .int .i64 p, .int .i64 0, .int .u64 0, .slice none 0 0, .slice none 0 0, .int .i64 0, .int .i64 0, .int .i64 0, .int .i64 0, .int .i64 0, .int .i64 0, .int .i64 0, .int .u64 0, .int .i64 0, .slice none 0 0, .int .i64 0]) (w.heap.size + 1 + 1) 51 #[.slice A1 n c1, .slice A4 ks.length c4, .int .i64 s, .int .i64 t, .int .i64 f, .int .i64 l, .int .i64 p, .int .i64 0, .int .u64 0, .slice none 0 0, .slice none 0 0, .int .i64 0, .int .i64 0, .int .i64 0, .int .i64 0, .int .i64 0, .int .i64 0, .int .i64 0, .int .u64 0, .int .i64 0, .slice none 0 0, .int .i64 0] from by rw [putL_eq]; have h9 := Blk.putL [.slice A1 n c1, .slice A4 ks.length c4, .int .i64 s, .int .i64 t, .int .i64 f, .int .i64 l, .int .i64 p, .int .i64 0, .int .u64 0, .slice none 0 0, .slice none 0 0, .int .i64 0, .int .i64 0, .int .i64 0, .int .i64 0, .int .i64 0, .int .i64 0, .int .i64 0, .int .u64 0, .int .i64 0, .slice none 0 0, .int .i64 0] _ _ 0 bo2; simpa only [setL, List.setIfInBounds_toArray, List.set_cons_zero, List.set_cons_succ] using h9)
        generalize w10.setCells (w.heap.size + 1 + 1) 0 [.slice A1 n c1, .slice A4 ks.length c4, .int .i64 s, .int .i64 t, .int .i64 f, .int .i64 l, .int .i64 p, .int .i64 0, .int .u64 0, .slice none 0 0, .slice none 0 0, .int .i64 0, .int .i64 0, .int .i64 0, .int .i64 0, .int .i64 0, .int .i64 0, .int .i64 0, .int .u64 0, .int .i64 0, .slice none 0 0, .int .i64 0] = w12 at *
        have hres : (loadVar 51 ⟨w.heap.size + 1 + 1, 0, none⟩).run Tryd.prog w12 = .ok (.agg #[.slice A1 n c1, .slice A4 ks.length c4, .int .i64 s, .int .i64 t, .int .i64 f, .int .i64 l, .int .i64 p, .int .i64 0, .int .u64 0, .slice none 0 0, .slice none 0 0, .int .i64 0, .int .i64 0, .int .i64 0, .int .i64 0, .int .i64 0, .int .i64 0, .int .i64 0, .int .u64 0, .int .i64 0, .slice none 0 0, .int .i64 0]) w12 := run_loadVar_mid w12 _ 0 _ [.slice A1 n c1, .slice A4 ks.length c4, .int .i64 s, .int .i64 t, .int .i64 f, .int .i64 l, .int .i64 p, .int .i64 0, .int .u64 0, .slice none 0 0, .slice none 0 0, .int .i64 0, .int .i64 0, .int .i64 0, .int .i64 0, .int .i64 0, .int .i64 0, .int .i64 0, .int .u64 0, .int .i64 0, .slice none 0 0, .int .i64 0] _ bo3.range Tryd.underlying51 rfl (by kernel_rfl)
        refine bodyPost_ret (v := .agg #[.slice A1 n c1, .slice A4 ks.length c4, .int .i64 s, .int .i64 t, .int .i64 f, .int .i64 l, .int .i64 p, .int .i64 0, .int .u64 0, .slice none 0 0, .slice none 0 0, .int .i64 0, .int .i64 0, .int .i64 0, .int .i64 0, .int .i64 0, .int .i64 0, .int .i64 0, .int .u64 0, .int .i64 0, .slice none 0 0, .int .i64 0]) (by simp [results, Tryd.results17, Act.put, asAddr, hres]) rfl ⟨⟨A1, c1, A4, c4, rfl, r3, o4⟩, B0⟩
      exact AllReadyZ.nil
    exact AllReadyZ.nil
  exact AllReadyZ.nil
end Go.Proofs.YtokcbipmocpllaaDoor

/-
  Chapter 19's example.
-/
namespace Go.Proofs.YtokcbipmocpllaaDoor
open Go.RowKit

theorem ask_one : askL 6 [((65538 : Int), (4 : Int))] (askOver [((65538 : Int), (4 : Int))] ([0] ++ [0]) 6) = [((65538 : Int), (4 : Int))] ∧ ([] : List Int) ++ askOver [((65538 : Int), (4 : Int))] ([0] ++ [0]) 6 = [] ∧ askTd [((65538 : Int), (4 : Int))] [] ([0] ++ [0]) 6 = [(65538, false)] := by decide
def AwP (k2 p0 p1 p2 p3 p4 pk2 sl2 hd2 tr2 : Int) : Prop := k2 = 3 ∧ p0 = 3 ∧ p1 = 1 ∧ p2 = 4 ∧ p3 = 1 ∧ p4 = 3 ∧ pk2 = 1 ∧ sl2 = 2 ∧ hd2 = 0 ∧ tr2 = 0
set_option maxHeartbeats 4000000 in
theorem awake_took3 [Inhabited GhT] (v : Value) (w : World) (hv : SwV w 3 1 4 1 3 2 6 [((65538 : Int), (4 : Int))] [] [0] [] 0 0 0 0 0 0 0 0 0 [] 0 v) :
    Calls Tryd.prog 20 #[v, .int .u64 0] w fun e w' => (∃ v2, e = .returned v2 ∧ SwV w' 3 1 4 1 3 3 6 [((65538 : Int), (4 : Int))] [] ([0] ++ [0]) [(65538, false)] 3 1 4 1 3 1 2 0 0 [] 0 v2) ∧ Below w.heap.size w w' := by
  refine (stook_2y 3 1 4 1 3 6 [((65538 : Int), (4 : Int))] [] [0] [] 0 0 0 0 0 0 0 0 0 [] 0 0 v w hv (by decide) ⟨by decide, by decide⟩ (by decide) (by decide) (fun x hx => by rw [List.mem_singleton] at hx; subst hx; exact ⟨⟨by decide, by decide⟩, ⟨by decide, by decide⟩⟩) (fun x hx => absurd hx (by simp)) (fun x hx => by rw [List.mem_singleton] at hx; subst hx; exact ⟨by decide, by decide⟩) ⟨by decide, by decide⟩ ⟨by decide, by decide⟩ AwP (fun v w1 h => ?_) (by decide)).mono ?_
  · rw [ask_one.1, ask_one.2.1, ask_one.2.2] at h ⊢
    refine (snext_one 3 1 4 1 3 2 6 [((65538 : Int), (4 : Int))] [] ([0] ++ [0]) [] 0 0 0 0 0 0 0 0 0 [] 0 65538 false v w1 h ⟨by decide, by decide⟩ ⟨by decide, by decide⟩ ⟨by decide, by decide⟩ ⟨by decide, by decide⟩ (by decide) (by decide)).mono ?_
    rintro e w' ⟨⟨v', rfl, h'⟩, hb⟩
    exact ⟨⟨v', 3, 3, 1, 4, 1, 3, 1, 65538 % 65536, 0, 0, rfl, h', rfl, rfl, rfl, rfl, rfl, rfl, rfl, rfl, rfl, rfl⟩, hb⟩
  · rintro e w' ⟨⟨v2, k2, p0, p1, p2, p3, p4, pk2, sl2, hd2, tr2, rfl, h', a0, a1, a2, a3, a4, a5, a6, a7, a8, a9⟩, hb⟩
    subst a0 a1 a2 a3 a4 a5 a6 a7 a8 a9
    rw [ask_one.1, ask_one.2.1, ask_one.2.2] at h'
    exact ⟨⟨v2, rfl, h'⟩, hb⟩
def Aw0 [Inhabited GhT] (w : World) (v : Value) : Prop := SwV w 3 1 4 1 3 1 0 [((65538 : Int), (4 : Int))] [] [] [] 0 0 0 0 0 0 0 0 0 [] 0 v
theorem Aw0.below [Inhabited GhT] {w w' : World} {v : Value} {B : Nat} (h : Aw0 w v) (hB : w.heap.size ≤ B) (hb : Below B w w') : Aw0 w' v := SwV.below h hB hb
def Aw1 [Inhabited GhT] (w : World) (v : Value) : Prop := SwV w 3 1 4 1 3 2 6 [((65538 : Int), (4 : Int))] [] [] [] 0 0 0 0 0 0 0 0 0 [] 0 v
theorem Aw1.below [Inhabited GhT] {w w' : World} {v : Value} {B : Nat} (h : Aw1 w v) (hB : w.heap.size ≤ B) (hb : Below B w w') : Aw1 w' v := SwV.below h hB hb
def Aw2 [Inhabited GhT] (w : World) (v : Value) : Prop := SwV w 3 1 4 1 3 2 6 [((65538 : Int), (4 : Int))] [] [0] [] 0 0 0 0 0 0 0 0 0 [] 0 v
theorem Aw2.below [Inhabited GhT] {w w' : World} {v : Value} {B : Nat} (h : Aw2 w v) (hB : w.heap.size ≤ B) (hb : Below B w w') : Aw2 w' v := SwV.below h hB hb
def Aw3 [Inhabited GhT] (w : World) (v : Value) : Prop := SwV w 3 1 4 1 3 3 6 [((65538 : Int), (4 : Int))] [] ([0] ++ [0]) [(65538, false)] 3 1 4 1 3 1 2 0 0 [] 0 v
theorem Aw3.below [Inhabited GhT] {w w' : World} {v : Value} {B : Nat} (h : Aw3 w v) (hB : w.heap.size ≤ B) (hb : Below B w w') : Aw3 w' v := SwV.below h hB hb
def Aw4 [Inhabited GhT] (w : World) (v : Value) : Prop := SwV w 3 1 4 1 3 0 5 [((65538 : Int), (4 : Int))] [] [] [] 0 0 0 0 0 0 0 0 0 [] 0 v
theorem Aw4.below [Inhabited GhT] {w w' : World} {v : Value} {B : Nat} (h : Aw4 w v) (hB : w.heap.size ≤ B) (hb : Below B w w') : Aw4 w' v := SwV.below h hB hb
set_option maxHeartbeats 4000000 in
theorem ak1 [Inhabited GhT] (v : Value) (w : World) (hv : Aw0 w v) : Calls Tryd.prog 20 #[v, .int .u64 6] w fun e w' => (∃ v2, e = .returned v2 ∧ Aw1 w' v2) ∧ Below w.heap.size w w' :=
  stook_1r 3 1 4 1 3 0 [((65538 : Int), (4 : Int))] [] [] [] 0 0 0 0 0 0 0 0 0 [] 0 6 v w hv (by decide) (fun x hx => by rw [List.mem_singleton] at hx; subst hx; exact ⟨by decide, by decide⟩) ⟨by decide, by decide⟩ (by decide)
set_option maxHeartbeats 4000000 in
theorem ak2 [Inhabited GhT] (v : Value) (w : World) (hv : Aw1 w v) : Calls Tryd.prog 20 #[v, .int .u64 0] w fun e w' => (∃ v2, e = .returned v2 ∧ Aw2 w' v2) ∧ Below w.heap.size w w' :=
  stook_2n 3 1 4 1 3 6 [((65538 : Int), (4 : Int))] [] [] [] 0 0 0 0 0 0 0 0 0 [] 0 0 v w hv (by decide) ⟨by decide, by decide⟩ (by decide)
set_option maxHeartbeats 4000000 in
theorem ak3 [Inhabited GhT] (v : Value) (w : World) (hv : Aw2 w v) : Calls Tryd.prog 20 #[v, .int .u64 0] w fun e w' => (∃ v2, e = .returned v2 ∧ Aw3 w' v2) ∧ Below w.heap.size w w' :=
  awake_took3 v w hv
set_option maxHeartbeats 4000000 in
theorem ak5 [Inhabited GhT] (v : Value) (w : World) (hv : Aw0 w v) : Calls Tryd.prog 20 #[v, .int .u64 5] w fun e w' => (∃ v2, e = .returned v2 ∧ Aw4 w' v2) ∧ Below w.heap.size w w' :=
  stook_1n 3 1 4 1 3 0 [((65538 : Int), (4 : Int))] [] [] 0 0 0 0 0 0 0 0 0 [] 0 5 v w hv (by decide) (fun x hx => by rw [List.mem_singleton] at hx; subst hx; exact ⟨by decide, by decide⟩) ⟨by decide, by decide⟩ (by decide)
set_option maxHeartbeats 4000000 in
theorem akw [Inhabited GhT] (v : Value) (w : World) (hv : Aw3 w v) : Calls Tryd.prog 22 #[v] w fun e w' => e = .returned (.agg #[.int .i64 1, .int .i64 2, .int .u64 0, .int .u64 0]) ∧ Below w.heap.size w w' := by
  obtain ⟨B1, c1, B2, c2, B3, c3, B4, c4, B5, c5, rfl, t1, t2, t3, t4, t5⟩ := hv
  exact swant_3 _ _ _ _ _ _ _ _ _ _ _ _ 3 1 4 1 3 (1, 2, 0, 0) w (by unfold PsIn PsOk W64; decide) (.inr ⟨by decide, by decide, by decide⟩)
theorem akd [Inhabited GhT] (v : Value) (w : World) (hv : Aw4 w v) : Calls Tryd.prog 19 #[v] w fun e w' => e = .returned (.bool true) ∧ Below w.heap.size w w' := by
  obtain ⟨B1, c1, B2, c2, B3, c3, B4, c4, B5, c5, rfl, t1, t2, t3, t4, t5⟩ := hv
  exact sdone_any _ _ _ _ _ _ _ _ _ _ _ _ _ _ _ _ _ _ _ _ _ 0 w
theorem akn [Inhabited GhT] (v : Value) (w : World) (hv : Aw0 w v) : Calls Tryd.prog 24 #[v] w fun e w' => (∃ A3 c3 A4 c4, e = .returned (.agg #[.slice A3 1 c3, .slice A4 0 c4]) ∧ Tr w' 31 2 (.slice A3 1 c3) 1 (rec2 [((65538 : Int), (4 : Int))]) ∧ Tr w' 29 1 (.slice A4 0 c4) 0 (ints .u64 [])) ∧ Below w.heap.size w w' := by
  obtain ⟨B1, c1, B2, c2, B3, c3, B4, c4, B5, c5, rfl, t1, t2, t3, t4, t5⟩ := hv
  exact snow_any _ _ _ _ _ _ _ _ _ _ _ _ _ _ _ _ _ _ _ _ B1 1 c1 B2 0 c2 [((65538 : Int), (4 : Int))] [] w (by decide) (by decide) t1 t2
theorem aks [Inhabited GhT] (A3 A4 : Option Addr) (c3 c4 : Nat) (w : World) (t1 : Tr w 31 2 (.slice A3 1 c3) 1 (rec2 [((65538 : Int), (4 : Int))])) (t2 : Tr w 29 1 (.slice A4 0 c4) 0 (ints .u64 [])) : Calls Tryd.prog 9 #[.agg #[.slice A3 1 c3, .slice A4 0 c4]] w fun e w' => (∃ A5 c5, e = .returned (.slice A5 1 c5)) ∧ Below w.heap.size w w' := by
  refine (lslots_any A3 1 c3 [((65538 : Int), (4 : Int))] (.slice A4 0 c4) [] w (by decide) (by decide) t1.reads (fun x hx => by rw [List.mem_singleton] at hx; subst hx; exact ⟨by decide, by decide⟩) (fun x hx => absurd hx (by simp)) t2.sl).mono ?_
  rintro e w' ⟨⟨A5, m, c5, rfl, rfl, _⟩, hb⟩
  exact ⟨⟨A5, c5, rfl⟩, hb⟩
set_option linter.unusedSimpArgs false in
set_option maxRecDepth 100000 in
set_option maxHeartbeats 4000000 in
theorem awake19 (w : World) (hT : Tab w) : Calls Tryd.prog 6 #[] w fun e w' => e = .returned (.bool true) ∧ Below w.heap.size w w' := by
  have N := hide (new_yes 3 1 4 1 3 w hT (by decide))
  have S1 := hide (fun A (w2 : World) (h : Reads w2 w2.heap.size 2 A 1 (rec2 [((65538 : Int), (4 : Int))])) => snew_yes 3 1 4 1 3 (laySize 3 1 4) A 1 1 [((65538 : Int), (4 : Int))] (.slice none 0 0) [] w2 (by decide) (by decide) h (Sl.nil _ _) (fun w3 => size_any 3 1 4 1 3 w3 (by omega) (by omega) (by omega)) (by decide))
  clear hT
  go_enter Tryd.func6, Tryd.ntmps6
  go_wp2_with fail
  refine N.out.mono ?_
  rintro e w1 ⟨rfl, hb1⟩
  go_wp2_with fail
  have br := Blk.new (w1.alloc (.cells #[.int .i64 3, .int .i64 1, .int .i64 4, .int .i64 1, .int .i64 3] 44)) 31 #[.int .u64 65538, .int .u64 4]
  replace hb1 := (hb1.alloc hb1.size (.cells #[.int .i64 3, .int .i64 1, .int .i64 4, .int .i64 1, .int .i64 3] 44)).alloc (by rw [World.size_alloc]; have := hb1.size; omega) (.cells #[.int .u64 65538, .int .u64 4] 31)
  rw [World.size_alloc] at br
  have hr := (Reads.blk br 1 2 rfl).more br.lt
  clear br
  refine (S1.out _ _ hr).mono ?_
  letI : Inhabited GhT := ⟨⟨w1.heap.size⟩⟩
  rintro e w2 ⟨⟨A1, c1, A2, c2, rfl, o1, o2⟩, hb2⟩
  have HG : ghB < ((w1.alloc (.cells #[.int .i64 3, .int .i64 1, .int .i64 4, .int .i64 1, .int .i64 3] 44)).alloc (.cells #[.int .u64 65538, .int .u64 4] 31)).heap.size := by show w1.heap.size < _; simp only [World.size_alloc]; omega
  have HW := hb2.size
  replace hb1 := hb1.trans (hb2.mono hb1.size)
  clear hr hb2 S1 N
  have t1 : Tr w2 31 2 (.slice A1 1 c1) 1 (rec2 [((65538 : Int), (4 : Int))]) := Tr.of_own o1 HG HW
  have t2 : Tr w2 29 1 (.slice A2 0 c2) 0 (ints .u64 []) := Tr.of_own o2 HG HW
  have bo := Blk.new w2 51 #[.slice none 0 0, .slice none 0 0, .int .i64 0, .int .i64 0, .int .i64 0, .int .i64 0, .int .i64 0, .int .i64 0, .int .u64 0, .slice none 0 0, .slice none 0 0, .int .i64 0, .int .i64 0, .int .i64 0, .int .i64 0, .int .i64 0, .int .i64 0, .int .i64 0, .int .u64 0, .int .i64 0, .slice none 0 0, .int .i64 0]
  have B0 := hb1.alloc hb1.size (.cells #[.slice none 0 0, .slice none 0 0, .int .i64 0, .int .i64 0, .int .i64 0, .int .i64 0, .int .i64 0, .int .i64 0, .int .u64 0, .slice none 0 0, .slice none 0 0, .int .i64 0, .int .i64 0, .int .i64 0, .int .i64 0, .int .i64 0, .int .i64 0, .int .i64 0, .int .u64 0, .int .i64 0, .slice none 0 0, .int .i64 0] 51)
  replace t1 := t1.alloc (.cells #[.slice none 0 0, .slice none 0 0, .int .i64 0, .int .i64 0, .int .i64 0, .int .i64 0, .int .i64 0, .int .i64 0, .int .u64 0, .slice none 0 0, .slice none 0 0, .int .i64 0, .int .i64 0, .int .i64 0, .int .i64 0, .int .i64 0, .int .i64 0, .int .i64 0, .int .u64 0, .int .i64 0, .slice none 0 0, .int .i64 0] 51)
  replace t2 := t2.alloc (.cells #[.slice none 0 0, .slice none 0 0, .int .i64 0, .int .i64 0, .int .i64 0, .int .i64 0, .int .i64 0, .int .i64 0, .int .u64 0, .slice none 0 0, .slice none 0 0, .int .i64 0, .int .i64 0, .int .i64 0, .int .i64 0, .int .i64 0, .int .i64 0, .int .i64 0, .int .u64 0, .int .i64 0, .slice none 0 0, .int .i64 0] 51)
  have hg : w.heap.size ≤ w2.heap.size := hb1.size
  clear hb1 o1 o2 HG HW
  go_wp2_with (first | (refine wpList_store_mid rfl 51 (.tmp 2) (.tmp 9) rfl w2.heap.size 0 #[.slice A1 1 c1, .slice A2 0 c2, .int .i64 3, .int .i64 1, .int .i64 4, .int .i64 1, .int .i64 3, .int .i64 1, .int .u64 0, .slice none 0 0, .slice none 0 0, .int .i64 0, .int .i64 0, .int .i64 0, .int .i64 0, .int .i64 0, .int .i64 0, .int .i64 0, .int .u64 0, .int .i64 0, .slice none 0 0, .int .i64 0] (by rfl) (by rfl) (bo.there rfl) (by kernel_rfl) (by kernel_rfl) ?_; replace t1 := (show Tr ((w2.alloc (.cells #[.slice none 0 0, .slice none 0 0, .int .i64 0, .int .i64 0, .int .i64 0, .int .i64 0, .int .i64 0, .int .i64 0, .int .u64 0, .slice none 0 0, .slice none 0 0, .int .i64 0, .int .i64 0, .int .i64 0, .int .i64 0, .int .i64 0, .int .i64 0, .int .i64 0, .int .u64 0, .int .i64 0, .slice none 0 0, .int .i64 0] 51)).setCells w2.heap.size 0 [.slice A1 1 c1, .slice A2 0 c2, .int .i64 3, .int .i64 1, .int .i64 4, .int .i64 1, .int .i64 3, .int .i64 1, .int .u64 0, .slice none 0 0, .slice none 0 0, .int .i64 0, .int .i64 0, .int .i64 0, .int .i64 0, .int .i64 0, .int .i64 0, .int .i64 0, .int .u64 0, .int .i64 0, .slice none 0 0, .int .i64 0]) _ _ _ _ _ from by rw [putL_eq]; exact Tr.putL (by decide) _ 0 bo t1); replace t2 := (show Tr ((w2.alloc (.cells #[.slice none 0 0, .slice none 0 0, .int .i64 0, .int .i64 0, .int .i64 0, .int .i64 0, .int .i64 0, .int .i64 0, .int .u64 0, .slice none 0 0, .slice none 0 0, .int .i64 0, .int .i64 0, .int .i64 0, .int .i64 0, .int .i64 0, .int .i64 0, .int .i64 0, .int .u64 0, .int .i64 0, .slice none 0 0, .int .i64 0] 51)).setCells w2.heap.size 0 [.slice A1 1 c1, .slice A2 0 c2, .int .i64 3, .int .i64 1, .int .i64 4, .int .i64 1, .int .i64 3, .int .i64 1, .int .u64 0, .slice none 0 0, .slice none 0 0, .int .i64 0, .int .i64 0, .int .i64 0, .int .i64 0, .int .i64 0, .int .i64 0, .int .i64 0, .int .u64 0, .int .i64 0, .slice none 0 0, .int .i64 0]) _ _ _ _ _ from by rw [putL_eq]; exact Tr.putL (by decide) _ 0 bo t2); replace B0 := (show Below w.heap.size w ((w2.alloc (.cells #[.slice none 0 0, .slice none 0 0, .int .i64 0, .int .i64 0, .int .i64 0, .int .i64 0, .int .i64 0, .int .i64 0, .int .u64 0, .slice none 0 0, .slice none 0 0, .int .i64 0, .int .i64 0, .int .i64 0, .int .i64 0, .int .i64 0, .int .i64 0, .int .i64 0, .int .u64 0, .int .i64 0, .slice none 0 0, .int .i64 0] 51)).setCells w2.heap.size 0 [.slice A1 1 c1, .slice A2 0 c2, .int .i64 3, .int .i64 1, .int .i64 4, .int .i64 1, .int .i64 3, .int .i64 1, .int .u64 0, .slice none 0 0, .slice none 0 0, .int .i64 0, .int .i64 0, .int .i64 0, .int .i64 0, .int .i64 0, .int .i64 0, .int .i64 0, .int .u64 0, .int .i64 0, .slice none 0 0, .int .i64 0]) from by rw [putL_eq]; exact Below.putL (by omega) _ _ 0 B0); replace bo := (show Blk ((w2.alloc (.cells #[.slice none 0 0, .slice none 0 0, .int .i64 0, .int .i64 0, .int .i64 0, .int .i64 0, .int .i64 0, .int .i64 0, .int .u64 0, .slice none 0 0, .slice none 0 0, .int .i64 0, .int .i64 0, .int .i64 0, .int .i64 0, .int .i64 0, .int .i64 0, .int .i64 0, .int .u64 0, .int .i64 0, .slice none 0 0, .int .i64 0] 51)).setCells w2.heap.size 0 [.slice A1 1 c1, .slice A2 0 c2, .int .i64 3, .int .i64 1, .int .i64 4, .int .i64 1, .int .i64 3, .int .i64 1, .int .u64 0, .slice none 0 0, .slice none 0 0, .int .i64 0, .int .i64 0, .int .i64 0, .int .i64 0, .int .i64 0, .int .i64 0, .int .i64 0, .int .u64 0, .int .i64 0, .slice none 0 0, .int .i64 0]) w2.heap.size 51 #[.slice A1 1 c1, .slice A2 0 c2, .int .i64 3, .int .i64 1, .int .i64 4, .int .i64 1, .int .i64 3, .int .i64 1, .int .u64 0, .slice none 0 0, .slice none 0 0, .int .i64 0, .int .i64 0, .int .i64 0, .int .i64 0, .int .i64 0, .int .i64 0, .int .i64 0, .int .u64 0, .int .i64 0, .slice none 0 0, .int .i64 0] from by rw [putL_eq]; have h9 := Blk.putL [.slice A1 1 c1, .slice A2 0 c2, .int .i64 3, .int .i64 1, .int .i64 4, .int .i64 1, .int .i64 3, .int .i64 1, .int .u64 0, .slice none 0 0, .slice none 0 0, .int .i64 0, .int .i64 0, .int .i64 0, .int .i64 0, .int .i64 0, .int .i64 0, .int .i64 0, .int .u64 0, .int .i64 0, .slice none 0 0, .int .i64 0] _ _ 0 bo; simpa only [setL, List.setIfInBounds_toArray, List.set_cons_zero, List.set_cons_succ] using h9); generalize hgw : w2.heap.size = gs at *; clear hgw; generalize (w2.alloc (.cells #[.slice none 0 0, .slice none 0 0, .int .i64 0, .int .i64 0, .int .i64 0, .int .i64 0, .int .i64 0, .int .i64 0, .int .u64 0, .slice none 0 0, .slice none 0 0, .int .i64 0, .int .i64 0, .int .i64 0, .int .i64 0, .int .i64 0, .int .i64 0, .int .i64 0, .int .u64 0, .int .i64 0, .slice none 0 0, .int .i64 0] 51)).setCells gs 0 [.slice A1 1 c1, .slice A2 0 c2, .int .i64 3, .int .i64 1, .int .i64 4, .int .i64 1, .int .i64 3, .int .i64 1, .int .u64 0, .slice none 0 0, .slice none 0 0, .int .i64 0, .int .i64 0, .int .i64 0, .int .i64 0, .int .i64 0, .int .i64 0, .int .i64 0, .int .u64 0, .int .i64 0, .slice none 0 0, .int .i64 0] = w3 at *; have hv0 : Aw0 w3 (.agg #[.slice A1 1 c1, .slice A2 0 c2, .int .i64 3, .int .i64 1, .int .i64 4, .int .i64 1, .int .i64 3, .int .i64 1, .int .u64 0, .slice none 0 0, .slice none 0 0, .int .i64 0, .int .i64 0, .int .i64 0, .int .i64 0, .int .i64 0, .int .i64 0, .int .i64 0, .int .u64 0, .int .i64 0, .slice none 0 0, .int .i64 0]) := ⟨A1, c1, A2, c2, none, 0, none, 0, none, 0, rfl, t1, t2, Tr.nil _ _ _ t1.gh, Tr.nil _ _ _ t1.gh, Tr.nil _ _ _ t1.gh⟩; clear t1 t2) | (refine wpList_load_mid rfl 51 (.tmp 2) rfl gs 0 (by rfl) [.slice A1 1 c1, .slice A2 0 c2, .int .i64 3, .int .i64 1, .int .i64 4, .int .i64 1, .int .i64 3, .int .i64 1, .int .u64 0, .slice none 0 0, .slice none 0 0, .int .i64 0, .int .i64 0, .int .i64 0, .int .i64 0, .int .i64 0, .int .i64 0, .int .i64 0, .int .u64 0, .int .i64 0, .slice none 0 0, .int .i64 0] _ bo.range Tryd.underlying51 rfl (by kernel_rfl) ?_) | (refine wpList_load_midG (by rfl) 51 (.tmp 2) rfl gs 0 (by rfl) [.slice A1 1 c1, .slice A2 0 c2, .int .i64 3, .int .i64 1, .int .i64 4, .int .i64 1, .int .i64 3, .int .i64 1, .int .u64 0, .slice none 0 0, .slice none 0 0, .int .i64 0, .int .i64 0, .int .i64 0, .int .i64 0, .int .i64 0, .int .i64 0, .int .i64 0, .int .u64 0, .int .i64 0, .slice none 0 0, .int .i64 0] _ bo.range Tryd.underlying51 rfl (by kernel_rfl) ?_))
  refine (ak1 _ _ hv0).mono ?_
  rintro e w4 ⟨⟨u1, rfl, hv1⟩, hb⟩
  replace hv0 := hv0.below (Nat.le_refl _) hb
  replace bo := bo.below hb bo.lt
  replace B0 := B0.trans (hb.mono B0.size)
  clear hb
  go_wp2_with (first | (refine wpList_load_midG (by rfl) 51 (.tmp 2) rfl gs 0 (by rfl) [.slice A1 1 c1, .slice A2 0 c2, .int .i64 3, .int .i64 1, .int .i64 4, .int .i64 1, .int .i64 3, .int .i64 1, .int .u64 0, .slice none 0 0, .slice none 0 0, .int .i64 0, .int .i64 0, .int .i64 0, .int .i64 0, .int .i64 0, .int .i64 0, .int .i64 0, .int .u64 0, .int .i64 0, .slice none 0 0, .int .i64 0] _ bo.range Tryd.underlying51 rfl (by kernel_rfl) ?_))
  refine (ak2 _ _ hv1).mono ?_
  rintro e w5 ⟨⟨u2, rfl, hv2⟩, hb⟩
  replace hv0 := hv0.below (Nat.le_refl _) hb
  replace bo := bo.below hb bo.lt
  replace B0 := B0.trans (hb.mono B0.size)
  clear hb
  go_wp2_with (first | (refine wpList_load_midG (by rfl) 51 (.tmp 2) rfl gs 0 (by rfl) [.slice A1 1 c1, .slice A2 0 c2, .int .i64 3, .int .i64 1, .int .i64 4, .int .i64 1, .int .i64 3, .int .i64 1, .int .u64 0, .slice none 0 0, .slice none 0 0, .int .i64 0, .int .i64 0, .int .i64 0, .int .i64 0, .int .i64 0, .int .i64 0, .int .i64 0, .int .u64 0, .int .i64 0, .slice none 0 0, .int .i64 0] _ bo.range Tryd.underlying51 rfl (by kernel_rfl) ?_))
  refine (ak3 _ _ hv2).mono ?_
  rintro e w6 ⟨⟨u3, rfl, hv3⟩, hb⟩
  replace hv0 := hv0.below (Nat.le_refl _) hb
  replace bo := bo.below hb bo.lt
  replace B0 := B0.trans (hb.mono B0.size)
  clear hb
  go_wp2_with (first | (refine wpList_load_midG (by rfl) 51 (.tmp 2) rfl gs 0 (by rfl) [.slice A1 1 c1, .slice A2 0 c2, .int .i64 3, .int .i64 1, .int .i64 4, .int .i64 1, .int .i64 3, .int .i64 1, .int .u64 0, .slice none 0 0, .slice none 0 0, .int .i64 0, .int .i64 0, .int .i64 0, .int .i64 0, .int .i64 0, .int .i64 0, .int .i64 0, .int .u64 0, .int .i64 0, .slice none 0 0, .int .i64 0] _ bo.range Tryd.underlying51 rfl (by kernel_rfl) ?_))
  refine (akw _ _ hv3).mono ?_
  rintro e w7 ⟨rfl, hb⟩
  replace hv0 := hv0.below (Nat.le_refl _) hb
  replace bo := bo.below hb bo.lt
  replace B0 := B0.trans (hb.mono B0.size)
  clear hb hv1 hv2 hv3
  go_wp2_with (first | (refine wpList_load_midG (by rfl) 51 (.tmp 2) rfl gs 0 (by rfl) [.slice A1 1 c1, .slice A2 0 c2, .int .i64 3, .int .i64 1, .int .i64 4, .int .i64 1, .int .i64 3, .int .i64 1, .int .u64 0, .slice none 0 0, .slice none 0 0, .int .i64 0, .int .i64 0, .int .i64 0, .int .i64 0, .int .i64 0, .int .i64 0, .int .i64 0, .int .u64 0, .int .i64 0, .slice none 0 0, .int .i64 0] _ bo.range Tryd.underlying51 rfl (by kernel_rfl) ?_))
  refine (ak5 _ _ hv0).mono ?_
  rintro e w8 ⟨⟨u5, rfl, hv5⟩, hb⟩
  replace hv0 := hv0.below (Nat.le_refl _) hb
  replace bo := bo.below hb bo.lt
  replace B0 := B0.trans (hb.mono B0.size)
  clear hb
  go_wp2_with fail
  refine (akd _ _ hv5).mono ?_
  rintro e w9 ⟨rfl, hb⟩
  replace hv0 := hv0.below (Nat.le_refl _) hb
  replace bo := bo.below hb bo.lt
  replace B0 := B0.trans (hb.mono B0.size)
  clear hb hv5
  go_wp2_with (first | (refine wpList_load_midG (by rfl) 51 (.tmp 2) rfl gs 0 (by rfl) [.slice A1 1 c1, .slice A2 0 c2, .int .i64 3, .int .i64 1, .int .i64 4, .int .i64 1, .int .i64 3, .int .i64 1, .int .u64 0, .slice none 0 0, .slice none 0 0, .int .i64 0, .int .i64 0, .int .i64 0, .int .i64 0, .int .i64 0, .int .i64 0, .int .i64 0, .int .u64 0, .int .i64 0, .slice none 0 0, .int .i64 0] _ bo.range Tryd.underlying51 rfl (by kernel_rfl) ?_))
  refine (akn _ _ hv0).mono ?_
  rintro e w10 ⟨⟨A3, c3, A4, c4, rfl, t1, t2⟩, hb⟩
  replace B0 := B0.trans (hb.mono B0.size)
  clear hb hv0 bo
  go_wp2_with fail
  refine (aks _ _ _ _ _ t1 t2).mono ?_
  rintro e w11 ⟨⟨A5, c5, rfl⟩, hb⟩
  replace B0 := B0.trans (hb.mono B0.size)
  clear hb t1 t2
  go_wp2_with fail
  go_ret
  exact ⟨rfl, B0⟩
end Go.Proofs.YtokcbipmocpllaaDoor

/-
  Where a slot's words lie, by the document and by the layout.
-/
namespace Go.Proofs.YtokcbipmocpllaaDoor
open Go.RowKit

/-- The number of a slot's first word. -/
def nB (t f sl : Int) : Int := 3 + 3 * t + sl * (3 + 2 * f)
theorem nB_bd {s t f sl : Int} (hs : 1 ≤ s ∧ s ≤ 1000) (ht : 1 ≤ t ∧ t ≤ 64) (hf : 4 ≤ f ∧ f ≤ 64) (hsl : 0 ≤ sl ∧ sl ≤ s) : 3 + 3 * t ≤ nB t f sl ∧ nB t f sl + 3 + 2 * f ≤ laySize s t f ∧ nB t f sl + 3 + 2 * f ≤ 200000 := by
  have h1 : 0 ≤ sl * (3 + 2 * f) := Int.mul_nonneg hsl.1 (by omega)
  have h2 : sl * (3 + 2 * f) + (3 + 2 * f) ≤ (s + 1) * (3 + 2 * f) := by
    have : (sl + 1) * (3 + 2 * f) ≤ (s + 1) * (3 + 2 * f) := Int.mul_le_mul_of_nonneg_right (by omega) (by omega)
    rw [Int.add_mul, Int.one_mul] at this
    exact this
  have h3 : (s + 1) * (3 + 2 * f) ≤ 1001 * 131 := Int.mul_le_mul (by omega) (by omega) (by omega) (by omega)
  unfold nB laySize
  omega
theorem nB_succ (t f sl : Int) : nB t f (sl + 1) = nB t f sl + (3 + 2 * f) := by
  unfold nB
  rw [Int.add_mul, Int.one_mul]
  omega
theorem nB_lt {t f a b : Int} (hf : 4 ≤ f) (h : a < b) : nB t f a + (3 + 2 * f) ≤ nB t f b := by
  unfold nB
  have : (a + 1) * (3 + 2 * f) ≤ b * (3 + 2 * f) := Int.mul_le_mul_of_nonneg_right (by omega) (by omega)
  rw [Int.add_mul, Int.one_mul] at this
  omega
set_option maxRecDepth 100000 in
set_option maxHeartbeats 4000000 in
theorem rnB_any (s t f l p sl : Int) (w : World) (hs : 1 ≤ s ∧ s ≤ 1000) (ht : 1 ≤ t ∧ t ≤ 64) (hf : 4 ≤ f ∧ f ≤ 64) (hsl : 0 ≤ sl ∧ sl ≤ s) :
    Calls Tryd.prog 39 #[.agg #[.int .i64 s, .int .i64 t, .int .i64 f, .int .i64 l, .int .i64 p], .int .i64 sl] w fun e w' => e = .returned (.int .i64 (nB t f sl)) ∧ Below w.heap.size w w' := by
  have b1 : 0 ≤ sl * (3 + 2 * f) := Int.mul_nonneg hsl.1 (by omega)
  have b2 : sl * (3 + 2 * f) ≤ 1000 * 131 := Int.mul_le_mul (by omega) (by omega) (by omega) (by omega)
  have e1 : IntKind.i64.wrap (3 * t) = 3 * t := IntWalk.i64_in _ (by omega)
  have e2 : IntKind.i64.wrap (3 + 3 * t) = 3 + 3 * t := IntWalk.i64_in _ (by omega)
  have e3 : IntKind.i64.wrap (2 * f) = 2 * f := IntWalk.i64_in _ (by omega)
  have e4 : IntKind.i64.wrap (3 + 2 * f) = 3 + 2 * f := IntWalk.i64_in _ (by omega)
  have e5 : IntKind.i64.wrap (sl * (3 + 2 * f)) = sl * (3 + 2 * f) := IntWalk.i64_in _ (by omega)
  have e6 : IntKind.i64.wrap (3 + 3 * t + sl * (3 + 2 * f)) = 3 + 3 * t + sl * (3 + 2 * f) := IntWalk.i64_in _ (by omega)
  have bx := Blk.new w 36 #[.int .i64 s, .int .i64 t, .int .i64 f, .int .i64 l, .int .i64 p]
  have B0 := (Below.refl w.heap.size w).alloc (Nat.le_refl _) (.cells #[.int .i64 s, .int .i64 t, .int .i64 f, .int .i64 l, .int .i64 p] 36)
  go_enter Tryd.func39, Tryd.ntmps39
  go_wp2_with fail
  go_ret
  exact ⟨rfl, B0⟩
set_option maxRecDepth 100000 in
set_option maxHeartbeats 4000000 in
theorem rver_any (s t f l p sl : Int) (w : World) (hs : 1 ≤ s ∧ s ≤ 1000) (ht : 1 ≤ t ∧ t ≤ 64) (hf : 4 ≤ f ∧ f ≤ 64) (hsl : 0 ≤ sl ∧ sl ≤ s) :
    Calls Tryd.prog 38 #[.agg #[.int .i64 s, .int .i64 t, .int .i64 f, .int .i64 l, .int .i64 p], .int .i64 sl] w fun e w' => e = .returned (.int .i64 (nB t f sl)) ∧ Below w.heap.size w w' := by
  have C := hide (fun w2 => rnB_any s t f l p sl w2 hs ht hf hsl)
  have b := nB_bd hs ht hf hsl
  generalize nB t f sl = q at *
  have bx := Blk.new w 36 #[.int .i64 s, .int .i64 t, .int .i64 f, .int .i64 l, .int .i64 p]
  have B0 := (Below.refl w.heap.size w).alloc (Nat.le_refl _) (.cells #[.int .i64 s, .int .i64 t, .int .i64 f, .int .i64 l, .int .i64 p] 36)
  go_enter Tryd.func38, Tryd.ntmps38
  go_wp2_with fail
  refine (C.out _).mono ?_
  rintro e w1 ⟨rfl, hb1⟩
  try replace bx := bx.below hb1 bx.lt
  try replace bo := bo.below hb1 bo.lt
  try replace by_ := by_.below hb1 by_.lt
  replace B0 := B0.trans (hb1.mono B0.size)
  clear hb1
  try clear mx lx
  try clear mo lo zo
  try clear my ly zy
  try have mx := fun i => bx.cell i
  try have lx := bx.lt
  try have mo := fun i => bo.cell i
  try have lo := bo.lt
  try have zo := fun i => bo.frozen i
  try have my := fun i => by_.cell i
  try have ly := by_.lt
  try have zy := fun i => by_.frozen i
  go_wp2_with fail
  go_ret
  exact ⟨rfl, B0⟩
set_option maxRecDepth 100000 in
set_option maxHeartbeats 4000000 in
theorem rshp_any (s t f l p sl : Int) (w : World) (hs : 1 ≤ s ∧ s ≤ 1000) (ht : 1 ≤ t ∧ t ≤ 64) (hf : 4 ≤ f ∧ f ≤ 64) (hsl : 0 ≤ sl ∧ sl ≤ s) :
    Calls Tryd.prog 35 #[.agg #[.int .i64 s, .int .i64 t, .int .i64 f, .int .i64 l, .int .i64 p], .int .i64 sl] w fun e w' => e = .returned (.int .i64 (nB t f sl + 1)) ∧ Below w.heap.size w w' := by
  have C := hide (fun w2 => rnB_any s t f l p sl w2 hs ht hf hsl)
  have b := nB_bd hs ht hf hsl
  generalize nB t f sl = q at *
  have e7 : IntKind.i64.wrap (q + 1) = q + 1 := IntWalk.i64_in _ (by omega)
  have bx := Blk.new w 36 #[.int .i64 s, .int .i64 t, .int .i64 f, .int .i64 l, .int .i64 p]
  have B0 := (Below.refl w.heap.size w).alloc (Nat.le_refl _) (.cells #[.int .i64 s, .int .i64 t, .int .i64 f, .int .i64 l, .int .i64 p] 36)
  go_enter Tryd.func35, Tryd.ntmps35
  go_wp2_with fail
  refine (C.out _).mono ?_
  rintro e w1 ⟨rfl, hb1⟩
  try replace bx := bx.below hb1 bx.lt
  try replace bo := bo.below hb1 bo.lt
  try replace by_ := by_.below hb1 by_.lt
  replace B0 := B0.trans (hb1.mono B0.size)
  clear hb1
  try clear mx lx
  try clear mo lo zo
  try clear my ly zy
  try have mx := fun i => bx.cell i
  try have lx := bx.lt
  try have mo := fun i => bo.cell i
  try have lo := bo.lt
  try have zo := fun i => bo.frozen i
  try have my := fun i => by_.cell i
  try have ly := by_.lt
  try have zy := fun i => by_.frozen i
  go_wp2_with fail
  go_ret
  exact ⟨rfl, B0⟩
set_option maxRecDepth 100000 in
set_option maxHeartbeats 4000000 in
theorem rlnkB_any (s t f l p sl : Int) (w : World) (hs : 1 ≤ s ∧ s ≤ 1000) (ht : 1 ≤ t ∧ t ≤ 64) (hf : 4 ≤ f ∧ f ≤ 64) (hsl : 0 ≤ sl ∧ sl ≤ s) :
    Calls Tryd.prog 15 #[.agg #[.int .i64 s, .int .i64 t, .int .i64 f, .int .i64 l, .int .i64 p], .int .i64 sl] w fun e w' => e = .returned (.int .i64 (nB t f sl + 2)) ∧ Below w.heap.size w w' := by
  have C := hide (fun w2 => rnB_any s t f l p sl w2 hs ht hf hsl)
  have b := nB_bd hs ht hf hsl
  generalize nB t f sl = q at *
  have e7 : IntKind.i64.wrap (q + 2) = q + 2 := IntWalk.i64_in _ (by omega)
  have bx := Blk.new w 36 #[.int .i64 s, .int .i64 t, .int .i64 f, .int .i64 l, .int .i64 p]
  have B0 := (Below.refl w.heap.size w).alloc (Nat.le_refl _) (.cells #[.int .i64 s, .int .i64 t, .int .i64 f, .int .i64 l, .int .i64 p] 36)
  go_enter Tryd.func15, Tryd.ntmps15
  go_wp2_with fail
  refine (C.out _).mono ?_
  rintro e w1 ⟨rfl, hb1⟩
  try replace bx := bx.below hb1 bx.lt
  try replace bo := bo.below hb1 bo.lt
  try replace by_ := by_.below hb1 by_.lt
  replace B0 := B0.trans (hb1.mono B0.size)
  clear hb1
  try clear mx lx
  try clear mo lo zo
  try clear my ly zy
  try have mx := fun i => bx.cell i
  try have lx := bx.lt
  try have mo := fun i => bo.cell i
  try have lo := bo.lt
  try have zo := fun i => bo.frozen i
  try have my := fun i => by_.cell i
  try have ly := by_.lt
  try have zy := fun i => by_.frozen i
  go_wp2_with fail
  go_ret
  exact ⟨rfl, B0⟩
set_option maxRecDepth 100000 in
set_option maxHeartbeats 4000000 in
theorem rval_any (s t f l p sl i : Int) (w : World) (hs : 1 ≤ s ∧ s ≤ 1000) (ht : 1 ≤ t ∧ t ≤ 64) (hf : 4 ≤ f ∧ f ≤ 64) (hsl : 0 ≤ sl ∧ sl ≤ s) (hi : 0 ≤ i ∧ i ≤ 1000) :
    Calls Tryd.prog 36 #[.agg #[.int .i64 s, .int .i64 t, .int .i64 f, .int .i64 l, .int .i64 p], .int .i64 sl, .int .i64 i] w fun e w' => e = .returned (.int .i64 (nB t f sl + 3 + f + i)) ∧ Below w.heap.size w w' := by
  have C := hide (fun w2 => rnB_any s t f l p sl w2 hs ht hf hsl)
  have b := nB_bd hs ht hf hsl
  generalize nB t f sl = q at *
  have e7 : IntKind.i64.wrap (q + 3) = q + 3 := IntWalk.i64_in _ (by omega)
  have e8 : IntKind.i64.wrap (q + 3 + f) = q + 3 + f := IntWalk.i64_in _ (by omega)
  have e9 : IntKind.i64.wrap (q + 3 + f + i) = q + 3 + f + i := IntWalk.i64_in _ (by omega)
  have bx := Blk.new w 36 #[.int .i64 s, .int .i64 t, .int .i64 f, .int .i64 l, .int .i64 p]
  have B0 := (Below.refl w.heap.size w).alloc (Nat.le_refl _) (.cells #[.int .i64 s, .int .i64 t, .int .i64 f, .int .i64 l, .int .i64 p] 36)
  go_enter Tryd.func36, Tryd.ntmps36
  go_wp2_with fail
  refine wp_region_heldZ [] (fun w' => w'.cell? ⟨w.heap.size, 0, none⟩ = some (.int .i64 s) ∧ w'.cell? ⟨w.heap.size, 1, none⟩ = some (.int .i64 t) ∧ w'.cell? ⟨w.heap.size, 2, none⟩ = some (.int .i64 f) ∧ w'.cell? ⟨w.heap.size, 3, none⟩ = some (.int .i64 l) ∧ w'.cell? ⟨w.heap.size, 4, none⟩ = some (.int .i64 p)) (by kernel_rfl) (by exact ⟨bx.cell 0, bx.cell 1, bx.cell 2, bx.cell 3, bx.cell 4⟩) (fun hHeld => ?_)
  replace bx := bx.drew
  replace B0 := B0.drew
  generalize (w.alloc (.cells #[.int .i64 s, .int .i64 t, .int .i64 f, .int .i64 l, .int .i64 p] 36)).drew = w0x at *
  refine' wpAnyZ_takeA (i := 0) (v := ?_) (opAt rfl) (by kernel_rfl) (by kernel_rfl) (by kernel_rfl) (by kernel_rfl) (fun _ _ _ h => h) (by assumption) (by rfl) (fun w hSw => ?_) ?_
  rotate_left
  · (try dsimp only at hSw); go_simp; (try with_reducible rfl)
  try simp only [Act.put, List.setIfInBounds_toArray, List.set_cons_zero, List.set_cons_succ]
  refine' wpAnyZ_takeA (i := 1) (v := ?_) (opAt rfl) (by kernel_rfl) (by kernel_rfl) (by kernel_rfl) (by kernel_rfl) (fun _ _ _ h => h) (by assumption) (by rfl) (fun w hSw => ?_) ?_
  rotate_left
  · (try dsimp only at hSw); go_simp; (try with_reducible rfl)
  try simp only [Act.put, List.setIfInBounds_toArray, List.set_cons_zero, List.set_cons_succ]
  refine' wpAnyZ_takeA (i := 4) (v := ?_) (opAt rfl) (by kernel_rfl) (by kernel_rfl) (by kernel_rfl) (by kernel_rfl) (fun _ _ _ h => h) (by assumption) (by rfl) (fun w hSw => ?_) ?_
  rotate_left
  · (try dsimp only at hSw); go_simp; (try with_reducible rfl)
  try simp only [Act.put, List.setIfInBounds_toArray, List.set_cons_zero, List.set_cons_succ]
  refine' wpAnyZ_takeA (i := 5) (v := ?_) (opAt rfl) (by kernel_rfl) (by kernel_rfl) (by kernel_rfl) (by kernel_rfl) (fun _ _ _ h => h) (by assumption) (by rfl) (fun w hSw => ?_) ?_
  rotate_left
  · (try dsimp only at hSw); go_simp; (try with_reducible rfl)
  try simp only [Act.put, List.setIfInBounds_toArray, List.set_cons_zero, List.set_cons_succ]
  refine' wpAnyZ_takeA (i := 7) (v := ?_) (opAt rfl) (by kernel_rfl) (by kernel_rfl) (by kernel_rfl) (by kernel_rfl) (fun _ _ _ h => h) (by assumption) (by rfl) (fun w hSw => ?_) ?_
  rotate_left
  · (try dsimp only at hSw); go_simp; (try with_reducible rfl)
  try simp only [Act.put, List.setIfInBounds_toArray, List.set_cons_zero, List.set_cons_succ]
  refine wpAnyZ_ready (rs := [2]) (by kernel_rfl) (by simp) ?_
  refine AllReadyZ.cons (opAt rfl) (fun K hK => ?_) ?_
  · skip
    go_simp
    refine (C.out _).mono ?_
    rintro e wc ⟨rfl, hb1⟩
    replace bx := bx.below hb1 bx.lt
    replace B0 := B0.trans (hb1.mono B0.size)
    clear hb1
    try go_wp2_with fail
    refine hK.out _ _ (by exact ⟨bx.cell 0, bx.cell 1, bx.cell 2, bx.cell 3, bx.cell 4⟩) (fun hHeld => ?_)
    clear hK K
    try simp only [Act.put, List.setIfInBounds_toArray, List.set_cons_zero, List.set_cons_succ]
    refine' wpAnyZ_takeA (i := 3) (v := ?_) (opAt rfl) (by kernel_rfl) (by kernel_rfl) (by kernel_rfl) (by kernel_rfl) (fun _ _ _ h => h) (by assumption) (by rfl) (fun w hSw => ?_) ?_
    rotate_left
    · (try dsimp only at hSw); go_simp; (try with_reducible rfl)
    try simp only [Act.put, List.setIfInBounds_toArray, List.set_cons_zero, List.set_cons_succ]
    refine' wpAnyZ_takeA (i := 6) (v := ?_) (opAt rfl) (by kernel_rfl) (by kernel_rfl) (by kernel_rfl) (by kernel_rfl) (fun _ _ _ h => h) (by assumption) (by rfl) (fun w hSw => ?_) ?_
    rotate_left
    · (try dsimp only at hSw); go_simp; (try with_reducible rfl)
    try simp only [Act.put, List.setIfInBounds_toArray, List.set_cons_zero, List.set_cons_succ]
    refine' wpAnyZ_takeA (i := 8) (v := ?_) (opAt rfl) (by kernel_rfl) (by kernel_rfl) (by kernel_rfl) (by kernel_rfl) (fun _ _ _ h => h) (by assumption) (by rfl) (fun w hSw => ?_) ?_
    rotate_left
    · (try dsimp only at hSw); go_simp; (try with_reducible rfl)
    try simp only [Act.put, List.setIfInBounds_toArray, List.set_cons_zero, List.set_cons_succ]
    refine' wpAnyZ_takeA (i := 9) (v := ?_) (opAt rfl) (by kernel_rfl) (by kernel_rfl) (by kernel_rfl) (by kernel_rfl) (fun _ _ _ h => h) (by assumption) (by rfl) (fun w hSw => ?_) ?_
    rotate_left
    · (try dsimp only at hSw); go_simp; (try with_reducible rfl)
    try simp only [Act.put, List.setIfInBounds_toArray, List.set_cons_zero, List.set_cons_succ]
    refine wpAnyZ_done (by kernel_rfl) ?_ _
    go_wp2_with fail
    go_ret
    exact ⟨rfl, B0⟩
  exact AllReadyZ.nil
theorem atpB_6 {s t f sl : Int} (hsl : 0 ≤ sl ∧ sl ≤ s) : atp s t f 6 sl 0 = nB t f sl := by
  unfold atp
  rw [if_neg (by omega), if_neg (by omega), if_neg (by omega)]
  unfold nod nodMany nodAt nB
  rw [if_neg (by simp; omega)]
  simp
theorem atpB_6no {s t f sl : Int} (hsl : sl < 0 ∨ s < sl) : atp s t f 6 sl 0 = -1 := by
  unfold atp
  rw [if_neg (by omega), if_neg (by omega), if_neg (by omega)]
  unfold nod
  rw [if_pos (by omega)]
theorem atpB_7 {s t f sl : Int} (hsl : 0 ≤ sl ∧ sl ≤ s) : atp s t f 7 sl 0 = nB t f sl + 1 := by
  unfold atp
  rw [if_neg (by omega), if_neg (by omega), if_neg (by omega)]
  unfold nod nodMany nodAt nB
  rw [if_neg (by simp; omega)]
  simp
theorem atpB_7no {s t f sl : Int} (hsl : sl < 0 ∨ s < sl) : atp s t f 7 sl 0 = -1 := by
  unfold atp
  rw [if_neg (by omega), if_neg (by omega), if_neg (by omega)]
  unfold nod
  rw [if_pos (by omega)]
theorem atpB_8 {s t f sl : Int} (hsl : 0 ≤ sl ∧ sl ≤ s) : atp s t f 8 sl 0 = nB t f sl + 2 := by
  unfold atp
  rw [if_neg (by omega), if_neg (by omega), if_neg (by omega)]
  unfold nod nodMany nodAt nB
  rw [if_neg (by simp; omega)]
  simp
theorem atpB_8no {s t f sl : Int} (hsl : sl < 0 ∨ s < sl) : atp s t f 8 sl 0 = -1 := by
  unfold atp
  rw [if_neg (by omega), if_neg (by omega), if_neg (by omega)]
  unfold nod
  rw [if_pos (by omega)]
theorem atpB_9 {s t f sl i : Int} (hsl : 0 ≤ sl ∧ sl ≤ s) (hi : 0 ≤ i ∧ i < f) : atp s t f 9 sl i = nB t f sl + 3 + i := by
  unfold atp
  rw [if_neg (by omega), if_neg (by omega), if_neg (by omega)]
  unfold nod nodMany nodAt nB
  rw [if_neg (by simp; omega)]
  simp
  try omega
theorem atpB_9no {s t f sl i : Int} (h : sl < 0 ∨ s < sl ∨ i < 0 ∨ f ≤ i) : atp s t f 9 sl i = -1 := by
  unfold atp
  rw [if_neg (by omega), if_neg (by omega), if_neg (by omega)]
  unfold nod nodMany
  rw [if_pos (by simp; omega)]
theorem atpB_10 {s t f sl i : Int} (hsl : 0 ≤ sl ∧ sl ≤ s) (hi : 0 ≤ i ∧ i < f) : atp s t f 10 sl i = nB t f sl + 3 + f + i := by
  unfold atp
  rw [if_neg (by omega), if_neg (by omega), if_neg (by omega)]
  unfold nod nodMany nodAt nB
  rw [if_neg (by simp; omega)]
  simp
  try omega
theorem atpB_10no {s t f sl i : Int} (h : sl < 0 ∨ s < sl ∨ i < 0 ∨ f ≤ i) : atp s t f 10 sl i = -1 := by
  unfold atp
  rw [if_neg (by omega), if_neg (by omega), if_neg (by omega)]
  unfold nod nodMany
  rw [if_pos (by simp; omega)]
end Go.Proofs.YtokcbipmocpllaaDoor

/-
  gleaningref08.Place.
-/
namespace Go.Proofs.YtokcbipmocpllaaDoor
open Go.RowKit

def PlA (t d : Int) (n i : Value) : Prop := ∃ k : Nat, (k : Int) ≤ t ∧ (k : Int) ≤ d ∧ n = .int .i64 (3 + k) ∧ i = .int .i64 k
def PlB (t d : Int) (n i : Value) : Prop := ∃ k : Nat, (k : Int) ≤ t ∧ (k : Int) ≤ d ∧ n = .int .i64 (3 + t + 2 * k) ∧ i = .int .i64 k
def PlC (b : Int) (P : Prop) (m : Int) (n i : Value) : Prop := ∃ j : Nat, (j : Int) ≤ 2 ∧ (P → (j : Int) ≤ m) ∧ n = .int .i64 (b + j) ∧ i = .int .i64 j
end Go.Proofs.YtokcbipmocpllaaDoor

/-
  Package layout: What.
-/
namespace Go.Proofs.YtokcbipmocpllaaDoor
open Go.RowKit
attribute [local go_sem] past_cell past_cell_add

end Go.Proofs.YtokcbipmocpllaaDoor

/-
  The Go functions LayoutTells, LayoutAsks, LayoutNames; the example.
-/
namespace Go.Proofs.YtokcbipmocpllaaDoor
open Go.RowKit
attribute [local go_sem] past_cell past_cell_add

theorem plc_zero {s t f a : Int} (hf : 4 ≤ f) : (plc s t f a).1 = 0 ↔ (a < 0 ∨ laySize s t f ≤ a) := by
  unfold plc
  by_cases c0 : a < 0 ∨ laySize s t f ≤ a
  · rw [if_pos c0]
    simp [c0]
  rw [if_neg c0]
  by_cases c1 : a < 3
  · rw [if_pos c1]
    simp only [c0, iff_false]
    omega
  rw [if_neg c1]
  by_cases c2 : a < 3 + t
  · rw [if_pos c2]
    simp [c0]
  rw [if_neg c2]
  by_cases c3 : a < 3 + 3 * t
  · rw [if_pos c3]
    simp [c0]
  rw [if_neg c3]
  have := Int.emod_nonneg (a - (3 + 3 * t)) (show 3 + 2 * f ≠ 0 by omega)
  split
  · simp only [c0, iff_false]
    omega
  · split <;> simp [c0]

end Go.Proofs.YtokcbipmocpllaaDoor

/-
  Package memory: has, Word, put, Do; gleaningref09.Do.
-/
namespace Go.Proofs.YtokcbipmocpllaaDoor
open Go.RowKit
attribute [local go_sem] past_cell past_cell_add

/-- A memory's words: of which slice, and how many. -/
def WordsAt (w : World) (gm : Nat) (A : Option Addr) (N : Nat) : Prop := w.cell? ⟨gm, 5, none⟩ = some (.slice A N N)
/-- There is no such word. -/
def NoWord (w : World) (m : Value) (a : Int) : Prop := m = .pointer none ∨ ∃ gm A N, m = .pointer (some ⟨gm, 0, none⟩) ∧ WordsAt w gm A N ∧ (a < 0 ∨ (0 ≤ a ∧ (N : Int) ≤ a))

theorem NoWord.below {w w' : World} {m : Value} {a : Int} (h : NoWord w m a) (hb : Below w.heap.size w w') : NoWord w' m a := by
  rcases h with rfl | ⟨gm, A, N, rfl, hc, h⟩
  · exact .inl rfl
  · exact .inr ⟨gm, A, N, rfl, keepCell hb hc, h⟩

/-- What an access does to words, and tells. -/
def wGet (l : List Int) (a : Int) : Int := if 0 ≤ a ∧ a < l.length then l.getD a.toNat 0 else 0
def wPut (l : List Int) (a x : Int) : List Int := if 0 ≤ a ∧ a < l.length then l.set a.toNat x else l
def mDo (l : List Int) (k a o n : Int) : Int × List Int :=
  if k = 1 then (wGet l a, l) else if k = 2 then (0, wPut l a n) else if k = 3 ∧ 0 ≤ a ∧ a < l.length ∧ wGet l a = o then (1, wPut l a n) else (0, l)
theorem wPut_len (l : List Int) (a x : Int) : (wPut l a x).length = l.length := by unfold wPut; split <;> simp
theorem mDo_len (l : List Int) (k a o n : Int) : (mDo l k a o n).2.length = l.length := by
  unfold mDo
  repeat' split
  all_goals simp [wPut_len]

def AllW64 (l : List Int) : Prop := ∀ x ∈ l, W64 x
theorem wPut_w64 {l : List Int} {a x : Int} (h : AllW64 l) (hx : W64 x) : AllW64 (wPut l a x) := by
  unfold wPut
  split
  · intro y hy
    rcases List.mem_or_eq_of_mem_set hy with hy | rfl
    · exact h y hy
    · exact hx
  · exact h
theorem mDo_w64 {l : List Int} {k a o n : Int} (h : AllW64 l) (hn : W64 n) : AllW64 (mDo l k a o n).2 := by
  unfold mDo
  repeat' split
  · exact h
  · exact wPut_w64 h hn
  · exact wPut_w64 h hn
  · exact h

section
variable {w w' : World} {gm gw : Nat} {s t f l p : Int} {ws : List Int}
theorem grown_below (hb : Below w.heap.size w w') (row : Option Nat) : w.grownBy w' row := ⟨hb.os, hb.tape, hb.output, hb.size, fun k hk _ => hb.block k hk⟩
theorem grown_set (w : World) (g j : Nat) (v : Value) : w.grownBy (w.setCell ⟨g, j, none⟩ v) (some g) :=
  ⟨rfl, rfl, rfl, by simp, fun k _ hk => Below.heap_setCell w ⟨g, j, none⟩ v k (fun e => hk (by rw [e]))⟩
end
theorem wGet_at {l : List Int} {j : Nat} (h : j < l.length) : wGet l j = l.getD j 0 := by
  unfold wGet
  rw [if_pos ⟨by omega, by omega⟩, Int.toNat_natCast]
theorem wPut_at {l : List Int} {j : Nat} {x : Int} (h : j < l.length) : wPut l j x = l.set j x := by
  unfold wPut
  rw [if_pos ⟨by omega, by omega⟩, Int.toNat_natCast]

theorem grown_trans {w w1 w2 : World} {row : Option Nat} (h1 : w.grownBy w1 row) (h2 : w1.grownBy w2 row) : w.grownBy w2 row :=
  ⟨h2.os.trans h1.os, h2.tape.trans h1.tape, h2.output.trans h1.output, Nat.le_trans h1.size h2.size, fun k hk hr => (h2.block k (Nat.lt_of_lt_of_le hk h1.size) hr).trans (h1.block k hk hr)⟩
theorem below_grown {B : Nat} {w0 w w' : World} {g : Nat} (hb : Below B w0 w) (hg : w.grownBy w' (some g)) (hB : B ≤ g) (hs : B ≤ w.heap.size) : Below B w0 w' :=
  ⟨hg.os.trans hb.os, hg.tape.trans hb.tape, hg.output.trans hb.output, Nat.le_trans hb.size hg.size, fun k hk => (hg.block k (Nat.lt_of_lt_of_le hk hs) (fun e => by injection e with e; omega)).trans (hb.block k hk)⟩
theorem below_drewN' {w w1 : World} (hb : Below w.heap.size w w1) (n : Nat) : Below w.heap.size w (w1.drewN n) := below_drewN hb n
end Go.Proofs.YtokcbipmocpllaaDoor

/-
  gleaningref09: Do, New; memory.New.
-/
namespace Go.Proofs.YtokcbipmocpllaaDoor
open Go.RowKit
attribute [local go_sem] past_cell past_cell_add

/-- Words that the call has made, as a slice. -/
def RefOk (w : World) (gr : Nat) (ws : List Int) : Prop := Blk w gr 29 (ints .u64 ws).toArray
section
variable {w w' : World} {gr : Nat} {ws : List Int}
theorem RefOk.at_ (h : RefOk w gr ws) {j : Nat} (hj : j < ws.length) : w.cell? ⟨gr, j, none⟩ = some (.int .u64 (ws.getD j 0)) := by
  rw [Blk.cell h j, List.getElem?_toArray, ints_get ws j hj, List.getD_eq_getElem?_getD, List.getElem?_eq_getElem hj]
  rfl
theorem RefOk.grown {row : Option Nat} (h : RefOk w gr ws) (hg : w.grownBy w' row) (h1 : some gr ≠ row) : RefOk w' gr ws := Blk.grown h hg h1
theorem RefOk.below (h : RefOk w gr ws) (hb : Below w.heap.size w w') : RefOk w' gr ws := h.grown (grown_below hb none) (by simp)
theorem RefOk.set_ (h : RefOk w gr ws) (j : Nat) (x : Int) : RefOk (w.setCell ⟨gr, j, none⟩ (.int .u64 x)) gr (ws.set j x) := by
  have := Blk.set_ h j (.int .u64 x)
  have e : (ints .u64 (ws.set j x)).toArray = (ints .u64 ws).toArray.setIfInBounds j (.int .u64 x) := by
    unfold ints
    rw [List.map_set, List.setIfInBounds_toArray]
  unfold RefOk
  rw [e]
  exact this
end

set_option maxHeartbeats 1000000 in
theorem rdo_out (gr c : Nat) (k a o n : Int) (N : Nat) (w : World) (h : a < 0 ∨ (0 ≤ a ∧ (N : Int) ≤ a) ∨ (0 ≤ a ∧ a < N ∧ k < 1) ∨ (0 ≤ a ∧ a < N ∧ 1 ≤ k ∧ 3 < k)) :
    Calls Tryd.prog 21 #[.slice (some ⟨gr, 0, none⟩) N c, .agg #[.int .i64 k, .int .i64 a, .int .u64 o, .int .u64 n]] w fun e w' => e = .returned (.int .u64 0) ∧ Below w.heap.size w w' := by
  have bx := Blk.new w 57 #[.int .i64 k, .int .i64 a, .int .u64 o, .int .u64 n]
  have B0 := (Below.refl w.heap.size w).alloc (Nat.le_refl _) (.cells #[.int .i64 k, .int .i64 a, .int .u64 o, .int .u64 n] 57)
  clear bx
  rcases h with h | ⟨h1, h2⟩ | ⟨h1, h2, h3⟩ | ⟨h1, h2, h3, h4⟩
  all_goals
    go_enter Tryd.func21, Tryd.ntmps21
    go_wp2_with fail
    go_ret
    exact ⟨rfl, B0⟩
set_option maxHeartbeats 1000000 in
theorem rdo_1 (gr c j : Nat) (o n : Int) (ws : List Int) (w : World) (hm : RefOk w gr ws) (hj : j < ws.length)  :
    Calls Tryd.prog 21 #[.slice (some ⟨gr, 0, none⟩) ws.length c, .agg #[.int .i64 1, .int .i64 (j : Int), .int .u64 o, .int .u64 n]] w fun e w' => e = .returned (.int .u64 (ws.getD j 0)) ∧ RefOk w' gr (ws) ∧ w.grownBy w' (some gr) := by
  skip
  have HM := hide hm
  have HJ := hide hj
  have hjz : (j : Int) < (ws.length : Int) := by omega
  have lgr : gr < w.heap.size := Blk.lt hm
  have z := hm.at_ hj
  have zf := Blk.frozen hm j
  have b0 := (Below.refl w.heap.size w).alloc (Nat.le_refl _) (.cells #[.int .i64 1, .int .i64 (j : Int), .int .u64 o, .int .u64 n] 57)
  have HB := hide b0
  clear hm hj b0
  generalize hx : ws.getD j 0 = x at *
  have HX := hide hx
  clear hx
  go_enter Tryd.func21, Tryd.ntmps21
  go_wp2_with fail
  go_ret
  exact ⟨rfl, HM.out.below HB.out, grown_below HB.out _⟩
set_option maxHeartbeats 1000000 in
theorem rdo_3n (gr c j : Nat) (o n : Int) (ws : List Int) (w : World) (hm : RefOk w gr ws) (hj : j < ws.length) (hne : ws.getD j 0 ≠ o) :
    Calls Tryd.prog 21 #[.slice (some ⟨gr, 0, none⟩) ws.length c, .agg #[.int .i64 3, .int .i64 (j : Int), .int .u64 o, .int .u64 n]] w fun e w' => e = .returned (.int .u64 (0)) ∧ RefOk w' gr (ws) ∧ w.grownBy w' (some gr) := by
  have q : (ws.getD j 0 == o) = false := by simpa using hne
  have q2 : (ws.getD j 0 != o) = true := by rw [bne, q]; rfl
  clear hne
  have HM := hide hm
  have HJ := hide hj
  have hjz : (j : Int) < (ws.length : Int) := by omega
  have lgr : gr < w.heap.size := Blk.lt hm
  have z := hm.at_ hj
  have zf := Blk.frozen hm j
  have b0 := (Below.refl w.heap.size w).alloc (Nat.le_refl _) (.cells #[.int .i64 3, .int .i64 (j : Int), .int .u64 o, .int .u64 n] 57)
  have HB := hide b0
  clear hm hj b0
  generalize hx : ws.getD j 0 = x at *
  have HX := hide hx
  clear hx
  go_enter Tryd.func21, Tryd.ntmps21
  go_wp2_with fail
  go_ret
  exact ⟨rfl, HM.out.below HB.out, grown_below HB.out _⟩
set_option maxHeartbeats 1000000 in
theorem rdo_2 (gr c j : Nat) (o n : Int) (ws : List Int) (w : World) (hm : RefOk w gr ws) (hj : j < ws.length)  :
    Calls Tryd.prog 21 #[.slice (some ⟨gr, 0, none⟩) ws.length c, .agg #[.int .i64 2, .int .i64 (j : Int), .int .u64 o, .int .u64 n]] w fun e w' => e = .returned (.int .u64 (0)) ∧ RefOk w' gr (ws.set j n) ∧ w.grownBy w' (some gr) := by
  skip
  have HM := hide hm
  have HJ := hide hj
  have hjz : (j : Int) < (ws.length : Int) := by omega
  have lgr : gr < w.heap.size := Blk.lt hm
  have z := hm.at_ hj
  have zf := Blk.frozen hm j
  have b0 := (Below.refl w.heap.size w).alloc (Nat.le_refl _) (.cells #[.int .i64 2, .int .i64 (j : Int), .int .u64 o, .int .u64 n] 57)
  have HB := hide b0
  clear hm hj b0
  generalize hx : ws.getD j 0 = x at *
  have HX := hide hx
  clear hx
  go_enter Tryd.func21, Tryd.ntmps21
  go_wp2_with fail
  go_ret
  have H1 := HM.out.set_ j n
  exact ⟨rfl, H1.below ((Below.refl _ _).alloc (Nat.le_refl _) _), grown_trans (grown_set w gr j (.int .u64 n)) (grown_below ((Below.refl _ _).alloc (Nat.le_refl _) _) _)⟩
set_option maxHeartbeats 1000000 in
theorem rdo_3y (gr c j : Nat) (o n : Int) (ws : List Int) (w : World) (hm : RefOk w gr ws) (hj : j < ws.length) (heq : ws.getD j 0 = o) :
    Calls Tryd.prog 21 #[.slice (some ⟨gr, 0, none⟩) ws.length c, .agg #[.int .i64 3, .int .i64 (j : Int), .int .u64 o, .int .u64 n]] w fun e w' => e = .returned (.int .u64 (1)) ∧ RefOk w' gr (ws.set j n) ∧ w.grownBy w' (some gr) := by
  have q : (ws.getD j 0 == o) = true := by simpa using heq
  have q2 : (ws.getD j 0 != o) = false := by rw [bne, q]; rfl
  clear heq
  have HM := hide hm
  have HJ := hide hj
  have hjz : (j : Int) < (ws.length : Int) := by omega
  have lgr : gr < w.heap.size := Blk.lt hm
  have z := hm.at_ hj
  have zf := Blk.frozen hm j
  have b0 := (Below.refl w.heap.size w).alloc (Nat.le_refl _) (.cells #[.int .i64 3, .int .i64 (j : Int), .int .u64 o, .int .u64 n] 57)
  have HB := hide b0
  clear hm hj b0
  generalize hx : ws.getD j 0 = x at *
  have HX := hide hx
  clear hx
  go_enter Tryd.func21, Tryd.ntmps21
  go_wp2_with fail
  go_ret
  have H1 := HM.out.set_ j n
  exact ⟨rfl, H1.below ((Below.refl _ _).alloc (Nat.le_refl _) _), grown_trans (grown_set w gr j (.int .u64 n)) (grown_below ((Below.refl _ _).alloc (Nat.le_refl _) _) _)⟩

theorem rdo_any (gr c : Nat) (k a o n : Int) (ws : List Int) (w : World) (hm : RefOk w gr ws) :
    Calls Tryd.prog 21 #[.slice (some ⟨gr, 0, none⟩) ws.length c, .agg #[.int .i64 k, .int .i64 a, .int .u64 o, .int .u64 n]] w fun e w' => e = .returned (.int .u64 (mDo ws k a o n).1) ∧ RefOk w' gr (mDo ws k a o n).2 ∧ w.grownBy w' (some gr) := by
  have out : ∀ e0, mDo ws k a o n = e0 → e0 = (0, ws) → (a < 0 ∨ (0 ≤ a ∧ (ws.length : Int) ≤ a) ∨ (0 ≤ a ∧ a < ws.length ∧ k < 1) ∨ (0 ≤ a ∧ a < ws.length ∧ 1 ≤ k ∧ 3 < k)) →
      Calls Tryd.prog 21 #[.slice (some ⟨gr, 0, none⟩) ws.length c, .agg #[.int .i64 k, .int .i64 a, .int .u64 o, .int .u64 n]] w fun e w' => e = .returned (.int .u64 (mDo ws k a o n).1) ∧ RefOk w' gr (mDo ws k a o n).2 ∧ w.grownBy w' (some gr) := by
    intro e0 h1 h2 h
    rw [h1, h2]
    exact (rdo_out gr c k a o n ws.length w h).mono fun e w' ⟨he, hb⟩ => ⟨he, hm.below hb, grown_below hb _⟩
  by_cases hin : 0 ≤ a ∧ a < ws.length
  · obtain ⟨j, rfl⟩ := Int.eq_ofNat_of_zero_le hin.1
    have hj : j < ws.length := by omega
    by_cases h1 : k = 1
    · subst h1
      unfold mDo
      rw [wGet_at hj]
      exact rdo_1 gr c j o n ws w hm hj
    by_cases h2 : k = 2
    · subst h2
      unfold mDo
      rw [wPut_at hj]
      exact rdo_2 gr c j o n ws w hm hj
    by_cases h3 : k = 3
    · subst h3
      unfold mDo
      rw [wGet_at hj, wPut_at hj]
      by_cases he : ws.getD j 0 = o
      · rw [if_neg (by omega), if_neg (by omega), if_pos ⟨rfl, by omega, by omega, he⟩]
        exact rdo_3y gr c j o n ws w hm hj he
      · rw [if_neg (by omega), if_neg (by omega), if_neg (fun h => he h.2.2.2)]
        exact rdo_3n gr c j o n ws w hm hj he
    · refine out _ rfl ?_ ?_
      · unfold mDo
        rw [if_neg h1, if_neg h2, if_neg (fun h => h3 h.1)]
      · by_cases hk : k < 1
        · exact .inr (.inr (.inl ⟨by omega, by omega, hk⟩))
        · exact .inr (.inr (.inr ⟨by omega, by omega, by omega, by omega⟩))
  · refine out _ rfl ?_ (by omega)
    unfold mDo wGet wPut
    rw [if_neg hin, if_neg hin]
    split
    · rfl
    · split
      · rfl
      · rw [if_neg (fun h => hin ⟨h.2.1, h.2.2.1⟩)]
end Go.Proofs.YtokcbipmocpllaaDoor

/-
  memory.New and gleaningref09.New.
-/
namespace Go.Proofs.YtokcbipmocpllaaDoor
open Go.RowKit
attribute [local go_sem] past_cell past_cell_add

def zs (n : Nat) : List Int := List.replicate n 0
theorem made_zs (n : Nat) : madeCells #[Value.int .u64 0] n = (ints .u64 (zs n)).toArray := by
  apply Array.ext
  · simp [ints, zs, madeCells]
  · intro i h1 h2
    simp [ints, zs, madeCells, Nat.mod_one]
set_option maxHeartbeats 1000000 in
theorem rnew_any (s t f l p : Int) (N : Nat) (w : World) (hN : rSize s t f l p = N) (hb : N ≤ 1000000) :
    Calls Tryd.prog 34 #[.agg #[.int .i64 s, .int .i64 t, .int .i64 f, .int .i64 l, .int .i64 p]] w fun e w' => (∃ g, e = .returned (.slice (some ⟨g, 0, none⟩) N N) ∧ RefOk w' g (zs N) ∧ w.heap.size ≤ g) ∧ Below w.heap.size w w' := by
  have S1 := hide (fun w => rsize_any s t f l p w)
  rw [hN] at S1
  have hmk := run_make_row' (P := Tryd.prog) 23 29 (.int .u64 0) 8 Tryd.underlying23 infoU64 rfl .i64 .i64 N (by omega) (by omega)
  have Z := hide (made_zs N)
  have HN := hide hN
  clear hN
  generalize madeCells #[Value.int .u64 0] N = cs at *
  go_enter Tryd.func34, Tryd.ntmps34
  go_wp2_with fail
  have B0 := (Below.refl w.heap.size w).alloc (Nat.le_refl _) (.cells #[.int .i64 s, .int .i64 t, .int .i64 f, .int .i64 l, .int .i64 p] 36)
  refine (S1.out _).mono ?_
  rintro e w1 ⟨rfl, hb1⟩
  replace B0 := B0.trans (hb1.mono B0.size)
  clear hb1
  go_wp2_with fail
  go_ret
  refine ⟨⟨_, rfl, ?_, B0.size⟩, B0.alloc B0.size _⟩
  have := Blk.new w1 29 cs
  rw [Z.out] at this ⊢
  exact this
end Go.Proofs.YtokcbipmocpllaaDoor

/-
  The words of a machine that begins, in plain Lean.
-/
namespace Go.Proofs.YtokcbipmocpllaaDoor
open Go.RowKit

/-- The slot of a word, and its place within it. -/
def oOf (t f j : Int) : Int := (j - (3 + 3 * t)) / (3 + 2 * f)
def rOf (t f j : Int) : Int := (j - (3 + 3 * t)) % (3 + 2 * f)
theorem at_or {t f j k c : Int} (hc : 0 ≤ c) (hc2 : c < 3 + 2 * f) : j = nB t f k + c ↔ oOf t f j = k ∧ rOf t f j = c := by
  unfold nB oOf rOf
  constructor
  · rintro rfl
    have e : 3 + 3 * t + k * (3 + 2 * f) + c - (3 + 3 * t) = k * (3 + 2 * f) + c := by omega
    rw [e]
    exact div_back hc hc2
  · rintro ⟨h1, h2⟩
    have e := Int.mul_ediv_add_emod (j - (3 + 3 * t)) (3 + 2 * f)
    rw [h1, h2, Int.mul_comm] at e
    omega
theorem r_bd {t f j : Int} (hf : 4 ≤ f) : 0 ≤ rOf t f j ∧ rOf t f j < 3 + 2 * f := ⟨Int.emod_nonneg _ (by omega), Int.emod_lt_of_pos _ (by omega)⟩
def bOR (s f k o r : Int) : Int :=
  if o = 0 ∧ r = 1 then 3 else if o = 0 ∧ r = 3 + f then 65537 else if o = 1 ∧ r = 0 then 1099511627776
  else if 2 ≤ o ∧ o < k ∧ r = 0 then 2 else if 2 ≤ o ∧ o < k ∧ o < s ∧ r = 2 then o + 1 else 0
/-- The slots below k are laid. -/
def bK (s t f k j : Int) : Int := bOR s f k (oOf t f j) (rOf t f j)
def BegK (s t f k : Int) (ws : List Int) : Prop := ∀ j : Nat, j < ws.length → ws.getD j 0 = bK s t f k j
theorem getD_set (l : List Int) (p j : Nat) (x : Int) (hp : p < l.length) : (l.set p x).getD j 0 = if j = p then x else l.getD j 0 := by
  rw [List.getD_eq_getElem?_getD, List.getElem?_set, List.getD_eq_getElem?_getD]
  by_cases h : p = j
  · subst h
    rw [if_pos rfl, if_pos hp, if_pos rfl]
    rfl
  · rw [if_neg h, if_neg (fun e => h e.symm)]
theorem getD_zs (n j : Nat) : (zs n).getD j 0 = 0 := by
  unfold zs
  rw [List.getD_eq_getElem?_getD, List.getElem?_replicate]
  split <;> rfl
theorem zs_len (n : Nat) : (zs n).length = n := by simp [zs]
theorem bK_step {s t f k j : Int} (hf : 4 ≤ f) (hk : 2 ≤ k) : bK s t f (k + 1) j = if j = nB t f k then 2 else if k < s ∧ j = nB t f k + 2 then k + 1 else bK s t f k j := by
  have h1 := at_or (t := t) (f := f) (j := j) (k := k) (c := 0) (by omega) (by omega)
  have h2 := at_or (t := t) (f := f) (j := j) (k := k) (c := 2) (by omega) (by omega)
  rw [Int.add_zero] at h1
  unfold bK bOR
  simp only [h1, h2]
  generalize oOf t f j = o
  generalize rOf t f j = r
  repeat' split
  all_goals first | rfl | omega
/-- All words. -/
def begAt (s t f j : Int) : Int := if j = 2 then (if 2 ≤ s then 2 else 0) else bK s t f (s + 1) j
def begL (s t f : Int) : List Int := (List.range (laySize s t f).toNat).map fun (j : Nat) => begAt s t f (j : Int)
theorem begL_len (s t f : Int) : (begL s t f).length = (laySize s t f).toNat := by simp [begL]
theorem begL_at {s t f : Int} {j : Nat} (h : j < (begL s t f).length) : (begL s t f).getD j 0 = begAt s t f j := by
  rw [List.getD_eq_getElem?_getD, List.getElem?_eq_getElem h]
  simp [begL]
theorem begL_of {s t f : Int} {ws : List Int} (hl : ws.length = (laySize s t f).toNat) (h : ∀ j : Nat, j < ws.length → ws.getD j 0 = begAt s t f j) : ws = begL s t f := by
  apply List.ext_getElem (by rw [hl, begL_len])
  intro j h1 h2
  have e1 := h j h1
  have e2 := begL_at h2
  rw [List.getD_eq_getElem?_getD, List.getElem?_eq_getElem h1] at e1
  rw [List.getD_eq_getElem?_getD, List.getElem?_eq_getElem h2] at e2
  exact e1.trans e2.symm
theorem bOR_bd {s f k o r : Int} (hs : s ≤ 1000) : 0 ≤ bOR s f k o r ∧ bOR s f k o r ≤ 1099511627776 := by
  unfold bOR
  repeat' split
  all_goals omega
theorem begL_w64 {s t f : Int} (hs : s ≤ 1000) : AllW64 (begL s t f) := by
  intro x hx
  simp only [begL, List.mem_map] at hx
  obtain ⟨j, _, rfl⟩ := hx
  unfold begAt bK
  have := bOR_bd (s := s) (f := f) (k := s + 1) (o := oOf t f j) (r := rOf t f j) hs
  constructor
  · repeat' split
    all_goals omega
  · repeat' split
    all_goals omega
end Go.Proofs.YtokcbipmocpllaaDoor

/-
  Version words, plainly.
-/
namespace Go.Proofs.YtokcbipmocpllaaDoor
open Go.RowKit

def b2i (b : Bool) : Int := if b = true then 1 else 0
def vgen (w : Int) : Int := w / 1099511627776
def vcnt (w : Int) : Int := w / 4 % 274877906944
def vdead (w : Int) : Bool := w / 2 % 2 == 1
def vlocked (w : Int) : Bool := w % 2 == 1
def vpack (g c : Int) (d l : Bool) : Int := g % 16777216 * 1099511627776 + c % 274877906944 * 4 + b2i d * 2 + b2i l

theorem b2i_bound (b : Bool) : 0 ≤ b2i b ∧ b2i b ≤ 1 := by cases b <;> decide
theorem vpack_bound (g c : Int) (d l : Bool) : W64 (vpack g c d l) := by
  have := b2i_bound d
  have := b2i_bound l
  unfold vpack
  exact ⟨by omega, by omega⟩
theorem vgen_pack (g c : Int) (d l : Bool) : vgen (vpack g c d l) = g % 16777216 := by
  have := b2i_bound d
  have := b2i_bound l
  unfold vgen vpack
  omega
theorem vcnt_pack (g c : Int) (d l : Bool) : vcnt (vpack g c d l) = c % 274877906944 := by
  have := b2i_bound d
  have := b2i_bound l
  unfold vcnt vpack
  omega
theorem vdead_pack (g c : Int) (d l : Bool) : vdead (vpack g c d l) = d := by
  have h : vpack g c d l / 2 % 2 = b2i d := by
    have := b2i_bound d
    have := b2i_bound l
    unfold vpack
    omega
  unfold vdead
  rw [h]
  cases d <;> rfl
theorem vlocked_pack (g c : Int) (d l : Bool) : vlocked (vpack g c d l) = l := by
  have h : vpack g c d l % 2 = b2i l := by
    have := b2i_bound d
    have := b2i_bound l
    unfold vpack
    omega
  unfold vlocked
  rw [h]
  cases l <;> rfl
theorem vpack_gen (g c : Int) (d l : Bool) : vpack (g % 16777216) c d l = vpack g c d l := by unfold vpack; omega
theorem vpack_cnt (g c : Int) (d l : Bool) : vpack g (c % 274877906944) d l = vpack g c d l := by unfold vpack; omega
theorem vpack_gen1 (g c : Int) (d l : Bool) : vpack (g % 16777216 + 1) c d l = vpack (g + 1) c d l := by unfold vpack; omega
theorem vpack_cnt1 (g c : Int) (d l : Bool) : vpack g (c % 274877906944 + 1) d l = vpack g (c + 1) d l := by unfold vpack; omega
theorem b2i_dead (w : Int) : b2i (vdead w) = w / 2 % 2 := by
  unfold b2i vdead
  by_cases h : w / 2 % 2 = 1
  · simp [h]
  · simp [h]; omega
theorem b2i_locked (w : Int) : b2i (vlocked w) = w % 2 := by
  unfold b2i vlocked
  by_cases h : w % 2 = 1
  · simp [h]
  · simp [h]; omega
/-- A word is its parts. -/
theorem vpack_self {w : Int} (h : W64 w) : vpack (vgen w) (vcnt w) (vdead w) (vlocked w) = w := by
  obtain ⟨h1, h2⟩ := h
  unfold vpack
  rw [b2i_dead, b2i_locked]
  unfold vgen vcnt
  omega

def vlock (w : Int) : Int := vpack (vgen w) (vcnt w) (vdead w) true
def vundo (w : Int) : Int := vpack (vgen w) (vcnt w) (vdead w) false
def vcounted (w : Int) : Int := vpack (vgen w) (vcnt w + 1) (vdead w) (vlocked w)
def vbump (w : Int) : Int := vpack (vgen w) (vcnt w + 1) (vdead w) false
def vdie (w : Int) : Int := vpack (vgen w) (vcnt w) true (vlocked w)
def vkill (w : Int) : Int := vpack (vgen w) (vcnt w + 1) true false
def vlive (w : Int) : Int := vpack (vgen w) (vcnt w) false (vlocked w)
def vanew (w : Int) : Int := vpack (vgen w + 1) (vcnt w) false (vlocked w)
def vrenew (w : Int) : Int := vpack (vgen w + 1) (vcnt w + 1) false true

theorem vbump_eq (w : Int) : vundo (vcounted w) = vbump w := by
  unfold vundo vcounted vbump
  rw [vgen_pack, vcnt_pack, vdead_pack, vpack_gen, vpack_cnt]
theorem vkill_eq (w : Int) : vdie (vbump w) = vkill w := by
  unfold vdie vbump vkill
  rw [vgen_pack, vcnt_pack, vlocked_pack, vpack_gen, vpack_cnt]
theorem vrenew_eq (w : Int) : vanew (vlock (vcounted w)) = vrenew w := by
  unfold vanew vlock vcounted vrenew
  rw [vgen_pack, vcnt_pack, vlocked_pack, vgen_pack, vcnt_pack, vpack_cnt, vpack_cnt]
  unfold vpack
  omega

theorem put_lock {w : Int} (h : W64 w) : fput w 0 1 1 = vlock w := by
  have h1 := fput_at w 1 0 1 (by omega)
  obtain ⟨h2, h3⟩ := h
  unfold vlock vpack
  rw [b2i_dead, show b2i true = 1 from rfl]
  unfold vgen vcnt
  simp at h1
  rw [h1]
  omega
theorem put_undo {w : Int} (h : W64 w) : fput w 0 1 0 = vundo w := by
  have h1 := fput_at w 0 0 1 (by omega)
  obtain ⟨h2, h3⟩ := h
  unfold vundo vpack
  rw [b2i_dead, show b2i false = 0 from rfl]
  unfold vgen vcnt
  simp at h1
  rw [h1]
  omega
theorem get_cnt (w : Int) : fget w 2 38 = vcnt w := by
  have h1 := fget_at w 2 38 (by omega)
  unfold vcnt
  simpa using h1
theorem get_gen {w : Int} (h : W64 w) : fget w 40 24 = vgen w := by
  have h1 := fget_at w 40 24 (by omega)
  obtain ⟨h2, h3⟩ := h
  unfold vgen
  simp at h1
  rw [h1]
  omega
theorem get_dead (w : Int) : fget w 1 1 = w / 2 % 2 := by
  have h1 := fget_at w 1 1 (by omega)
  simpa using h1
theorem get_locked (w : Int) : fget w 0 1 = w % 2 := by
  have h1 := fget_at w 0 1 (by omega)
  simpa using h1
theorem put_cnt {w : Int} (h : W64 w) : fput w 2 38 (vcnt w + 1) = vcounted w := by
  have h1 := fput_at w (vcnt w + 1) 2 38 (by omega)
  obtain ⟨h2, h3⟩ := h
  unfold vcounted vpack
  rw [b2i_dead, b2i_locked]
  unfold vgen vcnt at *
  simp at h1
  rw [h1]
  omega
theorem put_dead {w : Int} (h : W64 w) : fput w 1 1 1 = vdie w := by
  have h1 := fput_at w 1 1 1 (by omega)
  obtain ⟨h2, h3⟩ := h
  unfold vdie vpack
  rw [b2i_locked, show b2i true = 1 from rfl]
  unfold vgen vcnt
  simp at h1
  rw [h1]
  omega
theorem put_live {w : Int} (h : W64 w) : fput w 1 1 0 = vlive w := by
  have h1 := fput_at w 0 1 1 (by omega)
  obtain ⟨h2, h3⟩ := h
  unfold vlive vpack
  rw [b2i_locked, show b2i false = 0 from rfl]
  unfold vgen vcnt
  simp at h1
  rw [h1]
  omega
theorem put_anew {w : Int} (h : W64 w) : fput (vlive w) 40 24 (vgen w + 1) = vanew w := by
  have h1 := fput_at (vlive w) (vgen w + 1) 40 24 (by omega)
  obtain ⟨h2, h3⟩ := h
  unfold vlive vanew vpack at *
  rw [b2i_locked, show b2i false = 0 from rfl] at *
  unfold vgen vcnt at *
  simp at h1
  simp
  omega
theorem put_mk1 (g : Int) : fput 0 40 24 g = g % 16777216 * 1099511627776 := by
  have h1 := fput_at 0 g 40 24 (by omega)
  simp at h1
  rw [h1]
theorem put_mk2 (G c : Int) (_h : 0 ≤ G ∧ G < 16777216) : fput (G * 1099511627776) 2 38 c = G * 1099511627776 + c % 274877906944 * 4 := by
  have h1 := fput_at (G * 1099511627776) c 2 38 (by omega)
  simp at h1
  rw [h1]
  omega
theorem put_mk3 (G C d : Int) (_h : 0 ≤ G ∧ G < 16777216) (_hc : 0 ≤ C ∧ C < 274877906944) (hd : 0 ≤ d ∧ d ≤ 1) : fput (G * 1099511627776 + C * 4) 1 1 d = G * 1099511627776 + C * 4 + d * 2 := by
  have h1 := fput_at (G * 1099511627776 + C * 4) d 1 1 (by omega)
  simp at h1
  rw [h1]
  omega
theorem put_mk4 (G C d l : Int) (_h : 0 ≤ G ∧ G < 16777216) (_hc : 0 ≤ C ∧ C < 274877906944) (_hd : 0 ≤ d ∧ d ≤ 1) (hl : 0 ≤ l ∧ l ≤ 1) :
    fput (G * 1099511627776 + C * 4 + d * 2) 0 1 l = G * 1099511627776 + C * 4 + d * 2 + l := by
  have h1 := fput_at (G * 1099511627776 + C * 4 + d * 2) l 0 1 (by omega)
  simp at h1
  rw [h1]
  omega
theorem put_make (g c : Int) (d l : Bool) : fput (fput (fput (fput 0 40 24 g) 2 38 c) 1 1 (b2i d)) 0 1 (b2i l) = vpack g c d l := by
  have hg : 0 ≤ g % 16777216 ∧ g % 16777216 < 16777216 := by omega
  have hc : 0 ≤ c % 274877906944 ∧ c % 274877906944 < 274877906944 := by omega
  rw [put_mk1, put_mk2 _ _ hg, put_mk3 _ _ _ hg hc (b2i_bound d), put_mk4 _ _ _ _ hg hc (b2i_bound d) (b2i_bound l)]
  rfl
end Go.Proofs.YtokcbipmocpllaaDoor

/-
  Package vword: contracts.
-/
namespace Go.Proofs.YtokcbipmocpllaaDoor
open Go.RowKit

theorem W64.small {x : Int} (h : 0 ≤ x ∧ x ≤ 1) : W64 x := ⟨h.1, by omega⟩
theorem b2i_w (b : Bool) : W64 (b2i b) := W64.small (b2i_bound b)

theorem vcnt_bound (x : Int) : 0 ≤ vcnt x ∧ vcnt x < 274877906944 := by unfold vcnt; omega
theorem vgen_bound {x : Int} (h : W64 x) : 0 ≤ vgen x ∧ vgen x < 16777216 := by obtain ⟨h1, h2⟩ := h; unfold vgen; omega

def AfterIn (vs : Nat → Int) (n : Nat) (w : World) (x i : Value) (wr : World) : Prop :=
  ∃ k : Nat, k ≤ n ∧ i = .int .i64 k ∧ x = .int .u64 (vs k) ∧ Below w.heap.size w wr

theorem same_below {r : Value} {w : World} {e : Ending} {w' : World} (h : e = .returned r ∧ w = w') : e = .returned r ∧ Below w.heap.size w w' := ⟨h.1, h.2 ▸ Below.refl _ _⟩

end Go.Proofs.YtokcbipmocpllaaDoor

/-
  Package gleaningref04: contracts.
-/
namespace Go.Proofs.YtokcbipmocpllaaDoor
open Go.RowKit

def vagg (w : Int) : Value := .agg #[.bool (vlocked w), .bool (vdead w), .int .u64 (vcnt w), .int .u64 (vgen w)]

set_option maxHeartbeats 400000 in
theorem rword_any (l d : Bool) (c g : Int) (w : World) (hc : W64 c) (hg : W64 g) :
    Calls Tryd.prog 37 #[.agg #[.bool l, .bool d, .int .u64 c, .int .u64 g]] w fun e w' => e = .returned (.int .u64 (vpack g c d l)) ∧ Below w.heap.size w w' := by
  obtain ⟨h1, h2⟩ := hc
  obtain ⟨h3, h4⟩ := hg
  have t1 : g.tmod 16777216 = g % 16777216 := Int.tmod_eq_emod_of_nonneg h3
  have t2 : c.tmod 274877906944 = c % 274877906944 := Int.tmod_eq_emod_of_nonneg h1
  have b3 : 0 ≤ c % 274877906944 ∧ c % 274877906944 < 274877906944 := by omega
  have b4 : 0 ≤ g % 16777216 ∧ g % 16777216 < 16777216 := by omega
  have E := hide (show vpack g c d l = g % 16777216 * 1099511627776 + c % 274877906944 * 4 + b2i d * 2 + b2i l from rfl)
  generalize vpack g c d l = R at *
  generalize g % 16777216 = G at *
  generalize c % 274877906944 = C at *
  cases l <;> cases d
  all_goals
    go_enter Tryd.func37, Tryd.ntmps37
    go_wp2_with fail
    go_ret
    refine ⟨?_, (Below.refl _ _).alloc (Nat.le_refl _) _⟩
    rw [E.out]
    simp [b2i]
    try omega
end Go.Proofs.YtokcbipmocpllaaDoor

/-
  gleaningref10.New: the words of a machine that begins.
-/
namespace Go.Proofs.YtokcbipmocpllaaDoor
open Go.RowKit

def RbIn (g gc N : Nat) (s t f l p : Int) (w : World) (i : Value) (wr : World) : Prop :=
  ∃ (k : Nat) (ws : List Int), i = .int .i64 k ∧ 2 ≤ k ∧ (k : Int) ≤ max 2 (s + 1) ∧ RefOk wr g ws ∧ ws.length = N ∧ BegK s t f k ws ∧ Blk wr gc 36 #[.int .i64 s, .int .i64 t, .int .i64 f, .int .i64 l, .int .i64 p] ∧ Below w.heap.size w wr
theorem set_begK {s t f k x : Int} {ws : List Int} {p : Nat} (hp : p < ws.length) (h : ∀ j : Nat, j < ws.length → (if j = p then x else ws.getD j 0) = bK s t f k j) : BegK s t f k (ws.set p x) := by
  intro j hj
  rw [List.length_set] at hj
  rw [getD_set _ _ _ _ hp]
  exact h j hj
theorem begK_zs (s t f : Int) (n : Nat) (p1 p2 p3 : Nat) (h1 : (p1 : Int) = nB t f 0 + 1) (h2 : (p2 : Int) = nB t f 0 + 3 + f) (h3 : (p3 : Int) = nB t f 1) (hf : 4 ≤ f) (hl : p1 < n ∧ p2 < n ∧ p3 < n) : BegK s t f 2 ((((zs n).set p1 3).set p2 65537).set p3 1099511627776) := by
  intro j hj
  simp only [List.length_set] at hj
  rw [getD_set _ _ _ _ (by simp only [List.length_set, zs_len]; omega), getD_set _ _ _ _ (by simp only [List.length_set, zs_len]; omega), getD_set _ _ _ _ (by rw [zs_len]; omega), getD_zs]
  have a1 := at_or (t := t) (f := f) (j := j) (k := 0) (c := 1) (by omega) (by omega)
  have a2 := at_or (t := t) (f := f) (j := j) (k := 0) (c := 3 + f) (by omega) (by omega)
  have a3 := at_or (t := t) (f := f) (j := j) (k := 1) (c := 0) (by omega) (by omega)
  have e1 : (j = p1) ↔ (j : Int) = nB t f 0 + 1 := by omega
  have e2 : (j = p2) ↔ (j : Int) = nB t f 0 + (3 + f) := by omega
  have e3 : (j = p3) ↔ (j : Int) = nB t f 1 + 0 := by omega
  unfold bK bOR
  simp only [e1, e2, e3, a1, a2, a3]
  generalize oOf t f j = o
  generalize rOf t f j = r
  repeat' split
  all_goals first | rfl | omega
set_option maxRecDepth 100000 in
set_option maxHeartbeats 4000000 in
theorem rnew10_any (s t f l p : Int) (N : Nat) (w : World) (hc : cfgOk s t f l p = true) (hN : laySize s t f = N) :
    Calls Tryd.prog 12 #[.agg #[.int .i64 s, .int .i64 t, .int .i64 f, .int .i64 l, .int .i64 p]] w fun e w' => (∃ g, e = .returned (.slice (some ⟨g, 0, none⟩) N N) ∧ RefOk w' g (begL s t f) ∧ w.heap.size ≤ g) ∧ Below w.heap.size w w' := by
  have hb := cfgOk_iff.1 hc
  have hs : 1 ≤ s ∧ s ≤ 1000 := by omega
  have ht : 1 ≤ t ∧ t ≤ 64 := by omega
  have hf : 4 ≤ f ∧ f ≤ 64 := by omega
  have hsp := size_pos hs ht hf
  have b0 := nB_bd hs ht hf (sl := 0) (by omega)
  have b1 := nB_bd hs ht hf (sl := 1) (by omega)
  obtain ⟨p1, hp1⟩ : ∃ p1 : Nat, nB t f 0 + 1 = p1 := Int.eq_ofNat_of_zero_le (by omega)
  obtain ⟨p2, hp2⟩ : ∃ p2 : Nat, nB t f 0 + 3 + f = p2 := Int.eq_ofNat_of_zero_le (by omega)
  obtain ⟨p3, hp3⟩ : ∃ p3 : Nat, nB t f 1 = p3 := Int.eq_ofNat_of_zero_le (by omega)
  have RN := hide (rnew_any s t f l p N · (by unfold rSize; rw [if_pos hc]; exact hN) (by omega))
  have C1 := hide (fun w2 => rshp_any s t f l p 0 w2 hs ht hf (by omega))
  have C2 := hide (fun w2 => rval_any s t f l p 0 0 w2 hs ht hf (by omega) (by omega))
  have C3 := hide (fun w2 => rver_any s t f l p 1 w2 hs ht hf (by omega))
  have C4 := hide (fun w2 => rword_any false false 0 1 w2 ⟨by omega, by omega⟩ ⟨by omega, by omega⟩)
  rw [show vpack 1 0 false false = 1099511627776 by rfl] at C4
  rw [hp1] at C1
  rw [show nB t f 0 + 3 + f + 0 = nB t f 0 + 3 + f by omega, hp2] at C2
  rw [hp3] at C3
  have CV := hide (fun (k : Nat) (hk : (k : Int) ≤ s) w2 => rver_any s t f l p k w2 hs ht hf (by omega))
  have CL := hide (fun (k : Nat) (hk : (k : Int) ≤ s) w2 => rlnkB_any s t f l p k w2 hs ht hf (by omega))
  have BG := hide (begK_zs s t f N p1 p2 p3 hp1.symm hp2.symm hp3.symm (by omega) (by omega))
  have q1 : (p1 : Int) < (N : Int) := by omega
  have q2 : (p2 : Int) < (N : Int) := by omega
  have q3 : (p3 : Int) < (N : Int) := by omega
  have qN : (N == 0) = false := by rw [beq_eq_false_iff_ne]; omega
  have qN2 : ((N : Int) == 0) = false := by rw [beq_eq_false_iff_ne]; omega
  have HNN := hide hN
  have HP := hide (And.intro hp1 (And.intro hp2 hp3))
  have HB := hide hb
  clear hp1 hp2 hp3 hN hb hc b0 b1 hsp
  have B0 := (Below.refl w.heap.size w).alloc (Nat.le_refl _) (.cells #[.int .i64 s, .int .i64 t, .int .i64 f, .int .i64 l, .int .i64 p] 36)
  have bc := Blk.new w 36 #[.int .i64 s, .int .i64 t, .int .i64 f, .int .i64 l, .int .i64 p]
  have mc := fun i => bc.cell i
  go_enter Tryd.func12, Tryd.ntmps12
  go_wp2_with fail
  refine (RN.out _).mono ?_
  rintro e w1 ⟨⟨g, rfl, R, hg⟩, hb1⟩
  replace bc := bc.below hb1 bc.lt
  replace B0 := B0.trans (hb1.mono B0.size)
  have HG := hide (show w.heap.size ≤ g by rw [World.size_alloc] at hg; omega)
  have HCG := hide (show w.heap.size ≠ g by rw [World.size_alloc] at hg; omega)
  have ne1 := HCG.out
  have ne2 := HCG.out.symm
  clear hb1 mc hg
  have mc := fun i => bc.cell i
  go_wp2_with fail
  refine (C1.out _).mono ?_
  rintro e w2 ⟨rfl, hb1⟩
  replace bc := bc.below hb1 bc.lt
  replace R := R.below hb1
  replace B0 := B0.trans (hb1.mono B0.size)
  clear hb1 mc
  have mc := fun i => bc.cell i
  have z1 := R.at_ (j := p1) (by rw [zs_len]; omega)
  have f1 := Blk.frozen R p1
  go_wp2_with fail
  clear z1 f1 mc
  replace R := R.set_ p1 3
  replace bc := bc.far (p := ⟨g, p1, none⟩) HCG.out (.int .u64 3)
  replace B0 := B0.setCell (p := ⟨g, p1, none⟩) HG.out (.int .u64 3)
  generalize w2.setCell ⟨g, p1, none⟩ (.int .u64 3) = w3 at *
  refine (C2.out _).mono ?_
  rintro e w4 ⟨rfl, hb1⟩
  replace bc := bc.below hb1 bc.lt
  replace R := R.below hb1
  replace B0 := B0.trans (hb1.mono B0.size)
  clear hb1
  have mc := fun i => bc.cell i
  have z1 := R.at_ (j := p2) (by rw [List.length_set, zs_len]; omega)
  have f1 := Blk.frozen R p2
  go_wp2_with fail
  clear z1 f1 mc
  replace R := R.set_ p2 65537
  replace bc := bc.far (p := ⟨g, p2, none⟩) HCG.out (.int .u64 65537)
  replace B0 := B0.setCell (p := ⟨g, p2, none⟩) HG.out (.int .u64 65537)
  generalize w4.setCell ⟨g, p2, none⟩ (.int .u64 65537) = w5 at *
  have mc := fun i => bc.cell i
  refine (C3.out _).mono ?_
  rintro e w6 ⟨rfl, hb1⟩
  replace bc := bc.below hb1 bc.lt
  replace R := R.below hb1
  replace B0 := B0.trans (hb1.mono B0.size)
  clear hb1 mc
  have mc := fun i => bc.cell i
  go_wp2_with fail
  refine (C4.out _).mono ?_
  rintro e w7 ⟨rfl, hb1⟩
  replace bc := bc.below hb1 bc.lt
  replace R := R.below hb1
  replace B0 := B0.trans (hb1.mono B0.size)
  clear hb1 mc
  have mc := fun i => bc.cell i
  have z1 := R.at_ (j := p3) (by simp only [List.length_set, zs_len]; omega)
  have f1 := Blk.frozen R p3
  go_wp2_with fail
  clear z1 f1 mc
  replace R := R.set_ p3 1099511627776
  replace bc := bc.far (p := ⟨g, p3, none⟩) HCG.out (.int .u64 1099511627776)
  replace B0 := B0.setCell (p := ⟨g, p3, none⟩) HG.out (.int .u64 1099511627776)
  generalize w7.setCell ⟨g, p3, none⟩ (.int .u64 1099511627776) = w8 at *
  have hwl : ((((zs N).set p1 3).set p2 65537).set p3 1099511627776).length = N := by simp only [List.length_set, zs_len]
  generalize (((zs N).set p1 3).set p2 65537).set p3 1099511627776 = ws0 at *
  clear q1 q2 q3 C1 C2 C3 C4 RN HP
  go_loopw [4] (RbIn g w.heap.size N s t f l p w) (fun i _ => (s + 1).toNat - (intOf i).toNat)
  case atStart => exact ⟨2, ws0, rfl, by omega, by omega, R, hwl, BG.out, bc, B0⟩
  case round =>
    clear R hwl BG bc B0
    obtain ⟨k, ws, rfl, hk2, hks, R, hwl, BG, bc, B0⟩ := hrel
    have mc := fun i => bc.cell i
    by_cases hle : (k : Int) ≤ s
    · have bk := nB_bd hs ht hf (sl := (k : Int)) (by omega)
      obtain ⟨q, hq⟩ : ∃ q : Nat, nB t f k = q := Int.eq_ofNat_of_zero_le (by omega)
      have CVk := hide (CV.out k hle)
      have CLk := hide (CL.out k hle)
      rw [hq] at CVk
      rw [show nB t f (k : Int) + 2 = ((q + 2 : Nat) : Int) by omega] at CLk
      have hqN := HNN.out
      have hq1 : (q : Int) < (N : Int) := by omega
      have hq2 : ((q + 2 : Nat) : Int) < (N : Int) := by omega
      have HQ := hide hq
      have HW1 := hide (show q < ws.length by omega)
      have HW2 := hide (show q + 2 < (ws.set q 2).length by rw [List.length_set]; omega)
      have hk64 : IntKind.u64.wrap (k : Int) = (k : Int) := IntWalk.u64_in _ (by omega)
      have hk65 : IntKind.u64.wrap ((k : Int) + 1) = (k : Int) + 1 := IntWalk.u64_in _ (by omega)
      have hmf := hide (show (s + 1).toNat - (k + 1) < (s + 1).toNat - k by omega)
      clear bk hq hqN
      generalize hq2e : q + 2 = q2 at *
      replace hq2e := hide hq2e
      by_cases hlt : (k : Int) < s
      · go_wp2_with fail
        refine (CVk.out _).mono ?_
        rintro e w9 ⟨rfl, hb1⟩
        replace bc := bc.below hb1 bc.lt
        replace R := R.below hb1
        replace B0 := B0.trans (hb1.mono B0.size)
        clear hb1 mc
        have mc := fun i => bc.cell i
        have z1 := R.at_ (j := q) HW1.out
        have f1 := Blk.frozen R q
        go_wp2_with fail
        clear z1 f1 mc
        replace R := R.set_ q 2
        replace bc := bc.far (p := ⟨g, q, none⟩) HCG.out (.int .u64 2)
        replace B0 := B0.setCell (p := ⟨g, q, none⟩) HG.out (.int .u64 2)
        generalize w9.setCell ⟨g, q, none⟩ (.int .u64 2) = wA at *
        have mc := fun i => bc.cell i
        refine (CLk.out _).mono ?_
        rintro e wB ⟨rfl, hb1⟩
        replace bc := bc.below hb1 bc.lt
        replace R := R.below hb1
        replace B0 := B0.trans (hb1.mono B0.size)
        clear hb1 mc
        have mc := fun i => bc.cell i
        have z1 := R.at_ (j := q2) HW2.out
        have f1 := Blk.frozen R q2
        go_wp2_with fail
        have R9 := R.set_ q2 ((k : Int) + 1)
        have bc9 := bc.far (p := ⟨g, q2, none⟩) HCG.out (.int .u64 ((k : Int) + 1))
        have B9 := B0.setCell (p := ⟨g, q2, none⟩) HG.out (.int .u64 ((k : Int) + 1))
        go_roundw
        case measure => simp [intOf]; omega
        case rel =>
          refine ⟨k + 1, _, by go_num, by omega, by omega, R9, by rw [List.length_set, List.length_set]; exact hwl, ?_, bc9, B9⟩
          rw [show ((k + 1 : Nat) : Int) = (k : Int) + 1 by omega]
          refine set_begK HW2.out fun j hj => ?_
          rw [List.length_set] at hj
          rw [getD_set _ _ _ _ HW1.out, bK_step (by omega) (by omega), BG j hj]
          have h1 := HQ.out
          have h2 := hq2e.out
          have e1 : (j = q) ↔ (j : Int) = nB t f k := by omega
          have e2 : (j = q2) ↔ (j : Int) = nB t f k + 2 := by omega
          simp only [e1, e2]
          by_cases c1 : (j : Int) = nB t f k
          · rw [if_neg (by omega), if_pos c1, if_pos c1]
          · rw [if_neg c1, if_neg c1]
            by_cases c2 : (j : Int) = nB t f k + 2
            · rw [if_pos c2, if_pos ⟨hlt, c2⟩]
            · rw [if_neg c2, if_neg (fun h => c2 h.2)]
      · go_wp2_with fail
        refine (CVk.out _).mono ?_
        rintro e w9 ⟨rfl, hb1⟩
        replace bc := bc.below hb1 bc.lt
        replace R := R.below hb1
        replace B0 := B0.trans (hb1.mono B0.size)
        clear hb1 mc
        have mc := fun i => bc.cell i
        have z1 := R.at_ (j := q) HW1.out
        have f1 := Blk.frozen R q
        go_wp2_with fail
        have R9 := R.set_ q 2
        have bc9 := bc.far (p := ⟨g, q, none⟩) HCG.out (.int .u64 2)
        have B9 := B0.setCell (p := ⟨g, q, none⟩) HG.out (.int .u64 2)
        go_roundw
        case measure => simp [intOf]; omega
        case rel =>
          refine ⟨k + 1, _, by go_num, by omega, by omega, R9, by rw [List.length_set]; exact hwl, ?_, bc9, B9⟩
          rw [show ((k + 1 : Nat) : Int) = (k : Int) + 1 by omega]
          refine set_begK HW1.out fun j hj => ?_
          rw [bK_step (by omega) (by omega), BG j hj]
          have h1 := HQ.out
          have e1 : (j = q) ↔ (j : Int) = nB t f k := by omega
          simp only [e1]
          by_cases c1 : (j : Int) = nB t f k
          · rw [if_pos c1, if_pos c1]
          · rw [if_neg c1, if_neg c1, if_neg (fun h => absurd h.1 (by omega))]
    · have h2N : 2 < N := by have := HNN.out; have := size_pos hs ht hf; omega
      by_cases hs2 : 2 ≤ s
      · have hks2 : (k : Int) = s + 1 := by omega
        have HKS := hide hks2
        have z1 := R.at_ (j := 2) (by omega)
        have f1 := Blk.frozen R 2
        have i2 : (2 : Int) < (N : Int) := by omega
        clear hks2
        go_wp2_with fail
        have R9 := R.set_ 2 2
        have B9 := B0.setCell (p := ⟨g, 2, none⟩) HG.out (.int .u64 2)
        go_ret
        refine ⟨⟨g, rfl, ?_, HG.out⟩, B9⟩
        have e : ws.set 2 2 = begL s t f := by
          refine begL_of (by rw [List.length_set, hwl]; have := HNN.out; omega) fun j hj => ?_
          rw [List.length_set] at hj
          rw [getD_set _ _ _ _ (by omega), BG j hj, HKS.out]
          unfold begAt
          by_cases hj2 : j = 2
          · rw [if_pos hj2, if_pos (by omega), if_pos hs2]
          · rw [if_neg hj2, if_neg (by omega)]
        rw [← e]
        exact R9
      · have hs1 : s = 1 := by omega
        have HS1 := hide hs1
        clear hs1
        go_wp2_with fail
        go_ret
        refine ⟨⟨g, rfl, ?_, HG.out⟩, B0⟩
        have e : ws = begL s t f := by
          refine begL_of (by rw [hwl]; have := HNN.out; omega) fun j hj => ?_
          rw [BG j hj]
          have hs1 := HS1.out
          have hk3 : (k : Int) = 2 := by omega
          rw [hk3]
          unfold begAt
          by_cases hj2 : (j : Int) = 2
          · rw [if_pos hj2, if_neg (by omega)]
            unfold bK bOR
            have ho : oOf t f j < 0 := by
              unfold oOf
              rw [hj2]
              exact Int.ediv_neg_of_neg_of_pos (by omega) (by omega)
            generalize oOf t f j = o at *
            rw [if_neg (by omega), if_neg (by omega), if_neg (by omega), if_neg (by omega), if_neg (by omega)]
          · rw [if_neg hj2, show s + 1 = 2 by omega]
        rw [← e]
        exact R
end Go.Proofs.YtokcbipmocpllaaDoor

/-
  Package handle and its reference: Make, Slot, Gen, Right, in part.
-/
namespace Go.Proofs.YtokcbipmocpllaaDoor
open Go.RowKit

def hmk (gen slot : Int) : Int := if slot < 1 ∨ 65535 < slot then 0 else gen % 16777216 * 65536 + slot
def hsl (h : Int) : Int := h % 65536
def hgn (h : Int) : Int := h / 65536 % 16777216
def hrt (h slots : Int) : Bool := decide (1 ≤ hsl h) && decide (hsl h ≤ slots) && decide (h < 1099511627776)
theorem hmk_bound (gen slot : Int) : W64 (hmk gen slot) := by
  unfold hmk
  split
  · exact ⟨by omega, by omega⟩
  · exact ⟨by omega, by omega⟩

set_option maxHeartbeats 400000 in
theorem hnslot_any (h : Int) (w : World) (hh : W64 h) : Calls Tryd.prog 32 #[.int .u64 h] w fun e w' => e = .returned (.int .i64 (hsl h)) ∧ w = w' := by
  have P := hide (fun w => get_any h 0 16 w hh ⟨by omega, by omega⟩ ⟨by omega, by omega⟩)
  have e : fget h 0 16 = hsl h := by
    have h1 := fget_at h 0 16 (by omega)
    simpa [hsl] using h1
  rw [e] at P
  have b : 0 ≤ hsl h ∧ hsl h < 65536 := by unfold hsl; omega
  generalize hsl h = r at *
  clear e
  obtain ⟨b1, b2⟩ := b
  go_enter Tryd.func32, Tryd.ntmps32
  go_wp2_with fail
  refine (P.out _).mono ?_
  rintro e w' ⟨rfl, rfl⟩
  go_wp2_with fail
  go_ret
  exact ⟨rfl, rfl⟩
/-! The reference. -/
set_option maxHeartbeats 400000 in
theorem rhm_any (gen slot : Int) (w : World) (hg : W64 gen) (hs : I64 slot) :
    Calls Tryd.prog 14 #[.int .u64 gen, .int .i64 slot] w fun e w' => e = .returned (.int .u64 (hmk gen slot)) ∧ w = w' := by
  obtain ⟨h1, h2⟩ := hs
  obtain ⟨g1, g2⟩ := hg
  by_cases c1 : slot < 1
  · have E := hide (show hmk gen slot = 0 from if_pos (.inl c1))
    go_enter Tryd.func14, Tryd.ntmps14
    go_wp2_with fail
    go_ret
    exact ⟨by rw [E.out]; rfl, rfl⟩
  by_cases c2 : 65535 < slot
  · have E := hide (show hmk gen slot = 0 from if_pos (.inr c2))
    have c3 : 1 ≤ slot := by omega
    go_enter Tryd.func14, Tryd.ntmps14
    go_wp2_with fail
    go_ret
    exact ⟨by rw [E.out]; rfl, rfl⟩
  have E := hide (show hmk gen slot = gen % 16777216 * 65536 + slot from if_neg (by omega))
  have t1 : gen.tmod 16777216 = gen % 16777216 := Int.tmod_eq_emod_of_nonneg g1
  have t2 : 0 ≤ gen % 16777216 ∧ gen % 16777216 < 16777216 := by omega
  generalize gen % 16777216 = p at *
  have c3 : 1 ≤ slot := by omega
  have c4 : slot ≤ 65535 := by omega
  clear c1 c2
  go_enter Tryd.func14, Tryd.ntmps14
  go_wp2_with fail
  go_ret
  exact ⟨by rw [E.out]; rfl, rfl⟩
set_option maxHeartbeats 400000 in
theorem rhs_any (h : Int) (w : World) (hh : W64 h) : Calls Tryd.prog 7 #[.int .u64 h] w fun e w' => e = .returned (.int .i64 (hsl h)) ∧ w = w' := by
  obtain ⟨h1, h2⟩ := hh
  have t1 : h.tmod 65536 = hsl h := Int.tmod_eq_emod_of_nonneg h1
  have b : 0 ≤ hsl h ∧ hsl h < 65536 := by unfold hsl; omega
  obtain ⟨b1, b2⟩ := b
  generalize hsl h = r at *
  go_enter Tryd.func7, Tryd.ntmps7
  go_wp2_with fail
  go_ret
  exact ⟨rfl, rfl⟩
/-! Texts. -/
end Go.Proofs.YtokcbipmocpllaaDoor

/-
  memory.All; the example of chapter 9.
-/
namespace Go.Proofs.YtokcbipmocpllaaDoor
open Go.RowKit
attribute [local go_sem] past_cell past_cell_add

/-- Accesses as cells. -/
def rec4 (l : List (Int × Int × Int × Int)) : List Value := l.flatMap fun r => [.int .i64 r.1, .int .i64 r.2.1, .int .u64 r.2.2.1, .int .u64 r.2.2.2]
theorem rec4_len (l : List (Int × Int × Int × Int)) : (rec4 l).length = l.length * 4 := by
  induction l with
  | nil => rfl
  | cons r l ih =>
    have : (rec4 (r :: l)) = .int .i64 r.1 :: .int .i64 r.2.1 :: .int .u64 r.2.2.1 :: .int .u64 r.2.2.2 :: rec4 l := rfl
    rw [this]
    simp only [List.length_cons, ih]
    omega
theorem rec4_get (l : List (Int × Int × Int × Int)) : ∀ (k : Nat) (h : k < l.length), (rec4 l)[k * 4]? = some (.int .i64 l[k].1) ∧ (rec4 l)[k * 4 + 1]? = some (.int .i64 l[k].2.1) ∧ (rec4 l)[k * 4 + 2]? = some (.int .u64 l[k].2.2.1) ∧ (rec4 l)[k * 4 + 3]? = some (.int .u64 l[k].2.2.2) := by
  induction l with
  | nil => intro k h; simp at h
  | cons r l ih =>
    intro k h
    cases k with
    | zero => simp [rec4]
    | succ k =>
      have := ih k (by simpa using h)
      have e1 : (k + 1) * 4 = k * 4 + 4 := by omega
      have e2 : (k + 1) * 4 + 1 = k * 4 + 1 + 4 := by omega
      have e3 : (k + 1) * 4 + 2 = k * 4 + 2 + 4 := by omega
      have e4 : (k + 1) * 4 + 3 = k * 4 + 3 + 4 := by omega
      simpa [rec4, e1, e2, e3, e4] using this
theorem Reads.ask {w : World} {B n k : Nat} {A : Option Addr} {l : List (Int × Int × Int × Int)} (h : Reads w B 4 A n (rec4 l)) (hk : k < n) :
    ∃ a, A = some a ∧ a.block < B ∧ ∃ hl : k < l.length, w.cell? (a.add (k * 4)) = some (.int .i64 l[k].1) ∧ w.cell? ⟨(a.add (k * 4)).block, (a.add (k * 4)).off + 1, none⟩ = some (.int .i64 l[k].2.1) ∧
      w.cell? ⟨(a.add (k * 4)).block, (a.add (k * 4)).off + 2, none⟩ = some (.int .u64 l[k].2.2.1) ∧ w.cell? ⟨(a.add (k * 4)).block, (a.add (k * 4)).off + 3, none⟩ = some (.int .u64 l[k].2.2.2) := by
  have hl : k < l.length := by
    have := h.1
    rw [rec4_len] at this
    omega
  obtain ⟨a, ha, hb, x, y⟩ := h.row hk
  obtain ⟨y0, y1, y2, y3⟩ := rec4_get l k hl
  exact ⟨a, ha, hb, hl, (x (by omega)).trans y0, (y 1 (by omega) (by omega)).trans y1, (y 2 (by omega) (by omega)).trans y2, (y 3 (by omega) (by omega)).trans y3⟩
theorem Reads.lenAsk {w : World} {B n : Nat} {A : Option Addr} {l : List (Int × Int × Int × Int)} (h : Reads w B 4 A n (rec4 l)) : l.length = n := by
  have := h.1
  rw [rec4_len] at this
  omega
theorem Reads.grownG {w w' : World} {B s n g : Nat} {A : Option Addr} {xs : List Value} (h : Reads w B s A n xs) (hg : w.grownBy w' (some g)) (hB : B ≤ w.heap.size) (hne : ∀ ad, A = some ad → ad.block ≠ g) : Reads w' B s A n xs := by
  refine ⟨h.1, fun hn => ?_⟩
  obtain ⟨ad, rfl, hb, hc⟩ := h.2 hn
  refine ⟨ad, rfl, hb, fun j u hu => ?_⟩
  rw [World.cell?_of_block (w := w) (hg.block _ (by rw [block_of_add]; omega) (by rw [block_of_add]; intro e; exact hne ad rfl (by injection e)))]
  exact hc j u hu

/-- What some accesses tell, and what they leave. -/
def mAll (ws : List Int) (l : List (Int × Int × Int × Int)) : Nat → List Int × List Int
  | 0 => ([], ws)
  | k + 1 => let s := mAll ws l k; let r := l.getD k (0, 0, 0, 0); let x := mDo s.2 r.1 r.2.1 r.2.2.1 r.2.2.2; (s.1 ++ [x.1], x.2)
theorem mAll_len (ws : List Int) (l : List (Int × Int × Int × Int)) : ∀ k, (mAll ws l k).1.length = k
  | 0 => rfl
  | k + 1 => by
    show ((mAll ws l k).1 ++ _).length = _
    rw [List.length_append, mAll_len ws l k]
    rfl
theorem own_ne_row {w : World} {base g s n : Nat} {e : TypeId} {v : Value} {xs : List Value} (h : w.ownsRow base e s v n xs) (hg : g < base) : v.ownBlock = none ∨ v.ownBlock ≠ some g := by
  cases hv : v.ownBlock with
  | none => exact .inl rfl
  | some k =>
    right
    have := (h.lt k hv).1
    intro e
    injection e with e
    omega
theorem own_ne_row' {w : World} {base g s n : Nat} {e : TypeId} {v : Value} {xs : List Value} (h : w.ownsRow base e s v n xs) (hg : g < base) : some g ≠ v.ownBlock := by
  rcases own_ne_row h hg with hv | hv
  · rw [hv]
    simp
  · exact fun e => hv e.symm
theorem grown_own {w w1 w2 : World} {base g s n : Nat} {e : TypeId} {v : Value} {xs : List Value} (h : w.grownBy w1 (some g)) (ho : w1.ownsRow base e s v n xs) (hb : w.heap.size ≤ base) (hg : w1.grownBy w2 v.ownBlock) : w.grownBy w2 (some g) :=
  ⟨hg.os.trans h.os, hg.tape.trans h.tape, hg.output.trans h.output, Nat.le_trans h.size hg.size, fun k hk hr => (hg.block k (Nat.lt_of_lt_of_le hk h.size) (own_ne_row' ho (by omega))).trans (h.block k hk hr)⟩
end Go.Proofs.YtokcbipmocpllaaDoor

/-
  memory.Words, Write, Copy; the example of chapter 9.
-/
namespace Go.Proofs.YtokcbipmocpllaaDoor
open Go.RowKit
attribute [local go_sem] past_cell past_cell_add

/-- Some words of a memory. -/
def cutW (ws : List Int) (a b : Int) : List Int := (ws.take (min b ws.length).toNat).drop (max a 0).toNat
theorem cutW_none {ws : List Int} {a b : Int} (h : min b ws.length ≤ max a 0) : cutW ws a b = [] := by
  unfold cutW
  apply List.eq_nil_of_length_eq_zero
  simp only [List.length_drop, List.length_take]
  omega
theorem reads_words {w : World} {gw : Nat} {ws : List Int} (h : Blk w gw 29 (ints .u64 ws).toArray) : Reads w w.heap.size 1 (some ⟨gw, 0, none⟩) ws.length (ints .u64 ws) := by
  have := Reads.blk h ws.length 1 (by simp [ints])
  exact this.more h.lt
theorem reads_cutw {w : World} {B N x y : Nat} {A : Option Addr} {l : List Int} (h : Reads w B 1 A N (ints .u64 l)) (hxy : x < y) (hy : y ≤ N) : Reads w B 1 (A.map (·.add x)) (y - x) (ints .u64 ((l.take y).drop x)) := by
  have hl := h.lenWord
  refine ⟨by rw [ints_len]; simp; omega, fun _ => ?_⟩
  obtain ⟨ad, rfl, hb, hc⟩ := h.2 (by omega)
  refine ⟨ad.add x, rfl, by rw [block_of_add]; exact hb, fun j u hu => ?_⟩
  rw [add_of_add]
  refine hc (x + j) u ?_
  unfold ints at *
  rw [List.map_drop, List.map_take, List.getElem?_drop, List.getElem?_take] at hu
  split at hu
  · exact hu
  · cases hu
/-- Writes as cells. -/
def recW (l : List (Int × Int)) : List Value := l.flatMap fun r => [.int .i64 r.1, .int .u64 r.2]
theorem recW_len (l : List (Int × Int)) : (recW l).length = l.length * 2 := by
  induction l with
  | nil => rfl
  | cons r l ih =>
    have : (recW (r :: l)) = .int .i64 r.1 :: .int .u64 r.2 :: recW l := rfl
    rw [this]
    simp only [List.length_cons, ih]
    omega
theorem recW_get (l : List (Int × Int)) : ∀ (k : Nat) (h : k < l.length), (recW l)[k * 2]? = some (.int .i64 l[k].1) ∧ (recW l)[k * 2 + 1]? = some (.int .u64 l[k].2) := by
  induction l with
  | nil => intro k h; simp at h
  | cons r l ih =>
    intro k h
    cases k with
    | zero => simp [recW]
    | succ k =>
      have := ih k (by simpa using h)
      have e1 : (k + 1) * 2 = k * 2 + 2 := by omega
      have e2 : (k + 1) * 2 + 1 = k * 2 + 1 + 2 := by omega
      simpa [recW, e1, e2] using this
theorem Reads.wri {w : World} {B n k : Nat} {A : Option Addr} {l : List (Int × Int)} (h : Reads w B 2 A n (recW l)) (hk : k < n) :
    ∃ a, A = some a ∧ a.block < B ∧ ∃ hl : k < l.length, w.cell? (a.add (k * 2)) = some (.int .i64 l[k].1) ∧ w.cell? ⟨(a.add (k * 2)).block, (a.add (k * 2)).off + 1, none⟩ = some (.int .u64 l[k].2) := by
  have hl : k < l.length := by
    have := h.1
    rw [recW_len] at this
    omega
  obtain ⟨a, ha, hb, x, y⟩ := h.row hk
  obtain ⟨y1, y2⟩ := recW_get l k hl
  exact ⟨a, ha, hb, hl, (x (by omega)).trans y1, (y 1 (by omega) (by omega)).trans y2⟩
theorem Reads.lenWri {w : World} {B n : Nat} {A : Option Addr} {l : List (Int × Int)} (h : Reads w B 2 A n (recW l)) : l.length = n := by
  have := h.1
  rw [recW_len] at this
  omega
def WrNo (w : World) (n : Nat) (i : Value) (wr : World) : Prop := ∃ k : Nat, i = .int .i64 k ∧ k ≤ n ∧ Below w.heap.size w wr
end Go.Proofs.YtokcbipmocpllaaDoor

/-
  memory.put, Word, Write of a memory that stands.
-/
namespace Go.Proofs.YtokcbipmocpllaaDoor
open Go.RowKit
attribute [local go_sem] past_cell past_cell_add

theorem keepG {w w' : World} {g : Nat} (hg : w.grownBy w' (some g)) {p : Addr} {v : Value} (h : w.cell? p = some v) (hne : p.block ≠ g) : w'.cell? p = some v :=
  (World.cell?_of_block (hg.block _ (World.block_lt_of_cell? w p h) (fun e => hne (by injection e)))).trans h
/-- What some writes leave. -/
def mWri (ws : List Int) (l : List (Int × Int)) : Nat → List Int
  | 0 => ws
  | k + 1 => wPut (mWri ws l k) (l.getD k (0, 0)).1 (l.getD k (0, 0)).2
theorem mWri_len (ws : List Int) (l : List (Int × Int)) : ∀ k, (mWri ws l k).length = ws.length
  | 0 => rfl
  | k + 1 => by
    show (wPut _ _ _).length = _
    rw [wPut_len, mWri_len ws l k]
theorem Reads.grownH {w w' : World} {B s n g : Nat} {A : Option Addr} {xs : List Value} (h : Reads w B s A n xs) (hg : w.grownBy w' (some g)) (hB : B ≤ w.heap.size) (hne : 0 < n → ∀ ad, A = some ad → ad.block ≠ g) : Reads w' B s A n xs := by
  refine ⟨h.1, fun hn => ?_⟩
  obtain ⟨ad, rfl, hb, hc⟩ := h.2 hn
  refine ⟨ad, rfl, hb, fun j u hu => ?_⟩
  rw [World.cell?_of_block (w := w) (hg.block _ (by rw [block_of_add]; omega) (by rw [block_of_add]; intro e; exact hne hn ad rfl (by injection e)))]
  exact hc j u hu
/-- One word turned to what the other memory shows there: an access tells the same. -/
theorem one_law (ws zs : List Int) (hl : ws.length = zs.length) (k a o n : Int) :
    (mDo (wPut zs a (wGet ws a)) k a o n).1 = (mDo ws k a o n).1 ∧ wGet (mDo (wPut zs a (wGet ws a)) k a o n).2 a = wGet (mDo ws k a o n).2 a ∧ ∀ j : Nat, (j : Int) ≠ a → (mDo ws k a o n).2.getD j 0 = ws.getD j 0 := by
  by_cases hin : 0 ≤ a ∧ a < ws.length
  · obtain ⟨j, rfl⟩ := Int.eq_ofNat_of_zero_le hin.1
    have hj : j < ws.length := by omega
    have hz : j < zs.length := by omega
    have g1 : wGet (wPut zs j (wGet ws j)) j = wGet ws j := by
      rw [wPut_at hz, wGet_at (by simpa using hz)]
      simp [List.getD, hz]
    have pu : ∀ (ys : List Int) (x : Int), j < ys.length → wGet (wPut ys j x) j = x := fun ys x h => by
      rw [wPut_at h, wGet_at (by simpa using h)]
      simp [List.getD, h]
    have ot : ∀ i : Nat, (i : Int) ≠ (j : Int) → ∀ x, (wPut ws j x).getD i 0 = ws.getD i 0 := fun i hi x => by
      rw [wPut_at hj]
      simp only [List.getD, List.getElem?_set]
      rw [if_neg (by omega)]
    unfold mDo
    rw [g1, wPut_len, ← hl]
    split
    · exact ⟨rfl, g1, fun i _ => rfl⟩
    · split
      · exact ⟨rfl, by rw [pu _ _ (by rw [wPut_len]; exact hz), pu _ _ hj], fun i hi => ot i hi _⟩
      · split
        · exact ⟨rfl, by rw [pu _ _ (by rw [wPut_len]; exact hz), pu _ _ hj], fun i hi => ot i hi _⟩
        · exact ⟨rfl, g1, fun i _ => rfl⟩
  · have out : ∀ ys : List Int, ys.length = ws.length → mDo ys k a o n = (0, ys) := fun ys hy => by
      unfold mDo wGet wPut
      rw [hy, if_neg hin, if_neg hin]
      split
      · rfl
      · split
        · rfl
        · rw [if_neg (fun h => hin ⟨h.2.1, h.2.2.1⟩)]
    rw [out _ (by rw [wPut_len, hl]), out ws rfl]
    refine ⟨rfl, ?_, fun _ _ => rfl⟩
    unfold wGet
    rw [if_neg (by rw [wPut_len, ← hl]; exact hin), if_neg hin]
end Go.Proofs.YtokcbipmocpllaaDoor

/-
  Shapes: Pack, Inner, Entries; the Go function LayoutShapes.
-/
namespace Go.Proofs.YtokcbipmocpllaaDoor
open Go.RowKit

def pkN (n : Int) : Int := if n < 0 ∨ 255 < n then 0 else n
def pk (inner : Bool) (n : Int) : Int := if inner = true then pkN n * 2 + 1 else pkN n * 2
theorem pkN_bd (n : Int) : 0 ≤ pkN n ∧ pkN n ≤ 255 := by unfold pkN; split <;> omega
def innB (x : Int) : Bool := x % 2 == 1
def ents (x fan : Int) : Int := if fan < 0 then 0 else if fan < x / 2 % 256 then fan else x / 2 % 256

theorem or_one (m : Int) (h : 0 ≤ m) (h2 : m ≤ 255) : bits .or .u64 (m * 2) 1 = m * 2 + 1 := by
  obtain ⟨k, rfl⟩ := Int.eq_ofNat_of_zero_le h
  have h4 := Nat.two_pow_add_eq_or_of_lt (i := 1) (b := 1) (by decide) k
  have e : ((k : Int) * 2) = ((k * 2 : Nat) : Int) := by omega
  rw [e, show (1 : Int) = ((1 : Nat) : Int) from rfl, u64_or_nat _ _ (by omega) (by omega)]
  rw [show k * 2 = 2 ^ 1 * k by omega, ← h4]
  omega

end Go.Proofs.YtokcbipmocpllaaDoor

/-
  arena.New: the memory of a machine that begins holds the document's words.
-/
namespace Go.Proofs.YtokcbipmocpllaaDoor
open Go.RowKit

/-- The slots above k are laid. -/
def dOR (s f k o r : Int) : Int :=
  if o = 0 ∧ r = 1 then 3 else if o = 0 ∧ r = 3 + f then 65537 else if o = 1 ∧ r = 0 then 1099511627776
  else if 2 ≤ o ∧ k < o ∧ o ≤ s ∧ r = 0 then 2 else if 2 ≤ o ∧ k < o ∧ o < s ∧ r = 2 then o + 1 else 0
def dK (s t f k j : Int) : Int := dOR s f k (oOf t f j) (rOf t f j)
def BegD (s t f k : Int) (ws : List Int) : Prop := ∀ j : Nat, j < ws.length → ws.getD j 0 = dK s t f k j
theorem dK_top (s t f j : Int) : dK s t f s j = bK s t f 2 j := by
  unfold dK bK dOR bOR
  generalize oOf t f j = o
  generalize rOf t f j = r
  repeat' split
  all_goals first | rfl | omega
theorem dK_low (s t f j : Int) : dK s t f 1 j = bK s t f (s + 1) j := by
  unfold dK bK dOR bOR
  generalize oOf t f j = o
  generalize rOf t f j = r
  repeat' split
  all_goals first | rfl | omega
theorem dK_step {s t f k j : Int} (hf : 4 ≤ f) (hk : 2 ≤ k) (hks : k ≤ s) : dK s t f (k - 1) j = if j = nB t f k + 2 then (if k < s then k + 1 else 0) else if j = nB t f k then 2 else dK s t f k j := by
  have h1 := at_or (t := t) (f := f) (j := j) (k := k) (c := 0) (by omega) (by omega)
  have h2 := at_or (t := t) (f := f) (j := j) (k := k) (c := 2) (by omega) (by omega)
  rw [Int.add_zero] at h1
  unfold dK dOR
  simp only [h1, h2]
  generalize oOf t f j = o
  generalize rOf t f j = r
  repeat' split
  all_goals first | rfl | omega
theorem wPut_set {ws : List Int} {p : Nat} (h : p < ws.length) (x : Int) : wPut ws p x = ws.set p x := by
  unfold wPut
  rw [if_pos (by omega)]
  rfl
theorem begD_step {s t f k : Int} {ws : List Int} {q : Nat} (hf : 4 ≤ f) (hk : 2 ≤ k) (hks : k ≤ s) (hq : nB t f k = q) (hl : q + 2 < ws.length) (h : BegD s t f k ws) : BegD s t f (k - 1) (wPut (wPut ws q 2) ((q + 2 : Nat) : Int) (if k < s then k + 1 else 0)) := by
  rw [wPut_set (ws := ws) (p := q) (by omega), wPut_set (ws := ws.set q 2) (p := q + 2) (by rw [List.length_set]; exact hl)]
  intro j hj
  rw [List.length_set, List.length_set] at hj
  rw [getD_set _ _ _ _ (by rw [List.length_set]; exact hl), getD_set _ _ _ _ (by omega), dK_step hf hk hks, h j hj, hq]
  have e1 : (j = q + 2) ↔ (j : Int) = (q : Int) + 2 := by omega
  have e2 : (j = q) ↔ (j : Int) = (q : Int) := by omega
  simp only [e1, e2]
theorem begD_end {s t f : Int} {ws : List Int} (hN : ws.length = (laySize s t f).toNat) (h2 : 2 < ws.length) (h : BegD s t f 1 ws) : wPut ws 2 (if 2 ≤ s then 2 else 0) = begL s t f := by
  rw [show (2 : Int) = ((2 : Nat) : Int) from rfl, wPut_set h2]
  refine begL_of (by rw [List.length_set]; exact hN) fun j hj => ?_
  rw [List.length_set] at hj
  rw [getD_set _ _ _ _ h2, h j hj, dK_low]
  unfold begAt
  by_cases hj2 : j = 2
  · rw [if_pos hj2, if_pos (show (j : Int) = 2 by omega)]
    rfl
  · rw [if_neg hj2, if_neg (by omega)]
end Go.Proofs.YtokcbipmocpllaaDoor

