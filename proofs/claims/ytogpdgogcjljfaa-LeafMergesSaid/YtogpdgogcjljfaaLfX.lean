/-
  leaf.FromLeft.
-/
import Derived.Test.YtogpdgogcjljfaaLfW
namespace Go.Proofs.Ytogpdgogcjljfaa
open Go.RowKit

set_option maxRecDepth 100000 in
set_option maxHeartbeats 4000000 in
theorem froml_yes (v v' : Value) (b b' : Bool) (ks vs ks' vs' : List Int) (l l' : Int) (w : World) (hl : ks.length ≤ 1000) (hl' : vs.length ≤ 1000) (hm : ks'.length ≤ 1000) (hm' : vs'.length ≤ 1000) (h : Nd w w.heap.size v b ks vs l) (h' : Nd w w.heap.size v' b' ks' vs' l') (hf : fitB b b' ks vs ks' vs' = true) (hkv : ks.length = vs.length) (q : Nat) (h2 : ks.length = q + 1) :
    Calls Try.prog 17 #[v, v'] w fun e w' => (∃ u u', e = .returned (.tuple #[u, u', .int .u64 (ks.getD q 0)]) ∧ NdO w' w.heap.size u false (cutL ks 0 q) (cutL vs 0 q) l ∧ NdO w' w.heap.size u' false (cutL ks q (q + 1) ++ ks') (cutL vs q (q + 1) ++ vs') l') ∧ Below w.heap.size w w' := by
  have F1 := hide (fun w2 (hB : Below w.heap.size w w2) => fit_any v v' b b' ks vs ks' vs' l l' w2 hl hl' hm hm' ((h.below hB).more hB.size) ((h'.below hB).more hB.size))
  rw [hf] at F1
  have C1 := hide (fun w2 (hB : Below w.heap.size w w2) => cut_any v b ks vs l l 0 q w2 (by omega) (by omega) (by omega) (by omega) (by omega) ((h.below hB).more hB.size))
  have C2 := hide (fun w2 (hB : Below w.heap.size w w2) => cut_any v b ks vs l 0 q (q + 1) w2 (by omega) (by omega) (by omega) (by omega) (by omega) ((h.below hB).more hB.size))
  have l1 := cutL_len ks q (q + 1) (by omega)
  have l2 := cutL_len vs q (q + 1) (by omega)
  have Jn := hide (fun (u : Value) w2 (hB : Below w.heap.size w w2) (hN : Nd w2 w2.heap.size u false (cutL ks q (q + 1)) (cutL vs q (q + 1)) 0) => joined_any u v' false b' (cutL ks q (q + 1)) (cutL vs q (q + 1)) ks' vs' 0 l' l' w2 (by omega) (by omega) (by omega) (by omega) hN ((h'.below hB).more hB.size))
  have zz0 : ((0 : Nat) : Int) = 0 := rfl
  rw [zz0] at C1
  rw [show ((q + 1 : Nat) : Int) = (q : Int) + 1 by omega] at C2
  obtain ⟨A', c', B', d', rfl⟩ := ValN w b' ks' vs' l' v' h'
  obtain ⟨k0, u0, rfl, hk0, hu0⟩ := h
  obtain ⟨A, c, rfl, hc1, hc2, hrk⟩ := hk0
  obtain ⟨B, d, rfl, _⟩ := hu0
  have hqk : q < ks.length := by omega
  obtain ⟨ad, rfl, hkl, _⟩ := hrk.word hqk
  have Zc := hide (fun w2 (hB : Below w.heap.size w w2) => word_cell hrk hqk hkl hB)
  have G1 : ks.getD q 0 = ks[q] := by simp [List.getD, hkl]
  rw [G1]
  generalize ks[q] = mid at *
  have hq3 : (0 : Int) ≤ (q : Int) := by omega
  have hq5 : (q : Int) ≤ 1000 := by omega
  have hq6 : ((ks.length : Nat) : Int) = (q : Int) + 1 := by omega
  generalize cutL ks q (q + 1) ++ ks' = p2 at *
  generalize cutL vs q (q + 1) ++ vs' = q2 at *
  generalize cutL ks q (q + 1) = p0 at *
  generalize cutL vs q (q + 1) = q0 at *
  generalize cutL ks 0 q = p1 at *
  generalize cutL vs 0 q = q1 at *
  clear hl hl' hm hm' hf hkv l1 l2 zz0 hrk hkl G1 hqk h' hc1
  have hwq : IntKind.i64.wrap (q : Int) = (q : Int) := IntWalk.i64_in _ (by omega)
  have e2 : (q : Int) < (q : Int) + 1 := by omega
  rw [h2] at F1 C1 C2 ⊢
  clear hq6
  clear h2
  generalize vs.length = m at *
  generalize ks'.length = n' at *
  generalize vs'.length = m' at *
  have bx := Blk.new w 27 #[.bool b, .slice (some ad) (q + 1) c, .slice B m d, .int .u64 l]
  have hb := (Below.refl w.heap.size w).alloc (Nat.le_refl _) (.cells #[.bool b, .slice (some ad) (q + 1) c, .slice B m d, .int .u64 l] 27)
  have by_ := Blk.new (w.alloc (.cells #[.bool b, .slice (some ad) (q + 1) c, .slice B m d, .int .u64 l] 27)) 27 #[.bool b', .slice A' n' c', .slice B' m' d', .int .u64 l']
  replace bx := bx.alloc (.cells #[.bool b', .slice A' n' c', .slice B' m' d', .int .u64 l'] 27)
  replace hb := hb.alloc hb.size (.cells #[.bool b', .slice A' n' c', .slice B' m' d', .int .u64 l'] 27)
  have bo := Blk.new ((w.alloc (.cells #[.bool b, .slice (some ad) (q + 1) c, .slice B m d, .int .u64 l] 27)).alloc (.cells #[.bool b', .slice A' n' c', .slice B' m' d', .int .u64 l'] 27)) 27 #[.bool false, .slice none 0 0, .slice none 0 0, .int .u64 0]
  replace bx := bx.alloc (.cells #[.bool false, .slice none 0 0, .slice none 0 0, .int .u64 0] 27)
  replace by_ := by_.alloc (.cells #[.bool false, .slice none 0 0, .slice none 0 0, .int .u64 0] 27)
  replace hb := hb.alloc hb.size (.cells #[.bool false, .slice none 0 0, .slice none 0 0, .int .u64 0] 27)
  have bz := Blk.new (((w.alloc (.cells #[.bool b, .slice (some ad) (q + 1) c, .slice B m d, .int .u64 l] 27)).alloc (.cells #[.bool b', .slice A' n' c', .slice B' m' d', .int .u64 l'] 27)).alloc (.cells #[.bool false, .slice none 0 0, .slice none 0 0, .int .u64 0] 27)) 27 #[.bool false, .slice none 0 0, .slice none 0 0, .int .u64 0]
  replace bx := bx.alloc (.cells #[.bool false, .slice none 0 0, .slice none 0 0, .int .u64 0] 27)
  replace by_ := by_.alloc (.cells #[.bool false, .slice none 0 0, .slice none 0 0, .int .u64 0] 27)
  replace bo := bo.alloc (.cells #[.bool false, .slice none 0 0, .slice none 0 0, .int .u64 0] 27)
  replace hb := hb.alloc hb.size (.cells #[.bool false, .slice none 0 0, .slice none 0 0, .int .u64 0] 27)
  simp only [World.size_alloc] at by_ bo bz
  have x1 := hide (show w.heap.size ≠ w.heap.size + 1 + 1 by omega)
  have x2 := hide (show w.heap.size ≠ w.heap.size + 1 + 1 + 1 by omega)
  have y1 := hide (show w.heap.size + 1 ≠ w.heap.size + 1 + 1 by omega)
  have y2 := hide (show w.heap.size + 1 ≠ w.heap.size + 1 + 1 + 1 by omega)
  have n5 := hide (show w.heap.size + 1 + 1 ≠ w.heap.size + 1 + 1 + 1 by omega)
  have n3 := hide (show w.heap.size ≤ w.heap.size + 1 + 1 by omega)
  have n4 := hide (show w.heap.size ≤ w.heap.size + 1 + 1 + 1 by omega)
  have HG1 := hide (show w.heap.size + 1 + 1 < w.heap.size + 1 + 1 + 1 + 1 by omega)
  have HG2 := hide (show w.heap.size + 1 + 1 + 1 < w.heap.size + 1 + 1 + 1 + 1 by omega)
  have HLE := hide (show w.heap.size ≤ w.heap.size + 1 + 1 + 1 + 1 by omega)
  go_enter Try.func17, Try.ntmps17
  go_wp2_with fail
  generalize (((w.alloc (.cells #[.bool b, .slice (some ad) (q + 1) c, .slice B m d, .int .u64 l] 27)).alloc (.cells #[.bool b', .slice A' n' c', .slice B' m' d', .int .u64 l'] 27)).alloc (.cells #[.bool false, .slice none 0 0, .slice none 0 0, .int .u64 0] 27)).alloc (.cells #[.bool false, .slice none 0 0, .slice none 0 0, .int .u64 0] 27) = w0 at *
  refine (F1.out _ hb).mono ?_
  rintro e w1 ⟨rfl, hb1⟩
  replace bx := bx.below hb1 bx.lt
  replace by_ := by_.below hb1 by_.lt
  replace bo := bo.below hb1 bo.lt
  replace bz := bz.below hb1 bz.lt
  replace hb := hb.trans (hb1.mono hb.size)
  clear hb1 F1
  have mx := fun i => bx.cell i
  have my := fun i => by_.cell i
  have mo := fun i => bo.cell i
  have zo := fun i => bo.frozen i
  have mz := fun i => bz.cell i
  have zz := fun i => bz.frozen i
  go_wp2_with fail
  clear mx my mo zo mz zz
  replace bx := bx.drew
  replace by_ := by_.drew
  replace bo := bo.drew
  replace bz := bz.drew
  replace hb := hb.drew
  have HB1 := hide (show w.heap.size + 1 + 1 + 1 + 1 ≤ w1.drew.heap.size from bz.lt)
  refine wp_region_heldZ [] (fun w' => (w'.cell? ⟨w.heap.size, 0, none⟩ = some (.bool b) ∧ w'.cell? ⟨w.heap.size, 1, none⟩ = some (.slice (some ad) (q + 1) c) ∧ w'.cell? ⟨w.heap.size, 2, none⟩ = some (.slice B m d) ∧ w'.cell? ⟨w.heap.size, 3, none⟩ = some (.int .u64 l)) ∧ (w'.cell? ⟨w.heap.size + 1, 0, none⟩ = some (.bool b') ∧ w'.cell? ⟨w.heap.size + 1, 1, none⟩ = some (.slice A' n' c') ∧ w'.cell? ⟨w.heap.size + 1, 2, none⟩ = some (.slice B' m' d') ∧ w'.cell? ⟨w.heap.size + 1, 3, none⟩ = some (.int .u64 l')) ∧ w'.cell? (ad.add q) = some (.int .u64 mid)) (by kernel_rfl) (by exact ⟨cellsN bx, cellsN by_, Zc.out _ hb⟩) (fun hHeld => ?_)
  refine' wpAnyZ_takeA (i := 0) (v := ?_) (opAt rfl) (by kernel_rfl) (by kernel_rfl) (by kernel_rfl) (by kernel_rfl) (fun _ _ _ h => h) (by assumption) (by rfl) (fun w hSw => ?_) ?_
  rotate_left
  · (try dsimp only at hSw); go_simp; (try with_reducible rfl)
  try simp only [Act.put, List.setIfInBounds_toArray, List.set_cons_zero, List.set_cons_succ]
  refine' wpAnyZ_takeA (i := 1) (v := ?_) (opAt rfl) (by kernel_rfl) (by kernel_rfl) (by kernel_rfl) (by kernel_rfl) (fun _ _ _ h => h) (by assumption) (by rfl) (fun w hSw => ?_) ?_
  rotate_left
  · (try dsimp only at hSw); go_simp; (try with_reducible rfl)
  try simp only [Act.put, List.setIfInBounds_toArray, List.set_cons_zero, List.set_cons_succ]
  refine' wpAnyZ_takeA (i := 2) (v := ?_) (opAt rfl) (by kernel_rfl) (by kernel_rfl) (by kernel_rfl) (by kernel_rfl) (fun _ _ _ h => h) (by assumption) (by rfl) (fun w hSw => ?_) ?_
  rotate_left
  · (try dsimp only at hSw); go_simp; (try with_reducible rfl)
  try simp only [Act.put, List.setIfInBounds_toArray, List.set_cons_zero, List.set_cons_succ]
  refine' wpAnyZ_takeA (i := 3) (v := ?_) (opAt rfl) (by kernel_rfl) (by kernel_rfl) (by kernel_rfl) (by kernel_rfl) (fun _ _ _ h => h) (by assumption) (by rfl) (fun w hSw => ?_) ?_
  rotate_left
  · (try dsimp only at hSw); go_simp; (try with_reducible rfl)
  try simp only [Act.put, List.setIfInBounds_toArray, List.set_cons_zero, List.set_cons_succ]
  refine' wpAnyZ_takeA (i := 4) (v := ?_) (opAt rfl) (by kernel_rfl) (by kernel_rfl) (by kernel_rfl) (by kernel_rfl) (fun _ _ _ h => h) (by assumption) (by rfl) (fun w hSw => ?_) ?_
  rotate_left
  · (try dsimp only at hSw); go_simp; (try with_reducible rfl)
  try simp only [Act.put, List.setIfInBounds_toArray, List.set_cons_zero, List.set_cons_succ]
  refine' wpAnyZ_takeA (i := 6) (v := ?_) (opAt rfl) (by kernel_rfl) (by kernel_rfl) (by kernel_rfl) (by kernel_rfl) (fun _ _ _ h => h) (by assumption) (by rfl) (fun w hSw => ?_) ?_
  rotate_left
  · (try dsimp only at hSw); go_simp; (try with_reducible rfl)
  try simp only [Act.put, List.setIfInBounds_toArray, List.set_cons_zero, List.set_cons_succ]
  refine' wpAnyZ_takeA (i := 7) (v := ?_) (opAt rfl) (by kernel_rfl) (by kernel_rfl) (by kernel_rfl) (by kernel_rfl) (fun _ _ _ h => h) (by assumption) (by rfl) (fun w hSw => ?_) ?_
  rotate_left
  · (try dsimp only at hSw); go_simp; (try with_reducible rfl)
  try simp only [Act.put, List.setIfInBounds_toArray, List.set_cons_zero, List.set_cons_succ]
  refine' wpAnyZ_takeA (i := 8) (v := ?_) (opAt rfl) (by kernel_rfl) (by kernel_rfl) (by kernel_rfl) (by kernel_rfl) (fun _ _ _ h => h) (by assumption) (by rfl) (fun w hSw => ?_) ?_
  rotate_left
  · (try dsimp only at hSw); go_simp; (try with_reducible rfl)
  try simp only [Act.put, List.setIfInBounds_toArray, List.set_cons_zero, List.set_cons_succ]
  refine' wpAnyZ_takeA (i := 9) (v := ?_) (opAt rfl) (by kernel_rfl) (by kernel_rfl) (by kernel_rfl) (by kernel_rfl) (fun _ _ _ h => h) (by assumption) (by rfl) (fun w hSw => ?_) ?_
  rotate_left
  · (try dsimp only at hSw); go_simp; (try with_reducible rfl)
  try simp only [Act.put, List.setIfInBounds_toArray, List.set_cons_zero, List.set_cons_succ]
  refine' wpAnyZ_takeA (i := 11) (v := ?_) (opAt rfl) (by kernel_rfl) (by kernel_rfl) (by kernel_rfl) (by kernel_rfl) (fun _ _ _ h => h) (by assumption) (by rfl) (fun w hSw => ?_) ?_
  rotate_left
  · (try dsimp only at hSw); go_simp; (try with_reducible rfl)
  try simp only [Act.put, List.setIfInBounds_toArray, List.set_cons_zero, List.set_cons_succ]
  refine' wpAnyZ_takeA (i := 12) (v := ?_) (opAt rfl) (by kernel_rfl) (by kernel_rfl) (by kernel_rfl) (by kernel_rfl) (fun _ _ _ h => h) (by assumption) (by rfl) (fun w hSw => ?_) ?_
  rotate_left
  · (try dsimp only at hSw); go_simp; (try with_reducible rfl)
  try simp only [Act.put, List.setIfInBounds_toArray, List.set_cons_zero, List.set_cons_succ]
  refine' wpAnyZ_takeA (i := 13) (v := ?_) (opAt rfl) (by kernel_rfl) (by kernel_rfl) (by kernel_rfl) (by kernel_rfl) (fun _ _ _ h => h) (by assumption) (by rfl) (fun w hSw => ?_) ?_
  rotate_left
  · (try dsimp only at hSw); go_simp; (try with_reducible rfl)
  try simp only [Act.put, List.setIfInBounds_toArray, List.set_cons_zero, List.set_cons_succ]
  refine' wpAnyZ_takeA (i := 15) (v := ?_) (opAt rfl) (by kernel_rfl) (by kernel_rfl) (by kernel_rfl) (by kernel_rfl) (fun _ _ _ h => h) (by assumption) (by rfl) (fun w hSw => ?_) ?_
  rotate_left
  · (try dsimp only at hSw); go_simp; (try with_reducible rfl)
  try simp only [Act.put, List.setIfInBounds_toArray, List.set_cons_zero, List.set_cons_succ]
  refine' wpAnyZ_takeA (i := 16) (v := ?_) (opAt rfl) (by kernel_rfl) (by kernel_rfl) (by kernel_rfl) (by kernel_rfl) (fun _ _ _ h => h) (by assumption) (by rfl) (fun w hSw => ?_) ?_
  rotate_left
  · (try dsimp only at hSw); go_simp; (try with_reducible rfl)
  try simp only [Act.put, List.setIfInBounds_toArray, List.set_cons_zero, List.set_cons_succ]
  refine' wpAnyZ_takeA (i := 17) (v := ?_) (opAt rfl) (by kernel_rfl) (by kernel_rfl) (by kernel_rfl) (by kernel_rfl) (fun _ _ _ h => h) (by assumption) (by rfl) (fun w hSw => ?_) ?_
  rotate_left
  · (try dsimp only at hSw); go_simp; (try with_reducible rfl)
  try simp only [Act.put, List.setIfInBounds_toArray, List.set_cons_zero, List.set_cons_succ]
  refine' wpAnyZ_takeA (i := 18) (v := ?_) (opAt rfl) (by kernel_rfl) (by kernel_rfl) (by kernel_rfl) (by kernel_rfl) (fun _ _ _ h => h) (by assumption) (by rfl) (fun w hSw => ?_) ?_
  rotate_left
  · (try dsimp only at hSw); go_simp; (try with_reducible rfl)
  try simp only [Act.put, List.setIfInBounds_toArray, List.set_cons_zero, List.set_cons_succ]
  refine' wpAnyZ_takeA (i := 19) (v := ?_) (opAt rfl) (by kernel_rfl) (by kernel_rfl) (by kernel_rfl) (by kernel_rfl) (fun _ _ _ h => h) (by assumption) (by rfl) (fun w hSw => ?_) ?_
  rotate_left
  · (try dsimp only at hSw); go_simp; (try with_reducible rfl)
  try simp only [Act.put, List.setIfInBounds_toArray, List.set_cons_zero, List.set_cons_succ]
  refine' wpAnyZ_takeA (i := 20) (v := ?_) (opAt rfl) (by kernel_rfl) (by kernel_rfl) (by kernel_rfl) (by kernel_rfl) (fun _ _ _ h => h) (by assumption) (by rfl) (fun w hSw => ?_) ?_
  rotate_left
  · (try dsimp only at hSw); go_simp; (try with_reducible rfl)
  try simp only [Act.put, List.setIfInBounds_toArray, List.set_cons_zero, List.set_cons_succ]
  refine wpAnyZ_ready (rs := [5]) (by kernel_rfl) (by simp) ?_
  refine AllReadyZ.cons (opAt rfl) (fun K hK => ?_) ?_
  · skip
    go_simp
    refine (C1.out _ hb).mono ?_
    rintro e wc ⟨⟨u1, rfl, r1⟩, hb1⟩
    have r1' := r1.nd
    replace r1 := r1.mono HB1.out
    replace HB1 := hide (Nat.le_trans HB1.out hb1.size)
    replace bx := bx.below hb1 bx.lt
    replace by_ := by_.below hb1 by_.lt
    replace bo := bo.below hb1 bo.lt
    replace bz := bz.below hb1 bz.lt
    replace hb := hb.trans (hb1.mono hb.size)
    clear hb1
    obtain ⟨A1, c1, B1, d1, rfl⟩ := r1.val
    try go_wp2_with fail
    refine hK.out _ _ (by exact ⟨cellsN bx, cellsN by_, Zc.out _ hb⟩) (fun hHeld => ?_)
    clear hK K
    try simp only [Act.put, List.setIfInBounds_toArray, List.set_cons_zero, List.set_cons_succ]
    refine wpAnyZ_ready (rs := [10]) (by kernel_rfl) (by simp) ?_
    refine AllReadyZ.cons (opAt rfl) (fun K hK => ?_) ?_
    · skip
      go_simp
      refine (C2.out _ hb).mono ?_
      rintro e wc ⟨⟨u0, rfl, r0⟩, hb1⟩
      have r0' := r0.nd
      replace r0 := r0.mono HB1.out
      replace HB1 := hide (Nat.le_trans HB1.out hb1.size)
      replace r1 := r1.below hb1
      replace bx := bx.below hb1 bx.lt
      replace by_ := by_.below hb1 by_.lt
      replace bo := bo.below hb1 bo.lt
      replace bz := bz.below hb1 bz.lt
      replace hb := hb.trans (hb1.mono hb.size)
      clear hb1
      obtain ⟨A0, c0, B0, d0, rfl⟩ := r0.val
      try go_wp2_with fail
      refine hK.out _ _ (by exact ⟨cellsN bx, cellsN by_, Zc.out _ hb⟩) (fun hHeld => ?_)
      clear hK K
      try simp only [Act.put, List.setIfInBounds_toArray, List.set_cons_zero, List.set_cons_succ]
      refine wpAnyZ_ready (rs := [14]) (by kernel_rfl) (by simp) ?_
      refine AllReadyZ.cons (opAt rfl) (fun K hK => ?_) ?_
      · skip
        go_simp
        refine (Jn.out _ _ hb r0').mono ?_
        rintro e wc ⟨⟨u2, rfl, r2⟩, hb1⟩
        have r2' := r2.nd
        replace r2 := r2.mono HB1.out
        replace HB1 := hide (Nat.le_trans HB1.out hb1.size)
        replace r1 := r1.below hb1
        replace bx := bx.below hb1 bx.lt
        replace by_ := by_.below hb1 by_.lt
        replace bo := bo.below hb1 bo.lt
        replace bz := bz.below hb1 bz.lt
        replace hb := hb.trans (hb1.mono hb.size)
        clear hb1
        obtain ⟨A2, c2, B2, d2, rfl⟩ := r2.val
        try go_wp2_with fail
        refine hK.out _ _ (by exact ⟨cellsN bx, cellsN by_, Zc.out _ hb⟩) (fun hHeld => ?_)
        clear hK K
        try simp only [Act.put, List.setIfInBounds_toArray, List.set_cons_zero, List.set_cons_succ]
        refine wpAnyZ_ready (rs := [21]) (by kernel_rfl) (by simp) ?_
        refine AllReadyZ.cons (opAt rfl) (fun K hK => ?_) ?_
        · skip
          have zq := fun i => bo.frozen i
          have mq := fun i => bo.cell i
          go_simp
          clear zq mq
          replace bo := bo.setN (.bool false) (.slice A1 p1.length c1) (.slice B1 q1.length d1) (.int .u64 l)
          replace bz := bz.far4 n5.out.symm (.bool false) (.slice A1 p1.length c1) (.slice B1 q1.length d1) (.int .u64 l)
          replace bx := bx.far4 x1.out (.bool false) (.slice A1 p1.length c1) (.slice B1 q1.length d1) (.int .u64 l)
          replace by_ := by_.far4 y1.out (.bool false) (.slice A1 p1.length c1) (.slice B1 q1.length d1) (.int .u64 l)
          replace r1 := r1.farN HG1.out (.bool false) (.slice A1 p1.length c1) (.slice B1 q1.length d1) (.int .u64 l)
          replace r2 := r2.farN HG1.out (.bool false) (.slice A1 p1.length c1) (.slice B1 q1.length d1) (.int .u64 l)
          replace hb := below_setN hb (g := w.heap.size + 1 + 1) n3.out (.bool false) (.slice A1 p1.length c1) (.slice B1 q1.length d1) (.int .u64 l)
          generalize (((wc.setCell ⟨w.heap.size + 1 + 1, 0, none⟩ (.bool false)).setCell ⟨w.heap.size + 1 + 1, 1, none⟩ (.slice A1 p1.length c1)).setCell ⟨w.heap.size + 1 + 1, 2, none⟩ (.slice B1 q1.length d1)).setCell ⟨w.heap.size + 1 + 1, 3, none⟩ (.int .u64 l) = wd at *
          refine hK.out _ _ (by exact ⟨cellsN bx, cellsN by_, Zc.out _ hb⟩) (fun hHeld => ?_)
          clear hK K
          try simp only [Act.put, List.setIfInBounds_toArray, List.set_cons_zero, List.set_cons_succ]
          refine wpAnyZ_ready (rs := [22]) (by kernel_rfl) (by simp) ?_
          refine AllReadyZ.cons (opAt rfl) (fun K hK => ?_) ?_
          · skip
            have zq := fun i => bz.frozen i
            have mq := fun i => bz.cell i
            go_simp
            clear zq mq
            replace bz := bz.setN (.bool false) (.slice A2 p2.length c2) (.slice B2 q2.length d2) (.int .u64 l')
            replace bo := bo.far4 n5.out (.bool false) (.slice A2 p2.length c2) (.slice B2 q2.length d2) (.int .u64 l')
            replace bx := bx.far4 x2.out (.bool false) (.slice A2 p2.length c2) (.slice B2 q2.length d2) (.int .u64 l')
            replace by_ := by_.far4 y2.out (.bool false) (.slice A2 p2.length c2) (.slice B2 q2.length d2) (.int .u64 l')
            replace r1 := r1.farN HG2.out (.bool false) (.slice A2 p2.length c2) (.slice B2 q2.length d2) (.int .u64 l')
            replace r2 := r2.farN HG2.out (.bool false) (.slice A2 p2.length c2) (.slice B2 q2.length d2) (.int .u64 l')
            replace hb := below_setN hb (g := w.heap.size + 1 + 1 + 1) n4.out (.bool false) (.slice A2 p2.length c2) (.slice B2 q2.length d2) (.int .u64 l')
            generalize (((wd.setCell ⟨w.heap.size + 1 + 1 + 1, 0, none⟩ (.bool false)).setCell ⟨w.heap.size + 1 + 1 + 1, 1, none⟩ (.slice A2 p2.length c2)).setCell ⟨w.heap.size + 1 + 1 + 1, 2, none⟩ (.slice B2 q2.length d2)).setCell ⟨w.heap.size + 1 + 1 + 1, 3, none⟩ (.int .u64 l') = we at *
            refine hK.out _ _ (by exact ⟨cellsN bx, cellsN by_, Zc.out _ hb⟩) (fun hHeld => ?_)
            clear hK K
            try simp only [Act.put, List.setIfInBounds_toArray, List.set_cons_zero, List.set_cons_succ]
            refine' wpAnyZ_takeA (i := 23) (v := ?_) (opAt rfl) (by kernel_rfl) (by kernel_rfl) (by kernel_rfl) (by kernel_rfl) (fun _ _ _ h => h) (by assumption) (by rfl) (fun w hSw => ?_) ?_
            rotate_left
            · (try dsimp only at hSw); go_simp; (try with_reducible rfl)
            try simp only [Act.put, List.setIfInBounds_toArray, List.set_cons_zero, List.set_cons_succ]
            refine wpAnyZ_done (by kernel_rfl) ?_ _
            have m1 := fun i => bo.cell i
            have m2 := fun i => bz.cell i
            go_wp2_with fail
            refine bodyPost_ret (v := .tuple #[.agg #[.bool false, .slice A1 p1.length c1, .slice B1 q1.length d1, .int .u64 l], .agg #[.bool false, .slice A2 p2.length c2, .slice B2 q2.length d2, .int .u64 l'], .int .u64 mid]) (by simp [results, Try.results17, go_sem, m1, m2]) rfl ⟨⟨_, _, rfl, r1.mono HLE.out, r2.mono HLE.out⟩, hb⟩
          exact AllReadyZ.nil
        exact AllReadyZ.nil
      exact AllReadyZ.nil
    exact AllReadyZ.nil
  exact AllReadyZ.nil
end Go.Proofs.Ytogpdgogcjljfaa
