/-
  leaf.Split: two leaves of one.
-/
import Derived.Test.YtogpdgogcjljfaaLfOf
namespace Go.Proofs.Ytogpdgogcjljfaa
open Go.RowKit

def splitB (b : Bool) (ks vs : List Int) : Bool := rightB b ks vs && decide (2 ≤ ks.length)
def splitN (ks : List Int) : Nat := ks.length - ks.length / 2

set_option maxHeartbeats 4000000 in
theorem split_yes (v : Value) (b : Bool) (ks vs : List Int) (l : Int) (w : World) (hl : ks.length ≤ 1000) (h : Nd w w.heap.size v b ks vs l) (hr : rightB b ks vs = true) (h2 : 2 ≤ ks.length) :
    Calls Try.prog 13 #[v] w fun e w' => (∃ u1 u2, e = .returned (.tuple #[u1, u2, .int .u64 (ks.getD (splitN ks) 0)]) ∧ NdO w' w.heap.size u1 false (cutL ks 0 (splitN ks)) (cutL vs 0 (splitN ks)) 0 ∧ NdO w' w.heap.size u2 false (cutL ks (splitN ks) ks.length) (cutL vs (splitN ks) ks.length) l) ∧ Below w.heap.size w w' := by
  have hkv : ks.length = vs.length := by
    unfold rightB at hr
    simp only [Bool.and_eq_true, beq_iff_eq] at hr
    exact hr.1.2
  have hs : splitN ks < ks.length := by unfold splitN; omega
  have Es := hide (show (splitN ks : Int) = (ks.length : Int) - (ks.length : Int) / 2 by unfold splitN; omega)
  have Rt := hide (fun w2 (hB : Below w.heap.size w w2) => right_any v b ks vs l w2 (by omega) ((h.below hB).more hB.size))
  have P1 := hide (fun w2 (hB : Below w.heap.size w w2) => cut_any v b ks vs l 0 0 (splitN ks) w2 (by omega) (by omega) (by omega) (by omega) (by omega) ((h.below hB).more hB.size))
  have P2 := hide (fun w2 (hB : Below w.heap.size w w2) => cut_any v b ks vs l l (splitN ks) ks.length w2 (by omega) (by omega) (by omega) (by omega) (by omega) ((h.below hB).more hB.size))
  rw [hr] at Rt
  generalize splitN ks = q at *
  generalize cutL ks 0 q = x1 at *
  generalize cutL vs 0 q = y1 at *
  generalize cutL ks q ks.length = x2 at *
  generalize cutL vs q ks.length = y2 at *
  obtain ⟨k, u, rfl, hk1, hu1⟩ := h
  obtain ⟨A, c, rfl, _, _, hrk⟩ := hk1
  obtain ⟨A', c', rfl, _⟩ := hu1
  obtain ⟨ad, rfl, hkl, z0⟩ := hrk.word hs
  have G1 := hide (show ks.getD q 0 = ks[q] by simp [List.getD, hkl])
  rw [G1.out]
  generalize ks[q] = mid at *
  have qz := hide (fun w2 (hB : Below w.heap.size w w2) => keepCell hB z0)
  have zz : ((0 : Nat) : Int) = 0 := rfl
  rw [zz] at P1
  have adb : ad.block < w.heap.size := by
    have := World.block_lt_of_cell? _ _ z0
    rwa [block_of_add] at this
  have hdiv : ((ks.length : Int)).tdiv 2 = (ks.length : Int) / 2 := Int.tdiv_eq_ediv_of_nonneg (by omega)
  have hEq : (ks.length : Int) - (ks.length : Int) / 2 = (q : Int) := Es.out.symm
  have hh1 : 0 ≤ (ks.length : Int) / 2 := by omega
  have hh2 : (ks.length : Int) / 2 ≤ ks.length := by omega
  have KV := hide hkv
  clear hkv Es G1 hrk z0 hkl zz
  generalize (ks.length : Int) / 2 = hh at *
  generalize ks.length = n at *
  generalize vs.length = m at *
  have bx := ((Blk.new w 27 #[.bool b, .slice (some ad) n c, .slice A' m c', .int .u64 l]).alloc (.cells #[.bool false, .slice none 0 0, .slice none 0 0, .int .u64 0] 27)).alloc (.cells #[.bool false, .slice none 0 0, .slice none 0 0, .int .u64 0] 27)
  have bo := (Blk.new (w.alloc (.cells #[.bool b, .slice (some ad) n c, .slice A' m c', .int .u64 l] 27)) 27 #[.bool false, .slice none 0 0, .slice none 0 0, .int .u64 0]).alloc (.cells #[.bool false, .slice none 0 0, .slice none 0 0, .int .u64 0] 27)
  have bz := Blk.new ((w.alloc (.cells #[.bool b, .slice (some ad) n c, .slice A' m c', .int .u64 l] 27)).alloc (.cells #[.bool false, .slice none 0 0, .slice none 0 0, .int .u64 0] 27)) 27 #[.bool false, .slice none 0 0, .slice none 0 0, .int .u64 0]
  have hb := (((Below.refl w.heap.size w).alloc (Nat.le_refl _) (.cells #[.bool b, .slice (some ad) n c, .slice A' m c', .int .u64 l] 27)).alloc (by simp only [World.size_alloc]; omega) (.cells #[.bool false, .slice none 0 0, .slice none 0 0, .int .u64 0] 27)).alloc (by simp only [World.size_alloc]; omega) (.cells #[.bool false, .slice none 0 0, .slice none 0 0, .int .u64 0] 27)
  simp only [World.size_alloc] at bo bz
  go_enter Try.func13, Try.ntmps13
  go_wp2_with fail
  generalize ((w.alloc (.cells #[.bool b, .slice (some ad) n c, .slice A' m c', .int .u64 l] 27)).alloc (.cells #[.bool false, .slice none 0 0, .slice none 0 0, .int .u64 0] 27)).alloc (.cells #[.bool false, .slice none 0 0, .slice none 0 0, .int .u64 0] 27) = w0 at *
  refine (Rt.out _ hb).mono ?_
  rintro e w1 ⟨rfl, hb1⟩
  replace bx := bx.below hb1 bx.lt
  replace bo := bo.below hb1 bo.lt
  replace bz := bz.below hb1 bz.lt
  replace hb := hb.trans (hb1.mono hb.size)
  clear hb1
  have mbx := fun i => bx.cell i
  have zbx := fun i => bx.frozen i
  go_wp2_with fail
  have n1 := hide (show w.heap.size ≠ w.heap.size + 1 by omega)
  have n2 := hide (show w.heap.size ≠ w.heap.size + 1 + 1 by omega)
  have n3 := hide (show w.heap.size ≤ w.heap.size + 1 by omega)
  have n4 := hide (show w.heap.size ≤ w.heap.size + 1 + 1 by omega)
  have n5 := hide (show w.heap.size + 1 ≠ w.heap.size + 1 + 1 by omega)
  have HG1 := hide (show w.heap.size + 1 < w.heap.size + 1 + 1 + 1 by omega)
  have HG2 := hide (show w.heap.size + 1 + 1 < w.heap.size + 1 + 1 + 1 by omega)
  generalize w.heap.size + 1 + 1 = g2 at *
  generalize w.heap.size + 1 = g1 at *
  replace bx := bx.drew
  replace bo := bo.drew
  replace bz := bz.drew
  replace hb := hb.drew
  clear mbx zbx
  have HB1 := hide (show g2 + 1 ≤ w1.drew.heap.size from bz.lt)
  refine wp_region_heldZ [] (fun w' => (w'.cell? ⟨w.heap.size, 0, none⟩ = some (.bool b) ∧ w'.cell? ⟨w.heap.size, 1, none⟩ = some (.slice (some ad) n c) ∧ w'.cell? ⟨w.heap.size, 2, none⟩ = some (.slice A' m c') ∧ w'.cell? ⟨w.heap.size, 3, none⟩ = some (.int .u64 l)) ∧ w'.cell? (ad.add q) = some (.int .u64 mid)) (by kernel_rfl) (by exact ⟨cellsN bx, qz.out _ hb⟩) (fun hHeld => ?_)
  refine' wpAnyZ_takeA (i := 0) (v := ?_) (opAt rfl) (by kernel_rfl) (by kernel_rfl) (by kernel_rfl) (by kernel_rfl) (fun _ _ _ h => h) (by assumption) (by rfl) (fun w hSw => ?_) ?_
  rotate_left
  · (try dsimp only at hSw); go_simp; (try with_reducible rfl)
  try simp only [Act.put, List.setIfInBounds_toArray, List.set_cons_zero, List.set_cons_succ]
  refine' wpAnyZ_takeA (i := 1) (v := ?_) (opAt rfl) (by kernel_rfl) (by kernel_rfl) (by kernel_rfl) (by kernel_rfl) (fun _ _ _ h => h) (by assumption) (by rfl) (fun w hSw => ?_) ?_
  rotate_left
  · (try dsimp only at hSw); go_simp; (try with_reducible rfl)
  try simp only [Act.put, List.setIfInBounds_toArray, List.set_cons_zero, List.set_cons_succ]
  refine' wpAnyZ_takeA (i := 3) (v := ?_) (opAt rfl) (by kernel_rfl) (by kernel_rfl) (by kernel_rfl) (by kernel_rfl) (fun _ _ _ h => h) (by assumption) (by rfl) (fun w hSw => ?_) ?_
  rotate_left
  · (try dsimp only at hSw); go_simp; (try with_reducible rfl)
  try simp only [Act.put, List.setIfInBounds_toArray, List.set_cons_zero, List.set_cons_succ]
  refine' wpAnyZ_takeA (i := 4) (v := ?_) (opAt rfl) (by kernel_rfl) (by kernel_rfl) (by kernel_rfl) (by kernel_rfl) (fun _ _ _ h => h) (by assumption) (by rfl) (fun w hSw => ?_) ?_
  rotate_left
  · (try dsimp only at hSw); go_simp; (try with_reducible rfl)
  try simp only [Act.put, List.setIfInBounds_toArray, List.set_cons_zero, List.set_cons_succ]
  refine' wpAnyZ_takeA (i := 5) (v := ?_) (opAt rfl) (by kernel_rfl) (by kernel_rfl) (by kernel_rfl) (by kernel_rfl) (fun _ _ _ h => h) (by assumption) (by rfl) (fun w hSw => ?_) ?_
  rotate_left
  · (try dsimp only at hSw); go_simp; (try with_reducible rfl)
  try simp only [Act.put, List.setIfInBounds_toArray, List.set_cons_zero, List.set_cons_succ]
  refine' wpAnyZ_takeA (i := 6) (v := ?_) (opAt rfl) (by kernel_rfl) (by kernel_rfl) (by kernel_rfl) (by kernel_rfl) (fun _ _ _ h => h) (by assumption) (by rfl) (fun w hSw => ?_) ?_
  rotate_left
  · (try dsimp only at hSw); go_simp; (try with_reducible rfl)
  try simp only [Act.put, List.setIfInBounds_toArray, List.set_cons_zero, List.set_cons_succ]
  refine' wpAnyZ_takeA (i := 7) (v := ?_) (opAt rfl) (by kernel_rfl) (by kernel_rfl) (by kernel_rfl) (by kernel_rfl) (fun _ _ _ h => h) (by assumption) (by rfl) (fun w hSw => ?_) ?_
  rotate_left
  · (try dsimp only at hSw); go_simp; (try with_reducible rfl)
  try simp only [Act.put, List.setIfInBounds_toArray, List.set_cons_zero, List.set_cons_succ]
  refine' wpAnyZ_takeA (i := 8) (v := ?_) (opAt rfl) (by kernel_rfl) (by kernel_rfl) (by kernel_rfl) (by kernel_rfl) (fun _ _ _ h => h) (by assumption) (by rfl) (fun w hSw => ?_) ?_
  rotate_left
  · (try dsimp only at hSw); go_simp; (try with_reducible rfl)
  try simp only [Act.put, List.setIfInBounds_toArray, List.set_cons_zero, List.set_cons_succ]
  refine' wpAnyZ_takeA (i := 9) (v := ?_) (opAt rfl) (by kernel_rfl) (by kernel_rfl) (by kernel_rfl) (by kernel_rfl) (fun _ _ _ h => h) (by assumption) (by rfl) (fun w hSw => ?_) ?_
  rotate_left
  · (try dsimp only at hSw); go_simp; (try with_reducible rfl)
  try simp only [Act.put, List.setIfInBounds_toArray, List.set_cons_zero, List.set_cons_succ]
  refine' wpAnyZ_takeA (i := 11) (v := ?_) (opAt rfl) (by kernel_rfl) (by kernel_rfl) (by kernel_rfl) (by kernel_rfl) (fun _ _ _ h => h) (by assumption) (by rfl) (fun w hSw => ?_) ?_
  rotate_left
  · (try dsimp only at hSw); go_simp; (try with_reducible rfl)
  try simp only [Act.put, List.setIfInBounds_toArray, List.set_cons_zero, List.set_cons_succ]
  refine' wpAnyZ_takeA (i := 12) (v := ?_) (opAt rfl) (by kernel_rfl) (by kernel_rfl) (by kernel_rfl) (by kernel_rfl) (fun _ _ _ h => h) (by assumption) (by rfl) (fun w hSw => ?_) ?_
  rotate_left
  · (try dsimp only at hSw); go_simp; (try with_reducible rfl)
  try simp only [Act.put, List.setIfInBounds_toArray, List.set_cons_zero, List.set_cons_succ]
  refine' wpAnyZ_takeA (i := 13) (v := ?_) (opAt rfl) (by kernel_rfl) (by kernel_rfl) (by kernel_rfl) (by kernel_rfl) (fun _ _ _ h => h) (by assumption) (by rfl) (fun w hSw => ?_) ?_
  rotate_left
  · (try dsimp only at hSw); go_simp; (try with_reducible rfl)
  try simp only [Act.put, List.setIfInBounds_toArray, List.set_cons_zero, List.set_cons_succ]
  refine' wpAnyZ_takeA (i := 14) (v := ?_) (opAt rfl) (by kernel_rfl) (by kernel_rfl) (by kernel_rfl) (by kernel_rfl) (fun _ _ _ h => h) (by assumption) (by rfl) (fun w hSw => ?_) ?_
  rotate_left
  · (try dsimp only at hSw); go_simp; (try with_reducible rfl)
  try simp only [Act.put, List.setIfInBounds_toArray, List.set_cons_zero, List.set_cons_succ]
  refine' wpAnyZ_takeA (i := 15) (v := ?_) (opAt rfl) (by kernel_rfl) (by kernel_rfl) (by kernel_rfl) (by kernel_rfl) (fun _ _ _ h => h) (by assumption) (by rfl) (fun w hSw => ?_) ?_
  rotate_left
  · (try dsimp only at hSw); go_simp; (try with_reducible rfl)
  try simp only [Act.put, List.setIfInBounds_toArray, List.set_cons_zero, List.set_cons_succ]
  refine wpAnyZ_ready (rs := [2]) (by kernel_rfl) (by simp) ?_
  refine AllReadyZ.cons (opAt rfl) (fun K hK => ?_) ?_
  · skip
    go_simp
    refine (P1.out _ hb).mono ?_
    rintro e wc ⟨⟨u1, rfl, r1⟩, hb1⟩
    replace r1 := r1.mono HB1.out
    replace HB1 := hide (Nat.le_trans HB1.out hb1.size)
    replace bx := bx.below hb1 bx.lt
    replace bo := bo.below hb1 bo.lt
    replace bz := bz.below hb1 bz.lt
    replace hb := hb.trans (hb1.mono hb.size)
    clear hb1
    obtain ⟨A1, d1, A2, d2, rfl⟩ := r1.val
    try go_wp2_with fail
    refine hK.out _ _ (by exact ⟨cellsN bx, qz.out _ hb⟩) (fun hHeld => ?_)
    clear hK K
    try simp only [Act.put, List.setIfInBounds_toArray, List.set_cons_zero, List.set_cons_succ]
    refine wpAnyZ_ready (rs := [10]) (by kernel_rfl) (by simp) ?_
    refine AllReadyZ.cons (opAt rfl) (fun K hK => ?_) ?_
    · skip
      go_simp
      refine (P2.out _ hb).mono ?_
      rintro e wc ⟨⟨u2, rfl, r2⟩, hb1⟩
      replace r2 := r2.mono HB1.out
      replace HB1 := hide (Nat.le_trans HB1.out hb1.size)
      replace bx := bx.below hb1 bx.lt
      replace bo := bo.below hb1 bo.lt
      replace bz := bz.below hb1 bz.lt
      replace hb := hb.trans (hb1.mono hb.size)
      replace r1 := r1.below hb1
      clear hb1
      obtain ⟨A3, d3, A4, d4, rfl⟩ := r2.val
      try go_wp2_with fail
      refine hK.out _ _ (by exact ⟨cellsN bx, qz.out _ hb⟩) (fun hHeld => ?_)
      clear hK K
      try simp only [Act.put, List.setIfInBounds_toArray, List.set_cons_zero, List.set_cons_succ]
      refine wpAnyZ_ready (rs := [16]) (by kernel_rfl) (by simp) ?_
      refine AllReadyZ.cons (opAt rfl) (fun K hK => ?_) ?_
      · skip
        have zq := fun i => bo.frozen i
        have mq := fun i => bo.cell i
        go_simp
        clear zq mq
        replace bo := bo.setN (.bool false) (.slice A1 x1.length d1) (.slice A2 y1.length d2) (.int .u64 0)
        replace bz := bz.far4 n5.out.symm (.bool false) (.slice A1 x1.length d1) (.slice A2 y1.length d2) (.int .u64 0)
        replace bx := bx.far4 n1.out (.bool false) (.slice A1 x1.length d1) (.slice A2 y1.length d2) (.int .u64 0)
        replace r1 := r1.farN HG1.out (.bool false) (.slice A1 x1.length d1) (.slice A2 y1.length d2) (.int .u64 0)
        replace r2 := r2.farN HG1.out (.bool false) (.slice A1 x1.length d1) (.slice A2 y1.length d2) (.int .u64 0)
        replace hb := below_setN hb (g := g1) n3.out (.bool false) (.slice A1 x1.length d1) (.slice A2 y1.length d2) (.int .u64 0)
        generalize ((((wc.setCell ⟨g1, 0, none⟩ (.bool false)).setCell ⟨g1, 1, none⟩ (.slice A1 x1.length d1)).setCell ⟨g1, 2, none⟩ (.slice A2 y1.length d2)).setCell ⟨g1, 3, none⟩ (.int .u64 0)) = wd at *
        refine hK.out _ _ (by exact ⟨cellsN bx, qz.out _ hb⟩) (fun hHeld => ?_)
        clear hK K
        try simp only [Act.put, List.setIfInBounds_toArray, List.set_cons_zero, List.set_cons_succ]
        refine wpAnyZ_ready (rs := [17]) (by kernel_rfl) (by simp) ?_
        refine AllReadyZ.cons (opAt rfl) (fun K hK => ?_) ?_
        · skip
          have zq := fun i => bz.frozen i
          have mq := fun i => bz.cell i
          go_simp
          clear zq mq
          replace bz := bz.setN (.bool false) (.slice A3 x2.length d3) (.slice A4 y2.length d4) (.int .u64 l)
          replace bo := bo.far4 n5.out (.bool false) (.slice A3 x2.length d3) (.slice A4 y2.length d4) (.int .u64 l)
          replace bx := bx.far4 n2.out (.bool false) (.slice A3 x2.length d3) (.slice A4 y2.length d4) (.int .u64 l)
          replace r1 := r1.farN HG2.out (.bool false) (.slice A3 x2.length d3) (.slice A4 y2.length d4) (.int .u64 l)
          replace r2 := r2.farN HG2.out (.bool false) (.slice A3 x2.length d3) (.slice A4 y2.length d4) (.int .u64 l)
          replace hb := below_setN hb (g := g2) n4.out (.bool false) (.slice A3 x2.length d3) (.slice A4 y2.length d4) (.int .u64 l)
          generalize ((((wd.setCell ⟨g2, 0, none⟩ (.bool false)).setCell ⟨g2, 1, none⟩ (.slice A3 x2.length d3)).setCell ⟨g2, 2, none⟩ (.slice A4 y2.length d4)).setCell ⟨g2, 3, none⟩ (.int .u64 l)) = we at *
          refine hK.out _ _ (by exact ⟨cellsN bx, qz.out _ hb⟩) (fun hHeld => ?_)
          clear hK K
          try simp only [Act.put, List.setIfInBounds_toArray, List.set_cons_zero, List.set_cons_succ]
          refine' wpAnyZ_takeA (i := 18) (v := ?_) (opAt rfl) (by kernel_rfl) (by kernel_rfl) (by kernel_rfl) (by kernel_rfl) (fun _ _ _ h => h) (by assumption) (by rfl) (fun w hSw => ?_) ?_
          rotate_left
          · (try dsimp only at hSw); go_simp; (try with_reducible rfl)
          try simp only [Act.put, List.setIfInBounds_toArray, List.set_cons_zero, List.set_cons_succ]
          refine wpAnyZ_done (by kernel_rfl) ?_ _
          have m1 := fun i => bo.cell i
          have m2 := fun i => bz.cell i
          go_wp2_with fail
          refine bodyPost_ret (v := .tuple #[.agg #[.bool false, .slice A1 x1.length d1, .slice A2 y1.length d2, .int .u64 0], .agg #[.bool false, .slice A3 x2.length d3, .slice A4 y2.length d4, .int .u64 l], .int .u64 mid]) (by simp [results, Try.results13, go_sem, m1, m2]) rfl ⟨⟨_, _, rfl, r1.mono (Nat.le_succ_of_le n4.out), r2.mono (Nat.le_succ_of_le n4.out)⟩, hb⟩
        exact AllReadyZ.nil
      exact AllReadyZ.nil
    exact AllReadyZ.nil
  exact AllReadyZ.nil

set_option maxHeartbeats 2000000 in
theorem split_no (v : Value) (b : Bool) (ks vs : List Int) (l : Int) (w : World) (hl : ks.length ≤ 1000) (h : Nd w w.heap.size v b ks vs l) (hr : splitB b ks vs = false) :
    Calls Try.prog 13 #[v] w fun e w' => e = .returned (.tuple #[.agg #[.bool false, .slice none 0 0, .slice none 0 0, .int .u64 0], .agg #[.bool false, .slice none 0 0, .slice none 0 0, .int .u64 0], .int .u64 0]) ∧ Below w.heap.size w w' := by
  have Rt := hide (fun w2 (hB : Below w.heap.size w w2) => right_any v b ks vs l w2 (by omega) ((h.below hB).more hB.size))
  obtain ⟨k, u, rfl, hk1, hu1⟩ := h
  obtain ⟨A, c, rfl, _, _, _⟩ := hk1
  obtain ⟨A', c', rfl, _⟩ := hu1
  have bx := ((Blk.new w 27 #[.bool b, .slice A ks.length c, .slice A' vs.length c', .int .u64 l]).alloc (.cells #[.bool false, .slice none 0 0, .slice none 0 0, .int .u64 0] 27)).alloc (.cells #[.bool false, .slice none 0 0, .slice none 0 0, .int .u64 0] 27)
  have bo := (Blk.new (w.alloc (.cells #[.bool b, .slice A ks.length c, .slice A' vs.length c', .int .u64 l] 27)) 27 #[.bool false, .slice none 0 0, .slice none 0 0, .int .u64 0]).alloc (.cells #[.bool false, .slice none 0 0, .slice none 0 0, .int .u64 0] 27)
  have bz := Blk.new ((w.alloc (.cells #[.bool b, .slice A ks.length c, .slice A' vs.length c', .int .u64 l] 27)).alloc (.cells #[.bool false, .slice none 0 0, .slice none 0 0, .int .u64 0] 27)) 27 #[.bool false, .slice none 0 0, .slice none 0 0, .int .u64 0]
  have hb := (((Below.refl w.heap.size w).alloc (Nat.le_refl _) (.cells #[.bool b, .slice A ks.length c, .slice A' vs.length c', .int .u64 l] 27)).alloc (by simp only [World.size_alloc]; omega) (.cells #[.bool false, .slice none 0 0, .slice none 0 0, .int .u64 0] 27)).alloc (by simp only [World.size_alloc]; omega) (.cells #[.bool false, .slice none 0 0, .slice none 0 0, .int .u64 0] 27)
  simp only [World.size_alloc] at bo bz
  have hsm : rightB b ks vs = false ∨ (rightB b ks vs = true ∧ (ks.length : Int) < 2) := by
    unfold splitB at hr
    cases hq : rightB b ks vs with
    | false => exact .inl rfl
    | true =>
      rw [hq] at hr
      simp at hr
      exact .inr ⟨rfl, by omega⟩
  clear hr
  have n5 := hide (show w.heap.size + 1 ≠ w.heap.size + 1 + 1 by omega)
  have n3 := hide (show w.heap.size ≤ w.heap.size + 1 by omega)
  have n4 := hide (show w.heap.size ≤ w.heap.size + 1 + 1 by omega)
  rcases hsm with hq | ⟨hq, hs⟩
  all_goals
    rw [hq] at Rt
    clear hq
    generalize ks.length = n at *
    generalize vs.length = m at *
    go_enter Try.func13, Try.ntmps13
    go_wp2_with fail
    generalize ((w.alloc (.cells #[.bool b, .slice A n c, .slice A' m c', .int .u64 l] 27)).alloc (.cells #[.bool false, .slice none 0 0, .slice none 0 0, .int .u64 0] 27)).alloc (.cells #[.bool false, .slice none 0 0, .slice none 0 0, .int .u64 0] 27) = w0 at *
    refine (Rt.out _ hb).mono ?_
    rintro e w1 ⟨rfl, hb1⟩
    replace bx := bx.below hb1 bx.lt
    replace bo := bo.below hb1 bo.lt
    replace bz := bz.below hb1 bz.lt
    replace hb := hb.trans (hb1.mono hb.size)
    clear hb1
    have mx := fun i => bx.cell i
    have mo := fun i => bo.cell i
    have zo := fun i => bo.frozen i
    have mz := fun i => bz.cell i
    have zz := fun i => bz.frozen i
    go_wp2_with fail
    have b8 := bo.setN (.bool false) (.slice none 0 0) (.slice none 0 0) (.int .u64 0)
    have z8 := bz.far4 n5.out.symm (.bool false) (.slice none 0 0) (.slice none 0 0) (.int .u64 0)
    have h8 := below_setN hb (g := w.heap.size + 1) n3.out (.bool false) (.slice none 0 0) (.slice none 0 0) (.int .u64 0)
    have b9 := b8.far4 n5.out (.bool false) (.slice none 0 0) (.slice none 0 0) (.int .u64 0)
    have z9 := z8.setN (.bool false) (.slice none 0 0) (.slice none 0 0) (.int .u64 0)
    have h9 := below_setN h8 (g := w.heap.size + 1 + 1) n4.out (.bool false) (.slice none 0 0) (.slice none 0 0) (.int .u64 0)
    have m1 := fun i => b9.cell i
    have m2 := fun i => z9.cell i
    refine bodyPost_ret (v := .tuple #[.agg #[.bool false, .slice none 0 0, .slice none 0 0, .int .u64 0], .agg #[.bool false, .slice none 0 0, .slice none 0 0, .int .u64 0], .int .u64 0]) (by simp [results, Try.results13, go_sem, m1, m2]) rfl ⟨rfl, h9⟩
end Go.Proofs.Ytogpdgogcjljfaa
