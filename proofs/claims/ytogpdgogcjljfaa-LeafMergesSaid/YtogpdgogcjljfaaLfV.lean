/-
  The document's Find, Put, Drop.
-/
import Derived.Test.YtogpdgogcjljfaaLfU
import Derived.Test.YtogpdgogcjljfaaLfJ
namespace Go.Proofs.Ytogpdgogcjljfaa
open Go.RowKit

theorem lowN_snoc (key : Int) (l : List Int) (x : Int) : lowN key (l ++ [x]) = lowN key l + (if x < key then 1 else 0) := by
  unfold lowN
  by_cases h : x < key <;> simp [List.filter_append, h]
theorem hasB_snoc (key : Int) (l : List Int) (x : Int) : hasB key (l ++ [x]) = (hasB key l || (x == key)) := by
  unfold hasB
  simp [List.any_append]
def FindIn (key : Int) (ks : List Int) (w : World) (a f i : Value) (wr : World) : Prop :=
  ∃ k m : Nat, i = .int .i64 k ∧ k ≤ ks.length ∧ a = .int .i64 m ∧ m = lowN key (ks.take k) ∧ f = .bool (hasB key (ks.take k)) ∧ m ≤ k ∧ Below w.heap.size w wr
set_option maxRecDepth 100000 in
set_option maxHeartbeats 4000000 in
theorem rfind_any (v : Value) (b : Bool) (ks vs : List Int) (l key : Int) (w : World) (hl : ks.length ≤ 1000) (h : Nd w w.heap.size v b ks vs l) :
    Calls Try.prog 23 #[v, .int .u64 key] w fun e w' => e = .returned (.tuple #[.int .i64 (lowN key ks), .bool (hasB key ks)]) ∧ Below w.heap.size w w' := by
  obtain ⟨k0, u0, rfl, hk0, hu0⟩ := h
  obtain ⟨A, c, rfl, hc1, hc2, hrk⟩ := hk0
  obtain ⟨B, d, rfl, _⟩ := hu0
  have HRK := hide hrk
  clear hrk
  generalize hn : ks.length = n at *
  have HN := hide hn
  clear hn
  generalize vs.length = m at *
  have bx := Blk.new w 27 #[.bool b, .slice A n c, .slice B m d, .int .u64 l]
  have hb := (Below.refl w.heap.size w).alloc (Nat.le_refl _) (.cells #[.bool b, .slice A n c, .slice B m d, .int .u64 l] 27)
  go_enter Try.func23, Try.ntmps23
  go_wp2_with fail
  generalize w.alloc (.cells #[.bool b, .slice A n c, .slice B m d, .int .u64 l] 27) = w2 at *
  go_loopw [6, 7, 8] (fun a f i wr => FindIn key ks w a f i wr ∧ Blk wr w.heap.size 27 #[.bool b, .slice A n c, .slice B m d, .int .u64 l]) (fun _ _ i _ => n - (intOf i).toNat)
  case atStart => exact ⟨⟨0, 0, rfl, Nat.zero_le _, rfl, rfl, rfl, Nat.le_refl _, hb⟩, bx⟩
  case round =>
    clear bx hb
    obtain ⟨⟨k, q, rfl, hk, rfl, hq, rfl, hqk, hb⟩, bx⟩ := hrel
    have mx := fun i => bx.cell i
    have lx := bx.lt
    rw [HN.out] at hk
    by_cases hlt : k < n
    · obtain ⟨a, rfl, hkl, z1⟩ := (HRK.out.below hb).word hlt
      have E1 := hide (show lowN key (ks.take (k + 1)) = q + (if ks[k] < key then 1 else 0) by rw [take_snoc' ks k hkl, lowN_snoc, ← hq])
      have E2 := hide (show hasB key (ks.take (k + 1)) = (hasB key (ks.take k) || (ks[k] == key)) by rw [take_snoc' ks k hkl, hasB_snoc])
      have HK1 := hide (show k + 1 ≤ ks.length by omega)
      generalize ks[k] = x at *
      generalize hasB key (ks.take k) = f at *
      have HQ1 := hide (show q + 1 ≤ k + 1 by omega)
      have HQ0 := hide (show q ≤ k + 1 by omega)
      have hkz : (k : Int) < (n : Int) := by omega
      clear hq hk
      by_cases hx : x < key
      · have hxe : (x == key) = false := beq_eq_false_iff_ne.2 (by omega)
        rw [if_pos hx] at E1
        rw [hxe, Bool.or_false] at E2
        go_wp2_with fail
        go_roundw
        case measure => (simp [intOf]; omega)
        case rel => exact ⟨⟨k + 1, q + 1, by go_num, HK1.out, by go_num, E1.out.symm, by rw [E2.out], HQ1.out, hb⟩, bx⟩
      · rw [if_neg hx, Nat.add_zero] at E1
        cases hxe : (x == key) with
        | true =>
          rw [hxe, Bool.or_true] at E2
          go_wp2_with fail
          go_roundw
          case measure => (simp [intOf]; omega)
          case rel => exact ⟨⟨k + 1, q, by go_num, HK1.out, by go_num, E1.out.symm, by rw [E2.out], HQ0.out, hb⟩, bx⟩
        | false =>
          rw [hxe, Bool.or_false] at E2
          go_wp2_with fail
          go_roundw
          case measure => (simp [intOf]; omega)
          case rel => exact ⟨⟨k + 1, q, by go_num, HK1.out, by go_num, E1.out.symm, by rw [E2.out], HQ0.out, hb⟩, bx⟩
    · obtain rfl : k = n := by omega
      have hkk : ¬ (k : Int) < (k : Int) := by omega
      have e := HN.out
      rw [List.take_of_length_le (by omega)] at hq ⊢
      go_wp2_with fail
      go_ret2
      exact ⟨rfl, hb⟩
set_option maxRecDepth 100000 in
set_option maxHeartbeats 4000000 in
theorem rput_yes (v : Value) (b : Bool) (ks vs : List Int) (l key val : Int) (w : World) (hl : ks.length ≤ 900) (h : Nd w w.heap.size v b ks vs l) (hkv : ks.length = vs.length) (hq1 : lowN key ks + 1 ≤ ks.length) (hh : hasB key ks = true) :
    Calls Try.prog 24 #[v, .int .u64 key, .int .u64 val] w fun e w' => (∃ u, e = .returned u ∧ NdO w' w.heap.size u false (putL ks (lowN key ks) (lowN key ks + 1) [key]) (putL vs (lowN key ks) (lowN key ks + 1) [val]) l) ∧ Below w.heap.size w w' := by
  unfold putL
  have Fd := hide (fun w2 (hB : Below w.heap.size w w2) => rfind_any v b ks vs l key w2 (by omega) ((h.below hB).more hB.size))
  rw [hh] at Fd
  have C1 := hide (fun w2 (hB : Below w.heap.size w w2) => rcut_any v b ks vs l 0 0 (lowN key ks) w2 (by omega) (by omega) (by omega) (by omega) (by omega) ((h.below hB).more hB.size))
  have C2 := hide (fun w2 (hB : Below w.heap.size w w2) => rcut_any v b ks vs l 0 (lowN key ks + 1) ks.length w2 (by omega) (by omega) (by omega) (by omega) (by omega) ((h.below hB).more hB.size))
  have zz : ((0 : Nat) : Int) = 0 := rfl
  rw [zz] at C1
  have l1 := cutL_len ks 0 (lowN key ks) (by omega)
  have l2 := cutL_len vs 0 (lowN key ks) (by omega)
  have l3 := cutL_len ks (lowN key ks + 1) ks.length (Nat.le_refl _)
  have l4 := cutL_len vs (lowN key ks + 1) ks.length (by omega)
  have e4 : cutL vs (lowN key ks + 1) vs.length = cutL vs (lowN key ks + 1) ks.length := by rw [hkv]
  rw [e4]
  generalize lowN key ks = q at *
  rw [show ((q + 1 : Nat) : Int) = (q : Int) + 1 by omega] at C2
  have hqq : IntKind.i64.wrap ((q : Int) + 1) = (q : Int) + 1 := IntWalk.i64_in _ (by omega)
  have J1 := hide (fun (u u' : Value) w2 (hN : Nd w2 w2.heap.size u false (cutL ks 0 q) (cutL vs 0 q) 0) (hN' : Nd w2 w2.heap.size u' false [key] [val] 0) => rjoin_any u u' false false (cutL ks 0 q) (cutL vs 0 q) [key] [val] 0 0 0 w2 (by omega) rfl (by omega) (by simp) hN hN')
  have J2 := hide (fun (u u' : Value) w2 (hN : Nd w2 w2.heap.size u false (cutL ks 0 q ++ [key]) (cutL vs 0 q ++ [val]) 0) (hN' : Nd w2 w2.heap.size u' false (cutL ks (q + 1) ks.length) (cutL vs (q + 1) ks.length) 0) => rjoin_any u u' false false _ _ _ _ 0 0 l w2 (by simp; omega) (by omega) (by simp; omega) (by omega) hN hN')
  obtain ⟨k0, u0, rfl, hk0, hu0⟩ := h
  obtain ⟨A, c, rfl, _⟩ := hk0
  obtain ⟨B, d, rfl, _⟩ := hu0
  generalize cutL ks 0 q ++ [key] ++ cutL ks (q + 1) ks.length = k9 at *
  generalize cutL vs 0 q ++ [val] ++ cutL vs (q + 1) ks.length = v9 at *
  generalize cutL ks 0 q ++ [key] = k8 at *
  generalize cutL vs 0 q ++ [val] = v8 at *
  generalize cutL ks 0 q = x1 at *
  generalize cutL vs 0 q = y1 at *
  generalize cutL ks (q + 1) ks.length = x2 at *
  generalize cutL vs (q + 1) ks.length = y2 at *
  have hq3 : (0 : Int) ≤ (q : Int) := by omega
  have hq4 : (q : Int) ≤ 1000 := by omega
  clear l1 l2 l3 l4 e4 zz hkv hq1 hh hl
  generalize ks.length = n at *
  generalize vs.length = m at *
  have bx := Blk.new w 27 #[.bool b, .slice A n c, .slice B m d, .int .u64 l]
  have B0 := (Below.refl w.heap.size w).alloc (Nat.le_refl _) (.cells #[.bool b, .slice A n c, .slice B m d, .int .u64 l] 27)
  have br := Blk.new (w.alloc (.cells #[.bool b, .slice A n c, .slice B m d, .int .u64 l] 27)) 27 #[.bool false, .slice none 0 0, .slice none 0 0, .int .u64 0]
  replace bx := bx.alloc (.cells #[.bool false, .slice none 0 0, .slice none 0 0, .int .u64 0] 27)
  replace B0 := B0.alloc B0.size (.cells #[.bool false, .slice none 0 0, .slice none 0 0, .int .u64 0] 27)
  simp only [World.size_alloc] at br
  have n3 := hide (show w.heap.size ≤ w.heap.size + 1 by omega)
  have HG := hide (show w.heap.size + 1 < w.heap.size + 1 + 1 by omega)
  have HLE := hide (show w.heap.size ≤ w.heap.size + 1 + 1 by omega)
  have n5 := hide (show w.heap.size ≠ w.heap.size + 1 by omega)
  go_enter Try.func24, Try.ntmps24
  go_wp2_with fail
  refine (Fd.out _ B0).mono ?_
  rintro e w1 ⟨rfl, hb1⟩
  replace bx := bx.below hb1 bx.lt
  replace br := br.below hb1 br.lt
  replace B0 := B0.trans (hb1.mono B0.size)
  clear hb1 Fd
  have mx := fun i => bx.cell i
  have lx := bx.lt
  have HMG := hide (show w1.heap.size + 1 + 1 ≠ w.heap.size + 1 by have := br.lt; omega)
  have bk := Blk.new w1 22 #[.int .u64 key]
  replace bx := bx.alloc (.cells #[.int .u64 key] 22)
  replace br := br.alloc (.cells #[.int .u64 key] 22)
  replace B0 := B0.alloc B0.size (.cells #[.int .u64 key] 22)
  have bv := Blk.new (w1.alloc (.cells #[.int .u64 key] 22)) 22 #[.int .u64 val]
  rw [World.size_alloc] at bv
  replace bx := bx.alloc (.cells #[.int .u64 val] 22)
  replace br := br.alloc (.cells #[.int .u64 val] 22)
  replace bk := bk.alloc (.cells #[.int .u64 val] 22)
  replace B0 := B0.alloc B0.size (.cells #[.int .u64 val] 22)
  have bm := Blk.new ((w1.alloc (.cells #[.int .u64 key] 22)).alloc (.cells #[.int .u64 val] 22)) 27 #[.bool false, .slice (some ⟨w1.heap.size, 0, none⟩) 1 1, .slice (some ⟨w1.heap.size + 1, 0, none⟩) 1 1, .int .u64 0]
  rw [World.size_alloc, World.size_alloc] at bm
  replace bx := bx.alloc (.cells #[.bool false, .slice (some ⟨w1.heap.size, 0, none⟩) 1 1, .slice (some ⟨w1.heap.size + 1, 0, none⟩) 1 1, .int .u64 0] 27)
  replace br := br.alloc (.cells #[.bool false, .slice (some ⟨w1.heap.size, 0, none⟩) 1 1, .slice (some ⟨w1.heap.size + 1, 0, none⟩) 1 1, .int .u64 0] 27)
  replace bk := bk.alloc (.cells #[.bool false, .slice (some ⟨w1.heap.size, 0, none⟩) 1 1, .slice (some ⟨w1.heap.size + 1, 0, none⟩) 1 1, .int .u64 0] 27)
  replace bv := bv.alloc (.cells #[.bool false, .slice (some ⟨w1.heap.size, 0, none⟩) 1 1, .slice (some ⟨w1.heap.size + 1, 0, none⟩) 1 1, .int .u64 0] 27)
  replace B0 := B0.alloc B0.size (.cells #[.bool false, .slice (some ⟨w1.heap.size, 0, none⟩) 1 1, .slice (some ⟨w1.heap.size + 1, 0, none⟩) 1 1, .int .u64 0] 27)
  go_wp2_with fail
  generalize ((w1.alloc (.cells #[.int .u64 key] 22)).alloc (.cells #[.int .u64 val] 22)).alloc (.cells #[.bool false, .slice (some ⟨w1.heap.size, 0, none⟩) 1 1, .slice (some ⟨w1.heap.size + 1, 0, none⟩) 1 1, .int .u64 0] 27) = w2 at *
  generalize w1.heap.size + 1 + 1 = gm at *
  generalize w1.heap.size + 1 = gv at *
  generalize w1.heap.size = gk at *
  have hNm : Nd w2 w2.heap.size (.agg #[.bool false, .slice (some ⟨gk, 0, none⟩) 1 1, .slice (some ⟨gv, 0, none⟩) 1 1, .int .u64 0]) false [key] [val] 0 := ⟨_, _, rfl, sl_one bk, sl_one bv⟩
  have Nm := hide (fun w3 (hB : Below w2.heap.size w2 w3) => (hNm.below hB).more hB.size)
  clear hNm bk bv mx lx
  have hbm := Below.refl w2.heap.size w2
  replace bx := bx.drew
  replace br := br.drew
  have hb := B0.drew
  clear B0
  have HB1 := hide (show w.heap.size + 1 + 1 ≤ w2.drew.heap.size from br.lt)
  replace bm := bm.drew
  replace hbm := hbm.drew
  refine wp_region_heldZ [] (fun w' => (w'.cell? ⟨w.heap.size, 0, none⟩ = some (.bool b) ∧ w'.cell? ⟨w.heap.size, 1, none⟩ = some (.slice A n c) ∧ w'.cell? ⟨w.heap.size, 2, none⟩ = some (.slice B m d) ∧ w'.cell? ⟨w.heap.size, 3, none⟩ = some (.int .u64 l)) ∧ (w'.cell? ⟨gm, 0, none⟩ = some (.bool false) ∧ w'.cell? ⟨gm, 1, none⟩ = some (.slice (some ⟨gk, 0, none⟩) 1 1) ∧ w'.cell? ⟨gm, 2, none⟩ = some (.slice (some ⟨gv, 0, none⟩) 1 1) ∧ w'.cell? ⟨gm, 3, none⟩ = some (.int .u64 0))) (by kernel_rfl) (by exact ⟨cellsN bx, cellsN bm⟩) (fun hHeld => ?_)
  refine' wpAnyZ_takeA (i := 0) (v := ?_) (opAt rfl) (by kernel_rfl) (by kernel_rfl) (by kernel_rfl) (by kernel_rfl) (fun _ _ _ h => h) (by assumption) (by rfl) (fun w hSw => ?_) ?_
  rotate_left
  · (try dsimp only at hSw); go_simp; (try with_reducible rfl)
  try simp only [Act.put, List.setIfInBounds_toArray, List.set_cons_zero, List.set_cons_succ]
  refine' wpAnyZ_takeA (i := 1) (v := ?_) (opAt rfl) (by kernel_rfl) (by kernel_rfl) (by kernel_rfl) (by kernel_rfl) (fun _ _ _ h => h) (by assumption) (by rfl) (fun w hSw => ?_) ?_
  rotate_left
  · (try dsimp only at hSw); go_simp; (try with_reducible rfl)
  try simp only [Act.put, List.setIfInBounds_toArray, List.set_cons_zero, List.set_cons_succ]
  refine' wpAnyZ_takeA (i := 3) (v := ?_) (opAt rfl) (by kernel_rfl) (by kernel_rfl) (by kernel_rfl) (by kernel_rfl) (fun _ _ _ h => h) (by assumption) (by rfl) (fun w hSw => ?_) ?_
  rotate_left
  · (try dsimp only at hSw); go_simp; (try with_reducible rfl)
  try simp only [Act.put, List.setIfInBounds_toArray, List.set_cons_zero, List.set_cons_succ]
  refine' wpAnyZ_takeA (i := 5) (v := ?_) (opAt rfl) (by kernel_rfl) (by kernel_rfl) (by kernel_rfl) (by kernel_rfl) (fun _ _ _ h => h) (by assumption) (by rfl) (fun w hSw => ?_) ?_
  rotate_left
  · (try dsimp only at hSw); go_simp; (try with_reducible rfl)
  try simp only [Act.put, List.setIfInBounds_toArray, List.set_cons_zero, List.set_cons_succ]
  refine' wpAnyZ_takeA (i := 6) (v := ?_) (opAt rfl) (by kernel_rfl) (by kernel_rfl) (by kernel_rfl) (by kernel_rfl) (fun _ _ _ h => h) (by assumption) (by rfl) (fun w hSw => ?_) ?_
  rotate_left
  · (try dsimp only at hSw); go_simp; (try with_reducible rfl)
  try simp only [Act.put, List.setIfInBounds_toArray, List.set_cons_zero, List.set_cons_succ]
  refine' wpAnyZ_takeA (i := 7) (v := ?_) (opAt rfl) (by kernel_rfl) (by kernel_rfl) (by kernel_rfl) (by kernel_rfl) (fun _ _ _ h => h) (by assumption) (by rfl) (fun w hSw => ?_) ?_
  rotate_left
  · (try dsimp only at hSw); go_simp; (try with_reducible rfl)
  try simp only [Act.put, List.setIfInBounds_toArray, List.set_cons_zero, List.set_cons_succ]
  refine' wpAnyZ_takeA (i := 8) (v := ?_) (opAt rfl) (by kernel_rfl) (by kernel_rfl) (by kernel_rfl) (by kernel_rfl) (fun _ _ _ h => h) (by assumption) (by rfl) (fun w hSw => ?_) ?_
  rotate_left
  · (try dsimp only at hSw); go_simp; (try with_reducible rfl)
  try simp only [Act.put, List.setIfInBounds_toArray, List.set_cons_zero, List.set_cons_succ]
  refine' wpAnyZ_takeA (i := 9) (v := ?_) (opAt rfl) (by kernel_rfl) (by kernel_rfl) (by kernel_rfl) (by kernel_rfl) (fun _ _ _ h => h) (by assumption) (by rfl) (fun w hSw => ?_) ?_
  rotate_left
  · (try dsimp only at hSw); go_simp; (try with_reducible rfl)
  try simp only [Act.put, List.setIfInBounds_toArray, List.set_cons_zero, List.set_cons_succ]
  refine' wpAnyZ_takeA (i := 11) (v := ?_) (opAt rfl) (by kernel_rfl) (by kernel_rfl) (by kernel_rfl) (by kernel_rfl) (fun _ _ _ h => h) (by assumption) (by rfl) (fun w hSw => ?_) ?_
  rotate_left
  · (try dsimp only at hSw); go_simp; (try with_reducible rfl)
  try simp only [Act.put, List.setIfInBounds_toArray, List.set_cons_zero, List.set_cons_succ]
  refine' wpAnyZ_takeA (i := 12) (v := ?_) (opAt rfl) (by kernel_rfl) (by kernel_rfl) (by kernel_rfl) (by kernel_rfl) (fun _ _ _ h => h) (by assumption) (by rfl) (fun w hSw => ?_) ?_
  rotate_left
  · (try dsimp only at hSw); go_simp; (try with_reducible rfl)
  try simp only [Act.put, List.setIfInBounds_toArray, List.set_cons_zero, List.set_cons_succ]
  refine wpAnyZ_ready (rs := [2]) (by kernel_rfl) (by simp) ?_
  refine AllReadyZ.cons (opAt rfl) (fun K hK => ?_) ?_
  · skip
    go_simp
    refine (C1.out _ hb).mono ?_
    rintro e wc ⟨⟨u1, rfl, hu1⟩, hb1⟩
    replace bx := bx.below hb1 bx.lt
    replace br := br.below hb1 br.lt
    replace bm := bm.below hb1 bm.lt
    replace hb := hb.trans (hb1.mono hb.size)
    obtain ⟨A1, c1, B1, d1, rfl⟩ := hu1.val
    replace hbm := hbm.trans (hb1.mono hbm.size)
    replace HB1 := hide (Nat.le_trans HB1.out hb1.size)
    clear hb1
    try go_wp2_with fail
    refine hK.out _ _ (by exact ⟨cellsN bx, cellsN bm⟩) (fun hHeld => ?_)
    clear hK K
    try simp only [Act.put, List.setIfInBounds_toArray, List.set_cons_zero, List.set_cons_succ]
    refine wpAnyZ_ready (rs := [4]) (by kernel_rfl) (by simp) ?_
    refine AllReadyZ.cons (opAt rfl) (fun K hK => ?_) ?_
    · skip
      go_simp
      refine (J1.out _ _ _ hu1.nd (Nm.out _ hbm)).mono ?_
      rintro e wj ⟨⟨u2, rfl, hu2⟩, hb1⟩
      replace bx := bx.below hb1 bx.lt
      replace br := br.below hb1 br.lt
      replace bm := bm.below hb1 bm.lt
      replace hb := hb.trans (hb1.mono hb.size)
      obtain ⟨A2, c2, B2, d2, rfl⟩ := hu2.val
      replace hbm := hbm.trans (hb1.mono hbm.size)
      replace HB1 := hide (Nat.le_trans HB1.out hb1.size)
      clear hb1
      try go_wp2_with fail
      refine hK.out _ _ (by exact ⟨cellsN bx, cellsN bm⟩) (fun hHeld => ?_)
      clear hK K
      try simp only [Act.put, List.setIfInBounds_toArray, List.set_cons_zero, List.set_cons_succ]
      refine wpAnyZ_ready (rs := [10]) (by kernel_rfl) (by simp) ?_
      refine AllReadyZ.cons (opAt rfl) (fun K hK => ?_) ?_
      · skip
        go_simp
        refine (C2.out _ hb).mono ?_
        rintro e wc ⟨⟨u3, rfl, hu3⟩, hb1⟩
        replace bx := bx.below hb1 bx.lt
        replace br := br.below hb1 br.lt
        replace bm := bm.below hb1 bm.lt
        replace hu2 := hu2.below hb1
        replace hb := hb.trans (hb1.mono hb.size)
        obtain ⟨A3, c3, B3, d3, rfl⟩ := hu3.val
        replace hbm := hbm.trans (hb1.mono hbm.size)
        replace HB1 := hide (Nat.le_trans HB1.out hb1.size)
        clear hb1
        try go_wp2_with fail
        refine hK.out _ _ (by exact ⟨cellsN bx, cellsN bm⟩) (fun hHeld => ?_)
        clear hK K
        try simp only [Act.put, List.setIfInBounds_toArray, List.set_cons_zero, List.set_cons_succ]
        refine wpAnyZ_ready (rs := [13]) (by kernel_rfl) (by simp) ?_
        refine AllReadyZ.cons (opAt rfl) (fun K hK => ?_) ?_
        · skip
          go_simp
          refine (J2.out _ _ _ hu2.nd hu3.nd).mono ?_
          rintro e wj ⟨⟨u9, rfl, hr9⟩, hb1⟩
          replace hr9 := hr9.mono HB1.out
          replace bx := bx.below hb1 bx.lt
          replace br := br.below hb1 br.lt
          replace bm := bm.below hb1 bm.lt
          replace hb := hb.trans (hb1.mono hb.size)
          obtain ⟨A9, c9, B9, d9, rfl⟩ := hr9.val
          replace hbm := hbm.trans (hb1.mono hbm.size)
          replace HB1 := hide (Nat.le_trans HB1.out hb1.size)
          clear hb1
          try go_wp2_with fail
          refine hK.out _ _ (by exact ⟨cellsN bx, cellsN bm⟩) (fun hHeld => ?_)
          clear hK K
          try simp only [Act.put, List.setIfInBounds_toArray, List.set_cons_zero, List.set_cons_succ]
          refine wpAnyZ_ready (rs := [14]) (by kernel_rfl) (by simp) ?_
          refine AllReadyZ.cons (opAt rfl) (fun K hK => ?_) ?_
          · skip
            have zq := fun i => br.frozen i
            have mq := fun i => br.cell i
            go_simp
            clear zq mq
            replace br := br.setN (.bool false) (.slice A9 k9.length c9) (.slice B9 v9.length d9) (.int .u64 l)
            have RR := hr9.farN HG.out (.bool false) (.slice A9 k9.length c9) (.slice B9 v9.length d9) (.int .u64 l)
            replace bx := bx.far4 n5.out (.bool false) (.slice A9 k9.length c9) (.slice B9 v9.length d9) (.int .u64 l)
            replace hb := below_setN hb (g := w.heap.size + 1) n3.out (.bool false) (.slice A9 k9.length c9) (.slice B9 v9.length d9) (.int .u64 l)
            clear hr9
            replace bm := bm.far4 HMG.out (.bool false) (.slice A9 k9.length c9) (.slice B9 v9.length d9) (.int .u64 l)
            generalize ((((wj.setCell ⟨w.heap.size + 1, 0, none⟩ (.bool false)).setCell ⟨w.heap.size + 1, 1, none⟩ (.slice A9 k9.length c9)).setCell ⟨w.heap.size + 1, 2, none⟩ (.slice B9 v9.length d9)).setCell ⟨w.heap.size + 1, 3, none⟩ (.int .u64 l)) = wz at *
            refine hK.out _ _ (by exact ⟨cellsN bx, cellsN bm⟩) (fun hHeld => ?_)
            clear hK K
            try simp only [Act.put, List.setIfInBounds_toArray, List.set_cons_zero, List.set_cons_succ]
            refine wpAnyZ_done (by kernel_rfl) ?_ _
            have m1 := fun i => br.cell i
            go_wp2_with fail
            refine bodyPost_ret (v := .agg #[.bool false, .slice A9 k9.length c9, .slice B9 v9.length d9, .int .u64 l]) (by simp [results, Try.results24, go_sem, m1]) rfl ⟨⟨_, rfl, RR.mono HLE.out⟩, hb⟩
          exact AllReadyZ.nil
        exact AllReadyZ.nil
      exact AllReadyZ.nil
    exact AllReadyZ.nil
  exact AllReadyZ.nil
set_option maxRecDepth 100000 in
set_option maxHeartbeats 4000000 in
theorem rdrop_yes (v : Value) (b : Bool) (ks vs : List Int) (l key : Int) (w : World) (hl : ks.length ≤ 900) (h : Nd w w.heap.size v b ks vs l) (hkv : ks.length = vs.length) (hq1 : lowN key ks + 1 ≤ ks.length) (hh : hasB key ks = true) :
    Calls Try.prog 25 #[v, .int .u64 key] w fun e w' => (∃ u, e = .returned u ∧ NdO w' w.heap.size u false (cutL ks 0 (lowN key ks) ++ cutL ks (lowN key ks + 1) ks.length) (cutL vs 0 (lowN key ks) ++ cutL vs (lowN key ks + 1) vs.length) l) ∧ Below w.heap.size w w' := by
  have Fd := hide (fun w2 (hB : Below w.heap.size w w2) => rfind_any v b ks vs l key w2 (by omega) ((h.below hB).more hB.size))
  rw [hh] at Fd
  have C1 := hide (fun w2 (hB : Below w.heap.size w w2) => rcut_any v b ks vs l 0 0 (lowN key ks) w2 (by omega) (by omega) (by omega) (by omega) (by omega) ((h.below hB).more hB.size))
  have C2 := hide (fun w2 (hB : Below w.heap.size w w2) => rcut_any v b ks vs l 0 (lowN key ks + 1) ks.length w2 (by omega) (by omega) (by omega) (by omega) (by omega) ((h.below hB).more hB.size))
  have zz : ((0 : Nat) : Int) = 0 := rfl
  rw [zz] at C1
  have l1 := cutL_len ks 0 (lowN key ks) (by omega)
  have l2 := cutL_len vs 0 (lowN key ks) (by omega)
  have l3 := cutL_len ks (lowN key ks + 1) ks.length (Nat.le_refl _)
  have l4 := cutL_len vs (lowN key ks + 1) ks.length (by omega)
  have e4 : cutL vs (lowN key ks + 1) vs.length = cutL vs (lowN key ks + 1) ks.length := by rw [hkv]
  rw [e4]
  generalize lowN key ks = q at *
  rw [show ((q + 1 : Nat) : Int) = (q : Int) + 1 by omega] at C2
  have hqq : IntKind.i64.wrap ((q : Int) + 1) = (q : Int) + 1 := IntWalk.i64_in _ (by omega)
  have J2 := hide (fun (u u' : Value) w2 (hN : Nd w2 w2.heap.size u false (cutL ks 0 q) (cutL vs 0 q) 0) (hN' : Nd w2 w2.heap.size u' false (cutL ks (q + 1) ks.length) (cutL vs (q + 1) ks.length) 0) => rjoin_any u u' false false _ _ _ _ 0 0 l w2 (by omega) (by omega) (by omega) (by omega) hN hN')
  obtain ⟨k0, u0, rfl, hk0, hu0⟩ := h
  obtain ⟨A, c, rfl, _⟩ := hk0
  obtain ⟨B, d, rfl, _⟩ := hu0
  generalize cutL ks 0 q ++ cutL ks (q + 1) ks.length = k9 at *
  generalize cutL vs 0 q ++ cutL vs (q + 1) ks.length = v9 at *
  generalize cutL ks 0 q = x1 at *
  generalize cutL vs 0 q = y1 at *
  generalize cutL ks (q + 1) ks.length = x2 at *
  generalize cutL vs (q + 1) ks.length = y2 at *
  have hq3 : (0 : Int) ≤ (q : Int) := by omega
  have hq4 : (q : Int) ≤ 1000 := by omega
  clear l1 l2 l3 l4 e4 zz hkv hq1 hh hl
  generalize ks.length = n at *
  generalize vs.length = m at *
  have bx := Blk.new w 27 #[.bool b, .slice A n c, .slice B m d, .int .u64 l]
  have B0 := (Below.refl w.heap.size w).alloc (Nat.le_refl _) (.cells #[.bool b, .slice A n c, .slice B m d, .int .u64 l] 27)
  have br := Blk.new (w.alloc (.cells #[.bool b, .slice A n c, .slice B m d, .int .u64 l] 27)) 27 #[.bool false, .slice none 0 0, .slice none 0 0, .int .u64 0]
  replace bx := bx.alloc (.cells #[.bool false, .slice none 0 0, .slice none 0 0, .int .u64 0] 27)
  replace B0 := B0.alloc B0.size (.cells #[.bool false, .slice none 0 0, .slice none 0 0, .int .u64 0] 27)
  simp only [World.size_alloc] at br
  have n3 := hide (show w.heap.size ≤ w.heap.size + 1 by omega)
  have HG := hide (show w.heap.size + 1 < w.heap.size + 1 + 1 by omega)
  have HLE := hide (show w.heap.size ≤ w.heap.size + 1 + 1 by omega)
  have n5 := hide (show w.heap.size ≠ w.heap.size + 1 by omega)
  go_enter Try.func25, Try.ntmps25
  go_wp2_with fail
  refine (Fd.out _ B0).mono ?_
  rintro e w1 ⟨rfl, hb1⟩
  replace bx := bx.below hb1 bx.lt
  replace br := br.below hb1 br.lt
  replace B0 := B0.trans (hb1.mono B0.size)
  clear hb1 Fd
  have mx := fun i => bx.cell i
  have lx := bx.lt
  go_wp2_with fail
  clear mx lx
  replace bx := bx.drew
  replace br := br.drew
  have hb := B0.drew
  clear B0
  have HB1 := hide (show w.heap.size + 1 + 1 ≤ w1.drew.heap.size from br.lt)
  refine wp_region_heldZ [] (fun w' => w'.cell? ⟨w.heap.size, 0, none⟩ = some (.bool b) ∧ w'.cell? ⟨w.heap.size, 1, none⟩ = some (.slice A n c) ∧ w'.cell? ⟨w.heap.size, 2, none⟩ = some (.slice B m d) ∧ w'.cell? ⟨w.heap.size, 3, none⟩ = some (.int .u64 l)) (by kernel_rfl) (by exact cellsN bx) (fun hHeld => ?_)
  refine' wpAnyZ_takeA (i := 0) (v := ?_) (opAt rfl) (by kernel_rfl) (by kernel_rfl) (by kernel_rfl) (by kernel_rfl) (fun _ _ _ h => h) (by assumption) (by rfl) (fun w hSw => ?_) ?_
  rotate_left
  · (try dsimp only at hSw); go_simp; (try with_reducible rfl)
  try simp only [Act.put, List.setIfInBounds_toArray, List.set_cons_zero, List.set_cons_succ]
  refine' wpAnyZ_takeA (i := 1) (v := ?_) (opAt rfl) (by kernel_rfl) (by kernel_rfl) (by kernel_rfl) (by kernel_rfl) (fun _ _ _ h => h) (by assumption) (by rfl) (fun w hSw => ?_) ?_
  rotate_left
  · (try dsimp only at hSw); go_simp; (try with_reducible rfl)
  try simp only [Act.put, List.setIfInBounds_toArray, List.set_cons_zero, List.set_cons_succ]
  refine' wpAnyZ_takeA (i := 3) (v := ?_) (opAt rfl) (by kernel_rfl) (by kernel_rfl) (by kernel_rfl) (by kernel_rfl) (fun _ _ _ h => h) (by assumption) (by rfl) (fun w hSw => ?_) ?_
  rotate_left
  · (try dsimp only at hSw); go_simp; (try with_reducible rfl)
  try simp only [Act.put, List.setIfInBounds_toArray, List.set_cons_zero, List.set_cons_succ]
  refine' wpAnyZ_takeA (i := 4) (v := ?_) (opAt rfl) (by kernel_rfl) (by kernel_rfl) (by kernel_rfl) (by kernel_rfl) (fun _ _ _ h => h) (by assumption) (by rfl) (fun w hSw => ?_) ?_
  rotate_left
  · (try dsimp only at hSw); go_simp; (try with_reducible rfl)
  try simp only [Act.put, List.setIfInBounds_toArray, List.set_cons_zero, List.set_cons_succ]
  refine' wpAnyZ_takeA (i := 5) (v := ?_) (opAt rfl) (by kernel_rfl) (by kernel_rfl) (by kernel_rfl) (by kernel_rfl) (fun _ _ _ h => h) (by assumption) (by rfl) (fun w hSw => ?_) ?_
  rotate_left
  · (try dsimp only at hSw); go_simp; (try with_reducible rfl)
  try simp only [Act.put, List.setIfInBounds_toArray, List.set_cons_zero, List.set_cons_succ]
  refine' wpAnyZ_takeA (i := 6) (v := ?_) (opAt rfl) (by kernel_rfl) (by kernel_rfl) (by kernel_rfl) (by kernel_rfl) (fun _ _ _ h => h) (by assumption) (by rfl) (fun w hSw => ?_) ?_
  rotate_left
  · (try dsimp only at hSw); go_simp; (try with_reducible rfl)
  try simp only [Act.put, List.setIfInBounds_toArray, List.set_cons_zero, List.set_cons_succ]
  refine' wpAnyZ_takeA (i := 7) (v := ?_) (opAt rfl) (by kernel_rfl) (by kernel_rfl) (by kernel_rfl) (by kernel_rfl) (fun _ _ _ h => h) (by assumption) (by rfl) (fun w hSw => ?_) ?_
  rotate_left
  · (try dsimp only at hSw); go_simp; (try with_reducible rfl)
  try simp only [Act.put, List.setIfInBounds_toArray, List.set_cons_zero, List.set_cons_succ]
  refine' wpAnyZ_takeA (i := 9) (v := ?_) (opAt rfl) (by kernel_rfl) (by kernel_rfl) (by kernel_rfl) (by kernel_rfl) (fun _ _ _ h => h) (by assumption) (by rfl) (fun w hSw => ?_) ?_
  rotate_left
  · (try dsimp only at hSw); go_simp; (try with_reducible rfl)
  try simp only [Act.put, List.setIfInBounds_toArray, List.set_cons_zero, List.set_cons_succ]
  refine' wpAnyZ_takeA (i := 10) (v := ?_) (opAt rfl) (by kernel_rfl) (by kernel_rfl) (by kernel_rfl) (by kernel_rfl) (fun _ _ _ h => h) (by assumption) (by rfl) (fun w hSw => ?_) ?_
  rotate_left
  · (try dsimp only at hSw); go_simp; (try with_reducible rfl)
  try simp only [Act.put, List.setIfInBounds_toArray, List.set_cons_zero, List.set_cons_succ]
  refine wpAnyZ_ready (rs := [2]) (by kernel_rfl) (by simp) ?_
  refine AllReadyZ.cons (opAt rfl) (fun K hK => ?_) ?_
  · skip
    go_simp
    refine (C1.out _ hb).mono ?_
    rintro e wc ⟨⟨u1, rfl, hu1⟩, hb1⟩
    replace bx := bx.below hb1 bx.lt
    replace br := br.below hb1 br.lt
    replace hb := hb.trans (hb1.mono hb.size)
    obtain ⟨A1, c1, B1, d1, rfl⟩ := hu1.val
    replace HB1 := hide (Nat.le_trans HB1.out hb1.size)
    clear hb1
    try go_wp2_with fail
    refine hK.out _ _ (by exact cellsN bx) (fun hHeld => ?_)
    clear hK K
    try simp only [Act.put, List.setIfInBounds_toArray, List.set_cons_zero, List.set_cons_succ]
    refine wpAnyZ_ready (rs := [8]) (by kernel_rfl) (by simp) ?_
    refine AllReadyZ.cons (opAt rfl) (fun K hK => ?_) ?_
    · skip
      go_simp
      refine (C2.out _ hb).mono ?_
      rintro e wc ⟨⟨u3, rfl, hu3⟩, hb1⟩
      replace bx := bx.below hb1 bx.lt
      replace br := br.below hb1 br.lt
      replace hu1 := hu1.below hb1
      replace hb := hb.trans (hb1.mono hb.size)
      obtain ⟨A3, c3, B3, d3, rfl⟩ := hu3.val
      replace HB1 := hide (Nat.le_trans HB1.out hb1.size)
      clear hb1
      try go_wp2_with fail
      refine hK.out _ _ (by exact cellsN bx) (fun hHeld => ?_)
      clear hK K
      try simp only [Act.put, List.setIfInBounds_toArray, List.set_cons_zero, List.set_cons_succ]
      refine wpAnyZ_ready (rs := [11]) (by kernel_rfl) (by simp) ?_
      refine AllReadyZ.cons (opAt rfl) (fun K hK => ?_) ?_
      · skip
        go_simp
        refine (J2.out _ _ _ hu1.nd hu3.nd).mono ?_
        rintro e wj ⟨⟨u9, rfl, hr9⟩, hb1⟩
        replace hr9 := hr9.mono HB1.out
        replace bx := bx.below hb1 bx.lt
        replace br := br.below hb1 br.lt
        replace hb := hb.trans (hb1.mono hb.size)
        obtain ⟨A9, c9, B9, d9, rfl⟩ := hr9.val
        replace HB1 := hide (Nat.le_trans HB1.out hb1.size)
        clear hb1
        try go_wp2_with fail
        refine hK.out _ _ (by exact cellsN bx) (fun hHeld => ?_)
        clear hK K
        try simp only [Act.put, List.setIfInBounds_toArray, List.set_cons_zero, List.set_cons_succ]
        refine wpAnyZ_ready (rs := [12]) (by kernel_rfl) (by simp) ?_
        refine AllReadyZ.cons (opAt rfl) (fun K hK => ?_) ?_
        · skip
          have zq := fun i => br.frozen i
          have mq := fun i => br.cell i
          go_simp
          clear zq mq
          replace br := br.setN (.bool false) (.slice A9 k9.length c9) (.slice B9 v9.length d9) (.int .u64 l)
          have RR := hr9.farN HG.out (.bool false) (.slice A9 k9.length c9) (.slice B9 v9.length d9) (.int .u64 l)
          replace bx := bx.far4 n5.out (.bool false) (.slice A9 k9.length c9) (.slice B9 v9.length d9) (.int .u64 l)
          replace hb := below_setN hb (g := w.heap.size + 1) n3.out (.bool false) (.slice A9 k9.length c9) (.slice B9 v9.length d9) (.int .u64 l)
          clear hr9
          generalize ((((wj.setCell ⟨w.heap.size + 1, 0, none⟩ (.bool false)).setCell ⟨w.heap.size + 1, 1, none⟩ (.slice A9 k9.length c9)).setCell ⟨w.heap.size + 1, 2, none⟩ (.slice B9 v9.length d9)).setCell ⟨w.heap.size + 1, 3, none⟩ (.int .u64 l)) = wz at *
          refine hK.out _ _ (by exact cellsN bx) (fun hHeld => ?_)
          clear hK K
          try simp only [Act.put, List.setIfInBounds_toArray, List.set_cons_zero, List.set_cons_succ]
          refine wpAnyZ_done (by kernel_rfl) ?_ _
          have m1 := fun i => br.cell i
          go_wp2_with fail
          refine bodyPost_ret (v := .agg #[.bool false, .slice A9 k9.length c9, .slice B9 v9.length d9, .int .u64 l]) (by simp [results, Try.results25, go_sem, m1]) rfl ⟨⟨_, rfl, RR.mono HLE.out⟩, hb⟩
        exact AllReadyZ.nil
      exact AllReadyZ.nil
    exact AllReadyZ.nil
  exact AllReadyZ.nil
set_option maxRecDepth 100000 in
set_option maxHeartbeats 4000000 in
theorem rput_no (v : Value) (b : Bool) (ks vs : List Int) (l key val : Int) (w : World) (hl : ks.length ≤ 900) (h : Nd w w.heap.size v b ks vs l) (hkv : ks.length = vs.length) (hq1 : lowN key ks ≤ ks.length) (hh : hasB key ks = false) :
    Calls Try.prog 24 #[v, .int .u64 key, .int .u64 val] w fun e w' => (∃ u, e = .returned u ∧ NdO w' w.heap.size u false (putL ks (lowN key ks) (lowN key ks) [key]) (putL vs (lowN key ks) (lowN key ks) [val]) l) ∧ Below w.heap.size w w' := by
  unfold putL
  have Fd := hide (fun w2 (hB : Below w.heap.size w w2) => rfind_any v b ks vs l key w2 (by omega) ((h.below hB).more hB.size))
  rw [hh] at Fd
  have C1 := hide (fun w2 (hB : Below w.heap.size w w2) => rcut_any v b ks vs l 0 0 (lowN key ks) w2 (by omega) (by omega) (by omega) (by omega) (by omega) ((h.below hB).more hB.size))
  have C2 := hide (fun w2 (hB : Below w.heap.size w w2) => rcut_any v b ks vs l 0 (lowN key ks) ks.length w2 (by omega) (by omega) (by omega) (by omega) (by omega) ((h.below hB).more hB.size))
  have zz : ((0 : Nat) : Int) = 0 := rfl
  rw [zz] at C1
  have l1 := cutL_len ks 0 (lowN key ks) (by omega)
  have l2 := cutL_len vs 0 (lowN key ks) (by omega)
  have l3 := cutL_len ks (lowN key ks) ks.length (Nat.le_refl _)
  have l4 := cutL_len vs (lowN key ks) ks.length (by omega)
  have e4 : cutL vs (lowN key ks) vs.length = cutL vs (lowN key ks) ks.length := by rw [hkv]
  rw [e4]
  generalize lowN key ks = q at *
  have J1 := hide (fun (u u' : Value) w2 (hN : Nd w2 w2.heap.size u false (cutL ks 0 q) (cutL vs 0 q) 0) (hN' : Nd w2 w2.heap.size u' false [key] [val] 0) => rjoin_any u u' false false (cutL ks 0 q) (cutL vs 0 q) [key] [val] 0 0 0 w2 (by omega) rfl (by omega) (by simp) hN hN')
  have J2 := hide (fun (u u' : Value) w2 (hN : Nd w2 w2.heap.size u false (cutL ks 0 q ++ [key]) (cutL vs 0 q ++ [val]) 0) (hN' : Nd w2 w2.heap.size u' false (cutL ks q ks.length) (cutL vs q ks.length) 0) => rjoin_any u u' false false _ _ _ _ 0 0 l w2 (by simp; omega) (by omega) (by simp; omega) (by omega) hN hN')
  obtain ⟨k0, u0, rfl, hk0, hu0⟩ := h
  obtain ⟨A, c, rfl, _⟩ := hk0
  obtain ⟨B, d, rfl, _⟩ := hu0
  generalize cutL ks 0 q ++ [key] ++ cutL ks q ks.length = k9 at *
  generalize cutL vs 0 q ++ [val] ++ cutL vs q ks.length = v9 at *
  generalize cutL ks 0 q ++ [key] = k8 at *
  generalize cutL vs 0 q ++ [val] = v8 at *
  generalize cutL ks 0 q = x1 at *
  generalize cutL vs 0 q = y1 at *
  generalize cutL ks q ks.length = x2 at *
  generalize cutL vs q ks.length = y2 at *
  have hq3 : (0 : Int) ≤ (q : Int) := by omega
  have hq4 : (q : Int) ≤ 1000 := by omega
  clear l1 l2 l3 l4 e4 zz hkv hq1 hh hl
  generalize ks.length = n at *
  generalize vs.length = m at *
  have bx := Blk.new w 27 #[.bool b, .slice A n c, .slice B m d, .int .u64 l]
  have B0 := (Below.refl w.heap.size w).alloc (Nat.le_refl _) (.cells #[.bool b, .slice A n c, .slice B m d, .int .u64 l] 27)
  have br := Blk.new (w.alloc (.cells #[.bool b, .slice A n c, .slice B m d, .int .u64 l] 27)) 27 #[.bool false, .slice none 0 0, .slice none 0 0, .int .u64 0]
  replace bx := bx.alloc (.cells #[.bool false, .slice none 0 0, .slice none 0 0, .int .u64 0] 27)
  replace B0 := B0.alloc B0.size (.cells #[.bool false, .slice none 0 0, .slice none 0 0, .int .u64 0] 27)
  simp only [World.size_alloc] at br
  have n3 := hide (show w.heap.size ≤ w.heap.size + 1 by omega)
  have HG := hide (show w.heap.size + 1 < w.heap.size + 1 + 1 by omega)
  have HLE := hide (show w.heap.size ≤ w.heap.size + 1 + 1 by omega)
  have n5 := hide (show w.heap.size ≠ w.heap.size + 1 by omega)
  go_enter Try.func24, Try.ntmps24
  go_wp2_with fail
  refine (Fd.out _ B0).mono ?_
  rintro e w1 ⟨rfl, hb1⟩
  replace bx := bx.below hb1 bx.lt
  replace br := br.below hb1 br.lt
  replace B0 := B0.trans (hb1.mono B0.size)
  clear hb1 Fd
  have mx := fun i => bx.cell i
  have lx := bx.lt
  have HMG := hide (show w1.heap.size + 1 + 1 ≠ w.heap.size + 1 by have := br.lt; omega)
  have bk := Blk.new w1 22 #[.int .u64 key]
  replace bx := bx.alloc (.cells #[.int .u64 key] 22)
  replace br := br.alloc (.cells #[.int .u64 key] 22)
  replace B0 := B0.alloc B0.size (.cells #[.int .u64 key] 22)
  have bv := Blk.new (w1.alloc (.cells #[.int .u64 key] 22)) 22 #[.int .u64 val]
  rw [World.size_alloc] at bv
  replace bx := bx.alloc (.cells #[.int .u64 val] 22)
  replace br := br.alloc (.cells #[.int .u64 val] 22)
  replace bk := bk.alloc (.cells #[.int .u64 val] 22)
  replace B0 := B0.alloc B0.size (.cells #[.int .u64 val] 22)
  have bm := Blk.new ((w1.alloc (.cells #[.int .u64 key] 22)).alloc (.cells #[.int .u64 val] 22)) 27 #[.bool false, .slice (some ⟨w1.heap.size, 0, none⟩) 1 1, .slice (some ⟨w1.heap.size + 1, 0, none⟩) 1 1, .int .u64 0]
  rw [World.size_alloc, World.size_alloc] at bm
  replace bx := bx.alloc (.cells #[.bool false, .slice (some ⟨w1.heap.size, 0, none⟩) 1 1, .slice (some ⟨w1.heap.size + 1, 0, none⟩) 1 1, .int .u64 0] 27)
  replace br := br.alloc (.cells #[.bool false, .slice (some ⟨w1.heap.size, 0, none⟩) 1 1, .slice (some ⟨w1.heap.size + 1, 0, none⟩) 1 1, .int .u64 0] 27)
  replace bk := bk.alloc (.cells #[.bool false, .slice (some ⟨w1.heap.size, 0, none⟩) 1 1, .slice (some ⟨w1.heap.size + 1, 0, none⟩) 1 1, .int .u64 0] 27)
  replace bv := bv.alloc (.cells #[.bool false, .slice (some ⟨w1.heap.size, 0, none⟩) 1 1, .slice (some ⟨w1.heap.size + 1, 0, none⟩) 1 1, .int .u64 0] 27)
  replace B0 := B0.alloc B0.size (.cells #[.bool false, .slice (some ⟨w1.heap.size, 0, none⟩) 1 1, .slice (some ⟨w1.heap.size + 1, 0, none⟩) 1 1, .int .u64 0] 27)
  go_wp2_with fail
  generalize ((w1.alloc (.cells #[.int .u64 key] 22)).alloc (.cells #[.int .u64 val] 22)).alloc (.cells #[.bool false, .slice (some ⟨w1.heap.size, 0, none⟩) 1 1, .slice (some ⟨w1.heap.size + 1, 0, none⟩) 1 1, .int .u64 0] 27) = w2 at *
  generalize w1.heap.size + 1 + 1 = gm at *
  generalize w1.heap.size + 1 = gv at *
  generalize w1.heap.size = gk at *
  have hNm : Nd w2 w2.heap.size (.agg #[.bool false, .slice (some ⟨gk, 0, none⟩) 1 1, .slice (some ⟨gv, 0, none⟩) 1 1, .int .u64 0]) false [key] [val] 0 := ⟨_, _, rfl, sl_one bk, sl_one bv⟩
  have Nm := hide (fun w3 (hB : Below w2.heap.size w2 w3) => (hNm.below hB).more hB.size)
  clear hNm bk bv mx lx
  have hbm := Below.refl w2.heap.size w2
  replace bx := bx.drew
  replace br := br.drew
  have hb := B0.drew
  clear B0
  have HB1 := hide (show w.heap.size + 1 + 1 ≤ w2.drew.heap.size from br.lt)
  replace bm := bm.drew
  replace hbm := hbm.drew
  refine wp_region_heldZ [] (fun w' => (w'.cell? ⟨w.heap.size, 0, none⟩ = some (.bool b) ∧ w'.cell? ⟨w.heap.size, 1, none⟩ = some (.slice A n c) ∧ w'.cell? ⟨w.heap.size, 2, none⟩ = some (.slice B m d) ∧ w'.cell? ⟨w.heap.size, 3, none⟩ = some (.int .u64 l)) ∧ (w'.cell? ⟨gm, 0, none⟩ = some (.bool false) ∧ w'.cell? ⟨gm, 1, none⟩ = some (.slice (some ⟨gk, 0, none⟩) 1 1) ∧ w'.cell? ⟨gm, 2, none⟩ = some (.slice (some ⟨gv, 0, none⟩) 1 1) ∧ w'.cell? ⟨gm, 3, none⟩ = some (.int .u64 0))) (by kernel_rfl) (by exact ⟨cellsN bx, cellsN bm⟩) (fun hHeld => ?_)
  refine' wpAnyZ_takeA (i := 0) (v := ?_) (opAt rfl) (by kernel_rfl) (by kernel_rfl) (by kernel_rfl) (by kernel_rfl) (fun _ _ _ h => h) (by assumption) (by rfl) (fun w hSw => ?_) ?_
  rotate_left
  · (try dsimp only at hSw); go_simp; (try with_reducible rfl)
  try simp only [Act.put, List.setIfInBounds_toArray, List.set_cons_zero, List.set_cons_succ]
  refine' wpAnyZ_takeA (i := 1) (v := ?_) (opAt rfl) (by kernel_rfl) (by kernel_rfl) (by kernel_rfl) (by kernel_rfl) (fun _ _ _ h => h) (by assumption) (by rfl) (fun w hSw => ?_) ?_
  rotate_left
  · (try dsimp only at hSw); go_simp; (try with_reducible rfl)
  try simp only [Act.put, List.setIfInBounds_toArray, List.set_cons_zero, List.set_cons_succ]
  refine' wpAnyZ_takeA (i := 3) (v := ?_) (opAt rfl) (by kernel_rfl) (by kernel_rfl) (by kernel_rfl) (by kernel_rfl) (fun _ _ _ h => h) (by assumption) (by rfl) (fun w hSw => ?_) ?_
  rotate_left
  · (try dsimp only at hSw); go_simp; (try with_reducible rfl)
  try simp only [Act.put, List.setIfInBounds_toArray, List.set_cons_zero, List.set_cons_succ]
  refine' wpAnyZ_takeA (i := 5) (v := ?_) (opAt rfl) (by kernel_rfl) (by kernel_rfl) (by kernel_rfl) (by kernel_rfl) (fun _ _ _ h => h) (by assumption) (by rfl) (fun w hSw => ?_) ?_
  rotate_left
  · (try dsimp only at hSw); go_simp; (try with_reducible rfl)
  try simp only [Act.put, List.setIfInBounds_toArray, List.set_cons_zero, List.set_cons_succ]
  refine' wpAnyZ_takeA (i := 6) (v := ?_) (opAt rfl) (by kernel_rfl) (by kernel_rfl) (by kernel_rfl) (by kernel_rfl) (fun _ _ _ h => h) (by assumption) (by rfl) (fun w hSw => ?_) ?_
  rotate_left
  · (try dsimp only at hSw); go_simp; (try with_reducible rfl)
  try simp only [Act.put, List.setIfInBounds_toArray, List.set_cons_zero, List.set_cons_succ]
  refine' wpAnyZ_takeA (i := 7) (v := ?_) (opAt rfl) (by kernel_rfl) (by kernel_rfl) (by kernel_rfl) (by kernel_rfl) (fun _ _ _ h => h) (by assumption) (by rfl) (fun w hSw => ?_) ?_
  rotate_left
  · (try dsimp only at hSw); go_simp; (try with_reducible rfl)
  try simp only [Act.put, List.setIfInBounds_toArray, List.set_cons_zero, List.set_cons_succ]
  refine' wpAnyZ_takeA (i := 8) (v := ?_) (opAt rfl) (by kernel_rfl) (by kernel_rfl) (by kernel_rfl) (by kernel_rfl) (fun _ _ _ h => h) (by assumption) (by rfl) (fun w hSw => ?_) ?_
  rotate_left
  · (try dsimp only at hSw); go_simp; (try with_reducible rfl)
  try simp only [Act.put, List.setIfInBounds_toArray, List.set_cons_zero, List.set_cons_succ]
  refine' wpAnyZ_takeA (i := 9) (v := ?_) (opAt rfl) (by kernel_rfl) (by kernel_rfl) (by kernel_rfl) (by kernel_rfl) (fun _ _ _ h => h) (by assumption) (by rfl) (fun w hSw => ?_) ?_
  rotate_left
  · (try dsimp only at hSw); go_simp; (try with_reducible rfl)
  try simp only [Act.put, List.setIfInBounds_toArray, List.set_cons_zero, List.set_cons_succ]
  refine' wpAnyZ_takeA (i := 11) (v := ?_) (opAt rfl) (by kernel_rfl) (by kernel_rfl) (by kernel_rfl) (by kernel_rfl) (fun _ _ _ h => h) (by assumption) (by rfl) (fun w hSw => ?_) ?_
  rotate_left
  · (try dsimp only at hSw); go_simp; (try with_reducible rfl)
  try simp only [Act.put, List.setIfInBounds_toArray, List.set_cons_zero, List.set_cons_succ]
  refine' wpAnyZ_takeA (i := 12) (v := ?_) (opAt rfl) (by kernel_rfl) (by kernel_rfl) (by kernel_rfl) (by kernel_rfl) (fun _ _ _ h => h) (by assumption) (by rfl) (fun w hSw => ?_) ?_
  rotate_left
  · (try dsimp only at hSw); go_simp; (try with_reducible rfl)
  try simp only [Act.put, List.setIfInBounds_toArray, List.set_cons_zero, List.set_cons_succ]
  refine wpAnyZ_ready (rs := [2]) (by kernel_rfl) (by simp) ?_
  refine AllReadyZ.cons (opAt rfl) (fun K hK => ?_) ?_
  · skip
    go_simp
    refine (C1.out _ hb).mono ?_
    rintro e wc ⟨⟨u1, rfl, hu1⟩, hb1⟩
    replace bx := bx.below hb1 bx.lt
    replace br := br.below hb1 br.lt
    replace bm := bm.below hb1 bm.lt
    replace hb := hb.trans (hb1.mono hb.size)
    obtain ⟨A1, c1, B1, d1, rfl⟩ := hu1.val
    replace hbm := hbm.trans (hb1.mono hbm.size)
    replace HB1 := hide (Nat.le_trans HB1.out hb1.size)
    clear hb1
    try go_wp2_with fail
    refine hK.out _ _ (by exact ⟨cellsN bx, cellsN bm⟩) (fun hHeld => ?_)
    clear hK K
    try simp only [Act.put, List.setIfInBounds_toArray, List.set_cons_zero, List.set_cons_succ]
    refine wpAnyZ_ready (rs := [4]) (by kernel_rfl) (by simp) ?_
    refine AllReadyZ.cons (opAt rfl) (fun K hK => ?_) ?_
    · skip
      go_simp
      refine (J1.out _ _ _ hu1.nd (Nm.out _ hbm)).mono ?_
      rintro e wj ⟨⟨u2, rfl, hu2⟩, hb1⟩
      replace bx := bx.below hb1 bx.lt
      replace br := br.below hb1 br.lt
      replace bm := bm.below hb1 bm.lt
      replace hb := hb.trans (hb1.mono hb.size)
      obtain ⟨A2, c2, B2, d2, rfl⟩ := hu2.val
      replace hbm := hbm.trans (hb1.mono hbm.size)
      replace HB1 := hide (Nat.le_trans HB1.out hb1.size)
      clear hb1
      try go_wp2_with fail
      refine hK.out _ _ (by exact ⟨cellsN bx, cellsN bm⟩) (fun hHeld => ?_)
      clear hK K
      try simp only [Act.put, List.setIfInBounds_toArray, List.set_cons_zero, List.set_cons_succ]
      refine wpAnyZ_ready (rs := [10]) (by kernel_rfl) (by simp) ?_
      refine AllReadyZ.cons (opAt rfl) (fun K hK => ?_) ?_
      · skip
        go_simp
        refine (C2.out _ hb).mono ?_
        rintro e wc ⟨⟨u3, rfl, hu3⟩, hb1⟩
        replace bx := bx.below hb1 bx.lt
        replace br := br.below hb1 br.lt
        replace bm := bm.below hb1 bm.lt
        replace hu2 := hu2.below hb1
        replace hb := hb.trans (hb1.mono hb.size)
        obtain ⟨A3, c3, B3, d3, rfl⟩ := hu3.val
        replace hbm := hbm.trans (hb1.mono hbm.size)
        replace HB1 := hide (Nat.le_trans HB1.out hb1.size)
        clear hb1
        try go_wp2_with fail
        refine hK.out _ _ (by exact ⟨cellsN bx, cellsN bm⟩) (fun hHeld => ?_)
        clear hK K
        try simp only [Act.put, List.setIfInBounds_toArray, List.set_cons_zero, List.set_cons_succ]
        refine wpAnyZ_ready (rs := [13]) (by kernel_rfl) (by simp) ?_
        refine AllReadyZ.cons (opAt rfl) (fun K hK => ?_) ?_
        · skip
          go_simp
          refine (J2.out _ _ _ hu2.nd hu3.nd).mono ?_
          rintro e wj ⟨⟨u9, rfl, hr9⟩, hb1⟩
          replace hr9 := hr9.mono HB1.out
          replace bx := bx.below hb1 bx.lt
          replace br := br.below hb1 br.lt
          replace bm := bm.below hb1 bm.lt
          replace hb := hb.trans (hb1.mono hb.size)
          obtain ⟨A9, c9, B9, d9, rfl⟩ := hr9.val
          replace hbm := hbm.trans (hb1.mono hbm.size)
          replace HB1 := hide (Nat.le_trans HB1.out hb1.size)
          clear hb1
          try go_wp2_with fail
          refine hK.out _ _ (by exact ⟨cellsN bx, cellsN bm⟩) (fun hHeld => ?_)
          clear hK K
          try simp only [Act.put, List.setIfInBounds_toArray, List.set_cons_zero, List.set_cons_succ]
          refine wpAnyZ_ready (rs := [14]) (by kernel_rfl) (by simp) ?_
          refine AllReadyZ.cons (opAt rfl) (fun K hK => ?_) ?_
          · skip
            have zq := fun i => br.frozen i
            have mq := fun i => br.cell i
            go_simp
            clear zq mq
            replace br := br.setN (.bool false) (.slice A9 k9.length c9) (.slice B9 v9.length d9) (.int .u64 l)
            have RR := hr9.farN HG.out (.bool false) (.slice A9 k9.length c9) (.slice B9 v9.length d9) (.int .u64 l)
            replace bx := bx.far4 n5.out (.bool false) (.slice A9 k9.length c9) (.slice B9 v9.length d9) (.int .u64 l)
            replace hb := below_setN hb (g := w.heap.size + 1) n3.out (.bool false) (.slice A9 k9.length c9) (.slice B9 v9.length d9) (.int .u64 l)
            clear hr9
            replace bm := bm.far4 HMG.out (.bool false) (.slice A9 k9.length c9) (.slice B9 v9.length d9) (.int .u64 l)
            generalize ((((wj.setCell ⟨w.heap.size + 1, 0, none⟩ (.bool false)).setCell ⟨w.heap.size + 1, 1, none⟩ (.slice A9 k9.length c9)).setCell ⟨w.heap.size + 1, 2, none⟩ (.slice B9 v9.length d9)).setCell ⟨w.heap.size + 1, 3, none⟩ (.int .u64 l)) = wz at *
            refine hK.out _ _ (by exact ⟨cellsN bx, cellsN bm⟩) (fun hHeld => ?_)
            clear hK K
            try simp only [Act.put, List.setIfInBounds_toArray, List.set_cons_zero, List.set_cons_succ]
            refine wpAnyZ_done (by kernel_rfl) ?_ _
            have m1 := fun i => br.cell i
            go_wp2_with fail
            refine bodyPost_ret (v := .agg #[.bool false, .slice A9 k9.length c9, .slice B9 v9.length d9, .int .u64 l]) (by simp [results, Try.results24, go_sem, m1]) rfl ⟨⟨_, rfl, RR.mono HLE.out⟩, hb⟩
          exact AllReadyZ.nil
        exact AllReadyZ.nil
      exact AllReadyZ.nil
    exact AllReadyZ.nil
  exact AllReadyZ.nil
set_option maxRecDepth 100000 in
set_option maxHeartbeats 4000000 in
theorem rdrop_no (v : Value) (b : Bool) (ks vs : List Int) (l key : Int) (w : World) (hl : ks.length ≤ 900) (h : Nd w w.heap.size v b ks vs l) (hkv : ks.length = vs.length) (hq1 : lowN key ks ≤ ks.length) (hh : hasB key ks = false) :
    Calls Try.prog 25 #[v, .int .u64 key] w fun e w' => (∃ u, e = .returned u ∧ NdO w' w.heap.size u false (cutL ks 0 (lowN key ks) ++ cutL ks (lowN key ks) ks.length) (cutL vs 0 (lowN key ks) ++ cutL vs (lowN key ks) vs.length) l) ∧ Below w.heap.size w w' := by
  have Fd := hide (fun w2 (hB : Below w.heap.size w w2) => rfind_any v b ks vs l key w2 (by omega) ((h.below hB).more hB.size))
  rw [hh] at Fd
  have C1 := hide (fun w2 (hB : Below w.heap.size w w2) => rcut_any v b ks vs l 0 0 (lowN key ks) w2 (by omega) (by omega) (by omega) (by omega) (by omega) ((h.below hB).more hB.size))
  have C2 := hide (fun w2 (hB : Below w.heap.size w w2) => rcut_any v b ks vs l 0 (lowN key ks) ks.length w2 (by omega) (by omega) (by omega) (by omega) (by omega) ((h.below hB).more hB.size))
  have zz : ((0 : Nat) : Int) = 0 := rfl
  rw [zz] at C1
  have l1 := cutL_len ks 0 (lowN key ks) (by omega)
  have l2 := cutL_len vs 0 (lowN key ks) (by omega)
  have l3 := cutL_len ks (lowN key ks) ks.length (Nat.le_refl _)
  have l4 := cutL_len vs (lowN key ks) ks.length (by omega)
  have e4 : cutL vs (lowN key ks) vs.length = cutL vs (lowN key ks) ks.length := by rw [hkv]
  rw [e4]
  generalize lowN key ks = q at *
  have J2 := hide (fun (u u' : Value) w2 (hN : Nd w2 w2.heap.size u false (cutL ks 0 q) (cutL vs 0 q) 0) (hN' : Nd w2 w2.heap.size u' false (cutL ks q ks.length) (cutL vs q ks.length) 0) => rjoin_any u u' false false _ _ _ _ 0 0 l w2 (by omega) (by omega) (by omega) (by omega) hN hN')
  obtain ⟨k0, u0, rfl, hk0, hu0⟩ := h
  obtain ⟨A, c, rfl, _⟩ := hk0
  obtain ⟨B, d, rfl, _⟩ := hu0
  generalize cutL ks 0 q ++ cutL ks q ks.length = k9 at *
  generalize cutL vs 0 q ++ cutL vs q ks.length = v9 at *
  generalize cutL ks 0 q = x1 at *
  generalize cutL vs 0 q = y1 at *
  generalize cutL ks q ks.length = x2 at *
  generalize cutL vs q ks.length = y2 at *
  have hq3 : (0 : Int) ≤ (q : Int) := by omega
  have hq4 : (q : Int) ≤ 1000 := by omega
  clear l1 l2 l3 l4 e4 zz hkv hq1 hh hl
  generalize ks.length = n at *
  generalize vs.length = m at *
  have bx := Blk.new w 27 #[.bool b, .slice A n c, .slice B m d, .int .u64 l]
  have B0 := (Below.refl w.heap.size w).alloc (Nat.le_refl _) (.cells #[.bool b, .slice A n c, .slice B m d, .int .u64 l] 27)
  have br := Blk.new (w.alloc (.cells #[.bool b, .slice A n c, .slice B m d, .int .u64 l] 27)) 27 #[.bool false, .slice none 0 0, .slice none 0 0, .int .u64 0]
  replace bx := bx.alloc (.cells #[.bool false, .slice none 0 0, .slice none 0 0, .int .u64 0] 27)
  replace B0 := B0.alloc B0.size (.cells #[.bool false, .slice none 0 0, .slice none 0 0, .int .u64 0] 27)
  simp only [World.size_alloc] at br
  have n3 := hide (show w.heap.size ≤ w.heap.size + 1 by omega)
  have HG := hide (show w.heap.size + 1 < w.heap.size + 1 + 1 by omega)
  have HLE := hide (show w.heap.size ≤ w.heap.size + 1 + 1 by omega)
  have n5 := hide (show w.heap.size ≠ w.heap.size + 1 by omega)
  go_enter Try.func25, Try.ntmps25
  go_wp2_with fail
  refine (Fd.out _ B0).mono ?_
  rintro e w1 ⟨rfl, hb1⟩
  replace bx := bx.below hb1 bx.lt
  replace br := br.below hb1 br.lt
  replace B0 := B0.trans (hb1.mono B0.size)
  clear hb1 Fd
  have mx := fun i => bx.cell i
  have lx := bx.lt
  go_wp2_with fail
  clear mx lx
  replace bx := bx.drew
  replace br := br.drew
  have hb := B0.drew
  clear B0
  have HB1 := hide (show w.heap.size + 1 + 1 ≤ w1.drew.heap.size from br.lt)
  refine wp_region_heldZ [] (fun w' => w'.cell? ⟨w.heap.size, 0, none⟩ = some (.bool b) ∧ w'.cell? ⟨w.heap.size, 1, none⟩ = some (.slice A n c) ∧ w'.cell? ⟨w.heap.size, 2, none⟩ = some (.slice B m d) ∧ w'.cell? ⟨w.heap.size, 3, none⟩ = some (.int .u64 l)) (by kernel_rfl) (by exact cellsN bx) (fun hHeld => ?_)
  refine' wpAnyZ_takeA (i := 0) (v := ?_) (opAt rfl) (by kernel_rfl) (by kernel_rfl) (by kernel_rfl) (by kernel_rfl) (fun _ _ _ h => h) (by assumption) (by rfl) (fun w hSw => ?_) ?_
  rotate_left
  · (try dsimp only at hSw); go_simp; (try with_reducible rfl)
  try simp only [Act.put, List.setIfInBounds_toArray, List.set_cons_zero, List.set_cons_succ]
  refine' wpAnyZ_takeA (i := 1) (v := ?_) (opAt rfl) (by kernel_rfl) (by kernel_rfl) (by kernel_rfl) (by kernel_rfl) (fun _ _ _ h => h) (by assumption) (by rfl) (fun w hSw => ?_) ?_
  rotate_left
  · (try dsimp only at hSw); go_simp; (try with_reducible rfl)
  try simp only [Act.put, List.setIfInBounds_toArray, List.set_cons_zero, List.set_cons_succ]
  refine' wpAnyZ_takeA (i := 3) (v := ?_) (opAt rfl) (by kernel_rfl) (by kernel_rfl) (by kernel_rfl) (by kernel_rfl) (fun _ _ _ h => h) (by assumption) (by rfl) (fun w hSw => ?_) ?_
  rotate_left
  · (try dsimp only at hSw); go_simp; (try with_reducible rfl)
  try simp only [Act.put, List.setIfInBounds_toArray, List.set_cons_zero, List.set_cons_succ]
  refine' wpAnyZ_takeA (i := 4) (v := ?_) (opAt rfl) (by kernel_rfl) (by kernel_rfl) (by kernel_rfl) (by kernel_rfl) (fun _ _ _ h => h) (by assumption) (by rfl) (fun w hSw => ?_) ?_
  rotate_left
  · (try dsimp only at hSw); go_simp; (try with_reducible rfl)
  try simp only [Act.put, List.setIfInBounds_toArray, List.set_cons_zero, List.set_cons_succ]
  refine' wpAnyZ_takeA (i := 5) (v := ?_) (opAt rfl) (by kernel_rfl) (by kernel_rfl) (by kernel_rfl) (by kernel_rfl) (fun _ _ _ h => h) (by assumption) (by rfl) (fun w hSw => ?_) ?_
  rotate_left
  · (try dsimp only at hSw); go_simp; (try with_reducible rfl)
  try simp only [Act.put, List.setIfInBounds_toArray, List.set_cons_zero, List.set_cons_succ]
  refine' wpAnyZ_takeA (i := 6) (v := ?_) (opAt rfl) (by kernel_rfl) (by kernel_rfl) (by kernel_rfl) (by kernel_rfl) (fun _ _ _ h => h) (by assumption) (by rfl) (fun w hSw => ?_) ?_
  rotate_left
  · (try dsimp only at hSw); go_simp; (try with_reducible rfl)
  try simp only [Act.put, List.setIfInBounds_toArray, List.set_cons_zero, List.set_cons_succ]
  refine' wpAnyZ_takeA (i := 7) (v := ?_) (opAt rfl) (by kernel_rfl) (by kernel_rfl) (by kernel_rfl) (by kernel_rfl) (fun _ _ _ h => h) (by assumption) (by rfl) (fun w hSw => ?_) ?_
  rotate_left
  · (try dsimp only at hSw); go_simp; (try with_reducible rfl)
  try simp only [Act.put, List.setIfInBounds_toArray, List.set_cons_zero, List.set_cons_succ]
  refine' wpAnyZ_takeA (i := 9) (v := ?_) (opAt rfl) (by kernel_rfl) (by kernel_rfl) (by kernel_rfl) (by kernel_rfl) (fun _ _ _ h => h) (by assumption) (by rfl) (fun w hSw => ?_) ?_
  rotate_left
  · (try dsimp only at hSw); go_simp; (try with_reducible rfl)
  try simp only [Act.put, List.setIfInBounds_toArray, List.set_cons_zero, List.set_cons_succ]
  refine' wpAnyZ_takeA (i := 10) (v := ?_) (opAt rfl) (by kernel_rfl) (by kernel_rfl) (by kernel_rfl) (by kernel_rfl) (fun _ _ _ h => h) (by assumption) (by rfl) (fun w hSw => ?_) ?_
  rotate_left
  · (try dsimp only at hSw); go_simp; (try with_reducible rfl)
  try simp only [Act.put, List.setIfInBounds_toArray, List.set_cons_zero, List.set_cons_succ]
  refine wpAnyZ_ready (rs := [2]) (by kernel_rfl) (by simp) ?_
  refine AllReadyZ.cons (opAt rfl) (fun K hK => ?_) ?_
  · skip
    go_simp
    refine (C1.out _ hb).mono ?_
    rintro e wc ⟨⟨u1, rfl, hu1⟩, hb1⟩
    replace bx := bx.below hb1 bx.lt
    replace br := br.below hb1 br.lt
    replace hb := hb.trans (hb1.mono hb.size)
    obtain ⟨A1, c1, B1, d1, rfl⟩ := hu1.val
    replace HB1 := hide (Nat.le_trans HB1.out hb1.size)
    clear hb1
    try go_wp2_with fail
    refine hK.out _ _ (by exact cellsN bx) (fun hHeld => ?_)
    clear hK K
    try simp only [Act.put, List.setIfInBounds_toArray, List.set_cons_zero, List.set_cons_succ]
    refine wpAnyZ_ready (rs := [8]) (by kernel_rfl) (by simp) ?_
    refine AllReadyZ.cons (opAt rfl) (fun K hK => ?_) ?_
    · skip
      go_simp
      refine (C2.out _ hb).mono ?_
      rintro e wc ⟨⟨u3, rfl, hu3⟩, hb1⟩
      replace bx := bx.below hb1 bx.lt
      replace br := br.below hb1 br.lt
      replace hu1 := hu1.below hb1
      replace hb := hb.trans (hb1.mono hb.size)
      obtain ⟨A3, c3, B3, d3, rfl⟩ := hu3.val
      replace HB1 := hide (Nat.le_trans HB1.out hb1.size)
      clear hb1
      try go_wp2_with fail
      refine hK.out _ _ (by exact cellsN bx) (fun hHeld => ?_)
      clear hK K
      try simp only [Act.put, List.setIfInBounds_toArray, List.set_cons_zero, List.set_cons_succ]
      refine wpAnyZ_ready (rs := [11]) (by kernel_rfl) (by simp) ?_
      refine AllReadyZ.cons (opAt rfl) (fun K hK => ?_) ?_
      · skip
        go_simp
        refine (J2.out _ _ _ hu1.nd hu3.nd).mono ?_
        rintro e wj ⟨⟨u9, rfl, hr9⟩, hb1⟩
        replace hr9 := hr9.mono HB1.out
        replace bx := bx.below hb1 bx.lt
        replace br := br.below hb1 br.lt
        replace hb := hb.trans (hb1.mono hb.size)
        obtain ⟨A9, c9, B9, d9, rfl⟩ := hr9.val
        replace HB1 := hide (Nat.le_trans HB1.out hb1.size)
        clear hb1
        try go_wp2_with fail
        refine hK.out _ _ (by exact cellsN bx) (fun hHeld => ?_)
        clear hK K
        try simp only [Act.put, List.setIfInBounds_toArray, List.set_cons_zero, List.set_cons_succ]
        refine wpAnyZ_ready (rs := [12]) (by kernel_rfl) (by simp) ?_
        refine AllReadyZ.cons (opAt rfl) (fun K hK => ?_) ?_
        · skip
          have zq := fun i => br.frozen i
          have mq := fun i => br.cell i
          go_simp
          clear zq mq
          replace br := br.setN (.bool false) (.slice A9 k9.length c9) (.slice B9 v9.length d9) (.int .u64 l)
          have RR := hr9.farN HG.out (.bool false) (.slice A9 k9.length c9) (.slice B9 v9.length d9) (.int .u64 l)
          replace bx := bx.far4 n5.out (.bool false) (.slice A9 k9.length c9) (.slice B9 v9.length d9) (.int .u64 l)
          replace hb := below_setN hb (g := w.heap.size + 1) n3.out (.bool false) (.slice A9 k9.length c9) (.slice B9 v9.length d9) (.int .u64 l)
          clear hr9
          generalize ((((wj.setCell ⟨w.heap.size + 1, 0, none⟩ (.bool false)).setCell ⟨w.heap.size + 1, 1, none⟩ (.slice A9 k9.length c9)).setCell ⟨w.heap.size + 1, 2, none⟩ (.slice B9 v9.length d9)).setCell ⟨w.heap.size + 1, 3, none⟩ (.int .u64 l)) = wz at *
          refine hK.out _ _ (by exact cellsN bx) (fun hHeld => ?_)
          clear hK K
          try simp only [Act.put, List.setIfInBounds_toArray, List.set_cons_zero, List.set_cons_succ]
          refine wpAnyZ_done (by kernel_rfl) ?_ _
          have m1 := fun i => br.cell i
          go_wp2_with fail
          refine bodyPost_ret (v := .agg #[.bool false, .slice A9 k9.length c9, .slice B9 v9.length d9, .int .u64 l]) (by simp [results, Try.results25, go_sem, m1]) rfl ⟨⟨_, rfl, RR.mono HLE.out⟩, hb⟩
        exact AllReadyZ.nil
      exact AllReadyZ.nil
    exact AllReadyZ.nil
  exact AllReadyZ.nil
end Go.Proofs.Ytogpdgogcjljfaa
