/-
  inner.Split.
-/
import Derived.Test.YtcmoblibjhaegaaIw
import Derived.Test.YtcmoblibjhaegaaRise
namespace Go.Proofs.Ytcmoblibjhaegaa
open Go.RowKit

theorem NdO.set_blk {w : World} {lo g : Nat} {T : TypeId} {cs : Array Value} {v : Value} {b : Bool} {ks vs : List Int} {l : Int} (h : NdO w lo v b ks vs l) (hb : Blk w g T cs) (hne : 22 ≠ T) (f : Nat) (x : Value) : NdO (w.setCell ⟨g, f, none⟩ x) lo v b ks vs l := by
  obtain ⟨k, u', e, h1, h2⟩ := h
  exact ⟨k, u', e, own_set_blk h1 hb hne f x, own_set_blk h2 hb hne f x⟩
def SplitOut (ga gb gk lo : Nat) (key : Int) (x1 x2 x3 x4 : List Int) (w' : World) : Prop :=
  ∃ k1 u1 k2 u2, Blk w' ga 27 #[.bool true, k1, u1, .int .u64 0] ∧ Blk w' gb 27 #[.bool true, k2, u2, .int .u64 0] ∧ Blk w' gk 22 #[.int .u64 key] ∧ NdO w' lo (.agg #[.bool true, k1, u1, .int .u64 0]) true x1 x2 0 ∧ NdO w' lo (.agg #[.bool true, k2, u2, .int .u64 0]) true x3 x4 0
theorem SplitOut.set_ {ga gb gk lo g : Nat} {key : Int} {x1 x2 x3 x4 : List Int} {w' : World} (h : SplitOut ga gb gk lo key x1 x2 x3 x4 w') {x y : Value} (hb : Blk w' g 4 #[x]) : SplitOut ga gb gk lo key x1 x2 x3 x4 (w'.setCell ⟨g, 0, none⟩ y) := by
  obtain ⟨k1, u1, k2, u2, h1, h2, h3, h4, h5⟩ := h
  exact ⟨k1, u1, k2, u2, h1.far (p := ⟨g, 0, none⟩) (h1.ne_ hb (by decide)) _, h2.far (p := ⟨g, 0, none⟩) (h2.ne_ hb (by decide)) _, h3.far (p := ⟨g, 0, none⟩) (h3.ne_ hb (by decide)) _, h4.set_blk hb (by decide) _ _, h5.set_blk hb (by decide) _ _⟩
theorem SplitOut.mono {ga gb gk lo lo' : Nat} {key : Int} {x1 x2 x3 x4 : List Int} {w' : World} (h : SplitOut ga gb gk lo key x1 x2 x3 x4 w') (hl : lo' ≤ lo) : SplitOut ga gb gk lo' key x1 x2 x3 x4 w' := by
  obtain ⟨k1, u1, k2, u2, h1, h2, h3, h4, h5⟩ := h
  exact ⟨k1, u1, k2, u2, h1, h2, h3, h4.mono hl, h5.mono hl⟩
set_option maxRecDepth 100000 in
set_option maxHeartbeats 4000000 in
theorem split1_yes (b : Bool) (A A' : Option Addr) (c c' : Nat) (ks vs : List Int) (l : Int) (B gx ga gb gk : Nat) (w : World) (hl : ks.length ≤ 1000) (h : Nd w B (.agg #[.bool b, .slice A ks.length c, .slice A' vs.length c', .int .u64 l]) b ks vs l) (hr : rightI b ks vs = true) (h2 : 2 ≤ vs.length)
    (bx : Blk w gx 27 #[.bool b, .slice A ks.length c, .slice A' vs.length c', .int .u64 l]) (ba : Blk w ga 27 #[.bool false, .slice none 0 0, .slice none 0 0, .int .u64 0]) (bb : Blk w gb 27 #[.bool false, .slice none 0 0, .slice none 0 0, .int .u64 0]) (bk : Blk w gk 22 #[.int .u64 0]) (hBa : B ≤ ga) (hBb : B ≤ gb) (hBk : B ≤ gk) (hxa : gx ≠ ga) (hxb : gx ≠ gb) (hab : ga ≠ gb)
    (k q : Nat) (hk : k = vs.length - vs.length / 2) (hq : k = q + 1) :
    Calls Try.prog 31 #[.pointer (some ⟨gx, 0, none⟩), .pointer (some ⟨ga, 0, none⟩), .pointer (some ⟨gb, 0, none⟩), .pointer (some ⟨gk, 0, none⟩)] w fun e w' => e = .returned (.tuple #[]) ∧ Part [ga, gb, gk] w w' ∧
      SplitOut ga gb gk w.heap.size (ks.getD q 0) (ks.take q) (vs.take k) (ks.drop k) (vs.drop k) w' := by
  have hBw : B ≤ w.heap.size := by have := ba.lt; omega
  obtain ⟨rfl, hlen, hrise⟩ := rightI_parts hr
  have Rt := hide (fun w2 (hB : Below w.heap.size w w2) => iright_any _ true ks vs l w2 (by omega) (((h.more hBw).below hB).more hB.size))
  rw [hr] at Rt
  obtain ⟨k1, u1, e1, hk1, hu1⟩ := h
  simp only [Value.agg.injEq, Array.mk.injEq, List.cons.injEq, and_true, true_and] at e1
  obtain ⟨rfl, rfl⟩ := e1
  have S1 := sl_pre (a := q) hk1 (by omega)
  have S2 := sl_pre (a := k) hu1 (by omega)
  have hS3 := sl_suf (b := k) hk1 (by omega)
  have hS4 := sl_suf (b := k) hu1 (by omega)
  have N1 := hide (fun kv vv w2 (r1 : Own w2 w.heap.size kv (ks.take q)) (r2 : Own w2 w.heap.size vv (vs.take k)) => node_yes kv vv _ _ 0 w2 (by simp; omega) r1.sl r2.sl (rightI_of (by simp; omega) (rise_sub hrise (List.take_sublist _ _))))
  have N2 := hide (fun kv vv w2 (r1 : Own w2 w.heap.size kv (ks.drop k)) (r2 : Own w2 w.heap.size vv (vs.drop k)) => node_yes kv vv _ _ 0 w2 (by simp; omega) r1.sl r2.sl (rightI_of (by simp; omega) (rise_sub hrise (List.drop_sublist _ _))))
  have HL1 := hide (show (ks.take q).length ≤ 1000000 by simp; omega)
  have HL2 := hide (show (vs.take k).length ≤ 1000000 by simp; omega)
  have HL3 := hide (show (ks.drop k).length ≤ 1000000 by simp; omega)
  have HL4 := hide (show (vs.drop k).length ≤ 1000000 by simp; omega)
  obtain ⟨A0, c0, e0, hc1, hc2, hrk⟩ := hk1
  simp only [Value.slice.injEq, true_and] at e0
  obtain ⟨rfl, rfl⟩ := e0
  obtain ⟨A0', c0', e0', hc1', hc2', hrk'⟩ := hu1
  simp only [Value.slice.injEq, true_and] at e0'
  obtain ⟨rfl, rfl⟩ := e0'
  obtain ⟨ad, hAd, hkl, zk⟩ := hrk.word (k := q) (by omega)
  have HA := hide hAd
  rw [gD ks q hkl]
  have ZK := hide (fun w2 (hB : Below B w w2) => (show w2.cell? (ad.add q) = some (.int .u64 ks[q]) from by
    obtain ⟨a', ea, _, zz⟩ := (hrk.below hB).word (k := q) (by omega)
    rw [HA.out] at ea
    injection ea with ea
    subst ea
    exact zz))
  generalize ks[q] = x at *
  generalize ks.take q = x1 at *
  generalize vs.take k = x2 at *
  generalize ks.drop k = x3 at *
  generalize vs.drop k = x4 at *
  have C1 := hide (fun w2 (hB : Below w.heap.size w w2) => clone_any _ x1 w2 HL1.out (((S1.more hBw).below hB).more hB.size))
  have C2 := hide (fun w2 (hB : Below w.heap.size w w2) => clone_any _ x2 w2 HL2.out (((S2.more hBw).below hB).more hB.size))
  clear S1 S2 hrk hrk' zk hr hrise hAd
  generalize hn : ks.length = n at *
  generalize hm : vs.length = m at *
  have t1 : (m : Int) - (m : Int).tdiv 2 = (k : Int) := by rw [Int.tdiv_eq_ediv_of_nonneg (by omega)]; omega
  have t1' : (m : Int) - (m : Int) / 2 = (k : Int) := by omega
  have tw1 : IntKind.i64.wrap (q : Int) = (q : Int) := IntWalk.i64_in _ (by omega)
  have tw2 : IntKind.i64.wrap (k : Int) = (k : Int) := IntWalk.i64_in _ (by omega)
  have t2 : (k : Int) - 1 = (q : Int) := by omega
  have t3 : (2 : Int) ≤ (m : Int) := by omega
  have t4 : (q : Int) ≤ (c : Int) := by omega
  have t5 : (k : Int) ≤ (c' : Int) := by omega
  have t6 : (k : Int) ≤ (n : Int) := by omega
  have t7 : (k : Int) ≤ (m : Int) := by omega
  have t8 : (n : Int) ≤ (c : Int) := by omega
  have t9 : (m : Int) ≤ (c' : Int) := by omega
  have t10 : (q : Int) < (n : Int) := by omega
  clear hlen hk hq h2 hl hm hn
  have HXA := hide hxa
  have HXB := hide hxb
  have HAB := hide hab
  have HBA := hide hab.symm
  have HKA := hide (bk.ne_ ba (by decide))
  have HKB := hide (bk.ne_ bb (by decide))
  have HAK := hide (bk.ne_ ba (by decide)).symm
  have HBK := hide (bk.ne_ bb (by decide)).symm
  have HGK := hide bk.lt
  have hb := Below.refl w.heap.size w
  have HP := Part.refl [ga, gb, gk] w
  have mx := fun i => bx.cell i
  go_enter Try.func31, Try.ntmps31
  go_wp2_with fail
  refine (Rt.out _ hb).mono ?_
  rintro e wa ⟨rfl, hb1⟩
  clear mx
  replace bx := bx.below hb1 bx.lt
  replace ba := ba.below hb1 ba.lt
  replace bb := bb.below hb1 bb.lt
  replace bk := bk.below hb1 bk.lt
  replace hb := hb.trans (hb1.mono hb.size)
  replace HP := HP.trans (Part.of_below hb1)
  clear hb1
  have mx := fun i => bx.cell i
  go_wp2_with fail
  refine (must_yes _).mono ?_
  rintro e wb ⟨rfl, rfl⟩
  go_wp2_with fail
  refine wp_region_heldZ [] (fun w' => w'.cell? ⟨gx, 1, none⟩ = some (.slice A n c) ∧ w'.cell? ⟨gx, 2, none⟩ = some (.slice A' m c')) (by kernel_rfl) (by exact ⟨bx.cell 1, bx.cell 2⟩) (fun hHeld => ?_)
  replace bx := bx.drew
  replace ba := ba.drew
  replace bb := bb.drew
  replace bk := bk.drew
  replace hb := hb.drew
  replace HP := HP.trans (Part.of_below (Below.refl _ _).drew)
  generalize wb.drew = w2 at *
  refine' wpAnyZ_takeA (i := 0) (v := ?_) (opAt rfl) (by kernel_rfl) (by kernel_rfl) (by kernel_rfl) (by kernel_rfl) (fun _ _ _ h => h) (by assumption) (by rfl) (fun w hSw => ?_) ?_
  rotate_left
  · (try dsimp only at hSw); go_simp; (try with_reducible rfl)
  try simp only [Act.put, List.setIfInBounds_toArray, List.set_cons_zero, List.set_cons_succ]
  refine' wpAnyZ_takeA (i := 1) (v := ?_) (opAt rfl) (by kernel_rfl) (by kernel_rfl) (by kernel_rfl) (by kernel_rfl) (fun _ _ _ h => h) (by assumption) (by rfl) (fun w hSw => ?_) ?_
  rotate_left
  · (try dsimp only at hSw); go_simp; (try with_reducible rfl)
  try simp only [Act.put, List.setIfInBounds_toArray, List.set_cons_zero, List.set_cons_succ]
  refine' wpAnyZ_takeA (i := 2) (v := ?_) (opAt rfl) (by kernel_rfl) (by kernel_rfl) (by kernel_rfl) (by kernel_rfl) (fun _ _ _ h => h) (by assumption) (by rfl) (fun w hSw => ?_) ?_
  rotate_left
  · (try dsimp only at hSw); go_simp; (try with_reducible rfl)
  try simp only [Act.put, List.setIfInBounds_toArray, List.set_cons_zero, List.set_cons_succ]
  refine' wpAnyZ_takeA (i := 3) (v := ?_) (opAt rfl) (by kernel_rfl) (by kernel_rfl) (by kernel_rfl) (by kernel_rfl) (fun _ _ _ h => h) (by assumption) (by rfl) (fun w hSw => ?_) ?_
  rotate_left
  · (try dsimp only at hSw); go_simp; (try with_reducible rfl)
  try simp only [Act.put, List.setIfInBounds_toArray, List.set_cons_zero, List.set_cons_succ]
  refine' wpAnyZ_takeA (i := 4) (v := ?_) (opAt rfl) (by kernel_rfl) (by kernel_rfl) (by kernel_rfl) (by kernel_rfl) (fun _ _ _ h => h) (by assumption) (by rfl) (fun w hSw => ?_) ?_
  rotate_left
  · (try dsimp only at hSw); go_simp; (try with_reducible rfl)
  try simp only [Act.put, List.setIfInBounds_toArray, List.set_cons_zero, List.set_cons_succ]
  refine' wpAnyZ_takeA (i := 6) (v := ?_) (opAt rfl) (by kernel_rfl) (by kernel_rfl) (by kernel_rfl) (by kernel_rfl) (fun _ _ _ h => h) (by assumption) (by rfl) (fun w hSw => ?_) ?_
  rotate_left
  · (try dsimp only at hSw); go_simp; (try with_reducible rfl)
  try simp only [Act.put, List.setIfInBounds_toArray, List.set_cons_zero, List.set_cons_succ]
  refine' wpAnyZ_takeA (i := 7) (v := ?_) (opAt rfl) (by kernel_rfl) (by kernel_rfl) (by kernel_rfl) (by kernel_rfl) (fun _ _ _ h => h) (by assumption) (by rfl) (fun w hSw => ?_) ?_
  rotate_left
  · (try dsimp only at hSw); go_simp; (try with_reducible rfl)
  try simp only [Act.put, List.setIfInBounds_toArray, List.set_cons_zero, List.set_cons_succ]
  refine' wpAnyZ_takeA (i := 8) (v := ?_) (opAt rfl) (by kernel_rfl) (by kernel_rfl) (by kernel_rfl) (by kernel_rfl) (fun _ _ _ h => h) (by assumption) (by rfl) (fun w hSw => ?_) ?_
  rotate_left
  · (try dsimp only at hSw); go_simp; (try with_reducible rfl)
  try simp only [Act.put, List.setIfInBounds_toArray, List.set_cons_zero, List.set_cons_succ]
  refine' wpAnyZ_takeA (i := 9) (v := ?_) (opAt rfl) (by kernel_rfl) (by kernel_rfl) (by kernel_rfl) (by kernel_rfl) (fun _ _ _ h => h) (by assumption) (by rfl) (fun w hSw => ?_) ?_
  rotate_left
  · (try dsimp only at hSw); go_simp; (try with_reducible rfl)
  try simp only [Act.put, List.setIfInBounds_toArray, List.set_cons_zero, List.set_cons_succ]
  refine' wpAnyZ_takeA (i := 12) (v := ?_) (opAt rfl) (by kernel_rfl) (by kernel_rfl) (by kernel_rfl) (by kernel_rfl) (fun _ _ _ h => h) (by assumption) (by rfl) (fun w hSw => ?_) ?_
  rotate_left
  · (try dsimp only at hSw); go_simp; (try with_reducible rfl)
  try simp only [Act.put, List.setIfInBounds_toArray, List.set_cons_zero, List.set_cons_succ]
  refine' wpAnyZ_takeA (i := 13) (v := ?_) (opAt rfl) (by kernel_rfl) (by kernel_rfl) (by kernel_rfl) (by kernel_rfl) (fun _ _ _ h => h) (by assumption) (by rfl) (fun w hSw => ?_) ?_
  rotate_left
  · (try dsimp only at hSw); go_simp; (try with_reducible rfl)
  try simp only [Act.put, List.setIfInBounds_toArray, List.set_cons_zero, List.set_cons_succ]
  refine' wpAnyZ_takeA (i := 14) (v := ?_) (opAt rfl) (by kernel_rfl) (by kernel_rfl) (by kernel_rfl) (by kernel_rfl) (fun _ _ _ h => h) (by assumption) (by rfl) (fun w hSw => ?_) ?_
  rotate_left
  · (try dsimp only at hSw); go_simp; (try with_reducible rfl)
  try simp only [Act.put, List.setIfInBounds_toArray, List.set_cons_zero, List.set_cons_succ]
  refine' wpAnyZ_takeA (i := 15) (v := ?_) (opAt rfl) (by kernel_rfl) (by kernel_rfl) (by kernel_rfl) (by kernel_rfl) (fun _ _ _ h => h) (by assumption) (by rfl) (fun w hSw => ?_) ?_
  rotate_left
  · (try dsimp only at hSw); go_simp; (try with_reducible rfl)
  try simp only [Act.put, List.setIfInBounds_toArray, List.set_cons_zero, List.set_cons_succ]
  refine' wpAnyZ_takeA (i := 17) (v := ?_) (opAt rfl) (by kernel_rfl) (by kernel_rfl) (by kernel_rfl) (by kernel_rfl) (fun _ _ _ h => h) (by assumption) (by rfl) (fun w hSw => ?_) ?_
  rotate_left
  · (try dsimp only at hSw); go_simp; (try with_reducible rfl)
  try simp only [Act.put, List.setIfInBounds_toArray, List.set_cons_zero, List.set_cons_succ]
  refine' wpAnyZ_takeA (i := 18) (v := ?_) (opAt rfl) (by kernel_rfl) (by kernel_rfl) (by kernel_rfl) (by kernel_rfl) (fun _ _ _ h => h) (by assumption) (by rfl) (fun w hSw => ?_) ?_
  rotate_left
  · (try dsimp only at hSw); go_simp; (try with_reducible rfl)
  try simp only [Act.put, List.setIfInBounds_toArray, List.set_cons_zero, List.set_cons_succ]
  refine' wpAnyZ_takeA (i := 19) (v := ?_) (opAt rfl) (by kernel_rfl) (by kernel_rfl) (by kernel_rfl) (by kernel_rfl) (fun _ _ _ h => h) (by assumption) (by rfl) (fun w hSw => ?_) ?_
  rotate_left
  · (try dsimp only at hSw); go_simp; (try with_reducible rfl)
  try simp only [Act.put, List.setIfInBounds_toArray, List.set_cons_zero, List.set_cons_succ]
  refine' wpAnyZ_takeA (i := 20) (v := ?_) (opAt rfl) (by kernel_rfl) (by kernel_rfl) (by kernel_rfl) (by kernel_rfl) (fun _ _ _ h => h) (by assumption) (by rfl) (fun w hSw => ?_) ?_
  rotate_left
  · (try dsimp only at hSw); go_simp; (try with_reducible rfl)
  try simp only [Act.put, List.setIfInBounds_toArray, List.set_cons_zero, List.set_cons_succ]
  have S3 := hS3
  have S4 := hS4
  generalize (if c = k then A else Option.map (fun x => x.add k) A) = A5 at *
  generalize (if c' = k then A' else Option.map (fun x => x.add k) A') = A6 at *
  have C3 := hide (fun w2 (hB : Below w.heap.size w w2) => clone_any _ x3 w2 HL3.out (((S3.more hBw).below hB).more hB.size))
  have C4 := hide (fun w2 (hB : Below w.heap.size w w2) => clone_any _ x4 w2 HL4.out (((S4.more hBw).below hB).more hB.size))
  clear S3 S4
  refine wpAnyZ_ready (rs := [5]) (by kernel_rfl) (by simp) ?_
  refine AllReadyZ.cons (opAt rfl) (fun K hK => ?_) ?_
  · skip
    go_simp
    refine (C1.out _ hb).mono ?_
    rintro e wc ⟨⟨u, rfl, r1⟩, hb1⟩
    replace r1 := r1.mono (lo' := w.heap.size) hb.size
    replace bx := bx.below hb1 bx.lt
    replace ba := ba.below hb1 ba.lt
    replace bb := bb.below hb1 bb.lt
    replace bk := bk.below hb1 bk.lt
    replace hb := hb.trans (hb1.mono hb.size)
    replace HP := HP.trans (Part.of_below hb1)
    clear hb1
    obtain ⟨A3, c3, rfl⟩ := r1.val
    try go_wp2_with fail
    refine hK.out _ _ (by exact ⟨bx.cell 1, bx.cell 2⟩) (fun hHeld => ?_)
    clear hK K
    try simp only [Act.put, List.setIfInBounds_toArray, List.set_cons_zero, List.set_cons_succ]
    refine wpAnyZ_ready (rs := [10]) (by kernel_rfl) (by simp) ?_
    refine AllReadyZ.cons (opAt rfl) (fun K hK => ?_) ?_
    · skip
      go_simp
      refine (C2.out _ hb).mono ?_
      rintro e wd ⟨⟨u, rfl, r2⟩, hb1⟩
      replace r2 := r2.mono (lo' := w.heap.size) hb.size
      replace bx := bx.below hb1 bx.lt
      replace ba := ba.below hb1 ba.lt
      replace bb := bb.below hb1 bb.lt
      replace bk := bk.below hb1 bk.lt
      replace r1 := r1.below hb1
      replace hb := hb.trans (hb1.mono hb.size)
      replace HP := HP.trans (Part.of_below hb1)
      clear hb1
      obtain ⟨A4, c4, rfl⟩ := r2.val
      try go_wp2_with fail
      refine hK.out _ _ (by exact ⟨bx.cell 1, bx.cell 2⟩) (fun hHeld => ?_)
      clear hK K
      try simp only [Act.put, List.setIfInBounds_toArray, List.set_cons_zero, List.set_cons_succ]
      refine wpAnyZ_ready (rs := [11]) (by kernel_rfl) (by simp) ?_
      refine AllReadyZ.cons (opAt rfl) (fun K hK => ?_) ?_
      · skip
        go_simp
        refine (N1.out _ _ _ r1 r2).mono ?_
        rintro e we ⟨rfl, hb1⟩
        replace r1 := r1.below hb1
        replace r2 := r2.below hb1
        replace bx := bx.below hb1 bx.lt
        replace ba := ba.below hb1 ba.lt
        replace bb := bb.below hb1 bb.lt
        replace bk := bk.below hb1 bk.lt
        replace hb := hb.trans (hb1.mono hb.size)
        replace HP := HP.trans (Part.of_below hb1)
        clear hb1
        have Na : NdO we w.heap.size (.agg #[.bool true, .slice A3 x1.length c3, .slice A4 x2.length c4, .int .u64 0]) true x1 x2 0 := ⟨_, _, rfl, r1, r2⟩
        clear r1 r2
        try go_wp2_with fail
        refine hK.out _ _ (by exact ⟨bx.cell 1, bx.cell 2⟩) (fun hHeld => ?_)
        clear hK K
        try simp only [Act.put, List.setIfInBounds_toArray, List.set_cons_zero, List.set_cons_succ]
        refine wpAnyZ_ready (rs := [16]) (by kernel_rfl) (by simp) ?_
        refine AllReadyZ.cons (opAt rfl) (fun K hK => ?_) ?_
        · skip
          go_simp
          refine (C3.out _ hb).mono ?_
          rintro e wf ⟨⟨u, rfl, r3⟩, hb1⟩
          replace r3 := r3.mono (lo' := w.heap.size) hb.size
          replace bx := bx.below hb1 bx.lt
          replace ba := ba.below hb1 ba.lt
          replace bb := bb.below hb1 bb.lt
          replace bk := bk.below hb1 bk.lt
          replace Na := Na.below hb1
          replace hb := hb.trans (hb1.mono hb.size)
          replace HP := HP.trans (Part.of_below hb1)
          clear hb1
          obtain ⟨A7, c7, rfl⟩ := r3.val
          try go_wp2_with fail
          refine hK.out _ _ (by exact ⟨bx.cell 1, bx.cell 2⟩) (fun hHeld => ?_)
          clear hK K
          try simp only [Act.put, List.setIfInBounds_toArray, List.set_cons_zero, List.set_cons_succ]
          refine wpAnyZ_ready (rs := [21]) (by kernel_rfl) (by simp) ?_
          refine AllReadyZ.cons (opAt rfl) (fun K hK => ?_) ?_
          · skip
            go_simp
            refine (C4.out _ hb).mono ?_
            rintro e wg ⟨⟨u, rfl, r4⟩, hb1⟩
            replace r4 := r4.mono (lo' := w.heap.size) hb.size
            replace bx := bx.below hb1 bx.lt
            replace ba := ba.below hb1 ba.lt
            replace bb := bb.below hb1 bb.lt
            replace bk := bk.below hb1 bk.lt
            replace Na := Na.below hb1
            replace r3 := r3.below hb1
            replace hb := hb.trans (hb1.mono hb.size)
            replace HP := HP.trans (Part.of_below hb1)
            clear hb1
            obtain ⟨A8, c8, rfl⟩ := r4.val
            try go_wp2_with fail
            refine hK.out _ _ (by exact ⟨bx.cell 1, bx.cell 2⟩) (fun hHeld => ?_)
            clear hK K
            try simp only [Act.put, List.setIfInBounds_toArray, List.set_cons_zero, List.set_cons_succ]
            refine wpAnyZ_ready (rs := [22]) (by kernel_rfl) (by simp) ?_
            refine AllReadyZ.cons (opAt rfl) (fun K hK => ?_) ?_
            · skip
              go_simp
              refine (N2.out _ _ _ r3 r4).mono ?_
              rintro e wh ⟨rfl, hb1⟩
              replace r3 := r3.below hb1
              replace r4 := r4.below hb1
              replace bx := bx.below hb1 bx.lt
              replace ba := ba.below hb1 ba.lt
              replace bb := bb.below hb1 bb.lt
              replace bk := bk.below hb1 bk.lt
              replace Na := Na.below hb1
              replace hb := hb.trans (hb1.mono hb.size)
              replace HP := HP.trans (Part.of_below hb1)
              clear hb1
              have Nb : NdO wh w.heap.size (.agg #[.bool true, .slice A7 x3.length c7, .slice A8 x4.length c8, .int .u64 0]) true x3 x4 0 := ⟨_, _, rfl, r3, r4⟩
              clear r3 r4
              try go_wp2_with fail
              refine hK.out _ _ (by exact ⟨bx.cell 1, bx.cell 2⟩) (fun hHeld => ?_)
              clear hK K
              try simp only [Act.put, List.setIfInBounds_toArray, List.set_cons_zero, List.set_cons_succ]
              refine wpAnyZ_ready (rs := [23]) (by kernel_rfl) (by simp) ?_
              refine AllReadyZ.cons (opAt rfl) (fun K hK => ?_) ?_
              · skip
                have zo := fun i => ba.frozen i
                have mo := fun i => ba.cell i
                go_simp
                replace Na := Na.setN ba (.bool true) (.slice A3 x1.length c3) (.slice A4 x2.length c4) (.int .u64 0)
                replace Nb := Nb.setN ba (.bool true) (.slice A3 x1.length c3) (.slice A4 x2.length c4) (.int .u64 0)
                replace bx := bx.offN HXA.out (.bool true) (.slice A3 x1.length c3) (.slice A4 x2.length c4) (.int .u64 0)
                replace bb := bb.offN HBA.out (.bool true) (.slice A3 x1.length c3) (.slice A4 x2.length c4) (.int .u64 0)
                replace bk := bk.offN HKA.out (.bool true) (.slice A3 x1.length c3) (.slice A4 x2.length c4) (.int .u64 0)
                replace ba := ba.setN (.bool true) (.slice A3 x1.length c3) (.slice A4 x2.length c4) (.int .u64 0)
                replace HP := HP.setN (g := ga) (by simp) (.bool true) (.slice A3 x1.length c3) (.slice A4 x2.length c4) (.int .u64 0)
                clear zo mo
                generalize ((((wh).setCell ⟨ga, 0, none⟩ (.bool true)).setCell ⟨ga, 1, none⟩ (.slice A3 x1.length c3)).setCell ⟨ga, 2, none⟩ (.slice A4 x2.length c4)).setCell ⟨ga, 3, none⟩ (.int .u64 0) = wi at *
                refine hK.out _ _ (by exact ⟨bx.cell 1, bx.cell 2⟩) (fun hHeld => ?_)
                clear hK K
                try simp only [Act.put, List.setIfInBounds_toArray, List.set_cons_zero, List.set_cons_succ]
                refine wpAnyZ_ready (rs := [24]) (by kernel_rfl) (by simp) ?_
                refine AllReadyZ.cons (opAt rfl) (fun K hK => ?_) ?_
                · skip
                  have zo := fun i => bb.frozen i
                  have mo := fun i => bb.cell i
                  go_simp
                  replace Na := Na.setN bb (.bool true) (.slice A7 x3.length c7) (.slice A8 x4.length c8) (.int .u64 0)
                  replace Nb := Nb.setN bb (.bool true) (.slice A7 x3.length c7) (.slice A8 x4.length c8) (.int .u64 0)
                  replace bx := bx.offN HXB.out (.bool true) (.slice A7 x3.length c7) (.slice A8 x4.length c8) (.int .u64 0)
                  replace ba := ba.offN HAB.out (.bool true) (.slice A7 x3.length c7) (.slice A8 x4.length c8) (.int .u64 0)
                  replace bk := bk.offN HKB.out (.bool true) (.slice A7 x3.length c7) (.slice A8 x4.length c8) (.int .u64 0)
                  replace bb := bb.setN (.bool true) (.slice A7 x3.length c7) (.slice A8 x4.length c8) (.int .u64 0)
                  replace HP := HP.setN (g := gb) (by simp) (.bool true) (.slice A7 x3.length c7) (.slice A8 x4.length c8) (.int .u64 0)
                  clear zo mo
                  generalize ((((wi).setCell ⟨gb, 0, none⟩ (.bool true)).setCell ⟨gb, 1, none⟩ (.slice A7 x3.length c7)).setCell ⟨gb, 2, none⟩ (.slice A8 x4.length c8)).setCell ⟨gb, 3, none⟩ (.int .u64 0) = wj at *
                  refine hK.out _ _ (by exact ⟨bx.cell 1, bx.cell 2⟩) (fun hHeld => ?_)
                  clear hK K
                  try simp only [Act.put, List.setIfInBounds_toArray, List.set_cons_zero, List.set_cons_succ]
                  refine wpAnyZ_done (by kernel_rfl) ?_ _
                  have hbB := Part.below_trans (Below.refl B w) HP (by intro o ho; simp at ho; rcases ho with rfl | rfl | rfl <;> omega) hBw
                  have zk := ZK.out _ hbB
                  have mk := fun i => bk.cell i
                  have fk := fun i => bk.frozen i
                  have hA := HA.out
                  subst hA
                  have mx := fun i => bx.cell i
                  clear hbB
                  go_wp2_with fail
                  go_end0
                  exact ⟨rfl, HP.set_ (g := gk) (by simp) 0 _, _, _, _, _, ba.far (p := ⟨gk, 0, none⟩) HAK.out _, bb.far (p := ⟨gk, 0, none⟩) HBK.out _, bk.set1 _, Na.far HGK.out _, Nb.far HGK.out _⟩
                exact AllReadyZ.nil
              exact AllReadyZ.nil
            exact AllReadyZ.nil
          exact AllReadyZ.nil
        exact AllReadyZ.nil
      exact AllReadyZ.nil
    exact AllReadyZ.nil
  exact AllReadyZ.nil
set_option maxRecDepth 100000 in
set_option maxHeartbeats 4000000 in
theorem split1_no (b : Bool) (A A' : Option Addr) (c c' : Nat) (ks vs : List Int) (l : Int) (B gx ga gb gk : Nat) (w : World) (hl : ks.length ≤ 1000) (h : Nd w B (.agg #[.bool b, .slice A ks.length c, .slice A' vs.length c', .int .u64 l]) b ks vs l) (hno : rightI b ks vs = false ∨ vs.length < 2)
    (bx : Blk w gx 27 #[.bool b, .slice A ks.length c, .slice A' vs.length c', .int .u64 l]) (hBw : B ≤ w.heap.size) :
    Calls Try.prog 31 #[.pointer (some ⟨gx, 0, none⟩), .pointer (some ⟨ga, 0, none⟩), .pointer (some ⟨gb, 0, none⟩), .pointer (some ⟨gk, 0, none⟩)] w fun e w' => e = .panicked wrongP ∧ Below w.heap.size w w' := by
  have Rt := hide (fun w2 (hB : Below w.heap.size w w2) => iright_any _ b ks vs l w2 (by omega) (((h.more hBw).below hB).more hB.size))
  cases hri : rightI b ks vs with
  | false =>
    rw [hri] at Rt
    clear hno h hri
    generalize ks.length = n at *
    generalize vs.length = m at *
    have mx := fun i => bx.cell i
    go_enter Try.func31, Try.ntmps31
    go_wp2_with fail
    refine (Rt.out _ (Below.refl _ _)).mono ?_
    rintro e wa ⟨rfl, hb1⟩
    go_wp2_with fail
    refine (must_no _).mono ?_
    rintro e wb ⟨rfl, rfl⟩
    go_wp2_with fail
    exact ⟨rfl, rfl, hb1⟩
  | true =>
    rw [hri] at Rt
    have h2 : vs.length < 2 := by
      rcases hno with h' | h'
      · rw [hri] at h'; cases h'
      · exact h'
    have t3 : decide ((2 : Int) ≤ (vs.length : Int)) = false := by simp; omega
    clear hno h hri h2
    generalize ks.length = n at *
    generalize vs.length = m at *
    have mx := fun i => bx.cell i
    go_enter Try.func31, Try.ntmps31
    go_wp2_with fail
    refine (Rt.out _ (Below.refl _ _)).mono ?_
    rintro e wa ⟨rfl, hb1⟩
    replace bx := bx.below hb1 bx.lt
    clear mx
    have mx := fun i => bx.cell i
    go_wp2_with fail
    refine (must_no _).mono ?_
    rintro e wb ⟨rfl, rfl⟩
    go_wp2_with fail
    exact ⟨rfl, rfl, hb1⟩
set_option maxRecDepth 100000 in
set_option maxHeartbeats 4000000 in
theorem isplit_yes (v : Value) (b : Bool) (ks vs : List Int) (l : Int) (w : World) (hl : ks.length ≤ 1000) (h : Nd w w.heap.size v b ks vs l) (hr : rightI b ks vs = true) (h2 : 2 ≤ vs.length) (k q : Nat) (hk : k = vs.length - vs.length / 2) (hq : k = q + 1) :
    Calls Try.prog 13 #[v] w fun e w' => (∃ va vb, e = .returned (.tuple #[va, vb, .int .u64 (ks.getD q 0)]) ∧ NdO w' w.heap.size va true (ks.take q) (vs.take k) 0 ∧ NdO w' w.heap.size vb true (ks.drop k) (vs.drop k) 0) ∧ Below w.heap.size w w' := by
  have hmf : ∀ (fn : Fn) (first cap : Array Value) (w : World), (Instr.makeFunc fn first cap).run Try.prog w = .ok (.func fn first cap) w := fun _ _ _ _ => rfl
  obtain ⟨A, c, A', c', rfl⟩ := ValN w b ks vs l v h
  have bx := (((Blk.new w 27 #[.bool b, .slice A ks.length c, .slice A' vs.length c', .int .u64 l]).alloc (.cells #[.bool false, .slice none 0 0, .slice none 0 0, .int .u64 0] 27)).alloc (.cells #[.bool false, .slice none 0 0, .slice none 0 0, .int .u64 0] 27)).alloc (.cells #[.int .u64 0] 22)
  have ba := ((Blk.new (w.alloc (.cells #[.bool b, .slice A ks.length c, .slice A' vs.length c', .int .u64 l] 27)) 27 #[.bool false, .slice none 0 0, .slice none 0 0, .int .u64 0]).alloc (.cells #[.bool false, .slice none 0 0, .slice none 0 0, .int .u64 0] 27)).alloc (.cells #[.int .u64 0] 22)
  have bb := (Blk.new ((w.alloc (.cells #[.bool b, .slice A ks.length c, .slice A' vs.length c', .int .u64 l] 27)).alloc (.cells #[.bool false, .slice none 0 0, .slice none 0 0, .int .u64 0] 27)) 27 #[.bool false, .slice none 0 0, .slice none 0 0, .int .u64 0]).alloc (.cells #[.int .u64 0] 22)
  have bk := Blk.new (((w.alloc (.cells #[.bool b, .slice A ks.length c, .slice A' vs.length c', .int .u64 l] 27)).alloc (.cells #[.bool false, .slice none 0 0, .slice none 0 0, .int .u64 0] 27)).alloc (.cells #[.bool false, .slice none 0 0, .slice none 0 0, .int .u64 0] 27)) 22 #[.int .u64 0]
  have hb := ((((Below.refl w.heap.size w).alloc (Nat.le_refl _) (.cells #[.bool b, .slice A ks.length c, .slice A' vs.length c', .int .u64 l] 27)).alloc (by simp only [World.size_alloc]; omega) (.cells #[.bool false, .slice none 0 0, .slice none 0 0, .int .u64 0] 27)).alloc (by simp only [World.size_alloc]; omega) (.cells #[.bool false, .slice none 0 0, .slice none 0 0, .int .u64 0] 27)).alloc (by simp only [World.size_alloc]; omega) (.cells #[.int .u64 0] 22)
  simp only [World.size_alloc] at ba bb bk
  have hkk := h
  go_enter Try.func13, Try.ntmps13
  go_wp2_with fail
  generalize (((w.alloc (.cells #[.bool b, .slice A ks.length c, .slice A' vs.length c', .int .u64 l] 27)).alloc (.cells #[.bool false, .slice none 0 0, .slice none 0 0, .int .u64 0] 27)).alloc (.cells #[.bool false, .slice none 0 0, .slice none 0 0, .int .u64 0] 27)).alloc (.cells #[.int .u64 0] 22) = w2 at *
  obtain ⟨gx, ex⟩ : ∃ g, g = w.heap.size := ⟨_, rfl⟩
  obtain ⟨ga, ea⟩ : ∃ g, g = w.heap.size + 1 := ⟨_, rfl⟩
  obtain ⟨gb, eb⟩ : ∃ g, g = w.heap.size + 1 + 1 := ⟨_, rfl⟩
  obtain ⟨gk, ek⟩ : ∃ g, g = w.heap.size + 1 + 1 + 1 := ⟨_, rfl⟩
  rw [← ek] at bk
  rw [← eb] at bb
  rw [← ea] at ba
  rw [← ex] at bx
  have HAB := hide (show ga ≠ gb by omega)
  have HBA := hide (show gb ≠ ga by omega)
  have HAK := hide (show ga ≠ gk by omega)
  have HKA := hide (show gk ≠ ga by omega)
  have HBK := hide (show gb ≠ gk by omega)
  have HKB := hide (show gk ≠ gb by omega)
  have HGa := hide (show w.heap.size ≤ ga by omega)
  have HGb := hide (show w.heap.size ≤ gb by omega)
  have HGk := hide (show w.heap.size ≤ gk by omega)
  have T1 := hide (tried_part 31 #[.pointer (some ⟨gx, 0, none⟩), .pointer (some ⟨ga, 0, none⟩), .pointer (some ⟨gb, 0, none⟩), .pointer (some ⟨gk, 0, none⟩)] [ga, gb, gk] (SplitOut ga gb gk w2.heap.size (ks.getD q 0) (ks.take q) (vs.take k) (ks.drop k) (vs.drop k)) w2 (fun _ => by rfl)
    (by intro o ho; simp at ho; rcases ho with rfl | rfl | rfl <;> first | exact ba.lt | exact bb.lt | exact bk.lt) (fun w' b hb hs => hs.set_ hb)
    (fun w1 hB _ => (split1_yes b A A' c c' ks vs l w.heap.size gx ga gb gk w1 hl ((h.below hb).below (hB.mono hb.size)) hr h2 (bx.below hB bx.lt) (ba.below hB ba.lt) (bb.below hB bb.lt) (bk.below hB bk.lt) HGa.out HGb.out HGk.out (by omega) (by omega) HAB.out k q hk hq).mono (fun e w' hh => ⟨hh.1, hh.2.1, hh.2.2.mono hB.size⟩)))
  have HLO := hide hb.size
  have HKL := hide bk.lt
  rw [← ek, ← eb, ← ea, ← ex]
  clear bx hkk h hr h2 hk hq hl
  obtain ⟨x1, hx1⟩ : ∃ x, x = ks.take q := ⟨_, rfl⟩
  obtain ⟨x2, hx2⟩ : ∃ x, x = vs.take k := ⟨_, rfl⟩
  obtain ⟨x3, hx3⟩ : ∃ x, x = ks.drop k := ⟨_, rfl⟩
  obtain ⟨x4, hx4⟩ : ∃ x, x = vs.drop k := ⟨_, rfl⟩
  obtain ⟨key, hkey⟩ : ∃ x, x = ks.getD q 0 := ⟨_, rfl⟩
  rw [← hx1, ← hx2, ← hx3, ← hx4, ← hkey] at T1
  replace hx1 := hide hx1
  replace hx2 := hide hx2
  replace hx3 := hide hx3
  replace hx4 := hide hx4
  replace hkey := hide hkey
  obtain ⟨lo, hlo⟩ : ∃ lo, lo = w2.heap.size := ⟨_, rfl⟩
  rw [← hlo] at T1 HLO HKL
  refine T1.out.mono ?_
  rintro e w3 ⟨rfl, hp, k1, u1, k2, u2, ba3, bb3, bk3, Na, Nb⟩
  have hb3 := Part.below_trans hb hp (by intro o ho; simp at ho; rcases ho with rfl | rfl | rfl <;> first | exact HGa.out | exact HGb.out | exact HGk.out) (by omega)
  obtain ⟨A1, d1, A2, d2, e1⟩ := Na.val
  obtain ⟨A3, d3, A4, d4, e2⟩ := Nb.val
  simp only [Value.agg.injEq, Array.mk.injEq, List.cons.injEq, and_true, true_and] at e1 e2
  obtain ⟨rfl, rfl⟩ := e1
  obtain ⟨rfl, rfl⟩ := e2
  clear T1 hp ba bb bk hb hlo ex ea eb ek
  replace ba := ba3
  replace bb := bb3
  replace bk := bk3
  replace hb := hb3
  clear ba3 bb3 bk3 hb3
  go_wp2_with fail
  refine wp_region_heldZ [] (fun w' => w'.cell? ⟨ga, 0, none⟩ = some (.bool true) ∧ w'.cell? ⟨ga, 1, none⟩ = some (.slice A1 x1.length d1) ∧ w'.cell? ⟨ga, 2, none⟩ = some (.slice A2 x2.length d2) ∧ w'.cell? ⟨ga, 3, none⟩ = some (.int .u64 0) ∧ w'.cell? ⟨gb, 0, none⟩ = some (.bool true) ∧ w'.cell? ⟨gb, 1, none⟩ = some (.slice A3 x3.length d3) ∧ w'.cell? ⟨gb, 2, none⟩ = some (.slice A4 x4.length d4) ∧ w'.cell? ⟨gb, 3, none⟩ = some (.int .u64 0) ∧ w'.cell? ⟨gk, 0, none⟩ = some (.int .u64 key)) (by kernel_rfl) (by obtain ⟨p0, p1, p2, p3⟩ := cellsN ba; obtain ⟨q0, q1, q2, q3⟩ := cellsN bb; exact ⟨p0, p1, p2, p3, q0, q1, q2, q3, bk.cell 0⟩) (fun hHeld => ?_)
  replace ba := ba.drew
  replace bb := bb.drew
  replace bk := bk.drew
  replace hb := hb.drew
  replace Na := (show NdO w3.drew _ _ _ _ _ _ from Na)
  replace Nb := (show NdO w3.drew _ _ _ _ _ _ from Nb)
  generalize w3.drew = ws0 at *
  refine' wpAnyZ_takeA (i := 0) (v := ?_) (opAt rfl) (by kernel_rfl) (by kernel_rfl) (by kernel_rfl) (by kernel_rfl) (fun _ _ _ h => h) (by assumption) (by rfl) (fun w hSw => ?_) ?_
  rotate_left
  · (try dsimp only at hSw); go_simp; (try with_reducible rfl)
  try simp only [Act.put, List.setIfInBounds_toArray, List.set_cons_zero, List.set_cons_succ]
  refine' wpAnyZ_takeA (i := 1) (v := ?_) (opAt rfl) (by kernel_rfl) (by kernel_rfl) (by kernel_rfl) (by kernel_rfl) (fun _ _ _ h => h) (by assumption) (by rfl) (fun w hSw => ?_) ?_
  rotate_left
  · (try dsimp only at hSw); go_simp; (try with_reducible rfl)
  try simp only [Act.put, List.setIfInBounds_toArray, List.set_cons_zero, List.set_cons_succ]
  refine' wpAnyZ_takeA (i := 2) (v := ?_) (opAt rfl) (by kernel_rfl) (by kernel_rfl) (by kernel_rfl) (by kernel_rfl) (fun _ _ _ h => h) (by assumption) (by rfl) (fun w hSw => ?_) ?_
  rotate_left
  · (try dsimp only at hSw); go_simp; (try with_reducible rfl)
  try simp only [Act.put, List.setIfInBounds_toArray, List.set_cons_zero, List.set_cons_succ]
  refine wpAnyZ_ready (rs := [3]) (by kernel_rfl) (by simp) ?_
  refine AllReadyZ.cons (opAt rfl) (fun K hK => ?_) ?_
  · skip
    have zo := fun i => ba.frozen i
    have mo := fun i => ba.cell i
    go_simp
    replace Na := Na.setN ba (.bool true) (.slice A1 x1.length d1) (.slice A2 x2.length d2) (.int .u64 0)
    replace Nb := Nb.setN ba (.bool true) (.slice A1 x1.length d1) (.slice A2 x2.length d2) (.int .u64 0)
    replace bb := bb.offN HBA.out (.bool true) (.slice A1 x1.length d1) (.slice A2 x2.length d2) (.int .u64 0)
    replace bk := bk.offN HKA.out (.bool true) (.slice A1 x1.length d1) (.slice A2 x2.length d2) (.int .u64 0)
    replace ba := ba.setN (.bool true) (.slice A1 x1.length d1) (.slice A2 x2.length d2) (.int .u64 0)
    replace hb := below_setN hb (g := ga) HGa.out (.bool true) (.slice A1 x1.length d1) (.slice A2 x2.length d2) (.int .u64 0)
    clear zo mo
    generalize ((((ws0).setCell ⟨ga, 0, none⟩ (.bool true)).setCell ⟨ga, 1, none⟩ (.slice A1 x1.length d1)).setCell ⟨ga, 2, none⟩ (.slice A2 x2.length d2)).setCell ⟨ga, 3, none⟩ (.int .u64 0) = ws1 at *
    refine hK.out _ _ (by obtain ⟨p0, p1, p2, p3⟩ := cellsN ba; obtain ⟨q0, q1, q2, q3⟩ := cellsN bb; exact ⟨p0, p1, p2, p3, q0, q1, q2, q3, bk.cell 0⟩) (fun hHeld => ?_)
    clear hK K
    try simp only [Act.put, List.setIfInBounds_toArray, List.set_cons_zero, List.set_cons_succ]
    refine wpAnyZ_ready (rs := [4]) (by kernel_rfl) (by simp) ?_
    refine AllReadyZ.cons (opAt rfl) (fun K hK => ?_) ?_
    · skip
      have zo := fun i => bb.frozen i
      have mo := fun i => bb.cell i
      go_simp
      replace Na := Na.setN bb (.bool true) (.slice A3 x3.length d3) (.slice A4 x4.length d4) (.int .u64 0)
      replace Nb := Nb.setN bb (.bool true) (.slice A3 x3.length d3) (.slice A4 x4.length d4) (.int .u64 0)
      replace ba := ba.offN HAB.out (.bool true) (.slice A3 x3.length d3) (.slice A4 x4.length d4) (.int .u64 0)
      replace bk := bk.offN HKB.out (.bool true) (.slice A3 x3.length d3) (.slice A4 x4.length d4) (.int .u64 0)
      replace bb := bb.setN (.bool true) (.slice A3 x3.length d3) (.slice A4 x4.length d4) (.int .u64 0)
      replace hb := below_setN hb (g := gb) HGb.out (.bool true) (.slice A3 x3.length d3) (.slice A4 x4.length d4) (.int .u64 0)
      clear zo mo
      generalize ((((ws1).setCell ⟨gb, 0, none⟩ (.bool true)).setCell ⟨gb, 1, none⟩ (.slice A3 x3.length d3)).setCell ⟨gb, 2, none⟩ (.slice A4 x4.length d4)).setCell ⟨gb, 3, none⟩ (.int .u64 0) = ws2 at *
      refine hK.out _ _ (by obtain ⟨p0, p1, p2, p3⟩ := cellsN ba; obtain ⟨q0, q1, q2, q3⟩ := cellsN bb; exact ⟨p0, p1, p2, p3, q0, q1, q2, q3, bk.cell 0⟩) (fun hHeld => ?_)
      clear hK K
      try simp only [Act.put, List.setIfInBounds_toArray, List.set_cons_zero, List.set_cons_succ]
      refine wpAnyZ_ready (rs := [5]) (by kernel_rfl) (by simp) ?_
      refine AllReadyZ.cons (opAt rfl) (fun K hK => ?_) ?_
      · skip
        have zo := fun i => bk.frozen i
        have mo := fun i => bk.cell i
        go_simp
        replace Na := Na.far (p := ⟨gk, 0, none⟩) HKL.out (.int .u64 key)
        replace Nb := Nb.far (p := ⟨gk, 0, none⟩) HKL.out (.int .u64 key)
        replace ba := ba.far (p := ⟨gk, 0, none⟩) HAK.out (.int .u64 key)
        replace bb := bb.far (p := ⟨gk, 0, none⟩) HBK.out (.int .u64 key)
        replace bk := bk.set1 (.int .u64 key)
        replace hb := hb.setCell (p := ⟨gk, 0, none⟩) HGk.out (.int .u64 key)
        clear zo mo
        generalize ws2.setCell ⟨gk, 0, none⟩ (.int .u64 key) = ws3 at *
        refine hK.out _ _ (by obtain ⟨p0, p1, p2, p3⟩ := cellsN ba; obtain ⟨q0, q1, q2, q3⟩ := cellsN bb; exact ⟨p0, p1, p2, p3, q0, q1, q2, q3, bk.cell 0⟩) (fun hHeld => ?_)
        clear hK K
        try simp only [Act.put, List.setIfInBounds_toArray, List.set_cons_zero, List.set_cons_succ]
        refine wpAnyZ_done (by kernel_rfl) ?_ _
        go_wp2_with fail
        have ca := fun i => ba.cell i
        have cb := fun i => bb.cell i
        have ck := fun i => bk.cell i
        refine bodyPost_ret (v := .tuple #[.agg #[.bool true, .slice A1 x1.length d1, .slice A2 x2.length d2, .int .u64 0], .agg #[.bool true, .slice A3 x3.length d3, .slice A4 x4.length d4, .int .u64 0], .int .u64 key]) (by simp [results, Try.results13, go_sem, ca, cb, ck]) rfl ⟨⟨.agg #[.bool true, .slice A1 x1.length d1, .slice A2 x2.length d2, .int .u64 0], .agg #[.bool true, .slice A3 x3.length d3, .slice A4 x4.length d4, .int .u64 0], by rw [← hkey.out], by rw [← hx1.out, ← hx2.out]; exact Na.mono HLO.out, by rw [← hx3.out, ← hx4.out]; exact Nb.mono HLO.out⟩, hb⟩
      exact AllReadyZ.nil
    exact AllReadyZ.nil
  exact AllReadyZ.nil
set_option maxRecDepth 100000 in
set_option maxHeartbeats 4000000 in
theorem isplit_no (v : Value) (b : Bool) (ks vs : List Int) (l : Int) (w : World) (hl : ks.length ≤ 1000) (h : Nd w w.heap.size v b ks vs l) (hno : rightI b ks vs = false ∨ vs.length < 2) :
    Calls Try.prog 13 #[v] w fun e w' => e = .returned (.tuple #[.agg #[.bool false, .slice none 0 0, .slice none 0 0, .int .u64 0], .agg #[.bool false, .slice none 0 0, .slice none 0 0, .int .u64 0], .int .u64 0]) ∧ Below w.heap.size w w' := by
  have hmf : ∀ (fn : Fn) (first cap : Array Value) (w : World), (Instr.makeFunc fn first cap).run Try.prog w = .ok (.func fn first cap) w := fun _ _ _ _ => rfl
  obtain ⟨A, c, A', c', rfl⟩ := ValN w b ks vs l v h
  have bx := (((Blk.new w 27 #[.bool b, .slice A ks.length c, .slice A' vs.length c', .int .u64 l]).alloc (.cells #[.bool false, .slice none 0 0, .slice none 0 0, .int .u64 0] 27)).alloc (.cells #[.bool false, .slice none 0 0, .slice none 0 0, .int .u64 0] 27)).alloc (.cells #[.int .u64 0] 22)
  have ba := ((Blk.new (w.alloc (.cells #[.bool b, .slice A ks.length c, .slice A' vs.length c', .int .u64 l] 27)) 27 #[.bool false, .slice none 0 0, .slice none 0 0, .int .u64 0]).alloc (.cells #[.bool false, .slice none 0 0, .slice none 0 0, .int .u64 0] 27)).alloc (.cells #[.int .u64 0] 22)
  have bb := (Blk.new ((w.alloc (.cells #[.bool b, .slice A ks.length c, .slice A' vs.length c', .int .u64 l] 27)).alloc (.cells #[.bool false, .slice none 0 0, .slice none 0 0, .int .u64 0] 27)) 27 #[.bool false, .slice none 0 0, .slice none 0 0, .int .u64 0]).alloc (.cells #[.int .u64 0] 22)
  have bk := Blk.new (((w.alloc (.cells #[.bool b, .slice A ks.length c, .slice A' vs.length c', .int .u64 l] 27)).alloc (.cells #[.bool false, .slice none 0 0, .slice none 0 0, .int .u64 0] 27)).alloc (.cells #[.bool false, .slice none 0 0, .slice none 0 0, .int .u64 0] 27)) 22 #[.int .u64 0]
  have hb := ((((Below.refl w.heap.size w).alloc (Nat.le_refl _) (.cells #[.bool b, .slice A ks.length c, .slice A' vs.length c', .int .u64 l] 27)).alloc (by simp only [World.size_alloc]; omega) (.cells #[.bool false, .slice none 0 0, .slice none 0 0, .int .u64 0] 27)).alloc (by simp only [World.size_alloc]; omega) (.cells #[.bool false, .slice none 0 0, .slice none 0 0, .int .u64 0] 27)).alloc (by simp only [World.size_alloc]; omega) (.cells #[.int .u64 0] 22)
  simp only [World.size_alloc] at ba bb bk
  go_enter Try.func13, Try.ntmps13
  go_wp2_with fail
  generalize (((w.alloc (.cells #[.bool b, .slice A ks.length c, .slice A' vs.length c', .int .u64 l] 27)).alloc (.cells #[.bool false, .slice none 0 0, .slice none 0 0, .int .u64 0] 27)).alloc (.cells #[.bool false, .slice none 0 0, .slice none 0 0, .int .u64 0] 27)).alloc (.cells #[.int .u64 0] 22) = w2 at *
  obtain ⟨gx, ex⟩ : ∃ g, g = w.heap.size := ⟨_, rfl⟩
  obtain ⟨ga, ea⟩ : ∃ g, g = w.heap.size + 1 := ⟨_, rfl⟩
  obtain ⟨gb, eb⟩ : ∃ g, g = w.heap.size + 1 + 1 := ⟨_, rfl⟩
  obtain ⟨gk, ek⟩ : ∃ g, g = w.heap.size + 1 + 1 + 1 := ⟨_, rfl⟩
  rw [← ek] at bk
  rw [← eb] at bb
  rw [← ea] at ba
  rw [← ex] at bx
  have HAB := hide (show ga ≠ gb by omega)
  have HBA := hide (show gb ≠ ga by omega)
  have HAK := hide (show ga ≠ gk by omega)
  have HKA := hide (show gk ≠ ga by omega)
  have HBK := hide (show gb ≠ gk by omega)
  have HKB := hide (show gk ≠ gb by omega)
  have HGa := hide (show w.heap.size ≤ ga by omega)
  have HGb := hide (show w.heap.size ≤ gb by omega)
  have HGk := hide (show w.heap.size ≤ gk by omega)
  have T1 := hide (tried_wrong 31 #[.pointer (some ⟨gx, 0, none⟩), .pointer (some ⟨ga, 0, none⟩), .pointer (some ⟨gb, 0, none⟩), .pointer (some ⟨gk, 0, none⟩)] w2 (fun _ => by rfl)
    (fun w1 hB => split1_no b A A' c c' ks vs l w.heap.size gx ga gb gk w1 hl ((h.below hb).below (hB.mono hb.size)) hno (bx.below hB bx.lt) (Nat.le_trans hb.size hB.size)))
  rw [← ek, ← eb, ← ea, ← ex]
  clear bx h hno hl
  have HLO := hide hb.size
  have HKL := hide bk.lt
  obtain ⟨lo, hlo⟩ : ∃ lo, lo = w2.heap.size := ⟨_, rfl⟩
  rw [← hlo] at HLO HKL
  refine T1.out.mono ?_
  rintro e w3 ⟨rfl, hb1⟩
  replace ba := ba.below hb1 ba.lt
  replace bb := bb.below hb1 bb.lt
  replace bk := bk.below hb1 bk.lt
  replace hb := hb.trans (hb1.mono hb.size)
  have Na : NdO w3 lo (.agg #[.bool false, .slice none 0 0, .slice none 0 0, .int .u64 0]) false [] [] 0 := ⟨_, _, rfl, Own.nil _ _, Own.nil _ _⟩
  have Nb : NdO w3 lo (.agg #[.bool false, .slice none 0 0, .slice none 0 0, .int .u64 0]) false [] [] 0 := Na
  clear T1 hb1 hlo ex ea eb ek
  go_wp2_with fail
  refine wp_region_heldZ [] (fun w' => w'.cell? ⟨ga, 0, none⟩ = some (.bool false) ∧ w'.cell? ⟨ga, 1, none⟩ = some (.slice none 0 0) ∧ w'.cell? ⟨ga, 2, none⟩ = some (.slice none 0 0) ∧ w'.cell? ⟨ga, 3, none⟩ = some (.int .u64 0) ∧ w'.cell? ⟨gb, 0, none⟩ = some (.bool false) ∧ w'.cell? ⟨gb, 1, none⟩ = some (.slice none 0 0) ∧ w'.cell? ⟨gb, 2, none⟩ = some (.slice none 0 0) ∧ w'.cell? ⟨gb, 3, none⟩ = some (.int .u64 0) ∧ w'.cell? ⟨gk, 0, none⟩ = some (.int .u64 0)) (by kernel_rfl) (by obtain ⟨p0, p1, p2, p3⟩ := cellsN ba; obtain ⟨q0, q1, q2, q3⟩ := cellsN bb; exact ⟨p0, p1, p2, p3, q0, q1, q2, q3, bk.cell 0⟩) (fun hHeld => ?_)
  replace ba := ba.drew
  replace bb := bb.drew
  replace bk := bk.drew
  replace hb := hb.drew
  replace Na := (show NdO w3.drew _ _ _ _ _ _ from Na)
  replace Nb := (show NdO w3.drew _ _ _ _ _ _ from Nb)
  generalize w3.drew = ws0 at *
  refine' wpAnyZ_takeA (i := 0) (v := ?_) (opAt rfl) (by kernel_rfl) (by kernel_rfl) (by kernel_rfl) (by kernel_rfl) (fun _ _ _ h => h) (by assumption) (by rfl) (fun w hSw => ?_) ?_
  rotate_left
  · (try dsimp only at hSw); go_simp; (try with_reducible rfl)
  try simp only [Act.put, List.setIfInBounds_toArray, List.set_cons_zero, List.set_cons_succ]
  refine' wpAnyZ_takeA (i := 1) (v := ?_) (opAt rfl) (by kernel_rfl) (by kernel_rfl) (by kernel_rfl) (by kernel_rfl) (fun _ _ _ h => h) (by assumption) (by rfl) (fun w hSw => ?_) ?_
  rotate_left
  · (try dsimp only at hSw); go_simp; (try with_reducible rfl)
  try simp only [Act.put, List.setIfInBounds_toArray, List.set_cons_zero, List.set_cons_succ]
  refine' wpAnyZ_takeA (i := 2) (v := ?_) (opAt rfl) (by kernel_rfl) (by kernel_rfl) (by kernel_rfl) (by kernel_rfl) (fun _ _ _ h => h) (by assumption) (by rfl) (fun w hSw => ?_) ?_
  rotate_left
  · (try dsimp only at hSw); go_simp; (try with_reducible rfl)
  try simp only [Act.put, List.setIfInBounds_toArray, List.set_cons_zero, List.set_cons_succ]
  refine wpAnyZ_ready (rs := [3]) (by kernel_rfl) (by simp) ?_
  refine AllReadyZ.cons (opAt rfl) (fun K hK => ?_) ?_
  · skip
    have zo := fun i => ba.frozen i
    have mo := fun i => ba.cell i
    go_simp
    replace Na := Na.setN ba (.bool false) (.slice none 0 0) (.slice none 0 0) (.int .u64 0)
    replace Nb := Nb.setN ba (.bool false) (.slice none 0 0) (.slice none 0 0) (.int .u64 0)
    replace bb := bb.offN HBA.out (.bool false) (.slice none 0 0) (.slice none 0 0) (.int .u64 0)
    replace bk := bk.offN HKA.out (.bool false) (.slice none 0 0) (.slice none 0 0) (.int .u64 0)
    replace ba := ba.setN (.bool false) (.slice none 0 0) (.slice none 0 0) (.int .u64 0)
    replace hb := below_setN hb (g := ga) HGa.out (.bool false) (.slice none 0 0) (.slice none 0 0) (.int .u64 0)
    clear zo mo
    generalize ((((ws0).setCell ⟨ga, 0, none⟩ (.bool false)).setCell ⟨ga, 1, none⟩ (.slice none 0 0)).setCell ⟨ga, 2, none⟩ (.slice none 0 0)).setCell ⟨ga, 3, none⟩ (.int .u64 0) = ws1 at *
    refine hK.out _ _ (by obtain ⟨p0, p1, p2, p3⟩ := cellsN ba; obtain ⟨q0, q1, q2, q3⟩ := cellsN bb; exact ⟨p0, p1, p2, p3, q0, q1, q2, q3, bk.cell 0⟩) (fun hHeld => ?_)
    clear hK K
    try simp only [Act.put, List.setIfInBounds_toArray, List.set_cons_zero, List.set_cons_succ]
    refine wpAnyZ_ready (rs := [4]) (by kernel_rfl) (by simp) ?_
    refine AllReadyZ.cons (opAt rfl) (fun K hK => ?_) ?_
    · skip
      have zo := fun i => bb.frozen i
      have mo := fun i => bb.cell i
      go_simp
      replace Na := Na.setN bb (.bool false) (.slice none 0 0) (.slice none 0 0) (.int .u64 0)
      replace Nb := Nb.setN bb (.bool false) (.slice none 0 0) (.slice none 0 0) (.int .u64 0)
      replace ba := ba.offN HAB.out (.bool false) (.slice none 0 0) (.slice none 0 0) (.int .u64 0)
      replace bk := bk.offN HKB.out (.bool false) (.slice none 0 0) (.slice none 0 0) (.int .u64 0)
      replace bb := bb.setN (.bool false) (.slice none 0 0) (.slice none 0 0) (.int .u64 0)
      replace hb := below_setN hb (g := gb) HGb.out (.bool false) (.slice none 0 0) (.slice none 0 0) (.int .u64 0)
      clear zo mo
      generalize ((((ws1).setCell ⟨gb, 0, none⟩ (.bool false)).setCell ⟨gb, 1, none⟩ (.slice none 0 0)).setCell ⟨gb, 2, none⟩ (.slice none 0 0)).setCell ⟨gb, 3, none⟩ (.int .u64 0) = ws2 at *
      refine hK.out _ _ (by obtain ⟨p0, p1, p2, p3⟩ := cellsN ba; obtain ⟨q0, q1, q2, q3⟩ := cellsN bb; exact ⟨p0, p1, p2, p3, q0, q1, q2, q3, bk.cell 0⟩) (fun hHeld => ?_)
      clear hK K
      try simp only [Act.put, List.setIfInBounds_toArray, List.set_cons_zero, List.set_cons_succ]
      refine wpAnyZ_ready (rs := [5]) (by kernel_rfl) (by simp) ?_
      refine AllReadyZ.cons (opAt rfl) (fun K hK => ?_) ?_
      · skip
        have zo := fun i => bk.frozen i
        have mo := fun i => bk.cell i
        go_simp
        replace Na := Na.far (p := ⟨gk, 0, none⟩) HKL.out (.int .u64 0)
        replace Nb := Nb.far (p := ⟨gk, 0, none⟩) HKL.out (.int .u64 0)
        replace ba := ba.far (p := ⟨gk, 0, none⟩) HAK.out (.int .u64 0)
        replace bb := bb.far (p := ⟨gk, 0, none⟩) HBK.out (.int .u64 0)
        replace bk := bk.set1 (.int .u64 0)
        replace hb := hb.setCell (p := ⟨gk, 0, none⟩) HGk.out (.int .u64 0)
        clear zo mo
        generalize ws2.setCell ⟨gk, 0, none⟩ (.int .u64 0) = ws3 at *
        refine hK.out _ _ (by obtain ⟨p0, p1, p2, p3⟩ := cellsN ba; obtain ⟨q0, q1, q2, q3⟩ := cellsN bb; exact ⟨p0, p1, p2, p3, q0, q1, q2, q3, bk.cell 0⟩) (fun hHeld => ?_)
        clear hK K
        try simp only [Act.put, List.setIfInBounds_toArray, List.set_cons_zero, List.set_cons_succ]
        refine wpAnyZ_done (by kernel_rfl) ?_ _
        clear Na Nb
        go_wp2_with fail
        have ca := fun i => ba.cell i
        have cb := fun i => bb.cell i
        have ck := fun i => bk.cell i
        refine bodyPost_ret (v := .tuple #[.agg #[.bool false, .slice none 0 0, .slice none 0 0, .int .u64 0], .agg #[.bool false, .slice none 0 0, .slice none 0 0, .int .u64 0], .int .u64 0]) (by simp [results, Try.results13, go_sem, ca, cb, ck]) rfl ⟨rfl, hb⟩
      exact AllReadyZ.nil
    exact AllReadyZ.nil
  exact AllReadyZ.nil
end Go.Proofs.Ytcmoblibjhaegaa
