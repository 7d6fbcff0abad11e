/-
  The document's inner nodes: Add, Drop.
-/
import Derived.Test.YtcmoblibjhaegaaIj
import Derived.Test.YtcmoblibjhaegaaIp
namespace Go.Proofs.Ytcmoblibjhaegaa
open Go.RowKit

set_option maxRecDepth 100000 in
set_option maxHeartbeats 4000000 in
theorem radd_any (v : Value) (ks vs : List Int) (l key child : Int) (p q : Nat) (w : World) (hl : ks.length ≤ 900) (h : Nd w w.heap.size v true ks vs l) (hr : rightI true ks vs = true) (hp : p = q + 1) (hpv : p ≤ vs.length) :
    Calls Try.prog 22 #[v, .int .i64 p, .int .u64 key, .int .u64 child] w fun e w' => (∃ u, e = .returned u ∧ NdO w' w.heap.size u true (ks.take q ++ [key] ++ ks.drop q) (vs.take p ++ [child] ++ vs.drop p) l) ∧ Below w.heap.size w w' := by
  obtain ⟨_, hkv, _⟩ := rightI_parts hr
  have C1 := hide (fun w2 (hB : Below w.heap.size w w2) => rcutI_any v true ks vs l 0 0 p w2 (by omega) hkv (by omega) (by omega) ((h.below hB).more hB.size))
  have C2 := hide (fun w2 (hB : Below w.heap.size w w2) => rcutI_any v true ks vs l 0 p vs.length w2 (by omega) hkv (by omega) (by omega) ((h.below hB).more hB.size))
  rw [show p - 1 = q by omega, cutL_take ks q, cutL_take vs p] at C1
  rw [cutL_drop ks (show ks.length ≤ vs.length - 1 by omega), cutL_drop vs (Nat.le_refl _)] at C2
  have zz : ((0 : Nat) : Int) = 0 := rfl
  rw [zz] at C1
  have t1 : (ks.take q).length ≤ 1000 := by simp; omega
  have t2 : (vs.take p).length ≤ 1000 := by simp; omega
  have t3 : (ks.drop p).length ≤ 1000 := by simp; omega
  have t4 : (vs.drop p).length ≤ 1000 := by simp; omega
  have t5 : 1 ≤ (vs.take p).length := by simp; omega
  have J1 := hide (fun (u u' : Value) w2 (hN : Nd w2 w2.heap.size u true (ks.take q) (vs.take p) 0) (hN' : Nd w2 w2.heap.size u' true [] [child] 0) => rjoinI_any u u' true true _ _ _ _ 0 0 key 0 w2 t1 t2 (by simp) (by simp) t5 (by simp) hN hN')
  obtain ⟨x1, hx1⟩ : ∃ x, x = ks.take q ++ [key] := ⟨_, rfl⟩
  obtain ⟨y1, hy1⟩ : ∃ x, x = vs.take p ++ [child] := ⟨_, rfl⟩
  rw [← hx1, ← hy1] at J1
  have s1 : x1.length ≤ 1000 := by rw [hx1]; simp; omega
  have s2 : y1.length ≤ 1000 := by rw [hy1]; simp; omega
  have s3 : 1 ≤ y1.length := by rw [hy1]; simp
  obtain ⟨X, hX⟩ : ∃ x, x = ks.take q ++ [key] ++ ks.drop q := ⟨_, rfl⟩
  obtain ⟨Y, hY⟩ : ∃ x, x = vs.take p ++ [child] ++ vs.drop p := ⟨_, rfl⟩
  rw [← hX, ← hY]
  by_cases hpe : p = vs.length
  · have eX : X = x1 := by rw [hX, hx1, List.drop_of_length_le (by omega), List.append_nil]
    have eY : Y = y1 := by rw [hY, hy1, List.drop_of_length_le (by omega), List.append_nil]
    rw [eX, eY]
    have hcmp : ((p : Int) == (vs.length : Int)) = true := by simp; omega
    clear C2 t1 t2 t3 t4 t5 s1 s2 s3 hx1 hy1 hX hY hpe hp hpv hkv hr hl zz eX eY
    obtain ⟨k0, u0, rfl, hk0, hu0⟩ := h
    obtain ⟨A, c, rfl, _, _, hrk⟩ := hk0
    obtain ⟨A', c', rfl, _⟩ := hu0
    skip
    generalize ks.take q = x0 at *
    generalize vs.take p = y0 at *
    generalize hnn : ks.length = n at *
    generalize hmm : vs.length = m at *
    replace hnn := hide hnn
    replace hmm := hide hmm
    have bx := (Blk.new w 27 #[.bool true, .slice A n c, .slice A' m c', .int .u64 l]).alloc (.cells #[.bool false, .slice none 0 0, .slice none 0 0, .int .u64 0] 27)
    have br := Blk.new (w.alloc (.cells #[.bool true, .slice A n c, .slice A' m c', .int .u64 l] 27)) 27 #[.bool false, .slice none 0 0, .slice none 0 0, .int .u64 0]
    have hb := ((Below.refl w.heap.size w).alloc (Nat.le_refl _) (.cells #[.bool true, .slice A n c, .slice A' m c', .int .u64 l] 27)).alloc (by simp only [World.size_alloc]; omega) (.cells #[.bool false, .slice none 0 0, .slice none 0 0, .int .u64 0] 27)
    rw [World.size_alloc] at br
    have HXR := hide (show w.heap.size ≠ w.heap.size + 1 by omega)
    have HGR := hide (show w.heap.size ≤ w.heap.size + 1 by omega)
    have mx := fun i => bx.cell i
    go_enter Try.func22, Try.ntmps22
    go_wp2_with fail
    generalize (w.alloc (.cells #[.bool true, .slice A n c, .slice A' m c', .int .u64 l] 27)).alloc (.cells #[.bool false, .slice none 0 0, .slice none 0 0, .int .u64 0] 27) = wa at *
    refine (C1.out _ hb).mono ?_
    rintro e wc ⟨⟨u1, rfl, N1⟩, hb1⟩
    replace bx := bx.below hb1 bx.lt
    replace br := br.below hb1 br.lt
    replace hb := hb.trans (hb1.mono hb.size)
    clear hb1 mx
    obtain ⟨B1, e1, B2, e2, rfl⟩ := N1.val
    have bl := Blk.new wc 22 #[.int .u64 child]
    replace bx := bx.alloc (.cells #[.int .u64 child] 22)
    replace br := br.alloc (.cells #[.int .u64 child] 22)
    replace N1 := N1.below ((Below.refl wc.heap.size wc).alloc (Nat.le_refl _) (.cells #[.int .u64 child] 22))
    replace hb := hb.alloc hb.size (.cells #[.int .u64 child] 22)
    go_wp2_with fail
    generalize wc.alloc (.cells #[.int .u64 child] 22) = wc2 at *
    generalize wc.heap.size = gl at *
    refine (J1.out _ _ _ N1.nd ⟨_, _, rfl, Sl.nil _ _, sl_one bl⟩).mono ?_
    rintro e wd ⟨⟨u2, rfl, Na⟩, hb1⟩
    replace Na := Na.mono (lo' := w.heap.size) hb.size
    replace bx := bx.below hb1 bx.lt
    replace br := br.below hb1 br.lt
    replace hb := hb.trans (hb1.mono hb.size)
    clear hb1 N1 bl C1 J1
    obtain ⟨k1, v1, ee, o1, o2⟩ := Na
    obtain ⟨A1, d1, rfl⟩ := o1.val
    obtain ⟨A2, d2, rfl⟩ := o2.val
    subst ee
    have mx0 := fun i => (bx.alloc (.cells #[.bool true, .slice A1 x1.length d1, .slice A2 y1.length d2, .int .u64 0] 27)).cell i
    have ba := Blk.new wd 27 #[.bool true, .slice A1 x1.length d1, .slice A2 y1.length d2, .int .u64 l]
    have K1 := (Below.refl wd.heap.size wd).alloc (Nat.le_refl _) (.cells #[.bool true, .slice A1 x1.length d1, .slice A2 y1.length d2, .int .u64 l] 27)
    replace bx := bx.alloc (.cells #[.bool true, .slice A1 x1.length d1, .slice A2 y1.length d2, .int .u64 l] 27)
    replace br := br.alloc (.cells #[.bool true, .slice A1 x1.length d1, .slice A2 y1.length d2, .int .u64 l] 27)
    replace o1 := o1.below K1
    replace o2 := o2.below K1
    replace hb := hb.alloc hb.size (.cells #[.bool true, .slice A1 x1.length d1, .slice A2 y1.length d2, .int .u64 l] 27)
    have mx := fun i => bx.cell i
    have mr := fun i => br.cell i
    have zr := fun i => br.frozen i
    have ma := fun i => ba.cell i
    go_wp2_with fail
    have N0 : NdO _ w.heap.size (.agg #[.bool true, .slice A1 x1.length d1, .slice A2 y1.length d2, .int .u64 l]) true x1 y1 l := ⟨_, _, rfl, o1, o2⟩
    have b9 := br.setN (.bool true) (.slice A1 x1.length d1) (.slice A2 y1.length d2) (.int .u64 l)
    have N9 := N0.setN br (.bool true) (.slice A1 x1.length d1) (.slice A2 y1.length d2) (.int .u64 l)
    have B9 := below_setN hb (g := w.heap.size + 1) HGR.out (.bool true) (.slice A1 x1.length d1) (.slice A2 y1.length d2) (.int .u64 l)
    have m9 := fun i => b9.cell i
    exact bodyPost_ret (v := .agg #[.bool true, .slice A1 x1.length d1, .slice A2 y1.length d2, .int .u64 l]) (by simp [results, Try.results22, go_sem, m9]) rfl ⟨⟨_, rfl, N9⟩, B9⟩
  · have hq : q < ks.length := by omega
    have J2 := hide (fun (u u' : Value) w2 (hN : Nd w2 w2.heap.size u true x1 y1 0) (hN' : Nd w2 w2.heap.size u' true (ks.drop p) (vs.drop p) 0) => rjoinI_any u u' true true _ _ _ _ 0 0 (ks.getD q 0) l w2 s1 s2 t3 t4 s3 (by simp; omega) hN hN')
    have eX : x1 ++ ks.getD q 0 :: ks.drop p = X := by
      rw [hX, hx1, gD ks q hq, List.append_assoc, hp, ← List.drop_eq_getElem_cons hq, List.append_assoc]
    have eY : y1 ++ vs.drop p = Y := by rw [hY, hy1]
    rw [eX, eY] at J2
    clear t1 t2 t3 t4 t5 s1 s2 s3 hx1 hy1 hX hY zz eX eY
    have HQ := hide hq
    have hcmp : ((p : Int) == (vs.length : Int)) = false := by simp; omega
    have hpq : (p : Int) - 1 = (q : Int) := by omega
    have hqn : (q : Int) < (ks.length : Int) := by omega
    have hw1 : IntKind.i64.wrap (q : Int) = (q : Int) := IntWalk.i64_in _ (by omega)
    clear hpe hp hpv hkv hr hl hq
    obtain ⟨k0, u0, rfl, hk0, hu0⟩ := h
    obtain ⟨A, c, rfl, _, _, hrk⟩ := hk0
    obtain ⟨A', c', rfl, _⟩ := hu0
    obtain ⟨ad, hAd, hkl, _⟩ := hrk.word (k := q) HQ.out
    subst hAd
    have ZK := hide (fun w2 (hB : Below w.heap.size w w2) => word_cell hrk HQ.out hkl hB)
    rw [gD ks q hkl] at J2
    generalize ks[q] = mid at *
    clear HQ
    generalize ks.drop p = z1 at *
    generalize vs.drop p = z2 at *
    generalize ks.take q = x0 at *
    generalize vs.take p = y0 at *
    generalize hnn : ks.length = n at *
    generalize hmm : vs.length = m at *
    replace hnn := hide hnn
    replace hmm := hide hmm
    have bx := (Blk.new w 27 #[.bool true, .slice (some ad) n c, .slice A' m c', .int .u64 l]).alloc (.cells #[.bool false, .slice none 0 0, .slice none 0 0, .int .u64 0] 27)
    have br := Blk.new (w.alloc (.cells #[.bool true, .slice (some ad) n c, .slice A' m c', .int .u64 l] 27)) 27 #[.bool false, .slice none 0 0, .slice none 0 0, .int .u64 0]
    have hb := ((Below.refl w.heap.size w).alloc (Nat.le_refl _) (.cells #[.bool true, .slice (some ad) n c, .slice A' m c', .int .u64 l] 27)).alloc (by simp only [World.size_alloc]; omega) (.cells #[.bool false, .slice none 0 0, .slice none 0 0, .int .u64 0] 27)
    rw [World.size_alloc] at br
    have HXR := hide (show w.heap.size ≠ w.heap.size + 1 by omega)
    have HGR := hide (show w.heap.size ≤ w.heap.size + 1 by omega)
    have mx := fun i => bx.cell i
    go_enter Try.func22, Try.ntmps22
    go_wp2_with fail
    generalize (w.alloc (.cells #[.bool true, .slice (some ad) n c, .slice A' m c', .int .u64 l] 27)).alloc (.cells #[.bool false, .slice none 0 0, .slice none 0 0, .int .u64 0] 27) = wa at *
    refine (C1.out _ hb).mono ?_
    rintro e wc ⟨⟨u1, rfl, N1⟩, hb1⟩
    replace bx := bx.below hb1 bx.lt
    replace br := br.below hb1 br.lt
    replace hb := hb.trans (hb1.mono hb.size)
    clear hb1 mx
    obtain ⟨B1, e1, B2, e2, rfl⟩ := N1.val
    have bl := Blk.new wc 22 #[.int .u64 child]
    replace bx := bx.alloc (.cells #[.int .u64 child] 22)
    replace br := br.alloc (.cells #[.int .u64 child] 22)
    replace N1 := N1.below ((Below.refl wc.heap.size wc).alloc (Nat.le_refl _) (.cells #[.int .u64 child] 22))
    replace hb := hb.alloc hb.size (.cells #[.int .u64 child] 22)
    go_wp2_with fail
    generalize wc.alloc (.cells #[.int .u64 child] 22) = wc2 at *
    generalize wc.heap.size = gl at *
    refine (J1.out _ _ _ N1.nd ⟨_, _, rfl, Sl.nil _ _, sl_one bl⟩).mono ?_
    rintro e wd ⟨⟨u2, rfl, Na⟩, hb1⟩
    replace Na := Na.mono (lo' := w.heap.size) hb.size
    replace bx := bx.below hb1 bx.lt
    replace br := br.below hb1 br.lt
    replace hb := hb.trans (hb1.mono hb.size)
    clear hb1 N1 bl C1 J1
    obtain ⟨k1, v1, ee, o1, o2⟩ := Na
    obtain ⟨A1, d1, rfl⟩ := o1.val
    obtain ⟨A2, d2, rfl⟩ := o2.val
    subst ee
    have HAR := hide (show wd.heap.size ≠ w.heap.size + 1 by have := br.lt; omega)
    have ba := Blk.new wd 27 #[.bool true, .slice A1 x1.length d1, .slice A2 y1.length d2, .int .u64 0]
    have K1 := (Below.refl wd.heap.size wd).alloc (Nat.le_refl _) (.cells #[.bool true, .slice A1 x1.length d1, .slice A2 y1.length d2, .int .u64 0] 27)
    replace bx := bx.alloc (.cells #[.bool true, .slice A1 x1.length d1, .slice A2 y1.length d2, .int .u64 0] 27)
    replace br := br.alloc (.cells #[.bool true, .slice A1 x1.length d1, .slice A2 y1.length d2, .int .u64 0] 27)
    replace o1 := o1.below K1
    replace o2 := o2.below K1
    replace hb := hb.alloc hb.size (.cells #[.bool true, .slice A1 x1.length d1, .slice A2 y1.length d2, .int .u64 0] 27)
    clear K1
    have mx := fun i => bx.cell i
    go_wp2_with fail
    clear mx
    generalize wd.alloc (.cells #[.bool true, .slice A1 x1.length d1, .slice A2 y1.length d2, .int .u64 0] 27) = wq at *
    generalize wd.heap.size = ga at *
    have Na : NdO wq w.heap.size (.agg #[.bool true, .slice A1 x1.length d1, .slice A2 y1.length d2, .int .u64 0]) true x1 y1 0 := ⟨_, _, rfl, o1, o2⟩
    clear o1 o2
    refine wp_region_heldZ [] (fun w' => w'.cell? ⟨w.heap.size, 0, none⟩ = some (.bool true) ∧ w'.cell? ⟨w.heap.size, 1, none⟩ = some (.slice (some ad) n c) ∧ w'.cell? ⟨w.heap.size, 2, none⟩ = some (.slice A' m c') ∧ w'.cell? ⟨w.heap.size, 3, none⟩ = some (.int .u64 l) ∧ w'.cell? ⟨ga, 0, none⟩ = some (.bool true) ∧ w'.cell? ⟨ga, 1, none⟩ = some (.slice A1 x1.length d1) ∧ w'.cell? ⟨ga, 2, none⟩ = some (.slice A2 y1.length d2) ∧ w'.cell? ⟨ga, 3, none⟩ = some (.int .u64 0) ∧ w'.cell? (ad.add q) = some (.int .u64 mid)) (by kernel_rfl) (by obtain ⟨p0, p1, p2, p3⟩ := cellsN bx; obtain ⟨q0, q1, q2, q3⟩ := cellsN ba; exact ⟨p0, p1, p2, p3, q0, q1, q2, q3, (by first | exact ZK.out _ hb | exact ZK.out _ hb.drew)⟩) (fun hHeld => ?_)
    replace bx := bx.drew
    replace br := br.drew
    replace ba := ba.drew
    replace hb := hb.drew
    replace Na := (show NdO wq.drew _ _ _ _ _ _ from Na)
    generalize wq.drew = wq2 at *
    refine' wpAnyZ_takeA (i := 0) (v := ?_) (opAt rfl) (by kernel_rfl) (by kernel_rfl) (by kernel_rfl) (by kernel_rfl) (fun _ _ _ h => h) (by assumption) (by rfl) (fun w hSw => ?_) ?_
    rotate_left
    · (try dsimp only at hSw); go_simp; (try with_reducible rfl)
    try simp only [Act.put, List.setIfInBounds_toArray, List.set_cons_zero, List.set_cons_succ]
    refine' wpAnyZ_takeA (i := 1) (v := ?_) (opAt rfl) (by kernel_rfl) (by kernel_rfl) (by kernel_rfl) (by kernel_rfl) (fun _ _ _ h => h) (by assumption) (by rfl) (fun w hSw => ?_) ?_
    rotate_left
    · (try dsimp only at hSw); go_simp; (try with_reducible rfl)
    try simp only [Act.put, List.setIfInBounds_toArray, List.set_cons_zero, List.set_cons_succ]
    refine' wpAnyZ_takeA (i := 2) (v := ?_) (opAt rfl) (by kernel_rfl) (by kernel_rfl) (by kernel_rfl) (by kernel_rfl) (fun _ _ _ h => h) (by assumption) (by rfl) (fun w hSw => ?_) ?_
    rotate_left
    · (try dsimp only at hSw); go_simp; (try with_reducible rfl)
    try simp only [Act.put, List.setIfInBounds_toArray, List.set_cons_zero, List.set_cons_succ]
    refine' wpAnyZ_takeA (i := 3) (v := ?_) (opAt rfl) (by kernel_rfl) (by kernel_rfl) (by kernel_rfl) (by kernel_rfl) (fun _ _ _ h => h) (by assumption) (by rfl) (fun w hSw => ?_) ?_
    rotate_left
    · (try dsimp only at hSw); go_simp; (try with_reducible rfl)
    try simp only [Act.put, List.setIfInBounds_toArray, List.set_cons_zero, List.set_cons_succ]
    refine' wpAnyZ_takeA (i := 4) (v := ?_) (opAt rfl) (by kernel_rfl) (by kernel_rfl) (by kernel_rfl) (by kernel_rfl) (fun _ _ _ h => h) (by assumption) (by rfl) (fun w hSw => ?_) ?_
    rotate_left
    · (try dsimp only at hSw); go_simp; (try with_reducible rfl)
    try simp only [Act.put, List.setIfInBounds_toArray, List.set_cons_zero, List.set_cons_succ]
    refine' wpAnyZ_takeA (i := 5) (v := ?_) (opAt rfl) (by kernel_rfl) (by kernel_rfl) (by kernel_rfl) (by kernel_rfl) (fun _ _ _ h => h) (by assumption) (by rfl) (fun w hSw => ?_) ?_
    rotate_left
    · (try dsimp only at hSw); go_simp; (try with_reducible rfl)
    try simp only [Act.put, List.setIfInBounds_toArray, List.set_cons_zero, List.set_cons_succ]
    refine' wpAnyZ_takeA (i := 6) (v := ?_) (opAt rfl) (by kernel_rfl) (by kernel_rfl) (by kernel_rfl) (by kernel_rfl) (fun _ _ _ h => h) (by assumption) (by rfl) (fun w hSw => ?_) ?_
    rotate_left
    · (try dsimp only at hSw); go_simp; (try with_reducible rfl)
    try simp only [Act.put, List.setIfInBounds_toArray, List.set_cons_zero, List.set_cons_succ]
    refine' wpAnyZ_takeA (i := 7) (v := ?_) (opAt rfl) (by kernel_rfl) (by kernel_rfl) (by kernel_rfl) (by kernel_rfl) (fun _ _ _ h => h) (by assumption) (by rfl) (fun w hSw => ?_) ?_
    rotate_left
    · (try dsimp only at hSw); go_simp; (try with_reducible rfl)
    try simp only [Act.put, List.setIfInBounds_toArray, List.set_cons_zero, List.set_cons_succ]
    refine' wpAnyZ_takeA (i := 8) (v := ?_) (opAt rfl) (by kernel_rfl) (by kernel_rfl) (by kernel_rfl) (by kernel_rfl) (fun _ _ _ h => h) (by assumption) (by rfl) (fun w hSw => ?_) ?_
    rotate_left
    · (try dsimp only at hSw); go_simp; (try with_reducible rfl)
    try simp only [Act.put, List.setIfInBounds_toArray, List.set_cons_zero, List.set_cons_succ]
    refine' wpAnyZ_takeA (i := 9) (v := ?_) (opAt rfl) (by kernel_rfl) (by kernel_rfl) (by kernel_rfl) (by kernel_rfl) (fun _ _ _ h => h) (by assumption) (by rfl) (fun w hSw => ?_) ?_
    rotate_left
    · (try dsimp only at hSw); go_simp; (try with_reducible rfl)
    try simp only [Act.put, List.setIfInBounds_toArray, List.set_cons_zero, List.set_cons_succ]
    refine' wpAnyZ_takeA (i := 10) (v := ?_) (opAt rfl) (by kernel_rfl) (by kernel_rfl) (by kernel_rfl) (by kernel_rfl) (fun _ _ _ h => h) (by assumption) (by rfl) (fun w hSw => ?_) ?_
    rotate_left
    · (try dsimp only at hSw); go_simp; (try with_reducible rfl)
    try simp only [Act.put, List.setIfInBounds_toArray, List.set_cons_zero, List.set_cons_succ]
    refine' wpAnyZ_takeA (i := 11) (v := ?_) (opAt rfl) (by kernel_rfl) (by kernel_rfl) (by kernel_rfl) (by kernel_rfl) (fun _ _ _ h => h) (by assumption) (by rfl) (fun w hSw => ?_) ?_
    rotate_left
    · (try dsimp only at hSw); go_simp; (try with_reducible rfl)
    try simp only [Act.put, List.setIfInBounds_toArray, List.set_cons_zero, List.set_cons_succ]
    refine' wpAnyZ_takeA (i := 13) (v := ?_) (opAt rfl) (by kernel_rfl) (by kernel_rfl) (by kernel_rfl) (by kernel_rfl) (fun _ _ _ h => h) (by assumption) (by rfl) (fun w hSw => ?_) ?_
    rotate_left
    · (try dsimp only at hSw); go_simp; (try with_reducible rfl)
    try simp only [Act.put, List.setIfInBounds_toArray, List.set_cons_zero, List.set_cons_succ]
    refine' wpAnyZ_takeA (i := 14) (v := ?_) (opAt rfl) (by kernel_rfl) (by kernel_rfl) (by kernel_rfl) (by kernel_rfl) (fun _ _ _ h => h) (by assumption) (by rfl) (fun w hSw => ?_) ?_
    rotate_left
    · (try dsimp only at hSw); go_simp; (try with_reducible rfl)
    try simp only [Act.put, List.setIfInBounds_toArray, List.set_cons_zero, List.set_cons_succ]
    refine wpAnyZ_ready (rs := [12]) (by kernel_rfl) (by simp) ?_
    refine AllReadyZ.cons (opAt rfl) (fun K hK => ?_) ?_
    · skip
      go_simp
      refine (C2.out _ hb).mono ?_
      rintro e wr ⟨⟨u2, rfl, N2⟩, hb1⟩
      replace bx := bx.below hb1 bx.lt
      replace br := br.below hb1 br.lt
      replace ba := ba.below hb1 ba.lt
      replace Na := Na.below hb1
      replace hb := hb.trans (hb1.mono hb.size)
      clear hb1
      obtain ⟨B3, e3, B4, e4, rfl⟩ := N2.val
      try go_wp2_with fail
      refine hK.out _ _ (by obtain ⟨p0, p1, p2, p3⟩ := cellsN bx; obtain ⟨q0, q1, q2, q3⟩ := cellsN ba; exact ⟨p0, p1, p2, p3, q0, q1, q2, q3, (by first | exact ZK.out _ hb | exact ZK.out _ hb.drew)⟩) (fun hHeld => ?_)
      clear hK K
      try simp only [Act.put, List.setIfInBounds_toArray, List.set_cons_zero, List.set_cons_succ]
      refine wpAnyZ_ready (rs := [15]) (by kernel_rfl) (by simp) ?_
      refine AllReadyZ.cons (opAt rfl) (fun K hK => ?_) ?_
      · skip
        go_simp
        refine (J2.out _ _ _ Na.nd N2.nd).mono ?_
        rintro e ws ⟨⟨u3, rfl, Nr⟩, hb1⟩
        replace Nr := Nr.mono (lo' := w.heap.size) hb.size
        replace bx := bx.below hb1 bx.lt
        replace br := br.below hb1 br.lt
        replace ba := ba.below hb1 ba.lt
        replace hb := hb.trans (hb1.mono hb.size)
        clear hb1
        obtain ⟨B5, e5, B6, e6, rfl⟩ := Nr.val
        clear Na N2
        try go_wp2_with fail
        refine hK.out _ _ (by obtain ⟨p0, p1, p2, p3⟩ := cellsN bx; obtain ⟨q0, q1, q2, q3⟩ := cellsN ba; exact ⟨p0, p1, p2, p3, q0, q1, q2, q3, (by first | exact ZK.out _ hb | exact ZK.out _ hb.drew)⟩) (fun hHeld => ?_)
        clear hK K
        try simp only [Act.put, List.setIfInBounds_toArray, List.set_cons_zero, List.set_cons_succ]
        refine wpAnyZ_ready (rs := [16]) (by kernel_rfl) (by simp) ?_
        refine AllReadyZ.cons (opAt rfl) (fun K hK => ?_) ?_
        · skip
          have zo := fun i => br.frozen i
          have mo := fun i => br.cell i
          go_simp
          replace bx := bx.offN HXR.out (.bool true) (.slice B5 X.length e5) (.slice B6 Y.length e6) (.int .u64 l)
          replace ba := ba.offN HAR.out (.bool true) (.slice B5 X.length e5) (.slice B6 Y.length e6) (.int .u64 l)
          replace Nr := Nr.setN br (.bool true) (.slice B5 X.length e5) (.slice B6 Y.length e6) (.int .u64 l)
          replace br := br.setN (.bool true) (.slice B5 X.length e5) (.slice B6 Y.length e6) (.int .u64 l)
          replace hb := below_setN hb (g := w.heap.size + 1) HGR.out (.bool true) (.slice B5 X.length e5) (.slice B6 Y.length e6) (.int .u64 l)
          clear zo mo
          generalize ((((ws).setCell ⟨w.heap.size + 1, 0, none⟩ (.bool true)).setCell ⟨w.heap.size + 1, 1, none⟩ (.slice B5 X.length e5)).setCell ⟨w.heap.size + 1, 2, none⟩ (.slice B6 Y.length e6)).setCell ⟨w.heap.size + 1, 3, none⟩ (.int .u64 l) = wt at *
          refine hK.out _ _ (by obtain ⟨p0, p1, p2, p3⟩ := cellsN bx; obtain ⟨q0, q1, q2, q3⟩ := cellsN ba; exact ⟨p0, p1, p2, p3, q0, q1, q2, q3, (by first | exact ZK.out _ hb | exact ZK.out _ hb.drew)⟩) (fun hHeld => ?_)
          clear hK K
          try simp only [Act.put, List.setIfInBounds_toArray, List.set_cons_zero, List.set_cons_succ]
          refine wpAnyZ_done (by kernel_rfl) ?_ _
          go_wp2_with fail
          have m9 := fun i => br.cell i
          refine bodyPost_ret (v := .agg #[.bool true, .slice B5 X.length e5, .slice B6 Y.length e6, .int .u64 l]) (by simp [results, Try.results22, go_sem, m9]) rfl ⟨⟨_, rfl, ?_⟩, hb⟩
          exact Nr
        exact AllReadyZ.nil
      exact AllReadyZ.nil
    exact AllReadyZ.nil
set_option maxRecDepth 100000 in
set_option maxHeartbeats 4000000 in
theorem rdrop_any (v : Value) (ks vs : List Int) (l : Int) (p q : Nat) (w : World) (hl : ks.length ≤ 900) (h : Nd w w.heap.size v true ks vs l) (hr : rightI true ks vs = true) (hq : q = p - 1) (hpv : p < vs.length) (h2 : 1 < vs.length) :
    Calls Try.prog 23 #[v, .int .i64 p] w fun e w' => (∃ u, e = .returned u ∧ NdO w' w.heap.size u true (ks.take q ++ ks.drop (q + 1)) (vs.take p ++ vs.drop (p + 1)) l) ∧ Below w.heap.size w w' := by
  obtain ⟨_, hkv, _⟩ := rightI_parts hr
  obtain ⟨X, hX⟩ : ∃ x, x = ks.take q ++ ks.drop (q + 1) := ⟨_, rfl⟩
  obtain ⟨Y, hY⟩ : ∃ x, x = vs.take p ++ vs.drop (p + 1) := ⟨_, rfl⟩
  rw [← hX, ← hY]
  have zz : ((0 : Nat) : Int) = 0 := rfl
  have z1 : ((1 : Nat) : Int) = 1 := rfl
  by_cases hp0 : p = 0
  · have C1 := hide (fun w2 (hB : Below w.heap.size w w2) => rcutI_any v true ks vs l l 1 vs.length w2 (by omega) hkv (by omega) (by omega) ((h.below hB).more hB.size))
    rw [cutL_drop ks (show ks.length ≤ vs.length - 1 by omega), cutL_drop vs (Nat.le_refl _), z1, show ks.drop 1 = X by rw [hX, hq, hp0]; simp, show vs.drop 1 = Y by rw [hY, hp0]; simp] at C1
    have hcmp : ((p : Int) == 0) = true := by simp; omega
    clear hX hY zz z1 hp0 hq hpv h2 hkv hr hl
    obtain ⟨k0, u0, rfl, hk0, hu0⟩ := h
    obtain ⟨A, c, rfl, _, _, hrk⟩ := hk0
    obtain ⟨A', c', rfl, _⟩ := hu0
    generalize hnn : ks.length = n at *
    generalize hmm : vs.length = m at *
    replace hnn := hide hnn
    replace hmm := hide hmm
    have bx := (Blk.new w 27 #[.bool true, .slice A n c, .slice A' m c', .int .u64 l]).alloc (.cells #[.bool false, .slice none 0 0, .slice none 0 0, .int .u64 0] 27)
    have br := Blk.new (w.alloc (.cells #[.bool true, .slice A n c, .slice A' m c', .int .u64 l] 27)) 27 #[.bool false, .slice none 0 0, .slice none 0 0, .int .u64 0]
    have hb := ((Below.refl w.heap.size w).alloc (Nat.le_refl _) (.cells #[.bool true, .slice A n c, .slice A' m c', .int .u64 l] 27)).alloc (by simp only [World.size_alloc]; omega) (.cells #[.bool false, .slice none 0 0, .slice none 0 0, .int .u64 0] 27)
    rw [World.size_alloc] at br
    have HXR := hide (show w.heap.size ≠ w.heap.size + 1 by omega)
    have HGR := hide (show w.heap.size ≤ w.heap.size + 1 by omega)
    have mx := fun i => bx.cell i
    go_enter Try.func23, Try.ntmps23
    go_wp2_with fail
    clear mx
    generalize (w.alloc (.cells #[.bool true, .slice A n c, .slice A' m c', .int .u64 l] 27)).alloc (.cells #[.bool false, .slice none 0 0, .slice none 0 0, .int .u64 0] 27) = wa at *
    refine (C1.out _ hb).mono ?_
    rintro e wr ⟨⟨u, rfl, Nr⟩, hb1⟩
    replace Nr := Nr.mono (lo' := w.heap.size) hb.size
    replace br := br.below hb1 br.lt
    replace hb := hb.trans (hb1.mono hb.size)
    clear hb1
    obtain ⟨B5, e5, B6, e6, rfl⟩ := Nr.val
    have mr := fun i => br.cell i
    have zr := fun i => br.frozen i
    go_wp2_with fail
    have b9 := br.setN (.bool true) (.slice B5 X.length e5) (.slice B6 Y.length e6) (.int .u64 l)
    have N9 := Nr.setN br (.bool true) (.slice B5 X.length e5) (.slice B6 Y.length e6) (.int .u64 l)
    have B9 := below_setN hb (g := w.heap.size + 1) HGR.out (.bool true) (.slice B5 X.length e5) (.slice B6 Y.length e6) (.int .u64 l)
    have m9 := fun i => b9.cell i
    exact bodyPost_ret (v := .agg #[.bool true, .slice B5 X.length e5, .slice B6 Y.length e6, .int .u64 l]) (by simp [results, Try.results23, go_sem, m9]) rfl ⟨⟨_, rfl, N9⟩, B9⟩
  · have hcmp : ((p : Int) == 0) = false := by simp; omega
    by_cases hpe : p + 1 = vs.length
    · have C1 := hide (fun w2 (hB : Below w.heap.size w w2) => rcutI_any v true ks vs l l 0 p w2 (by omega) hkv (by omega) (by omega) ((h.below hB).more hB.size))
      rw [cutL_take ks (p - 1), cutL_take vs p, zz, show ks.take (p - 1) = X by rw [hX, ← hq, List.drop_of_length_le (by omega), List.append_nil], show vs.take p = Y by rw [hY, List.drop_of_length_le (by omega), List.append_nil]] at C1
      have hcmp2 : ((p : Int) == (vs.length : Int) - 1) = true := by simp; omega
      have hm1 : (vs.length : Int) ≤ 1000 := by omega
      clear hX hY zz z1 hp0 hq hpv h2 hkv hr hl hpe
      obtain ⟨k0, u0, rfl, hk0, hu0⟩ := h
      obtain ⟨A, c, rfl, _, _, hrk⟩ := hk0
      obtain ⟨A', c', rfl, _⟩ := hu0
      generalize hnn : ks.length = n at *
      generalize hmm : vs.length = m at *
      replace hnn := hide hnn
      replace hmm := hide hmm
      have bx := (Blk.new w 27 #[.bool true, .slice A n c, .slice A' m c', .int .u64 l]).alloc (.cells #[.bool false, .slice none 0 0, .slice none 0 0, .int .u64 0] 27)
      have br := Blk.new (w.alloc (.cells #[.bool true, .slice A n c, .slice A' m c', .int .u64 l] 27)) 27 #[.bool false, .slice none 0 0, .slice none 0 0, .int .u64 0]
      have hb := ((Below.refl w.heap.size w).alloc (Nat.le_refl _) (.cells #[.bool true, .slice A n c, .slice A' m c', .int .u64 l] 27)).alloc (by simp only [World.size_alloc]; omega) (.cells #[.bool false, .slice none 0 0, .slice none 0 0, .int .u64 0] 27)
      rw [World.size_alloc] at br
      have HXR := hide (show w.heap.size ≠ w.heap.size + 1 by omega)
      have HGR := hide (show w.heap.size ≤ w.heap.size + 1 by omega)
      have mx := fun i => bx.cell i
      go_enter Try.func23, Try.ntmps23
      go_wp2_with fail
      clear mx
      generalize (w.alloc (.cells #[.bool true, .slice A n c, .slice A' m c', .int .u64 l] 27)).alloc (.cells #[.bool false, .slice none 0 0, .slice none 0 0, .int .u64 0] 27) = wa at *
      refine (C1.out _ hb).mono ?_
      rintro e wr ⟨⟨u, rfl, Nr⟩, hb1⟩
      replace Nr := Nr.mono (lo' := w.heap.size) hb.size
      replace br := br.below hb1 br.lt
      replace hb := hb.trans (hb1.mono hb.size)
      clear hb1
      obtain ⟨B5, e5, B6, e6, rfl⟩ := Nr.val
      have mr := fun i => br.cell i
      have zr := fun i => br.frozen i
      go_wp2_with fail
      have b9 := br.setN (.bool true) (.slice B5 X.length e5) (.slice B6 Y.length e6) (.int .u64 l)
      have N9 := Nr.setN br (.bool true) (.slice B5 X.length e5) (.slice B6 Y.length e6) (.int .u64 l)
      have B9 := below_setN hb (g := w.heap.size + 1) HGR.out (.bool true) (.slice B5 X.length e5) (.slice B6 Y.length e6) (.int .u64 l)
      have m9 := fun i => b9.cell i
      exact bodyPost_ret (v := .agg #[.bool true, .slice B5 X.length e5, .slice B6 Y.length e6, .int .u64 l]) (by simp [results, Try.results23, go_sem, m9]) rfl ⟨⟨_, rfl, N9⟩, B9⟩
    · have hpn : p < ks.length := by omega
      have C1 := hide (fun w2 (hB : Below w.heap.size w w2) => rcutI_any v true ks vs l 0 0 p w2 (by omega) hkv (by omega) (by omega) ((h.below hB).more hB.size))
      have C2 := hide (fun w2 (hB : Below w.heap.size w w2) => rcutI_any v true ks vs l 0 (p + 1) vs.length w2 (by omega) hkv (by omega) (by omega) ((h.below hB).more hB.size))
      rw [cutL_take ks (p - 1), cutL_take vs p, zz, ← hq] at C1
      rw [cutL_drop ks (show ks.length ≤ vs.length - 1 by omega), cutL_drop vs (Nat.le_refl _)] at C2
      have t1 : (ks.take q).length ≤ 1000 := by simp; omega
      have t2 : (vs.take p).length ≤ 1000 := by simp; omega
      have t3 : (ks.drop (p + 1)).length ≤ 1000 := by simp; omega
      have t4 : (vs.drop (p + 1)).length ≤ 1000 := by simp; omega
      have t5 : 1 ≤ (vs.take p).length := by simp; omega
      have t6 : 1 ≤ (vs.drop (p + 1)).length := by simp; omega
      have J2 := hide (fun (u u' : Value) w2 (hN : Nd w2 w2.heap.size u true (ks.take q) (vs.take p) 0) (hN' : Nd w2 w2.heap.size u' true (ks.drop (p + 1)) (vs.drop (p + 1)) 0) => rjoinI_any u u' true true _ _ _ _ 0 0 (ks.getD p 0) l w2 t1 t2 t3 t4 t5 t6 hN hN')
      rw [show ks.take q ++ ks.getD p 0 :: ks.drop (p + 1) = X by rw [hX, gD ks p hpn, ← List.drop_eq_getElem_cons hpn, show q + 1 = p by omega], ← hY] at J2
      have HQ := hide hpn
      have hcmp2 : ((p : Int) == (vs.length : Int) - 1) = false := by simp; omega
      have hm1 : (vs.length : Int) ≤ 1000 := by omega
      have hqn : (p : Int) < (ks.length : Int) := by omega
      have hw1 : IntKind.i64.wrap ((p : Int) + 1) = (p : Int) + 1 := IntWalk.i64_in _ (by omega)
      have hpc : (((p + 1 : Nat)) : Int) = (p : Int) + 1 := by omega
      rw [hpc] at C2
      clear t1 t2 t3 t4 t5 t6 hX hY zz z1 hp0 hq hpv h2 hkv hr hl hpe hpn hpc
      obtain ⟨k0, u0, rfl, hk0, hu0⟩ := h
      obtain ⟨A, c, rfl, _, _, hrk⟩ := hk0
      obtain ⟨A', c', rfl, _⟩ := hu0
      obtain ⟨ad, hAd, hkl, _⟩ := hrk.word (k := p) HQ.out
      subst hAd
      have ZK := hide (fun w2 (hB : Below w.heap.size w w2) => word_cell hrk HQ.out hkl hB)
      rw [gD ks p hkl] at J2
      generalize ks[p] = mid at *
      clear HQ
      generalize ks.take q = x0 at *
      generalize vs.take p = y0 at *
      generalize ks.drop (p + 1) = z1 at *
      generalize vs.drop (p + 1) = z2 at *
      generalize hnn : ks.length = n at *
      generalize hmm : vs.length = m at *
      replace hnn := hide hnn
      replace hmm := hide hmm
      have bx := (Blk.new w 27 #[.bool true, .slice (some ad) n c, .slice A' m c', .int .u64 l]).alloc (.cells #[.bool false, .slice none 0 0, .slice none 0 0, .int .u64 0] 27)
      have br := Blk.new (w.alloc (.cells #[.bool true, .slice (some ad) n c, .slice A' m c', .int .u64 l] 27)) 27 #[.bool false, .slice none 0 0, .slice none 0 0, .int .u64 0]
      have hb := ((Below.refl w.heap.size w).alloc (Nat.le_refl _) (.cells #[.bool true, .slice (some ad) n c, .slice A' m c', .int .u64 l] 27)).alloc (by simp only [World.size_alloc]; omega) (.cells #[.bool false, .slice none 0 0, .slice none 0 0, .int .u64 0] 27)
      rw [World.size_alloc] at br
      have HXR := hide (show w.heap.size ≠ w.heap.size + 1 by omega)
      have HGR := hide (show w.heap.size ≤ w.heap.size + 1 by omega)
      have mx := fun i => bx.cell i
      go_enter Try.func23, Try.ntmps23
      go_wp2_with fail
      clear mx
      generalize (w.alloc (.cells #[.bool true, .slice (some ad) n c, .slice A' m c', .int .u64 l] 27)).alloc (.cells #[.bool false, .slice none 0 0, .slice none 0 0, .int .u64 0] 27) = wa at *
      refine wp_region_heldZ [] (fun w' => w'.cell? ⟨w.heap.size, 0, none⟩ = some (.bool true) ∧ w'.cell? ⟨w.heap.size, 1, none⟩ = some (.slice (some ad) n c) ∧ w'.cell? ⟨w.heap.size, 2, none⟩ = some (.slice A' m c') ∧ w'.cell? ⟨w.heap.size, 3, none⟩ = some (.int .u64 l) ∧ w'.cell? (ad.add p) = some (.int .u64 mid)) (by kernel_rfl) (by obtain ⟨p0, p1, p2, p3⟩ := cellsN bx; exact ⟨p0, p1, p2, p3, (by first | exact ZK.out _ hb | exact ZK.out _ hb.drew)⟩) (fun hHeld => ?_)
      replace bx := bx.drew
      replace br := br.drew
      replace hb := hb.drew
      generalize wa.drew = wq2 at *
      refine' wpAnyZ_takeA (i := 0) (v := ?_) (opAt rfl) (by kernel_rfl) (by kernel_rfl) (by kernel_rfl) (by kernel_rfl) (fun _ _ _ h => h) (by assumption) (by rfl) (fun w hSw => ?_) ?_
      rotate_left
      · (try dsimp only at hSw); go_simp; (try with_reducible rfl)
      try simp only [Act.put, List.setIfInBounds_toArray, List.set_cons_zero, List.set_cons_succ]
      refine' wpAnyZ_takeA (i := 1) (v := ?_) (opAt rfl) (by kernel_rfl) (by kernel_rfl) (by kernel_rfl) (by kernel_rfl) (fun _ _ _ h => h) (by assumption) (by rfl) (fun w hSw => ?_) ?_
      rotate_left
      · (try dsimp only at hSw); go_simp; (try with_reducible rfl)
      try simp only [Act.put, List.setIfInBounds_toArray, List.set_cons_zero, List.set_cons_succ]
      refine' wpAnyZ_takeA (i := 3) (v := ?_) (opAt rfl) (by kernel_rfl) (by kernel_rfl) (by kernel_rfl) (by kernel_rfl) (fun _ _ _ h => h) (by assumption) (by rfl) (fun w hSw => ?_) ?_
      rotate_left
      · (try dsimp only at hSw); go_simp; (try with_reducible rfl)
      try simp only [Act.put, List.setIfInBounds_toArray, List.set_cons_zero, List.set_cons_succ]
      refine' wpAnyZ_takeA (i := 4) (v := ?_) (opAt rfl) (by kernel_rfl) (by kernel_rfl) (by kernel_rfl) (by kernel_rfl) (fun _ _ _ h => h) (by assumption) (by rfl) (fun w hSw => ?_) ?_
      rotate_left
      · (try dsimp only at hSw); go_simp; (try with_reducible rfl)
      try simp only [Act.put, List.setIfInBounds_toArray, List.set_cons_zero, List.set_cons_succ]
      refine' wpAnyZ_takeA (i := 5) (v := ?_) (opAt rfl) (by kernel_rfl) (by kernel_rfl) (by kernel_rfl) (by kernel_rfl) (fun _ _ _ h => h) (by assumption) (by rfl) (fun w hSw => ?_) ?_
      rotate_left
      · (try dsimp only at hSw); go_simp; (try with_reducible rfl)
      try simp only [Act.put, List.setIfInBounds_toArray, List.set_cons_zero, List.set_cons_succ]
      refine' wpAnyZ_takeA (i := 6) (v := ?_) (opAt rfl) (by kernel_rfl) (by kernel_rfl) (by kernel_rfl) (by kernel_rfl) (fun _ _ _ h => h) (by assumption) (by rfl) (fun w hSw => ?_) ?_
      rotate_left
      · (try dsimp only at hSw); go_simp; (try with_reducible rfl)
      try simp only [Act.put, List.setIfInBounds_toArray, List.set_cons_zero, List.set_cons_succ]
      refine' wpAnyZ_takeA (i := 7) (v := ?_) (opAt rfl) (by kernel_rfl) (by kernel_rfl) (by kernel_rfl) (by kernel_rfl) (fun _ _ _ h => h) (by assumption) (by rfl) (fun w hSw => ?_) ?_
      rotate_left
      · (try dsimp only at hSw); go_simp; (try with_reducible rfl)
      try simp only [Act.put, List.setIfInBounds_toArray, List.set_cons_zero, List.set_cons_succ]
      refine' wpAnyZ_takeA (i := 8) (v := ?_) (opAt rfl) (by kernel_rfl) (by kernel_rfl) (by kernel_rfl) (by kernel_rfl) (fun _ _ _ h => h) (by assumption) (by rfl) (fun w hSw => ?_) ?_
      rotate_left
      · (try dsimp only at hSw); go_simp; (try with_reducible rfl)
      try simp only [Act.put, List.setIfInBounds_toArray, List.set_cons_zero, List.set_cons_succ]
      refine' wpAnyZ_takeA (i := 9) (v := ?_) (opAt rfl) (by kernel_rfl) (by kernel_rfl) (by kernel_rfl) (by kernel_rfl) (fun _ _ _ h => h) (by assumption) (by rfl) (fun w hSw => ?_) ?_
      rotate_left
      · (try dsimp only at hSw); go_simp; (try with_reducible rfl)
      try simp only [Act.put, List.setIfInBounds_toArray, List.set_cons_zero, List.set_cons_succ]
      refine' wpAnyZ_takeA (i := 10) (v := ?_) (opAt rfl) (by kernel_rfl) (by kernel_rfl) (by kernel_rfl) (by kernel_rfl) (fun _ _ _ h => h) (by assumption) (by rfl) (fun w hSw => ?_) ?_
      rotate_left
      · (try dsimp only at hSw); go_simp; (try with_reducible rfl)
      try simp only [Act.put, List.setIfInBounds_toArray, List.set_cons_zero, List.set_cons_succ]
      refine' wpAnyZ_takeA (i := 11) (v := ?_) (opAt rfl) (by kernel_rfl) (by kernel_rfl) (by kernel_rfl) (by kernel_rfl) (fun _ _ _ h => h) (by assumption) (by rfl) (fun w hSw => ?_) ?_
      rotate_left
      · (try dsimp only at hSw); go_simp; (try with_reducible rfl)
      try simp only [Act.put, List.setIfInBounds_toArray, List.set_cons_zero, List.set_cons_succ]
      refine' wpAnyZ_takeA (i := 12) (v := ?_) (opAt rfl) (by kernel_rfl) (by kernel_rfl) (by kernel_rfl) (by kernel_rfl) (fun _ _ _ h => h) (by assumption) (by rfl) (fun w hSw => ?_) ?_
      rotate_left
      · (try dsimp only at hSw); go_simp; (try with_reducible rfl)
      try simp only [Act.put, List.setIfInBounds_toArray, List.set_cons_zero, List.set_cons_succ]
      refine' wpAnyZ_takeA (i := 13) (v := ?_) (opAt rfl) (by kernel_rfl) (by kernel_rfl) (by kernel_rfl) (by kernel_rfl) (fun _ _ _ h => h) (by assumption) (by rfl) (fun w hSw => ?_) ?_
      rotate_left
      · (try dsimp only at hSw); go_simp; (try with_reducible rfl)
      try simp only [Act.put, List.setIfInBounds_toArray, List.set_cons_zero, List.set_cons_succ]
      refine' wpAnyZ_takeA (i := 15) (v := ?_) (opAt rfl) (by kernel_rfl) (by kernel_rfl) (by kernel_rfl) (by kernel_rfl) (fun _ _ _ h => h) (by assumption) (by rfl) (fun w hSw => ?_) ?_
      rotate_left
      · (try dsimp only at hSw); go_simp; (try with_reducible rfl)
      try simp only [Act.put, List.setIfInBounds_toArray, List.set_cons_zero, List.set_cons_succ]
      refine' wpAnyZ_takeA (i := 16) (v := ?_) (opAt rfl) (by kernel_rfl) (by kernel_rfl) (by kernel_rfl) (by kernel_rfl) (fun _ _ _ h => h) (by assumption) (by rfl) (fun w hSw => ?_) ?_
      rotate_left
      · (try dsimp only at hSw); go_simp; (try with_reducible rfl)
      try simp only [Act.put, List.setIfInBounds_toArray, List.set_cons_zero, List.set_cons_succ]
      refine wpAnyZ_ready (rs := [2]) (by kernel_rfl) (by simp) ?_
      refine AllReadyZ.cons (opAt rfl) (fun K hK => ?_) ?_
      · skip
        go_simp
        refine (C1.out _ hb).mono ?_
        rintro e wr1 ⟨⟨u, rfl, N1⟩, hb1⟩
        replace bx := bx.below hb1 bx.lt
        replace br := br.below hb1 br.lt
        replace hb := hb.trans (hb1.mono hb.size)
        clear hb1
        obtain ⟨B1, e1, B2, e2, rfl⟩ := N1.val
        try go_wp2_with fail
        refine hK.out _ _ (by obtain ⟨p0, p1, p2, p3⟩ := cellsN bx; exact ⟨p0, p1, p2, p3, (by first | exact ZK.out _ hb | exact ZK.out _ hb.drew)⟩) (fun hHeld => ?_)
        clear hK K
        try simp only [Act.put, List.setIfInBounds_toArray, List.set_cons_zero, List.set_cons_succ]
        refine wpAnyZ_ready (rs := [14]) (by kernel_rfl) (by simp) ?_
        refine AllReadyZ.cons (opAt rfl) (fun K hK => ?_) ?_
        · skip
          go_simp
          refine (C2.out _ hb).mono ?_
          rintro e wr2 ⟨⟨u, rfl, N2⟩, hb1⟩
          replace bx := bx.below hb1 bx.lt
          replace br := br.below hb1 br.lt
          replace N1 := N1.below hb1
          replace hb := hb.trans (hb1.mono hb.size)
          clear hb1
          obtain ⟨B3, e3, B4, e4, rfl⟩ := N2.val
          try go_wp2_with fail
          refine hK.out _ _ (by obtain ⟨p0, p1, p2, p3⟩ := cellsN bx; exact ⟨p0, p1, p2, p3, (by first | exact ZK.out _ hb | exact ZK.out _ hb.drew)⟩) (fun hHeld => ?_)
          clear hK K
          try simp only [Act.put, List.setIfInBounds_toArray, List.set_cons_zero, List.set_cons_succ]
          refine wpAnyZ_ready (rs := [17]) (by kernel_rfl) (by simp) ?_
          refine AllReadyZ.cons (opAt rfl) (fun K hK => ?_) ?_
          · skip
            go_simp
            refine (J2.out _ _ _ N1.nd N2.nd).mono ?_
            rintro e ws ⟨⟨u3, rfl, Nr⟩, hb1⟩
            replace Nr := Nr.mono (lo' := w.heap.size) hb.size
            replace bx := bx.below hb1 bx.lt
            replace br := br.below hb1 br.lt
            replace hb := hb.trans (hb1.mono hb.size)
            clear hb1
            obtain ⟨B5, e5, B6, e6, rfl⟩ := Nr.val
            clear N1 N2
            try go_wp2_with fail
            refine hK.out _ _ (by obtain ⟨p0, p1, p2, p3⟩ := cellsN bx; exact ⟨p0, p1, p2, p3, (by first | exact ZK.out _ hb | exact ZK.out _ hb.drew)⟩) (fun hHeld => ?_)
            clear hK K
            try simp only [Act.put, List.setIfInBounds_toArray, List.set_cons_zero, List.set_cons_succ]
            refine wpAnyZ_ready (rs := [18]) (by kernel_rfl) (by simp) ?_
            refine AllReadyZ.cons (opAt rfl) (fun K hK => ?_) ?_
            · skip
              have zo := fun i => br.frozen i
              have mo := fun i => br.cell i
              go_simp
              replace bx := bx.offN HXR.out (.bool true) (.slice B5 X.length e5) (.slice B6 Y.length e6) (.int .u64 l)
              replace Nr := Nr.setN br (.bool true) (.slice B5 X.length e5) (.slice B6 Y.length e6) (.int .u64 l)
              replace br := br.setN (.bool true) (.slice B5 X.length e5) (.slice B6 Y.length e6) (.int .u64 l)
              replace hb := below_setN hb (g := w.heap.size + 1) HGR.out (.bool true) (.slice B5 X.length e5) (.slice B6 Y.length e6) (.int .u64 l)
              clear zo mo
              generalize ((((ws).setCell ⟨w.heap.size + 1, 0, none⟩ (.bool true)).setCell ⟨w.heap.size + 1, 1, none⟩ (.slice B5 X.length e5)).setCell ⟨w.heap.size + 1, 2, none⟩ (.slice B6 Y.length e6)).setCell ⟨w.heap.size + 1, 3, none⟩ (.int .u64 l) = wt at *
              refine hK.out _ _ (by obtain ⟨p0, p1, p2, p3⟩ := cellsN bx; exact ⟨p0, p1, p2, p3, (by first | exact ZK.out _ hb | exact ZK.out _ hb.drew)⟩) (fun hHeld => ?_)
              clear hK K
              try simp only [Act.put, List.setIfInBounds_toArray, List.set_cons_zero, List.set_cons_succ]
              refine wpAnyZ_done (by kernel_rfl) ?_ _
              go_wp2_with fail
              have m9 := fun i => br.cell i
              refine bodyPost_ret (v := .agg #[.bool true, .slice B5 X.length e5, .slice B6 Y.length e6, .int .u64 l]) (by simp [results, Try.results23, go_sem, m9]) rfl ⟨⟨_, rfl, ?_⟩, hb⟩
              exact Nr
            exact AllReadyZ.nil
          exact AllReadyZ.nil
        exact AllReadyZ.nil
      exact AllReadyZ.nil
end Go.Proofs.Ytcmoblibjhaegaa
