/-
  inner.FromLeft's closure.
-/
import Derived.Test.YtcmoblibjhaegaaIfr
namespace Go.Proofs.Ytcmoblibjhaegaa
open Go.RowKit

/-- The six captured blocks. -/
structure Six (w : World) (gx gk gy gm gc gd : Nat) (X Y C D : Array Value) (key mid : Int) : Prop where
  bx : Blk w gx 27 X
  bk : Blk w gk 22 #[.int .u64 key]
  by_ : Blk w gy 27 Y
  bm : Blk w gm 22 #[.int .u64 mid]
  bc : Blk w gc 27 C
  bd : Blk w gd 27 D
theorem Six.lt {w : World} {gx gk gy gm gc gd : Nat} {X Y C D : Array Value} {key mid : Int} (_ : Six w gx gk gy gm gc gd X Y C D key mid) : True := trivial
theorem Six.below {w w' : World} {gx gk gy gm gc gd : Nat} {X Y C D : Array Value} {key mid : Int} (h : Six w gx gk gy gm gc gd X Y C D key mid) (hb : Below w.heap.size w w') (_ : True) : Six w' gx gk gy gm gc gd X Y C D key mid :=
  ⟨h.bx.below hb h.bx.lt, h.bk.below hb h.bk.lt, h.by_.below hb h.by_.lt, h.bm.below hb h.bm.lt, h.bc.below hb h.bc.lt, h.bd.below hb h.bd.lt⟩
theorem Six.alloc {w : World} {gx gk gy gm gc gd : Nat} {X Y C D : Array Value} {key mid : Int} (h : Six w gx gk gy gm gc gd X Y C D key mid) (o : Obj) : Six (w.alloc o) gx gk gy gm gc gd X Y C D key mid :=
  ⟨h.bx.alloc o, h.bk.alloc o, h.by_.alloc o, h.bm.alloc o, h.bc.alloc o, h.bd.alloc o⟩
theorem Six.drew {w : World} {gx gk gy gm gc gd : Nat} {X Y C D : Array Value} {key mid : Int} (h : Six w gx gk gy gm gc gd X Y C D key mid) : Six w.drew gx gk gy gm gc gd X Y C D key mid :=
  ⟨h.bx.drew, h.bk.drew, h.by_.drew, h.bm.drew, h.bc.drew, h.bd.drew⟩
set_option maxRecDepth 100000 in
set_option maxHeartbeats 4000000 in
theorem fl1_few (b b' : Bool) (A A' E E' : Option Addr) (c c' f f' : Nat) (ks vs ks' vs' : List Int) (l l' key : Int) (B gx gk gy gm gc gd : Nat) (w : World) (hl : ks.length ≤ 900) (hl' : ks'.length ≤ 900) (h : Nd w B (.agg #[.bool b, .slice A ks.length c, .slice A' vs.length c', .int .u64 l]) b ks vs l) (h' : Nd w B (.agg #[.bool b', .slice E ks'.length f, .slice E' vs'.length f', .int .u64 l']) b' ks' vs' l') (hB : B ≤ w.heap.size) (bx : Blk w gx 27 #[.bool b, .slice A ks.length c, .slice A' vs.length c', .int .u64 l]) (bk : Blk w gk 22 #[.int .u64 key]) (by_ : Blk w gy 27 #[.bool b', .slice E ks'.length f, .slice E' vs'.length f', .int .u64 l'])
    (hno : (rightI b ks vs && rightI b' ks' vs' && rightI true (ks ++ key :: ks') (vs ++ vs')) = false ∨ ((rightI b ks vs = true ∧ rightI b' ks' vs' = true ∧ rightI true (ks ++ key :: ks') (vs ++ vs') = true) ∧ ks.length < 1)) :
    Calls Try.prog 42 #[.pointer (some ⟨gx, 0, none⟩), .pointer (some ⟨gk, 0, none⟩), .pointer (some ⟨gy, 0, none⟩), .pointer (some ⟨gm, 0, none⟩), .pointer (some ⟨gc, 0, none⟩), .pointer (some ⟨gd, 0, none⟩)] w fun e w' => e = .panicked wrongP ∧ Below w.heap.size w w' := by
  rcases hno with hno | ⟨⟨h1, h2, h3⟩, hfew⟩
  · have Bt := hide (both_wrong _ _ b b' ks vs ks' vs' l l' key w (by omega) (by omega) (h.more hB) (h'.more hB) hno)
    clear h h' hno hl hl'
    generalize ks.length = n at *
    generalize vs.length = m at *
    generalize ks'.length = n' at *
    generalize vs'.length = m' at *
    have mx := fun i => bx.cell i
    have my := fun i => by_.cell i
    have mk := fun i => bk.cell i
    go_enter Try.func42, Try.ntmps42
    go_wp2_with fail
    refine Bt.out.mono ?_
    rintro e w1 ⟨rfl, hb1⟩
    go_wp2_with fail
    exact ⟨rfl, rfl, hb1⟩
  · have Bt := hide (both_yes _ _ b b' ks vs ks' vs' l l' key w (by omega) (by omega) (h.more hB) (h'.more hB) h1 h2 h3)
    have hd : decide ((1 : Int) ≤ (ks.length : Int)) = false := by rw [decide_eq_false_iff_not]; omega
    have hd2 : decide (1 ≤ ks.length) = false := by rw [decide_eq_false_iff_not]; omega
    clear h h' h1 h2 h3 hfew hl hl'
    obtain ⟨y1, hy1⟩ : ∃ y, y = ks ++ key :: ks' := ⟨_, rfl⟩
    obtain ⟨y2, hy2⟩ : ∃ y, y = vs ++ vs' := ⟨_, rfl⟩
    rw [← hy1, ← hy2] at Bt
    clear hy1 hy2
    generalize ks.length = n at *
    generalize vs.length = m at *
    generalize ks'.length = n' at *
    generalize vs'.length = m' at *
    have mx := fun i => bx.cell i
    have my := fun i => by_.cell i
    have mk := fun i => bk.cell i
    go_enter Try.func42, Try.ntmps42
    go_wp2_with fail
    refine Bt.out.mono ?_
    rintro e w1 ⟨⟨u, rfl, _⟩, hb1⟩
    replace bx := bx.below hb1 bx.lt
    clear my mx mk
    have mx := fun i => bx.cell i
    go_wp2_with fail
    refine (must_no _).mono ?_
    rintro e w2 ⟨rfl, rfl⟩
    go_wp2_with fail
    exact ⟨rfl, rfl, hb1⟩
set_option maxRecDepth 100000 in
set_option maxHeartbeats 4000000 in
theorem fl1_yes (b b' : Bool) (A A' E E' : Option Addr) (c c' f f' : Nat) (ks vs ks' vs' : List Int) (l l' key : Int) (x1 y1 x2 y2 : List Int) (q p : Nat) (B gx gk gy gm gc gd : Nat) (w : World) (hl : ks.length ≤ 900) (hl' : ks'.length ≤ 900) (h : Nd w B (.agg #[.bool b, .slice A ks.length c, .slice A' vs.length c', .int .u64 l]) b ks vs l) (h' : Nd w B (.agg #[.bool b', .slice E ks'.length f, .slice E' vs'.length f', .int .u64 l']) b' ks' vs' l') (hB : B ≤ w.heap.size) (bx : Blk w gx 27 #[.bool b, .slice A ks.length c, .slice A' vs.length c', .int .u64 l]) (bk : Blk w gk 22 #[.int .u64 key]) (by_ : Blk w gy 27 #[.bool b', .slice E ks'.length f, .slice E' vs'.length f', .int .u64 l'])
    (bm : Blk w gm 22 #[.int .u64 0]) (bc : Blk w gc 27 #[.bool false, .slice none 0 0, .slice none 0 0, .int .u64 0]) (bd : Blk w gd 27 #[.bool false, .slice none 0 0, .slice none 0 0, .int .u64 0]) (hBm : B ≤ gm) (hBc : B ≤ gc) (hBd : B ≤ gd) (nxc : gx ≠ gc) (nxd : gx ≠ gd) (nyc : gy ≠ gc) (nyd : gy ≠ gd) (ncd : gc ≠ gd) (nkm : gk ≠ gm) (h1 : rightI b ks vs = true) (h2 : rightI b' ks' vs' = true) (h3 : rightI true (ks ++ key :: ks') (vs ++ vs') = true) (hq : ks.length = q + 1) (hp : p = ks.length + 1)
    (e1 : x1 = ks.take q ++ ks.drop ks.length) (e2 : y1 = vs.take ks.length ++ vs.drop p) (e3 : x2 = ks'.take 0 ++ [key] ++ ks'.drop 0) (e4 : y2 = vs'.take 0 ++ [vs.getD ks.length 0] ++ vs'.drop 0) :
    Calls Try.prog 42 #[.pointer (some ⟨gx, 0, none⟩), .pointer (some ⟨gk, 0, none⟩), .pointer (some ⟨gy, 0, none⟩), .pointer (some ⟨gm, 0, none⟩), .pointer (some ⟨gc, 0, none⟩), .pointer (some ⟨gd, 0, none⟩)] w fun e w' => e = .returned (.tuple #[]) ∧ Part [gm, gc, gd] w w' ∧ TwoOut gc gd gm w.heap.size (ks.getD q 0) x1 y1 l x2 y2 l' w' := by
  have Bt := hide (both_yes _ _ b b' ks vs ks' vs' l l' key w (by omega) (by omega) (h.more hB) (h'.more hB) h1 h2 h3)
  obtain ⟨rfl, k1, r1⟩ := rightI_parts h1
  obtain ⟨rfl, k2, r2⟩ := rightI_parts h2
  obtain ⟨_, _, r3⟩ := rightI_parts h3
  have d1 : x1 = ks.take q := by rw [e1]; simp
  have d2 : y1 = vs.take ks.length := by rw [e2, List.drop_eq_nil_of_le (by omega)]; simp
  have d3 : x2 = key :: ks' := by rw [e3]; simp
  have d4 : y2 = vs.getD ks.length 0 :: vs' := by rw [e4]; simp
  have HR1 := hide (show rightI true x1 y1 = true by rw [d1, d2]; exact rightI_of (by simp; omega) (rise_sub r1 (List.take_sublist _ _)))
  have HR2 := hide (show rightI true x2 y2 = true by rw [d3, d4]; exact rightI_of (by simp; omega) (rise_sub r3 (List.sublist_append_right _ _)))
  have HLx1 := hide (show x1.length ≤ 1000000 by rw [d1]; simp; omega)
  have HLx2 := hide (show x2.length ≤ 1000000 by rw [d3]; simp; omega)
  have g1 : ks'.length ≤ 1000 := by omega
  have g2 : vs'.length ≤ 1000 := by omega
  have zz : ((0 : Nat) : Int) = 0 := rfl
  obtain ⟨ka, ua, ea, SA1, SA2⟩ := h
  simp only [Value.agg.injEq, Array.mk.injEq, List.cons.injEq, and_true, true_and] at ea
  obtain ⟨rfl, rfl⟩ := ea
  obtain ⟨kb, ub, eb, SB1, SB2⟩ := h'
  simp only [Value.agg.injEq, Array.mk.injEq, List.cons.injEq, and_true, true_and] at eb
  obtain ⟨rfl, rfl⟩ := eb
  have T1 := SA1
  have T2 := SA2
  obtain ⟨E0, f0, e0, hc1, _, hrk⟩ := T1
  simp only [Value.slice.injEq, true_and] at e0
  obtain ⟨rfl, rfl⟩ := e0
  obtain ⟨E1, f1, e0, hc2, _, hrv⟩ := T2
  simp only [Value.slice.injEq, true_and] at e0
  obtain ⟨rfl, rfl⟩ := e0
  obtain ⟨ae, rfl, zk1, zk2⟩ := hrk.word (k := q) (by omega)
  obtain ⟨av, rfl, zk3, zk4⟩ := hrv.word (k := ks.length) (by omega)
  have ZM := hide (fun w2 (hB : Below B w w2) => (show w2.cell? (ae.add q) = some (.int .u64 (ks.getD q 0)) from by
    obtain ⟨a', ea, hk, zz⟩ := (hrk.below hB).word (k := q) (by omega)
    injection ea with ea
    subst ea
    rw [zz, gD ks q hk]))
  have ZV := hide (fun w2 (hB : Below B w w2) => (show w2.cell? (av.add ks.length) = some (.int .u64 (vs.getD ks.length 0)) from by
    obtain ⟨a', ea, hk, zz⟩ := (hrv.below hB).word (k := ks.length) (by omega)
    injection ea with ea
    subst ea
    rw [zz, gD vs ks.length hk]))
  have W1 := hide (fun (w2 : World) (vi : Value) (hS : Sl w2 w2.heap.size (.slice E ks'.length f) ks') (hI : Sl w2 w2.heap.size vi [key]) => with_any (.slice E ks'.length f) vi ks' [key] 0 w2 (by omega) (by omega) (by simp) hS hI)
  have W2 := hide (fun (w2 : World) (vi : Value) (hS : Sl w2 w2.heap.size (.slice E' vs'.length f') vs') (hI : Sl w2 w2.heap.size vi [vs.getD ks.length 0]) => with_any (.slice E' vs'.length f') vi vs' [vs.getD ks.length 0] 0 w2 (by omega) (by omega) (by simp) hS hI)
  rw [zz] at W1 W2
  have W5 := hide (fun (w2 : World) (hS : Sl w2 w2.heap.size (.slice (some ae) ks.length c) ks) => without_any (.slice (some ae) ks.length c) ks q ks.length w2 (by omega) (by omega) (by omega) hS)
  have W6 := hide (fun (w2 : World) (hS : Sl w2 w2.heap.size (.slice (some av) vs.length c') vs) => without_any (.slice (some av) vs.length c') vs ks.length p w2 (by omega) (by omega) (by omega) hS)
  have hd : decide ((1 : Int) ≤ (ks.length : Int)) = true := by rw [decide_eq_true_eq]; omega
  have hd2 : (1 : Int) ≤ (ks.length : Int) := by omega
  have tw1 : IntKind.i64.wrap (q : Int) = (q : Int) := IntWalk.i64_in _ (by omega)
  have tw2 : IntKind.i64.wrap (p : Int) = (p : Int) := IntWalk.i64_in _ (by omega)
  have t2 : (ks.length : Int) - 1 = (q : Int) := by omega
  have t3 : (ks.length : Int) + 1 = (p : Int) := by omega
  have t4 : (q : Int) < (ks.length : Int) := by omega
  have t5 : (ks.length : Int) < (vs.length : Int) := by omega
  have t6 : (p : Int) ≤ (vs.length : Int) := by omega
  have t4' : q < ks.length := by omega
  have t5' : ks.length < vs.length := by omega
  have HX1 := hide e1
  have HY1 := hide e2
  have HX2 := hide e3
  have HY2 := hide e4
  clear zk2 zk4 zk1 zk3 zz e1 e2 e3 e4 d1 d2 d3 d4 h1 h2 h3 r1 r2 r3 k1 k2 g1 g2 hrk hrv hl hl' hq hp hc1 hc2
  obtain ⟨z1, hz1⟩ : ∃ y, y = ks ++ key :: ks' := ⟨_, rfl⟩
  obtain ⟨z2, hz2⟩ : ∃ y, y = vs ++ vs' := ⟨_, rfl⟩
  rw [← hz1, ← hz2] at Bt
  clear hz1 hz2
  generalize ks.getD q 0 = mid at *
  generalize vs.getD ks.length 0 = v0 at *
  generalize hnn : ks.length = n at *
  generalize hmm : vs.length = m at *
  generalize ks'.length = n' at *
  generalize vs'.length = m' at *
  clear hnn hmm
  have HXC := hide nxc
  have HXD := hide nxd
  have HYC := hide nyc
  have HYD := hide nyd
  have HCD := hide ncd
  have HDC := hide ncd.symm
  have HKC := hide (bk.ne_ bc (by decide))
  have HKD := hide (bk.ne_ bd (by decide))
  have HMC := hide (bm.ne_ bc (by decide))
  have HMD := hide (bm.ne_ bd (by decide))
  have HXM := hide (bx.ne_ bm (by decide))
  have HYM := hide (by_.ne_ bm (by decide))
  have HKM := hide nkm
  have mx := fun i => bx.cell i
  have my := fun i => by_.cell i
  have mk := fun i => bk.cell i
  go_enter Try.func42, Try.ntmps42
  go_wp2_with fail
  refine Bt.out.mono ?_
  rintro e w1 ⟨⟨u, rfl, _⟩, hb1⟩
  clear mx my mk
  replace bx := bx.below hb1 bx.lt
  replace bk := bk.below hb1 bk.lt
  replace by_ := by_.below hb1 by_.lt
  replace bm := bm.below hb1 bm.lt
  replace bc := bc.below hb1 bc.lt
  replace bd := bd.below hb1 bd.lt
  have mx := fun i => bx.cell i
  go_wp2_with fail
  refine (must_yes _).mono ?_
  rintro e w2 ⟨rfl, rfl⟩
  have hBb := hb1.mono hB
  have zm := ZM.out _ hBb
  have mm := fun i => bm.cell i
  have fm := fun i => bm.frozen i
  go_wp2_with fail
  clear mx zm mm fm
  have HP0 := hide ((Part.of_below (os := [gm, gc, gd]) hb1).set_ (g := gm) (by simp) 0 (.int .u64 mid))
  have hbS := hBb.setCell (p := ⟨gm, 0, none⟩) hBm (.int .u64 mid)
  have bm9 := bm.set1 (.int .u64 mid)
  replace bx := bx.far (p := ⟨gm, 0, none⟩) HXM.out (.int .u64 mid)
  replace by_ := by_.far (p := ⟨gm, 0, none⟩) HYM.out (.int .u64 mid)
  replace bk := bk.far (p := ⟨gm, 0, none⟩) HKM.out (.int .u64 mid)
  replace bc := bc.far (p := ⟨gm, 0, none⟩) HMC.out.symm (.int .u64 mid)
  replace bd := bd.far (p := ⟨gm, 0, none⟩) HMD.out.symm (.int .u64 mid)
  have hSS : B ≤ (w2.setCell ⟨gm, 0, none⟩ (.int .u64 mid)).heap.size := by rw [size_set]; exact Nat.le_trans hB hb1.size
  have hSW : w.heap.size ≤ (w2.setCell ⟨gm, 0, none⟩ (.int .u64 mid)).heap.size := by rw [size_set]; exact hb1.size
  replace bm := bm9
  clear bm9 hBb hb1
  generalize w2.setCell ⟨gm, 0, none⟩ (.int .u64 mid) = wS at *
  have HBS := hide hSW
  clear hSW
  have S1 := (SA1.below hbS).more hSS
  have S2 := (SA2.below hbS).more hSS
  have S3 := (SB1.below hbS).more hSS
  have S4 := (SB2.below hbS).more hSS
  have ZVS := hide (fun w3 (hb : Below wS.heap.size wS w3) => ZV.out w3 (hbS.trans (hb.mono hSS)))
  have ZVP := hide (fun w3 (hp : Part [gm, gc, gd] wS w3) => ZV.out w3 (Below.part hbS hp (by intro o ho; simp at ho; rcases ho with rfl | rfl | rfl <;> assumption) hSS))
  have W1 := hide (fun w3 (hb : Below wS.heap.size wS w3) vi hI => W1.out w3 vi ((S3.below hb).more hb.size) hI)
  have W2 := hide (fun w3 (hb : Below wS.heap.size wS w3) vi hI => W2.out w3 vi ((S4.below hb).more hb.size) hI)
  have W5 := hide (fun w3 (hb : Below wS.heap.size wS w3) => W5.out w3 ((S1.below hb).more hb.size))
  have W6 := hide (fun w3 (hb : Below wS.heap.size wS w3) => W6.out w3 ((S2.below hb).more hb.size))
  have K6 := hide (fun (w3 : World) {C D : Array Value} (h : Six w3 gx gk gy gm gc gd #[.bool true, .slice (some ae) n c, .slice (some av) m c', .int .u64 l] #[.bool true, .slice E n' f, .slice E' m' f', .int .u64 l'] C D key mid) (z : w3.cell? (av.add n) = some (.int .u64 v0)) => (show w3.cell? ⟨gx, 1, none⟩ = some (.slice (some ae) n c) ∧ w3.cell? ⟨gx, 2, none⟩ = some (.slice (some av) m c') ∧ w3.cell? ⟨gx, 3, none⟩ = some (.int .u64 l) ∧ w3.cell? ⟨gk, 0, none⟩ = some (.int .u64 key) ∧ w3.cell? ⟨gy, 1, none⟩ = some (.slice E n' f) ∧ w3.cell? ⟨gy, 2, none⟩ = some (.slice E' m' f') ∧ w3.cell? ⟨gy, 3, none⟩ = some (.int .u64 l') ∧ w3.cell? (av.add n) = some (.int .u64 v0) from ⟨h.bx.cell 1, h.bx.cell 2, h.bx.cell 3, h.bk.cell 0, h.by_.cell 1, h.by_.cell 2, h.by_.cell 3, z⟩))
  have b6 := Six.mk bx bk by_ bm bc bd
  clear bx bk by_ bm bc bd
  have hb := Below.refl wS.heap.size wS
  refine wp_region_heldZ [] (fun w' => w'.cell? ⟨gx, 1, none⟩ = some (.slice (some ae) n c) ∧ w'.cell? ⟨gx, 2, none⟩ = some (.slice (some av) m c') ∧ w'.cell? ⟨gx, 3, none⟩ = some (.int .u64 l) ∧ w'.cell? ⟨gk, 0, none⟩ = some (.int .u64 key) ∧ w'.cell? ⟨gy, 1, none⟩ = some (.slice E n' f) ∧ w'.cell? ⟨gy, 2, none⟩ = some (.slice E' m' f') ∧ w'.cell? ⟨gy, 3, none⟩ = some (.int .u64 l') ∧ w'.cell? (av.add n) = some (.int .u64 v0)) (by kernel_rfl) (by first | exact K6.out _ b6 (ZVS.out _ hb) | exact K6.out _ b6 (ZVP.out _ HP) | exact K6.out _ b6.drew (ZVS.out _ hb.drew)) (fun hHeld => ?_)
  replace b6 := b6.drew
  replace hb := hb.drew
  generalize wS.drew = w0x at *
  refine' wpAnyZ_takeA (i := 0) (v := ?_) (opAt rfl) (by kernel_rfl) (by kernel_rfl) (by kernel_rfl) (by kernel_rfl) (fun _ _ _ h => h) (by assumption) (by rfl) (fun w hSw => ?_) ?_
  rotate_left
  · (try dsimp only at hSw); go_simp; (try with_reducible rfl)
  try simp only [Act.put, List.setIfInBounds_toArray, List.set_cons_zero, List.set_cons_succ]
  refine' wpAnyZ_takeA (i := 1) (v := ?_) (opAt rfl) (by kernel_rfl) (by kernel_rfl) (by kernel_rfl) (by kernel_rfl) (fun _ _ _ h => h) (by assumption) (by rfl) (fun w hSw => ?_) ?_
  rotate_left
  · (try dsimp only at hSw); go_simp; (try with_reducible rfl)
  try simp only [Act.put, List.setIfInBounds_toArray, List.set_cons_zero, List.set_cons_succ]
  refine' wpAnyZ_takeA (i := 2) (v := ?_) (opAt rfl) (by kernel_rfl) (by kernel_rfl) (by kernel_rfl) (by kernel_rfl) (fun _ _ _ h => h) (by assumption) (by rfl) (fun w hSw => ?_) ?_
  rotate_left
  · (try dsimp only at hSw); go_simp; (try with_reducible rfl)
  try simp only [Act.put, List.setIfInBounds_toArray, List.set_cons_zero, List.set_cons_succ]
  refine' wpAnyZ_takeA (i := 3) (v := ?_) (opAt rfl) (by kernel_rfl) (by kernel_rfl) (by kernel_rfl) (by kernel_rfl) (fun _ _ _ h => h) (by assumption) (by rfl) (fun w hSw => ?_) ?_
  rotate_left
  · (try dsimp only at hSw); go_simp; (try with_reducible rfl)
  try simp only [Act.put, List.setIfInBounds_toArray, List.set_cons_zero, List.set_cons_succ]
  refine' wpAnyZ_takeA (i := 4) (v := ?_) (opAt rfl) (by kernel_rfl) (by kernel_rfl) (by kernel_rfl) (by kernel_rfl) (fun _ _ _ h => h) (by assumption) (by rfl) (fun w hSw => ?_) ?_
  rotate_left
  · (try dsimp only at hSw); go_simp; (try with_reducible rfl)
  try simp only [Act.put, List.setIfInBounds_toArray, List.set_cons_zero, List.set_cons_succ]
  refine' wpAnyZ_takeA (i := 6) (v := ?_) (opAt rfl) (by kernel_rfl) (by kernel_rfl) (by kernel_rfl) (by kernel_rfl) (fun _ _ _ h => h) (by assumption) (by rfl) (fun w hSw => ?_) ?_
  rotate_left
  · (try dsimp only at hSw); go_simp; (try with_reducible rfl)
  try simp only [Act.put, List.setIfInBounds_toArray, List.set_cons_zero, List.set_cons_succ]
  refine' wpAnyZ_takeA (i := 7) (v := ?_) (opAt rfl) (by kernel_rfl) (by kernel_rfl) (by kernel_rfl) (by kernel_rfl) (fun _ _ _ h => h) (by assumption) (by rfl) (fun w hSw => ?_) ?_
  rotate_left
  · (try dsimp only at hSw); go_simp; (try with_reducible rfl)
  try simp only [Act.put, List.setIfInBounds_toArray, List.set_cons_zero, List.set_cons_succ]
  refine' wpAnyZ_takeA (i := 8) (v := ?_) (opAt rfl) (by kernel_rfl) (by kernel_rfl) (by kernel_rfl) (by kernel_rfl) (fun _ _ _ h => h) (by assumption) (by rfl) (fun w hSw => ?_) ?_
  rotate_left
  · (try dsimp only at hSw); go_simp; (try with_reducible rfl)
  try simp only [Act.put, List.setIfInBounds_toArray, List.set_cons_zero, List.set_cons_succ]
  refine' wpAnyZ_takeA (i := 9) (v := ?_) (opAt rfl) (by kernel_rfl) (by kernel_rfl) (by kernel_rfl) (by kernel_rfl) (fun _ _ _ h => h) (by assumption) (by rfl) (fun w hSw => ?_) ?_
  rotate_left
  · (try dsimp only at hSw); go_simp; (try with_reducible rfl)
  try simp only [Act.put, List.setIfInBounds_toArray, List.set_cons_zero, List.set_cons_succ]
  refine' wpAnyZ_takeA (i := 10) (v := ?_) (opAt rfl) (by kernel_rfl) (by kernel_rfl) (by kernel_rfl) (by kernel_rfl) (fun _ _ _ h => h) (by assumption) (by rfl) (fun w hSw => ?_) ?_
  rotate_left
  · (try dsimp only at hSw); go_simp; (try with_reducible rfl)
  try simp only [Act.put, List.setIfInBounds_toArray, List.set_cons_zero, List.set_cons_succ]
  refine' wpAnyZ_takeA (i := 12) (v := ?_) (opAt rfl) (by kernel_rfl) (by kernel_rfl) (by kernel_rfl) (by kernel_rfl) (fun _ _ _ h => h) (by assumption) (by rfl) (fun w hSw => ?_) ?_
  rotate_left
  · (try dsimp only at hSw); go_simp; (try with_reducible rfl)
  try simp only [Act.put, List.setIfInBounds_toArray, List.set_cons_zero, List.set_cons_succ]
  refine' wpAnyZ_takeA (i := 13) (v := ?_) (opAt rfl) (by kernel_rfl) (by kernel_rfl) (by kernel_rfl) (by kernel_rfl) (fun _ _ _ h => h) (by assumption) (by rfl) (fun w hSw => ?_) ?_
  rotate_left
  · (try dsimp only at hSw); go_simp; (try with_reducible rfl)
  try simp only [Act.put, List.setIfInBounds_toArray, List.set_cons_zero, List.set_cons_succ]
  refine' wpAnyZ_takeA (i := 15) (v := ?_) (opAt rfl) (by kernel_rfl) (by kernel_rfl) (by kernel_rfl) (by kernel_rfl) (fun _ _ _ h => h) (by assumption) (by rfl) (fun w hSw => ?_) ?_
  rotate_left
  · (try dsimp only at hSw); go_simp; (try with_reducible rfl)
  try simp only [Act.put, List.setIfInBounds_toArray, List.set_cons_zero, List.set_cons_succ]
  refine' wpAnyZ_takeA (i := 16) (v := ?_) (opAt rfl) (by kernel_rfl) (by kernel_rfl) (by kernel_rfl) (by kernel_rfl) (fun _ _ _ h => h) (by assumption) (by rfl) (fun w hSw => ?_) ?_
  rotate_left
  · (try dsimp only at hSw); go_simp; (try with_reducible rfl)
  try simp only [Act.put, List.setIfInBounds_toArray, List.set_cons_zero, List.set_cons_succ]
  refine' wpAnyZ_takeA (i := 17) (v := ?_) (opAt rfl) (by kernel_rfl) (by kernel_rfl) (by kernel_rfl) (by kernel_rfl) (fun _ _ _ h => h) (by assumption) (by rfl) (fun w hSw => ?_) ?_
  rotate_left
  · (try dsimp only at hSw); go_simp; (try with_reducible rfl)
  try simp only [Act.put, List.setIfInBounds_toArray, List.set_cons_zero, List.set_cons_succ]
  refine' wpAnyZ_takeA (i := 20) (v := ?_) (opAt rfl) (by kernel_rfl) (by kernel_rfl) (by kernel_rfl) (by kernel_rfl) (fun _ _ _ h => h) (by assumption) (by rfl) (fun w hSw => ?_) ?_
  rotate_left
  · (try dsimp only at hSw); go_simp; (try with_reducible rfl)
  try simp only [Act.put, List.setIfInBounds_toArray, List.set_cons_zero, List.set_cons_succ]
  refine' wpAnyZ_takeA (i := 21) (v := ?_) (opAt rfl) (by kernel_rfl) (by kernel_rfl) (by kernel_rfl) (by kernel_rfl) (fun _ _ _ h => h) (by assumption) (by rfl) (fun w hSw => ?_) ?_
  rotate_left
  · (try dsimp only at hSw); go_simp; (try with_reducible rfl)
  try simp only [Act.put, List.setIfInBounds_toArray, List.set_cons_zero, List.set_cons_succ]
  refine' wpAnyZ_takeA (i := 22) (v := ?_) (opAt rfl) (by kernel_rfl) (by kernel_rfl) (by kernel_rfl) (by kernel_rfl) (fun _ _ _ h => h) (by assumption) (by rfl) (fun w hSw => ?_) ?_
  rotate_left
  · (try dsimp only at hSw); go_simp; (try with_reducible rfl)
  try simp only [Act.put, List.setIfInBounds_toArray, List.set_cons_zero, List.set_cons_succ]
  refine' wpAnyZ_takeA (i := 23) (v := ?_) (opAt rfl) (by kernel_rfl) (by kernel_rfl) (by kernel_rfl) (by kernel_rfl) (fun _ _ _ h => h) (by assumption) (by rfl) (fun w hSw => ?_) ?_
  rotate_left
  · (try dsimp only at hSw); go_simp; (try with_reducible rfl)
  try simp only [Act.put, List.setIfInBounds_toArray, List.set_cons_zero, List.set_cons_succ]
  refine' wpAnyZ_takeA (i := 24) (v := ?_) (opAt rfl) (by kernel_rfl) (by kernel_rfl) (by kernel_rfl) (by kernel_rfl) (fun _ _ _ h => h) (by assumption) (by rfl) (fun w hSw => ?_) ?_
  rotate_left
  · (try dsimp only at hSw); go_simp; (try with_reducible rfl)
  try simp only [Act.put, List.setIfInBounds_toArray, List.set_cons_zero, List.set_cons_succ]
  refine' wpAnyZ_takeA (i := 25) (v := ?_) (opAt rfl) (by kernel_rfl) (by kernel_rfl) (by kernel_rfl) (by kernel_rfl) (fun _ _ _ h => h) (by assumption) (by rfl) (fun w hSw => ?_) ?_
  rotate_left
  · (try dsimp only at hSw); go_simp; (try with_reducible rfl)
  try simp only [Act.put, List.setIfInBounds_toArray, List.set_cons_zero, List.set_cons_succ]
  refine' wpAnyZ_takeA (i := 26) (v := ?_) (opAt rfl) (by kernel_rfl) (by kernel_rfl) (by kernel_rfl) (by kernel_rfl) (fun _ _ _ h => h) (by assumption) (by rfl) (fun w hSw => ?_) ?_
  rotate_left
  · (try dsimp only at hSw); go_simp; (try with_reducible rfl)
  try simp only [Act.put, List.setIfInBounds_toArray, List.set_cons_zero, List.set_cons_succ]
  refine' wpAnyZ_takeA (i := 29) (v := ?_) (opAt rfl) (by kernel_rfl) (by kernel_rfl) (by kernel_rfl) (by kernel_rfl) (fun _ _ _ h => h) (by assumption) (by rfl) (fun w hSw => ?_) ?_
  rotate_left
  · (try dsimp only at hSw); go_simp; (try with_reducible rfl)
  try simp only [Act.put, List.setIfInBounds_toArray, List.set_cons_zero, List.set_cons_succ]
  refine' wpAnyZ_takeA (i := 30) (v := ?_) (opAt rfl) (by kernel_rfl) (by kernel_rfl) (by kernel_rfl) (by kernel_rfl) (fun _ _ _ h => h) (by assumption) (by rfl) (fun w hSw => ?_) ?_
  rotate_left
  · (try dsimp only at hSw); go_simp; (try with_reducible rfl)
  try simp only [Act.put, List.setIfInBounds_toArray, List.set_cons_zero, List.set_cons_succ]
  refine wpAnyZ_ready (rs := [5, 18, 27]) (by kernel_rfl) (by simp) ?_
  refine AllReadyZ.cons (opAt rfl) (fun K hK => ?_) ?_
  go_simp
  refine (W5.out _ hb).mono ?_
  rintro e w1x ⟨⟨u, rfl, r5⟩, hb1⟩
  replace r5 := r5.mono (lo' := wS.heap.size) hb.size
  rw [← HX1.out] at r5
  replace b6 := b6.below hb1 b6.lt
  replace hb := hb.trans (hb1.mono hb.size)
  clear hb1
  obtain ⟨Cr5, kr5, rfl⟩ := r5.val
  try go_wp2_with fail
  refine hK.out _ _ (by first | exact K6.out _ b6 (ZVS.out _ hb) | exact K6.out _ b6 (ZVP.out _ HP) | exact K6.out _ b6.drew (ZVS.out _ hb.drew)) (fun hHeld => ?_)
  clear hK K
  try simp only [Act.put, List.setIfInBounds_toArray, List.set_cons_zero, List.set_cons_succ]
  refine wpAnyZ_ready (rs := [11, 18, 27]) (by kernel_rfl) (by simp) ?_
  refine AllReadyZ.cons (opAt rfl) (fun K hK => ?_) ?_
  go_simp
  refine (W6.out _ hb).mono ?_
  rintro e w2x ⟨⟨u, rfl, r11⟩, hb1⟩
  replace r11 := r11.mono (lo' := wS.heap.size) hb.size
  rw [← HY1.out] at r11
  replace b6 := b6.below hb1 b6.lt
  replace r5 := r5.below hb1
  replace hb := hb.trans (hb1.mono hb.size)
  clear hb1
  obtain ⟨Cr11, kr11, rfl⟩ := r11.val
  try go_wp2_with fail
  refine hK.out _ _ (by first | exact K6.out _ b6 (ZVS.out _ hb) | exact K6.out _ b6 (ZVP.out _ HP) | exact K6.out _ b6.drew (ZVS.out _ hb.drew)) (fun hHeld => ?_)
  clear hK K
  try simp only [Act.put, List.setIfInBounds_toArray, List.set_cons_zero, List.set_cons_succ]
  refine wpAnyZ_ready (rs := [14, 18, 27]) (by kernel_rfl) (by simp) ?_
  refine AllReadyZ.cons (opAt rfl) (fun K hK => ?_) ?_
  go_simp
  refine (node_yes _ _ _ _ l _ HLx1.out r5.sl r11.sl HR1.out).mono ?_
  rintro e w3x ⟨rfl, hb1⟩
  replace b6 := b6.below hb1 b6.lt
  replace r5 := r5.below hb1
  replace r11 := r11.below hb1
  replace hb := hb.trans (hb1.mono hb.size)
  clear hb1
  have Na : NdO w3x wS.heap.size (.agg #[.bool true, .slice Cr5 x1.length kr5, .slice Cr11 y1.length kr11, .int .u64 l]) true x1 y1 l := ⟨_, _, rfl, r5, r11⟩
  clear r5 r11
  try go_wp2_with fail
  refine hK.out _ _ (by first | exact K6.out _ b6 (ZVS.out _ hb) | exact K6.out _ b6 (ZVP.out _ HP) | exact K6.out _ b6.drew (ZVS.out _ hb.drew)) (fun hHeld => ?_)
  clear hK K
  try simp only [Act.put, List.setIfInBounds_toArray, List.set_cons_zero, List.set_cons_succ]
  refine wpAnyZ_ready (rs := [18, 27]) (by kernel_rfl) (by simp) ?_
  refine AllReadyZ.cons (opAt rfl) (fun K hK => ?_) ?_
  go_simp
  replace b6 := b6.alloc (.cells #[.int .u64 key] 22)
  replace Na := Na.below ((Below.refl _ _).alloc (Nat.le_refl _) (.cells #[.int .u64 key] 22))
  replace hb := hb.alloc hb.size (.cells #[.int .u64 key] 22)
  have b18 := Blk.new w3x 22 #[.int .u64 key]
  generalize w3x.alloc (.cells #[.int .u64 key] 22) = w4x at *
  generalize w3x.heap.size = g18 at *
  refine hK.out _ _ (by first | exact K6.out _ b6 (ZVS.out _ hb) | exact K6.out _ b6 (ZVP.out _ HP) | exact K6.out _ b6.drew (ZVS.out _ hb.drew)) (fun hHeld => ?_)
  clear hK K
  try simp only [Act.put, List.setIfInBounds_toArray, List.set_cons_zero, List.set_cons_succ]
  refine wpAnyZ_ready (rs := [19, 27]) (by kernel_rfl) (by simp) ?_
  refine AllReadyZ.cons (opAt rfl) (fun K hK => ?_) ?_
  go_simp
  refine (W1.out _ hb _ (sl_one b18)).mono ?_
  rintro e w5x ⟨⟨u, rfl, r19⟩, hb1⟩
  replace r19 := r19.mono (lo' := wS.heap.size) hb.size
  rw [← HX2.out] at r19
  replace b6 := b6.below hb1 b6.lt
  replace b18 := b18.below hb1 b18.lt
  replace Na := Na.below hb1
  replace hb := hb.trans (hb1.mono hb.size)
  clear hb1
  obtain ⟨Cr19, kr19, rfl⟩ := r19.val
  try go_wp2_with fail
  refine hK.out _ _ (by first | exact K6.out _ b6 (ZVS.out _ hb) | exact K6.out _ b6 (ZVP.out _ HP) | exact K6.out _ b6.drew (ZVS.out _ hb.drew)) (fun hHeld => ?_)
  clear hK K
  try simp only [Act.put, List.setIfInBounds_toArray, List.set_cons_zero, List.set_cons_succ]
  refine wpAnyZ_ready (rs := [27]) (by kernel_rfl) (by simp) ?_
  refine AllReadyZ.cons (opAt rfl) (fun K hK => ?_) ?_
  go_simp
  replace b6 := b6.alloc (.cells #[.int .u64 v0] 22)
  replace b18 := b18.alloc (.cells #[.int .u64 v0] 22)
  replace r19 := r19.alloc (.cells #[.int .u64 v0] 22)
  replace Na := Na.below ((Below.refl _ _).alloc (Nat.le_refl _) (.cells #[.int .u64 v0] 22))
  replace hb := hb.alloc hb.size (.cells #[.int .u64 v0] 22)
  have b27 := Blk.new w5x 22 #[.int .u64 v0]
  generalize w5x.alloc (.cells #[.int .u64 v0] 22) = w6x at *
  generalize w5x.heap.size = g27 at *
  refine hK.out _ _ (by first | exact K6.out _ b6 (ZVS.out _ hb) | exact K6.out _ b6 (ZVP.out _ HP) | exact K6.out _ b6.drew (ZVS.out _ hb.drew)) (fun hHeld => ?_)
  clear hK K
  try simp only [Act.put, List.setIfInBounds_toArray, List.set_cons_zero, List.set_cons_succ]
  refine wpAnyZ_ready (rs := [28]) (by kernel_rfl) (by simp) ?_
  refine AllReadyZ.cons (opAt rfl) (fun K hK => ?_) ?_
  go_simp
  refine (W2.out _ hb _ (sl_one b27)).mono ?_
  rintro e w7x ⟨⟨u, rfl, r28⟩, hb1⟩
  replace r28 := r28.mono (lo' := wS.heap.size) hb.size
  rw [← HY2.out] at r28
  replace b6 := b6.below hb1 b6.lt
  replace b18 := b18.below hb1 b18.lt
  replace b27 := b27.below hb1 b27.lt
  replace r19 := r19.below hb1
  replace Na := Na.below hb1
  replace hb := hb.trans (hb1.mono hb.size)
  clear hb1
  obtain ⟨Cr28, kr28, rfl⟩ := r28.val
  try go_wp2_with fail
  refine hK.out _ _ (by first | exact K6.out _ b6 (ZVS.out _ hb) | exact K6.out _ b6 (ZVP.out _ HP) | exact K6.out _ b6.drew (ZVS.out _ hb.drew)) (fun hHeld => ?_)
  clear hK K
  try simp only [Act.put, List.setIfInBounds_toArray, List.set_cons_zero, List.set_cons_succ]
  refine wpAnyZ_ready (rs := [31]) (by kernel_rfl) (by simp) ?_
  refine AllReadyZ.cons (opAt rfl) (fun K hK => ?_) ?_
  go_simp
  refine (node_yes _ _ _ _ l' _ HLx2.out r19.sl r28.sl HR2.out).mono ?_
  rintro e w8x ⟨rfl, hb1⟩
  replace b6 := b6.below hb1 b6.lt
  replace b18 := b18.below hb1 b18.lt
  replace b27 := b27.below hb1 b27.lt
  replace r19 := r19.below hb1
  replace r28 := r28.below hb1
  replace Na := Na.below hb1
  replace hb := hb.trans (hb1.mono hb.size)
  clear hb1
  have Nb : NdO w8x wS.heap.size (.agg #[.bool true, .slice Cr19 x2.length kr19, .slice Cr28 y2.length kr28, .int .u64 l']) true x2 y2 l' := ⟨_, _, rfl, r19, r28⟩
  clear r19 r28
  try go_wp2_with fail
  refine hK.out _ _ (by first | exact K6.out _ b6 (ZVS.out _ hb) | exact K6.out _ b6 (ZVP.out _ HP) | exact K6.out _ b6.drew (ZVS.out _ hb.drew)) (fun hHeld => ?_)
  clear hK K
  try simp only [Act.put, List.setIfInBounds_toArray, List.set_cons_zero, List.set_cons_succ]
  refine wpAnyZ_ready (rs := [32]) (by kernel_rfl) (by simp) ?_
  refine AllReadyZ.cons (opAt rfl) (fun K hK => ?_) ?_
  obtain ⟨bx, bk, by_, bm, bc, bd⟩ := b6
  have zo := fun i => bc.frozen i
  have mo := fun i => bc.cell i
  go_simp
  replace bx := bx.offN HXC.out (.bool true) (.slice Cr5 x1.length kr5) (.slice Cr11 y1.length kr11) (.int .u64 l)
  replace by_ := by_.offN HYC.out (.bool true) (.slice Cr5 x1.length kr5) (.slice Cr11 y1.length kr11) (.int .u64 l)
  replace bk := bk.offN HKC.out (.bool true) (.slice Cr5 x1.length kr5) (.slice Cr11 y1.length kr11) (.int .u64 l)
  replace bm := bm.offN HMC.out (.bool true) (.slice Cr5 x1.length kr5) (.slice Cr11 y1.length kr11) (.int .u64 l)
  replace bd := bd.offN HDC.out (.bool true) (.slice Cr5 x1.length kr5) (.slice Cr11 y1.length kr11) (.int .u64 l)
  replace Na := Na.setN bc (.bool true) (.slice Cr5 x1.length kr5) (.slice Cr11 y1.length kr11) (.int .u64 l)
  replace Nb := Nb.setN bc (.bool true) (.slice Cr5 x1.length kr5) (.slice Cr11 y1.length kr11) (.int .u64 l)
  have HP := (Part.of_below (os := [gm, gc, gd]) hb).setN (g := gc) (by simp) (.bool true) (.slice Cr5 x1.length kr5) (.slice Cr11 y1.length kr11) (.int .u64 l)
  clear hb
  replace bc := bc.setN (.bool true) (.slice Cr5 x1.length kr5) (.slice Cr11 y1.length kr11) (.int .u64 l)
  clear zo mo
  generalize ((((w8x).setCell ⟨gc, 0, none⟩ (.bool true)).setCell ⟨gc, 1, none⟩ (.slice Cr5 x1.length kr5)).setCell ⟨gc, 2, none⟩ (.slice Cr11 y1.length kr11)).setCell ⟨gc, 3, none⟩ (.int .u64 l) = w9x at *
  have b6 := Six.mk bx bk by_ bm bc bd
  clear bx bk by_ bm bc bd
  refine hK.out _ _ (by first | exact K6.out _ b6 (ZVS.out _ hb) | exact K6.out _ b6 (ZVP.out _ HP) | exact K6.out _ b6.drew (ZVS.out _ hb.drew)) (fun hHeld => ?_)
  clear hK K
  try simp only [Act.put, List.setIfInBounds_toArray, List.set_cons_zero, List.set_cons_succ]
  refine wpAnyZ_ready (rs := [33]) (by kernel_rfl) (by simp) ?_
  refine AllReadyZ.cons (opAt rfl) (fun K hK => ?_) ?_
  obtain ⟨bx, bk, by_, bm, bc, bd⟩ := b6
  have zo := fun i => bd.frozen i
  have mo := fun i => bd.cell i
  go_simp
  replace bx := bx.offN HXD.out (.bool true) (.slice Cr19 x2.length kr19) (.slice Cr28 y2.length kr28) (.int .u64 l')
  replace by_ := by_.offN HYD.out (.bool true) (.slice Cr19 x2.length kr19) (.slice Cr28 y2.length kr28) (.int .u64 l')
  replace bk := bk.offN HKD.out (.bool true) (.slice Cr19 x2.length kr19) (.slice Cr28 y2.length kr28) (.int .u64 l')
  replace bm := bm.offN HMD.out (.bool true) (.slice Cr19 x2.length kr19) (.slice Cr28 y2.length kr28) (.int .u64 l')
  replace bc := bc.offN HCD.out (.bool true) (.slice Cr19 x2.length kr19) (.slice Cr28 y2.length kr28) (.int .u64 l')
  replace Na := Na.setN bd (.bool true) (.slice Cr19 x2.length kr19) (.slice Cr28 y2.length kr28) (.int .u64 l')
  replace Nb := Nb.setN bd (.bool true) (.slice Cr19 x2.length kr19) (.slice Cr28 y2.length kr28) (.int .u64 l')
  replace HP := HP.setN (g := gd) (by simp) (.bool true) (.slice Cr19 x2.length kr19) (.slice Cr28 y2.length kr28) (.int .u64 l')
  replace bd := bd.setN (.bool true) (.slice Cr19 x2.length kr19) (.slice Cr28 y2.length kr28) (.int .u64 l')
  clear zo mo
  generalize ((((w9x).setCell ⟨gd, 0, none⟩ (.bool true)).setCell ⟨gd, 1, none⟩ (.slice Cr19 x2.length kr19)).setCell ⟨gd, 2, none⟩ (.slice Cr28 y2.length kr28)).setCell ⟨gd, 3, none⟩ (.int .u64 l') = w10x at *
  have b6 := Six.mk bx bk by_ bm bc bd
  clear bx bk by_ bm bc bd
  refine hK.out _ _ (by first | exact K6.out _ b6 (ZVS.out _ hb) | exact K6.out _ b6 (ZVP.out _ HP) | exact K6.out _ b6.drew (ZVS.out _ hb.drew)) (fun hHeld => ?_)
  clear hK K
  try simp only [Act.put, List.setIfInBounds_toArray, List.set_cons_zero, List.set_cons_succ]
  refine wpAnyZ_done (by kernel_rfl) ?_ _
  go_wp2_with fail
  go_end0
  obtain ⟨bx, bk, by_, bm, bc, bd⟩ := b6
  exact ⟨rfl, HP0.out.trans HP, _, _, _, _, bc, bd, bm, Na.mono HBS.out, Nb.mono HBS.out⟩
  exact AllReadyZ.nil
  exact AllReadyZ.nil
  exact AllReadyZ.nil
  exact AllReadyZ.nil
  exact AllReadyZ.nil
  refine AllReadyZ.cons (opAt rfl) (fun K hK => ?_) ?_
  go_simp
  replace b6 := b6.alloc (.cells #[.int .u64 v0] 22)
  replace b18 := b18.alloc (.cells #[.int .u64 v0] 22)
  replace Na := Na.below ((Below.refl _ _).alloc (Nat.le_refl _) (.cells #[.int .u64 v0] 22))
  replace hb := hb.alloc hb.size (.cells #[.int .u64 v0] 22)
  have b27 := Blk.new w4x 22 #[.int .u64 v0]
  generalize w4x.alloc (.cells #[.int .u64 v0] 22) = w5x at *
  generalize w4x.heap.size = g27 at *
  refine hK.out _ _ (by first | exact K6.out _ b6 (ZVS.out _ hb) | exact K6.out _ b6 (ZVP.out _ HP) | exact K6.out _ b6.drew (ZVS.out _ hb.drew)) (fun hHeld => ?_)
  clear hK K
  try simp only [Act.put, List.setIfInBounds_toArray, List.set_cons_zero, List.set_cons_succ]
  refine wpAnyZ_ready (rs := [19]) (by kernel_rfl) (by simp) ?_
  refine AllReadyZ.cons (opAt rfl) (fun K hK => ?_) ?_
  go_simp
  refine (W1.out _ hb _ (sl_one b18)).mono ?_
  rintro e w6x ⟨⟨u, rfl, r19⟩, hb1⟩
  replace r19 := r19.mono (lo' := wS.heap.size) hb.size
  rw [← HX2.out] at r19
  replace b6 := b6.below hb1 b6.lt
  replace b18 := b18.below hb1 b18.lt
  replace b27 := b27.below hb1 b27.lt
  replace Na := Na.below hb1
  replace hb := hb.trans (hb1.mono hb.size)
  clear hb1
  obtain ⟨Cr19, kr19, rfl⟩ := r19.val
  try go_wp2_with fail
  refine hK.out _ _ (by first | exact K6.out _ b6 (ZVS.out _ hb) | exact K6.out _ b6 (ZVP.out _ HP) | exact K6.out _ b6.drew (ZVS.out _ hb.drew)) (fun hHeld => ?_)
  clear hK K
  try simp only [Act.put, List.setIfInBounds_toArray, List.set_cons_zero, List.set_cons_succ]
  refine wpAnyZ_ready (rs := [28]) (by kernel_rfl) (by simp) ?_
  refine AllReadyZ.cons (opAt rfl) (fun K hK => ?_) ?_
  go_simp
  refine (W2.out _ hb _ (sl_one b27)).mono ?_
  rintro e w7x ⟨⟨u, rfl, r28⟩, hb1⟩
  replace r28 := r28.mono (lo' := wS.heap.size) hb.size
  rw [← HY2.out] at r28
  replace b6 := b6.below hb1 b6.lt
  replace b18 := b18.below hb1 b18.lt
  replace b27 := b27.below hb1 b27.lt
  replace r19 := r19.below hb1
  replace Na := Na.below hb1
  replace hb := hb.trans (hb1.mono hb.size)
  clear hb1
  obtain ⟨Cr28, kr28, rfl⟩ := r28.val
  try go_wp2_with fail
  refine hK.out _ _ (by first | exact K6.out _ b6 (ZVS.out _ hb) | exact K6.out _ b6 (ZVP.out _ HP) | exact K6.out _ b6.drew (ZVS.out _ hb.drew)) (fun hHeld => ?_)
  clear hK K
  try simp only [Act.put, List.setIfInBounds_toArray, List.set_cons_zero, List.set_cons_succ]
  refine wpAnyZ_ready (rs := [31]) (by kernel_rfl) (by simp) ?_
  refine AllReadyZ.cons (opAt rfl) (fun K hK => ?_) ?_
  go_simp
  refine (node_yes _ _ _ _ l' _ HLx2.out r19.sl r28.sl HR2.out).mono ?_
  rintro e w8x ⟨rfl, hb1⟩
  replace b6 := b6.below hb1 b6.lt
  replace b18 := b18.below hb1 b18.lt
  replace b27 := b27.below hb1 b27.lt
  replace r19 := r19.below hb1
  replace r28 := r28.below hb1
  replace Na := Na.below hb1
  replace hb := hb.trans (hb1.mono hb.size)
  clear hb1
  have Nb : NdO w8x wS.heap.size (.agg #[.bool true, .slice Cr19 x2.length kr19, .slice Cr28 y2.length kr28, .int .u64 l']) true x2 y2 l' := ⟨_, _, rfl, r19, r28⟩
  clear r19 r28
  try go_wp2_with fail
  refine hK.out _ _ (by first | exact K6.out _ b6 (ZVS.out _ hb) | exact K6.out _ b6 (ZVP.out _ HP) | exact K6.out _ b6.drew (ZVS.out _ hb.drew)) (fun hHeld => ?_)
  clear hK K
  try simp only [Act.put, List.setIfInBounds_toArray, List.set_cons_zero, List.set_cons_succ]
  refine wpAnyZ_ready (rs := [32]) (by kernel_rfl) (by simp) ?_
  refine AllReadyZ.cons (opAt rfl) (fun K hK => ?_) ?_
  obtain ⟨bx, bk, by_, bm, bc, bd⟩ := b6
  have zo := fun i => bc.frozen i
  have mo := fun i => bc.cell i
  go_simp
  replace bx := bx.offN HXC.out (.bool true) (.slice Cr5 x1.length kr5) (.slice Cr11 y1.length kr11) (.int .u64 l)
  replace by_ := by_.offN HYC.out (.bool true) (.slice Cr5 x1.length kr5) (.slice Cr11 y1.length kr11) (.int .u64 l)
  replace bk := bk.offN HKC.out (.bool true) (.slice Cr5 x1.length kr5) (.slice Cr11 y1.length kr11) (.int .u64 l)
  replace bm := bm.offN HMC.out (.bool true) (.slice Cr5 x1.length kr5) (.slice Cr11 y1.length kr11) (.int .u64 l)
  replace bd := bd.offN HDC.out (.bool true) (.slice Cr5 x1.length kr5) (.slice Cr11 y1.length kr11) (.int .u64 l)
  replace Na := Na.setN bc (.bool true) (.slice Cr5 x1.length kr5) (.slice Cr11 y1.length kr11) (.int .u64 l)
  replace Nb := Nb.setN bc (.bool true) (.slice Cr5 x1.length kr5) (.slice Cr11 y1.length kr11) (.int .u64 l)
  have HP := (Part.of_below (os := [gm, gc, gd]) hb).setN (g := gc) (by simp) (.bool true) (.slice Cr5 x1.length kr5) (.slice Cr11 y1.length kr11) (.int .u64 l)
  clear hb
  replace bc := bc.setN (.bool true) (.slice Cr5 x1.length kr5) (.slice Cr11 y1.length kr11) (.int .u64 l)
  clear zo mo
  generalize ((((w8x).setCell ⟨gc, 0, none⟩ (.bool true)).setCell ⟨gc, 1, none⟩ (.slice Cr5 x1.length kr5)).setCell ⟨gc, 2, none⟩ (.slice Cr11 y1.length kr11)).setCell ⟨gc, 3, none⟩ (.int .u64 l) = w9x at *
  have b6 := Six.mk bx bk by_ bm bc bd
  clear bx bk by_ bm bc bd
  refine hK.out _ _ (by first | exact K6.out _ b6 (ZVS.out _ hb) | exact K6.out _ b6 (ZVP.out _ HP) | exact K6.out _ b6.drew (ZVS.out _ hb.drew)) (fun hHeld => ?_)
  clear hK K
  try simp only [Act.put, List.setIfInBounds_toArray, List.set_cons_zero, List.set_cons_succ]
  refine wpAnyZ_ready (rs := [33]) (by kernel_rfl) (by simp) ?_
  refine AllReadyZ.cons (opAt rfl) (fun K hK => ?_) ?_
  obtain ⟨bx, bk, by_, bm, bc, bd⟩ := b6
  have zo := fun i => bd.frozen i
  have mo := fun i => bd.cell i
  go_simp
  replace bx := bx.offN HXD.out (.bool true) (.slice Cr19 x2.length kr19) (.slice Cr28 y2.length kr28) (.int .u64 l')
  replace by_ := by_.offN HYD.out (.bool true) (.slice Cr19 x2.length kr19) (.slice Cr28 y2.length kr28) (.int .u64 l')
  replace bk := bk.offN HKD.out (.bool true) (.slice Cr19 x2.length kr19) (.slice Cr28 y2.length kr28) (.int .u64 l')
  replace bm := bm.offN HMD.out (.bool true) (.slice Cr19 x2.length kr19) (.slice Cr28 y2.length kr28) (.int .u64 l')
  replace bc := bc.offN HCD.out (.bool true) (.slice Cr19 x2.length kr19) (.slice Cr28 y2.length kr28) (.int .u64 l')
  replace Na := Na.setN bd (.bool true) (.slice Cr19 x2.length kr19) (.slice Cr28 y2.length kr28) (.int .u64 l')
  replace Nb := Nb.setN bd (.bool true) (.slice Cr19 x2.length kr19) (.slice Cr28 y2.length kr28) (.int .u64 l')
  replace HP := HP.setN (g := gd) (by simp) (.bool true) (.slice Cr19 x2.length kr19) (.slice Cr28 y2.length kr28) (.int .u64 l')
  replace bd := bd.setN (.bool true) (.slice Cr19 x2.length kr19) (.slice Cr28 y2.length kr28) (.int .u64 l')
  clear zo mo
  generalize ((((w9x).setCell ⟨gd, 0, none⟩ (.bool true)).setCell ⟨gd, 1, none⟩ (.slice Cr19 x2.length kr19)).setCell ⟨gd, 2, none⟩ (.slice Cr28 y2.length kr28)).setCell ⟨gd, 3, none⟩ (.int .u64 l') = w10x at *
  have b6 := Six.mk bx bk by_ bm bc bd
  clear bx bk by_ bm bc bd
  refine hK.out _ _ (by first | exact K6.out _ b6 (ZVS.out _ hb) | exact K6.out _ b6 (ZVP.out _ HP) | exact K6.out _ b6.drew (ZVS.out _ hb.drew)) (fun hHeld => ?_)
  clear hK K
  try simp only [Act.put, List.setIfInBounds_toArray, List.set_cons_zero, List.set_cons_succ]
  refine wpAnyZ_done (by kernel_rfl) ?_ _
  go_wp2_with fail
  go_end0
  obtain ⟨bx, bk, by_, bm, bc, bd⟩ := b6
  exact ⟨rfl, HP0.out.trans HP, _, _, _, _, bc, bd, bm, Na.mono HBS.out, Nb.mono HBS.out⟩
  exact AllReadyZ.nil
  exact AllReadyZ.nil
  exact AllReadyZ.nil
  exact AllReadyZ.nil
  exact AllReadyZ.nil
  exact AllReadyZ.nil
  refine AllReadyZ.cons (opAt rfl) (fun K hK => ?_) ?_
  go_simp
  replace b6 := b6.alloc (.cells #[.int .u64 v0] 22)
  replace Na := Na.below ((Below.refl _ _).alloc (Nat.le_refl _) (.cells #[.int .u64 v0] 22))
  replace hb := hb.alloc hb.size (.cells #[.int .u64 v0] 22)
  have b27 := Blk.new w3x 22 #[.int .u64 v0]
  generalize w3x.alloc (.cells #[.int .u64 v0] 22) = w4x at *
  generalize w3x.heap.size = g27 at *
  refine hK.out _ _ (by first | exact K6.out _ b6 (ZVS.out _ hb) | exact K6.out _ b6 (ZVP.out _ HP) | exact K6.out _ b6.drew (ZVS.out _ hb.drew)) (fun hHeld => ?_)
  clear hK K
  try simp only [Act.put, List.setIfInBounds_toArray, List.set_cons_zero, List.set_cons_succ]
  refine wpAnyZ_ready (rs := [18]) (by kernel_rfl) (by simp) ?_
  refine AllReadyZ.cons (opAt rfl) (fun K hK => ?_) ?_
  go_simp
  replace b6 := b6.alloc (.cells #[.int .u64 key] 22)
  replace b27 := b27.alloc (.cells #[.int .u64 key] 22)
  replace Na := Na.below ((Below.refl _ _).alloc (Nat.le_refl _) (.cells #[.int .u64 key] 22))
  replace hb := hb.alloc hb.size (.cells #[.int .u64 key] 22)
  have b18 := Blk.new w4x 22 #[.int .u64 key]
  generalize w4x.alloc (.cells #[.int .u64 key] 22) = w5x at *
  generalize w4x.heap.size = g18 at *
  refine hK.out _ _ (by first | exact K6.out _ b6 (ZVS.out _ hb) | exact K6.out _ b6 (ZVP.out _ HP) | exact K6.out _ b6.drew (ZVS.out _ hb.drew)) (fun hHeld => ?_)
  clear hK K
  try simp only [Act.put, List.setIfInBounds_toArray, List.set_cons_zero, List.set_cons_succ]
  refine wpAnyZ_ready (rs := [19]) (by kernel_rfl) (by simp) ?_
  refine AllReadyZ.cons (opAt rfl) (fun K hK => ?_) ?_
  go_simp
  refine (W1.out _ hb _ (sl_one b18)).mono ?_
  rintro e w6x ⟨⟨u, rfl, r19⟩, hb1⟩
  replace r19 := r19.mono (lo' := wS.heap.size) hb.size
  rw [← HX2.out] at r19
  replace b6 := b6.below hb1 b6.lt
  replace b27 := b27.below hb1 b27.lt
  replace b18 := b18.below hb1 b18.lt
  replace Na := Na.below hb1
  replace hb := hb.trans (hb1.mono hb.size)
  clear hb1
  obtain ⟨Cr19, kr19, rfl⟩ := r19.val
  try go_wp2_with fail
  refine hK.out _ _ (by first | exact K6.out _ b6 (ZVS.out _ hb) | exact K6.out _ b6 (ZVP.out _ HP) | exact K6.out _ b6.drew (ZVS.out _ hb.drew)) (fun hHeld => ?_)
  clear hK K
  try simp only [Act.put, List.setIfInBounds_toArray, List.set_cons_zero, List.set_cons_succ]
  refine wpAnyZ_ready (rs := [28]) (by kernel_rfl) (by simp) ?_
  refine AllReadyZ.cons (opAt rfl) (fun K hK => ?_) ?_
  go_simp
  refine (W2.out _ hb _ (sl_one b27)).mono ?_
  rintro e w7x ⟨⟨u, rfl, r28⟩, hb1⟩
  replace r28 := r28.mono (lo' := wS.heap.size) hb.size
  rw [← HY2.out] at r28
  replace b6 := b6.below hb1 b6.lt
  replace b27 := b27.below hb1 b27.lt
  replace b18 := b18.below hb1 b18.lt
  replace r19 := r19.below hb1
  replace Na := Na.below hb1
  replace hb := hb.trans (hb1.mono hb.size)
  clear hb1
  obtain ⟨Cr28, kr28, rfl⟩ := r28.val
  try go_wp2_with fail
  refine hK.out _ _ (by first | exact K6.out _ b6 (ZVS.out _ hb) | exact K6.out _ b6 (ZVP.out _ HP) | exact K6.out _ b6.drew (ZVS.out _ hb.drew)) (fun hHeld => ?_)
  clear hK K
  try simp only [Act.put, List.setIfInBounds_toArray, List.set_cons_zero, List.set_cons_succ]
  refine wpAnyZ_ready (rs := [31]) (by kernel_rfl) (by simp) ?_
  refine AllReadyZ.cons (opAt rfl) (fun K hK => ?_) ?_
  go_simp
  refine (node_yes _ _ _ _ l' _ HLx2.out r19.sl r28.sl HR2.out).mono ?_
  rintro e w8x ⟨rfl, hb1⟩
  replace b6 := b6.below hb1 b6.lt
  replace b27 := b27.below hb1 b27.lt
  replace b18 := b18.below hb1 b18.lt
  replace r19 := r19.below hb1
  replace r28 := r28.below hb1
  replace Na := Na.below hb1
  replace hb := hb.trans (hb1.mono hb.size)
  clear hb1
  have Nb : NdO w8x wS.heap.size (.agg #[.bool true, .slice Cr19 x2.length kr19, .slice Cr28 y2.length kr28, .int .u64 l']) true x2 y2 l' := ⟨_, _, rfl, r19, r28⟩
  clear r19 r28
  try go_wp2_with fail
  refine hK.out _ _ (by first | exact K6.out _ b6 (ZVS.out _ hb) | exact K6.out _ b6 (ZVP.out _ HP) | exact K6.out _ b6.drew (ZVS.out _ hb.drew)) (fun hHeld => ?_)
  clear hK K
  try simp only [Act.put, List.setIfInBounds_toArray, List.set_cons_zero, List.set_cons_succ]
  refine wpAnyZ_ready (rs := [32]) (by kernel_rfl) (by simp) ?_
  refine AllReadyZ.cons (opAt rfl) (fun K hK => ?_) ?_
  obtain ⟨bx, bk, by_, bm, bc, bd⟩ := b6
  have zo := fun i => bc.frozen i
  have mo := fun i => bc.cell i
  go_simp
  replace bx := bx.offN HXC.out (.bool true) (.slice Cr5 x1.length kr5) (.slice Cr11 y1.length kr11) (.int .u64 l)
  replace by_ := by_.offN HYC.out (.bool true) (.slice Cr5 x1.length kr5) (.slice Cr11 y1.length kr11) (.int .u64 l)
  replace bk := bk.offN HKC.out (.bool true) (.slice Cr5 x1.length kr5) (.slice Cr11 y1.length kr11) (.int .u64 l)
  replace bm := bm.offN HMC.out (.bool true) (.slice Cr5 x1.length kr5) (.slice Cr11 y1.length kr11) (.int .u64 l)
  replace bd := bd.offN HDC.out (.bool true) (.slice Cr5 x1.length kr5) (.slice Cr11 y1.length kr11) (.int .u64 l)
  replace Na := Na.setN bc (.bool true) (.slice Cr5 x1.length kr5) (.slice Cr11 y1.length kr11) (.int .u64 l)
  replace Nb := Nb.setN bc (.bool true) (.slice Cr5 x1.length kr5) (.slice Cr11 y1.length kr11) (.int .u64 l)
  have HP := (Part.of_below (os := [gm, gc, gd]) hb).setN (g := gc) (by simp) (.bool true) (.slice Cr5 x1.length kr5) (.slice Cr11 y1.length kr11) (.int .u64 l)
  clear hb
  replace bc := bc.setN (.bool true) (.slice Cr5 x1.length kr5) (.slice Cr11 y1.length kr11) (.int .u64 l)
  clear zo mo
  generalize ((((w8x).setCell ⟨gc, 0, none⟩ (.bool true)).setCell ⟨gc, 1, none⟩ (.slice Cr5 x1.length kr5)).setCell ⟨gc, 2, none⟩ (.slice Cr11 y1.length kr11)).setCell ⟨gc, 3, none⟩ (.int .u64 l) = w9x at *
  have b6 := Six.mk bx bk by_ bm bc bd
  clear bx bk by_ bm bc bd
  refine hK.out _ _ (by first | exact K6.out _ b6 (ZVS.out _ hb) | exact K6.out _ b6 (ZVP.out _ HP) | exact K6.out _ b6.drew (ZVS.out _ hb.drew)) (fun hHeld => ?_)
  clear hK K
  try simp only [Act.put, List.setIfInBounds_toArray, List.set_cons_zero, List.set_cons_succ]
  refine wpAnyZ_ready (rs := [33]) (by kernel_rfl) (by simp) ?_
  refine AllReadyZ.cons (opAt rfl) (fun K hK => ?_) ?_
  obtain ⟨bx, bk, by_, bm, bc, bd⟩ := b6
  have zo := fun i => bd.frozen i
  have mo := fun i => bd.cell i
  go_simp
  replace bx := bx.offN HXD.out (.bool true) (.slice Cr19 x2.length kr19) (.slice Cr28 y2.length kr28) (.int .u64 l')
  replace by_ := by_.offN HYD.out (.bool true) (.slice Cr19 x2.length kr19) (.slice Cr28 y2.length kr28) (.int .u64 l')
  replace bk := bk.offN HKD.out (.bool true) (.slice Cr19 x2.length kr19) (.slice Cr28 y2.length kr28) (.int .u64 l')
  replace bm := bm.offN HMD.out (.bool true) (.slice Cr19 x2.length kr19) (.slice Cr28 y2.length kr28) (.int .u64 l')
  replace bc := bc.offN HCD.out (.bool true) (.slice Cr19 x2.length kr19) (.slice Cr28 y2.length kr28) (.int .u64 l')
  replace Na := Na.setN bd (.bool true) (.slice Cr19 x2.length kr19) (.slice Cr28 y2.length kr28) (.int .u64 l')
  replace Nb := Nb.setN bd (.bool true) (.slice Cr19 x2.length kr19) (.slice Cr28 y2.length kr28) (.int .u64 l')
  replace HP := HP.setN (g := gd) (by simp) (.bool true) (.slice Cr19 x2.length kr19) (.slice Cr28 y2.length kr28) (.int .u64 l')
  replace bd := bd.setN (.bool true) (.slice Cr19 x2.length kr19) (.slice Cr28 y2.length kr28) (.int .u64 l')
  clear zo mo
  generalize ((((w9x).setCell ⟨gd, 0, none⟩ (.bool true)).setCell ⟨gd, 1, none⟩ (.slice Cr19 x2.length kr19)).setCell ⟨gd, 2, none⟩ (.slice Cr28 y2.length kr28)).setCell ⟨gd, 3, none⟩ (.int .u64 l') = w10x at *
  have b6 := Six.mk bx bk by_ bm bc bd
  clear bx bk by_ bm bc bd
  refine hK.out _ _ (by first | exact K6.out _ b6 (ZVS.out _ hb) | exact K6.out _ b6 (ZVP.out _ HP) | exact K6.out _ b6.drew (ZVS.out _ hb.drew)) (fun hHeld => ?_)
  clear hK K
  try simp only [Act.put, List.setIfInBounds_toArray, List.set_cons_zero, List.set_cons_succ]
  refine wpAnyZ_done (by kernel_rfl) ?_ _
  go_wp2_with fail
  go_end0
  obtain ⟨bx, bk, by_, bm, bc, bd⟩ := b6
  exact ⟨rfl, HP0.out.trans HP, _, _, _, _, bc, bd, bm, Na.mono HBS.out, Nb.mono HBS.out⟩
  exact AllReadyZ.nil
  exact AllReadyZ.nil
  exact AllReadyZ.nil
  exact AllReadyZ.nil
  exact AllReadyZ.nil
  exact AllReadyZ.nil
  exact AllReadyZ.nil
  refine AllReadyZ.cons (opAt rfl) (fun K hK => ?_) ?_
  go_simp
  replace b6 := b6.alloc (.cells #[.int .u64 key] 22)
  replace r5 := r5.alloc (.cells #[.int .u64 key] 22)
  replace r11 := r11.alloc (.cells #[.int .u64 key] 22)
  replace hb := hb.alloc hb.size (.cells #[.int .u64 key] 22)
  have b18 := Blk.new w2x 22 #[.int .u64 key]
  generalize w2x.alloc (.cells #[.int .u64 key] 22) = w3x at *
  generalize w2x.heap.size = g18 at *
  refine hK.out _ _ (by first | exact K6.out _ b6 (ZVS.out _ hb) | exact K6.out _ b6 (ZVP.out _ HP) | exact K6.out _ b6.drew (ZVS.out _ hb.drew)) (fun hHeld => ?_)
  clear hK K
  try simp only [Act.put, List.setIfInBounds_toArray, List.set_cons_zero, List.set_cons_succ]
  refine wpAnyZ_ready (rs := [14, 27]) (by kernel_rfl) (by simp) ?_
  refine AllReadyZ.cons (opAt rfl) (fun K hK => ?_) ?_
  go_simp
  refine (node_yes _ _ _ _ l _ HLx1.out r5.sl r11.sl HR1.out).mono ?_
  rintro e w4x ⟨rfl, hb1⟩
  replace b6 := b6.below hb1 b6.lt
  replace b18 := b18.below hb1 b18.lt
  replace r5 := r5.below hb1
  replace r11 := r11.below hb1
  replace hb := hb.trans (hb1.mono hb.size)
  clear hb1
  have Na : NdO w4x wS.heap.size (.agg #[.bool true, .slice Cr5 x1.length kr5, .slice Cr11 y1.length kr11, .int .u64 l]) true x1 y1 l := ⟨_, _, rfl, r5, r11⟩
  clear r5 r11
  try go_wp2_with fail
  refine hK.out _ _ (by first | exact K6.out _ b6 (ZVS.out _ hb) | exact K6.out _ b6 (ZVP.out _ HP) | exact K6.out _ b6.drew (ZVS.out _ hb.drew)) (fun hHeld => ?_)
  clear hK K
  try simp only [Act.put, List.setIfInBounds_toArray, List.set_cons_zero, List.set_cons_succ]
  refine wpAnyZ_ready (rs := [19, 27]) (by kernel_rfl) (by simp) ?_
  refine AllReadyZ.cons (opAt rfl) (fun K hK => ?_) ?_
  go_simp
  refine (W1.out _ hb _ (sl_one b18)).mono ?_
  rintro e w5x ⟨⟨u, rfl, r19⟩, hb1⟩
  replace r19 := r19.mono (lo' := wS.heap.size) hb.size
  rw [← HX2.out] at r19
  replace b6 := b6.below hb1 b6.lt
  replace b18 := b18.below hb1 b18.lt
  replace Na := Na.below hb1
  replace hb := hb.trans (hb1.mono hb.size)
  clear hb1
  obtain ⟨Cr19, kr19, rfl⟩ := r19.val
  try go_wp2_with fail
  refine hK.out _ _ (by first | exact K6.out _ b6 (ZVS.out _ hb) | exact K6.out _ b6 (ZVP.out _ HP) | exact K6.out _ b6.drew (ZVS.out _ hb.drew)) (fun hHeld => ?_)
  clear hK K
  try simp only [Act.put, List.setIfInBounds_toArray, List.set_cons_zero, List.set_cons_succ]
  refine wpAnyZ_ready (rs := [27]) (by kernel_rfl) (by simp) ?_
  refine AllReadyZ.cons (opAt rfl) (fun K hK => ?_) ?_
  go_simp
  replace b6 := b6.alloc (.cells #[.int .u64 v0] 22)
  replace b18 := b18.alloc (.cells #[.int .u64 v0] 22)
  replace r19 := r19.alloc (.cells #[.int .u64 v0] 22)
  replace Na := Na.below ((Below.refl _ _).alloc (Nat.le_refl _) (.cells #[.int .u64 v0] 22))
  replace hb := hb.alloc hb.size (.cells #[.int .u64 v0] 22)
  have b27 := Blk.new w5x 22 #[.int .u64 v0]
  generalize w5x.alloc (.cells #[.int .u64 v0] 22) = w6x at *
  generalize w5x.heap.size = g27 at *
  refine hK.out _ _ (by first | exact K6.out _ b6 (ZVS.out _ hb) | exact K6.out _ b6 (ZVP.out _ HP) | exact K6.out _ b6.drew (ZVS.out _ hb.drew)) (fun hHeld => ?_)
  clear hK K
  try simp only [Act.put, List.setIfInBounds_toArray, List.set_cons_zero, List.set_cons_succ]
  refine wpAnyZ_ready (rs := [28]) (by kernel_rfl) (by simp) ?_
  refine AllReadyZ.cons (opAt rfl) (fun K hK => ?_) ?_
  go_simp
  refine (W2.out _ hb _ (sl_one b27)).mono ?_
  rintro e w7x ⟨⟨u, rfl, r28⟩, hb1⟩
  replace r28 := r28.mono (lo' := wS.heap.size) hb.size
  rw [← HY2.out] at r28
  replace b6 := b6.below hb1 b6.lt
  replace b18 := b18.below hb1 b18.lt
  replace b27 := b27.below hb1 b27.lt
  replace r19 := r19.below hb1
  replace Na := Na.below hb1
  replace hb := hb.trans (hb1.mono hb.size)
  clear hb1
  obtain ⟨Cr28, kr28, rfl⟩ := r28.val
  try go_wp2_with fail
  refine hK.out _ _ (by first | exact K6.out _ b6 (ZVS.out _ hb) | exact K6.out _ b6 (ZVP.out _ HP) | exact K6.out _ b6.drew (ZVS.out _ hb.drew)) (fun hHeld => ?_)
  clear hK K
  try simp only [Act.put, List.setIfInBounds_toArray, List.set_cons_zero, List.set_cons_succ]
  refine wpAnyZ_ready (rs := [31]) (by kernel_rfl) (by simp) ?_
  refine AllReadyZ.cons (opAt rfl) (fun K hK => ?_) ?_
  go_simp
  refine (node_yes _ _ _ _ l' _ HLx2.out r19.sl r28.sl HR2.out).mono ?_
  rintro e w8x ⟨rfl, hb1⟩
  replace b6 := b6.below hb1 b6.lt
  replace b18 := b18.below hb1 b18.lt
  replace b27 := b27.below hb1 b27.lt
  replace r19 := r19.below hb1
  replace r28 := r28.below hb1
  replace Na := Na.below hb1
  replace hb := hb.trans (hb1.mono hb.size)
  clear hb1
  have Nb : NdO w8x wS.heap.size (.agg #[.bool true, .slice Cr19 x2.length kr19, .slice Cr28 y2.length kr28, .int .u64 l']) true x2 y2 l' := ⟨_, _, rfl, r19, r28⟩
  clear r19 r28
  try go_wp2_with fail
  refine hK.out _ _ (by first | exact K6.out _ b6 (ZVS.out _ hb) | exact K6.out _ b6 (ZVP.out _ HP) | exact K6.out _ b6.drew (ZVS.out _ hb.drew)) (fun hHeld => ?_)
  clear hK K
  try simp only [Act.put, List.setIfInBounds_toArray, List.set_cons_zero, List.set_cons_succ]
  refine wpAnyZ_ready (rs := [32]) (by kernel_rfl) (by simp) ?_
  refine AllReadyZ.cons (opAt rfl) (fun K hK => ?_) ?_
  obtain ⟨bx, bk, by_, bm, bc, bd⟩ := b6
  have zo := fun i => bc.frozen i
  have mo := fun i => bc.cell i
  go_simp
  replace bx := bx.offN HXC.out (.bool true) (.slice Cr5 x1.length kr5) (.slice Cr11 y1.length kr11) (.int .u64 l)
  replace by_ := by_.offN HYC.out (.bool true) (.slice Cr5 x1.length kr5) (.slice Cr11 y1.length kr11) (.int .u64 l)
  replace bk := bk.offN HKC.out (.bool true) (.slice Cr5 x1.length kr5) (.slice Cr11 y1.length kr11) (.int .u64 l)
  replace bm := bm.offN HMC.out (.bool true) (.slice Cr5 x1.length kr5) (.slice Cr11 y1.length kr11) (.int .u64 l)
  replace bd := bd.offN HDC.out (.bool true) (.slice Cr5 x1.length kr5) (.slice Cr11 y1.length kr11) (.int .u64 l)
  replace Na := Na.setN bc (.bool true) (.slice Cr5 x1.length kr5) (.slice Cr11 y1.length kr11) (.int .u64 l)
  replace Nb := Nb.setN bc (.bool true) (.slice Cr5 x1.length kr5) (.slice Cr11 y1.length kr11) (.int .u64 l)
  have HP := (Part.of_below (os := [gm, gc, gd]) hb).setN (g := gc) (by simp) (.bool true) (.slice Cr5 x1.length kr5) (.slice Cr11 y1.length kr11) (.int .u64 l)
  clear hb
  replace bc := bc.setN (.bool true) (.slice Cr5 x1.length kr5) (.slice Cr11 y1.length kr11) (.int .u64 l)
  clear zo mo
  generalize ((((w8x).setCell ⟨gc, 0, none⟩ (.bool true)).setCell ⟨gc, 1, none⟩ (.slice Cr5 x1.length kr5)).setCell ⟨gc, 2, none⟩ (.slice Cr11 y1.length kr11)).setCell ⟨gc, 3, none⟩ (.int .u64 l) = w9x at *
  have b6 := Six.mk bx bk by_ bm bc bd
  clear bx bk by_ bm bc bd
  refine hK.out _ _ (by first | exact K6.out _ b6 (ZVS.out _ hb) | exact K6.out _ b6 (ZVP.out _ HP) | exact K6.out _ b6.drew (ZVS.out _ hb.drew)) (fun hHeld => ?_)
  clear hK K
  try simp only [Act.put, List.setIfInBounds_toArray, List.set_cons_zero, List.set_cons_succ]
  refine wpAnyZ_ready (rs := [33]) (by kernel_rfl) (by simp) ?_
  refine AllReadyZ.cons (opAt rfl) (fun K hK => ?_) ?_
  obtain ⟨bx, bk, by_, bm, bc, bd⟩ := b6
  have zo := fun i => bd.frozen i
  have mo := fun i => bd.cell i
  go_simp
  replace bx := bx.offN HXD.out (.bool true) (.slice Cr19 x2.length kr19) (.slice Cr28 y2.length kr28) (.int .u64 l')
  replace by_ := by_.offN HYD.out (.bool true) (.slice Cr19 x2.length kr19) (.slice Cr28 y2.length kr28) (.int .u64 l')
  replace bk := bk.offN HKD.out (.bool true) (.slice Cr19 x2.length kr19) (.slice Cr28 y2.length kr28) (.int .u64 l')
  replace bm := bm.offN HMD.out (.bool true) (.slice Cr19 x2.length kr19) (.slice Cr28 y2.length kr28) (.int .u64 l')
  replace bc := bc.offN HCD.out (.bool true) (.slice Cr19 x2.length kr19) (.slice Cr28 y2.length kr28) (.int .u64 l')
  replace Na := Na.setN bd (.bool true) (.slice Cr19 x2.length kr19) (.slice Cr28 y2.length kr28) (.int .u64 l')
  replace Nb := Nb.setN bd (.bool true) (.slice Cr19 x2.length kr19) (.slice Cr28 y2.length kr28) (.int .u64 l')
  replace HP := HP.setN (g := gd) (by simp) (.bool true) (.slice Cr19 x2.length kr19) (.slice Cr28 y2.length kr28) (.int .u64 l')
  replace bd := bd.setN (.bool true) (.slice Cr19 x2.length kr19) (.slice Cr28 y2.length kr28) (.int .u64 l')
  clear zo mo
  generalize ((((w9x).setCell ⟨gd, 0, none⟩ (.bool true)).setCell ⟨gd, 1, none⟩ (.slice Cr19 x2.length kr19)).setCell ⟨gd, 2, none⟩ (.slice Cr28 y2.length kr28)).setCell ⟨gd, 3, none⟩ (.int .u64 l') = w10x at *
  have b6 := Six.mk bx bk by_ bm bc bd
  clear bx bk by_ bm bc bd
  refine hK.out _ _ (by first | exact K6.out _ b6 (ZVS.out _ hb) | exact K6.out _ b6 (ZVP.out _ HP) | exact K6.out _ b6.drew (ZVS.out _ hb.drew)) (fun hHeld => ?_)
  clear hK K
  try simp only [Act.put, List.setIfInBounds_toArray, List.set_cons_zero, List.set_cons_succ]
  refine wpAnyZ_done (by kernel_rfl) ?_ _
  go_wp2_with fail
  go_end0
  obtain ⟨bx, bk, by_, bm, bc, bd⟩ := b6
  exact ⟨rfl, HP0.out.trans HP, _, _, _, _, bc, bd, bm, Na.mono HBS.out, Nb.mono HBS.out⟩
  exact AllReadyZ.nil
  exact AllReadyZ.nil
  exact AllReadyZ.nil
  exact AllReadyZ.nil
  exact AllReadyZ.nil
  refine AllReadyZ.cons (opAt rfl) (fun K hK => ?_) ?_
  go_simp
  replace b6 := b6.alloc (.cells #[.int .u64 v0] 22)
  replace b18 := b18.alloc (.cells #[.int .u64 v0] 22)
  replace Na := Na.below ((Below.refl _ _).alloc (Nat.le_refl _) (.cells #[.int .u64 v0] 22))
  replace hb := hb.alloc hb.size (.cells #[.int .u64 v0] 22)
  have b27 := Blk.new w4x 22 #[.int .u64 v0]
  generalize w4x.alloc (.cells #[.int .u64 v0] 22) = w5x at *
  generalize w4x.heap.size = g27 at *
  refine hK.out _ _ (by first | exact K6.out _ b6 (ZVS.out _ hb) | exact K6.out _ b6 (ZVP.out _ HP) | exact K6.out _ b6.drew (ZVS.out _ hb.drew)) (fun hHeld => ?_)
  clear hK K
  try simp only [Act.put, List.setIfInBounds_toArray, List.set_cons_zero, List.set_cons_succ]
  refine wpAnyZ_ready (rs := [19]) (by kernel_rfl) (by simp) ?_
  refine AllReadyZ.cons (opAt rfl) (fun K hK => ?_) ?_
  go_simp
  refine (W1.out _ hb _ (sl_one b18)).mono ?_
  rintro e w6x ⟨⟨u, rfl, r19⟩, hb1⟩
  replace r19 := r19.mono (lo' := wS.heap.size) hb.size
  rw [← HX2.out] at r19
  replace b6 := b6.below hb1 b6.lt
  replace b18 := b18.below hb1 b18.lt
  replace b27 := b27.below hb1 b27.lt
  replace Na := Na.below hb1
  replace hb := hb.trans (hb1.mono hb.size)
  clear hb1
  obtain ⟨Cr19, kr19, rfl⟩ := r19.val
  try go_wp2_with fail
  refine hK.out _ _ (by first | exact K6.out _ b6 (ZVS.out _ hb) | exact K6.out _ b6 (ZVP.out _ HP) | exact K6.out _ b6.drew (ZVS.out _ hb.drew)) (fun hHeld => ?_)
  clear hK K
  try simp only [Act.put, List.setIfInBounds_toArray, List.set_cons_zero, List.set_cons_succ]
  refine wpAnyZ_ready (rs := [28]) (by kernel_rfl) (by simp) ?_
  refine AllReadyZ.cons (opAt rfl) (fun K hK => ?_) ?_
  go_simp
  refine (W2.out _ hb _ (sl_one b27)).mono ?_
  rintro e w7x ⟨⟨u, rfl, r28⟩, hb1⟩
  replace r28 := r28.mono (lo' := wS.heap.size) hb.size
  rw [← HY2.out] at r28
  replace b6 := b6.below hb1 b6.lt
  replace b18 := b18.below hb1 b18.lt
  replace b27 := b27.below hb1 b27.lt
  replace r19 := r19.below hb1
  replace Na := Na.below hb1
  replace hb := hb.trans (hb1.mono hb.size)
  clear hb1
  obtain ⟨Cr28, kr28, rfl⟩ := r28.val
  try go_wp2_with fail
  refine hK.out _ _ (by first | exact K6.out _ b6 (ZVS.out _ hb) | exact K6.out _ b6 (ZVP.out _ HP) | exact K6.out _ b6.drew (ZVS.out _ hb.drew)) (fun hHeld => ?_)
  clear hK K
  try simp only [Act.put, List.setIfInBounds_toArray, List.set_cons_zero, List.set_cons_succ]
  refine wpAnyZ_ready (rs := [31]) (by kernel_rfl) (by simp) ?_
  refine AllReadyZ.cons (opAt rfl) (fun K hK => ?_) ?_
  go_simp
  refine (node_yes _ _ _ _ l' _ HLx2.out r19.sl r28.sl HR2.out).mono ?_
  rintro e w8x ⟨rfl, hb1⟩
  replace b6 := b6.below hb1 b6.lt
  replace b18 := b18.below hb1 b18.lt
  replace b27 := b27.below hb1 b27.lt
  replace r19 := r19.below hb1
  replace r28 := r28.below hb1
  replace Na := Na.below hb1
  replace hb := hb.trans (hb1.mono hb.size)
  clear hb1
  have Nb : NdO w8x wS.heap.size (.agg #[.bool true, .slice Cr19 x2.length kr19, .slice Cr28 y2.length kr28, .int .u64 l']) true x2 y2 l' := ⟨_, _, rfl, r19, r28⟩
  clear r19 r28
  try go_wp2_with fail
  refine hK.out _ _ (by first | exact K6.out _ b6 (ZVS.out _ hb) | exact K6.out _ b6 (ZVP.out _ HP) | exact K6.out _ b6.drew (ZVS.out _ hb.drew)) (fun hHeld => ?_)
  clear hK K
  try simp only [Act.put, List.setIfInBounds_toArray, List.set_cons_zero, List.set_cons_succ]
  refine wpAnyZ_ready (rs := [32]) (by kernel_rfl) (by simp) ?_
  refine AllReadyZ.cons (opAt rfl) (fun K hK => ?_) ?_
  obtain ⟨bx, bk, by_, bm, bc, bd⟩ := b6
  have zo := fun i => bc.frozen i
  have mo := fun i => bc.cell i
  go_simp
  replace bx := bx.offN HXC.out (.bool true) (.slice Cr5 x1.length kr5) (.slice Cr11 y1.length kr11) (.int .u64 l)
  replace by_ := by_.offN HYC.out (.bool true) (.slice Cr5 x1.length kr5) (.slice Cr11 y1.length kr11) (.int .u64 l)
  replace bk := bk.offN HKC.out (.bool true) (.slice Cr5 x1.length kr5) (.slice Cr11 y1.length kr11) (.int .u64 l)
  replace bm := bm.offN HMC.out (.bool true) (.slice Cr5 x1.length kr5) (.slice Cr11 y1.length kr11) (.int .u64 l)
  replace bd := bd.offN HDC.out (.bool true) (.slice Cr5 x1.length kr5) (.slice Cr11 y1.length kr11) (.int .u64 l)
  replace Na := Na.setN bc (.bool true) (.slice Cr5 x1.length kr5) (.slice Cr11 y1.length kr11) (.int .u64 l)
  replace Nb := Nb.setN bc (.bool true) (.slice Cr5 x1.length kr5) (.slice Cr11 y1.length kr11) (.int .u64 l)
  have HP := (Part.of_below (os := [gm, gc, gd]) hb).setN (g := gc) (by simp) (.bool true) (.slice Cr5 x1.length kr5) (.slice Cr11 y1.length kr11) (.int .u64 l)
  clear hb
  replace bc := bc.setN (.bool true) (.slice Cr5 x1.length kr5) (.slice Cr11 y1.length kr11) (.int .u64 l)
  clear zo mo
  generalize ((((w8x).setCell ⟨gc, 0, none⟩ (.bool true)).setCell ⟨gc, 1, none⟩ (.slice Cr5 x1.length kr5)).setCell ⟨gc, 2, none⟩ (.slice Cr11 y1.length kr11)).setCell ⟨gc, 3, none⟩ (.int .u64 l) = w9x at *
  have b6 := Six.mk bx bk by_ bm bc bd
  clear bx bk by_ bm bc bd
  refine hK.out _ _ (by first | exact K6.out _ b6 (ZVS.out _ hb) | exact K6.out _ b6 (ZVP.out _ HP) | exact K6.out _ b6.drew (ZVS.out _ hb.drew)) (fun hHeld => ?_)
  clear hK K
  try simp only [Act.put, List.setIfInBounds_toArray, List.set_cons_zero, List.set_cons_succ]
  refine wpAnyZ_ready (rs := [33]) (by kernel_rfl) (by simp) ?_
  refine AllReadyZ.cons (opAt rfl) (fun K hK => ?_) ?_
  obtain ⟨bx, bk, by_, bm, bc, bd⟩ := b6
  have zo := fun i => bd.frozen i
  have mo := fun i => bd.cell i
  go_simp
  replace bx := bx.offN HXD.out (.bool true) (.slice Cr19 x2.length kr19) (.slice Cr28 y2.length kr28) (.int .u64 l')
  replace by_ := by_.offN HYD.out (.bool true) (.slice Cr19 x2.length kr19) (.slice Cr28 y2.length kr28) (.int .u64 l')
  replace bk := bk.offN HKD.out (.bool true) (.slice Cr19 x2.length kr19) (.slice Cr28 y2.length kr28) (.int .u64 l')
  replace bm := bm.offN HMD.out (.bool true) (.slice Cr19 x2.length kr19) (.slice Cr28 y2.length kr28) (.int .u64 l')
  replace bc := bc.offN HCD.out (.bool true) (.slice Cr19 x2.length kr19) (.slice Cr28 y2.length kr28) (.int .u64 l')
  replace Na := Na.setN bd (.bool true) (.slice Cr19 x2.length kr19) (.slice Cr28 y2.length kr28) (.int .u64 l')
  replace Nb := Nb.setN bd (.bool true) (.slice Cr19 x2.length kr19) (.slice Cr28 y2.length kr28) (.int .u64 l')
  replace HP := HP.setN (g := gd) (by simp) (.bool true) (.slice Cr19 x2.length kr19) (.slice Cr28 y2.length kr28) (.int .u64 l')
  replace bd := bd.setN (.bool true) (.slice Cr19 x2.length kr19) (.slice Cr28 y2.length kr28) (.int .u64 l')
  clear zo mo
  generalize ((((w9x).setCell ⟨gd, 0, none⟩ (.bool true)).setCell ⟨gd, 1, none⟩ (.slice Cr19 x2.length kr19)).setCell ⟨gd, 2, none⟩ (.slice Cr28 y2.length kr28)).setCell ⟨gd, 3, none⟩ (.int .u64 l') = w10x at *
  have b6 := Six.mk bx bk by_ bm bc bd
  clear bx bk by_ bm bc bd
  refine hK.out _ _ (by first | exact K6.out _ b6 (ZVS.out _ hb) | exact K6.out _ b6 (ZVP.out _ HP) | exact K6.out _ b6.drew (ZVS.out _ hb.drew)) (fun hHeld => ?_)
  clear hK K
  try simp only [Act.put, List.setIfInBounds_toArray, List.set_cons_zero, List.set_cons_succ]
  refine wpAnyZ_done (by kernel_rfl) ?_ _
  go_wp2_with fail
  go_end0
  obtain ⟨bx, bk, by_, bm, bc, bd⟩ := b6
  exact ⟨rfl, HP0.out.trans HP, _, _, _, _, bc, bd, bm, Na.mono HBS.out, Nb.mono HBS.out⟩
  exact AllReadyZ.nil
  exact AllReadyZ.nil
  exact AllReadyZ.nil
  exact AllReadyZ.nil
  exact AllReadyZ.nil
  exact AllReadyZ.nil
  refine AllReadyZ.cons (opAt rfl) (fun K hK => ?_) ?_
  go_simp
  replace b6 := b6.alloc (.cells #[.int .u64 v0] 22)
  replace b18 := b18.alloc (.cells #[.int .u64 v0] 22)
  replace r5 := r5.alloc (.cells #[.int .u64 v0] 22)
  replace r11 := r11.alloc (.cells #[.int .u64 v0] 22)
  replace hb := hb.alloc hb.size (.cells #[.int .u64 v0] 22)
  have b27 := Blk.new w3x 22 #[.int .u64 v0]
  generalize w3x.alloc (.cells #[.int .u64 v0] 22) = w4x at *
  generalize w3x.heap.size = g27 at *
  refine hK.out _ _ (by first | exact K6.out _ b6 (ZVS.out _ hb) | exact K6.out _ b6 (ZVP.out _ HP) | exact K6.out _ b6.drew (ZVS.out _ hb.drew)) (fun hHeld => ?_)
  clear hK K
  try simp only [Act.put, List.setIfInBounds_toArray, List.set_cons_zero, List.set_cons_succ]
  refine wpAnyZ_ready (rs := [14]) (by kernel_rfl) (by simp) ?_
  refine AllReadyZ.cons (opAt rfl) (fun K hK => ?_) ?_
  go_simp
  refine (node_yes _ _ _ _ l _ HLx1.out r5.sl r11.sl HR1.out).mono ?_
  rintro e w5x ⟨rfl, hb1⟩
  replace b6 := b6.below hb1 b6.lt
  replace b18 := b18.below hb1 b18.lt
  replace b27 := b27.below hb1 b27.lt
  replace r5 := r5.below hb1
  replace r11 := r11.below hb1
  replace hb := hb.trans (hb1.mono hb.size)
  clear hb1
  have Na : NdO w5x wS.heap.size (.agg #[.bool true, .slice Cr5 x1.length kr5, .slice Cr11 y1.length kr11, .int .u64 l]) true x1 y1 l := ⟨_, _, rfl, r5, r11⟩
  clear r5 r11
  try go_wp2_with fail
  refine hK.out _ _ (by first | exact K6.out _ b6 (ZVS.out _ hb) | exact K6.out _ b6 (ZVP.out _ HP) | exact K6.out _ b6.drew (ZVS.out _ hb.drew)) (fun hHeld => ?_)
  clear hK K
  try simp only [Act.put, List.setIfInBounds_toArray, List.set_cons_zero, List.set_cons_succ]
  refine wpAnyZ_ready (rs := [19]) (by kernel_rfl) (by simp) ?_
  refine AllReadyZ.cons (opAt rfl) (fun K hK => ?_) ?_
  go_simp
  refine (W1.out _ hb _ (sl_one b18)).mono ?_
  rintro e w6x ⟨⟨u, rfl, r19⟩, hb1⟩
  replace r19 := r19.mono (lo' := wS.heap.size) hb.size
  rw [← HX2.out] at r19
  replace b6 := b6.below hb1 b6.lt
  replace b18 := b18.below hb1 b18.lt
  replace b27 := b27.below hb1 b27.lt
  replace Na := Na.below hb1
  replace hb := hb.trans (hb1.mono hb.size)
  clear hb1
  obtain ⟨Cr19, kr19, rfl⟩ := r19.val
  try go_wp2_with fail
  refine hK.out _ _ (by first | exact K6.out _ b6 (ZVS.out _ hb) | exact K6.out _ b6 (ZVP.out _ HP) | exact K6.out _ b6.drew (ZVS.out _ hb.drew)) (fun hHeld => ?_)
  clear hK K
  try simp only [Act.put, List.setIfInBounds_toArray, List.set_cons_zero, List.set_cons_succ]
  refine wpAnyZ_ready (rs := [28]) (by kernel_rfl) (by simp) ?_
  refine AllReadyZ.cons (opAt rfl) (fun K hK => ?_) ?_
  go_simp
  refine (W2.out _ hb _ (sl_one b27)).mono ?_
  rintro e w7x ⟨⟨u, rfl, r28⟩, hb1⟩
  replace r28 := r28.mono (lo' := wS.heap.size) hb.size
  rw [← HY2.out] at r28
  replace b6 := b6.below hb1 b6.lt
  replace b18 := b18.below hb1 b18.lt
  replace b27 := b27.below hb1 b27.lt
  replace r19 := r19.below hb1
  replace Na := Na.below hb1
  replace hb := hb.trans (hb1.mono hb.size)
  clear hb1
  obtain ⟨Cr28, kr28, rfl⟩ := r28.val
  try go_wp2_with fail
  refine hK.out _ _ (by first | exact K6.out _ b6 (ZVS.out _ hb) | exact K6.out _ b6 (ZVP.out _ HP) | exact K6.out _ b6.drew (ZVS.out _ hb.drew)) (fun hHeld => ?_)
  clear hK K
  try simp only [Act.put, List.setIfInBounds_toArray, List.set_cons_zero, List.set_cons_succ]
  refine wpAnyZ_ready (rs := [31]) (by kernel_rfl) (by simp) ?_
  refine AllReadyZ.cons (opAt rfl) (fun K hK => ?_) ?_
  go_simp
  refine (node_yes _ _ _ _ l' _ HLx2.out r19.sl r28.sl HR2.out).mono ?_
  rintro e w8x ⟨rfl, hb1⟩
  replace b6 := b6.below hb1 b6.lt
  replace b18 := b18.below hb1 b18.lt
  replace b27 := b27.below hb1 b27.lt
  replace r19 := r19.below hb1
  replace r28 := r28.below hb1
  replace Na := Na.below hb1
  replace hb := hb.trans (hb1.mono hb.size)
  clear hb1
  have Nb : NdO w8x wS.heap.size (.agg #[.bool true, .slice Cr19 x2.length kr19, .slice Cr28 y2.length kr28, .int .u64 l']) true x2 y2 l' := ⟨_, _, rfl, r19, r28⟩
  clear r19 r28
  try go_wp2_with fail
  refine hK.out _ _ (by first | exact K6.out _ b6 (ZVS.out _ hb) | exact K6.out _ b6 (ZVP.out _ HP) | exact K6.out _ b6.drew (ZVS.out _ hb.drew)) (fun hHeld => ?_)
  clear hK K
  try simp only [Act.put, List.setIfInBounds_toArray, List.set_cons_zero, List.set_cons_succ]
  refine wpAnyZ_ready (rs := [32]) (by kernel_rfl) (by simp) ?_
  refine AllReadyZ.cons (opAt rfl) (fun K hK => ?_) ?_
  obtain ⟨bx, bk, by_, bm, bc, bd⟩ := b6
  have zo := fun i => bc.frozen i
  have mo := fun i => bc.cell i
  go_simp
  replace bx := bx.offN HXC.out (.bool true) (.slice Cr5 x1.length kr5) (.slice Cr11 y1.length kr11) (.int .u64 l)
  replace by_ := by_.offN HYC.out (.bool true) (.slice Cr5 x1.length kr5) (.slice Cr11 y1.length kr11) (.int .u64 l)
  replace bk := bk.offN HKC.out (.bool true) (.slice Cr5 x1.length kr5) (.slice Cr11 y1.length kr11) (.int .u64 l)
  replace bm := bm.offN HMC.out (.bool true) (.slice Cr5 x1.length kr5) (.slice Cr11 y1.length kr11) (.int .u64 l)
  replace bd := bd.offN HDC.out (.bool true) (.slice Cr5 x1.length kr5) (.slice Cr11 y1.length kr11) (.int .u64 l)
  replace Na := Na.setN bc (.bool true) (.slice Cr5 x1.length kr5) (.slice Cr11 y1.length kr11) (.int .u64 l)
  replace Nb := Nb.setN bc (.bool true) (.slice Cr5 x1.length kr5) (.slice Cr11 y1.length kr11) (.int .u64 l)
  have HP := (Part.of_below (os := [gm, gc, gd]) hb).setN (g := gc) (by simp) (.bool true) (.slice Cr5 x1.length kr5) (.slice Cr11 y1.length kr11) (.int .u64 l)
  clear hb
  replace bc := bc.setN (.bool true) (.slice Cr5 x1.length kr5) (.slice Cr11 y1.length kr11) (.int .u64 l)
  clear zo mo
  generalize ((((w8x).setCell ⟨gc, 0, none⟩ (.bool true)).setCell ⟨gc, 1, none⟩ (.slice Cr5 x1.length kr5)).setCell ⟨gc, 2, none⟩ (.slice Cr11 y1.length kr11)).setCell ⟨gc, 3, none⟩ (.int .u64 l) = w9x at *
  have b6 := Six.mk bx bk by_ bm bc bd
  clear bx bk by_ bm bc bd
  refine hK.out _ _ (by first | exact K6.out _ b6 (ZVS.out _ hb) | exact K6.out _ b6 (ZVP.out _ HP) | exact K6.out _ b6.drew (ZVS.out _ hb.drew)) (fun hHeld => ?_)
  clear hK K
  try simp only [Act.put, List.setIfInBounds_toArray, List.set_cons_zero, List.set_cons_succ]
  refine wpAnyZ_ready (rs := [33]) (by kernel_rfl) (by simp) ?_
  refine AllReadyZ.cons (opAt rfl) (fun K hK => ?_) ?_
  obtain ⟨bx, bk, by_, bm, bc, bd⟩ := b6
  have zo := fun i => bd.frozen i
  have mo := fun i => bd.cell i
  go_simp
  replace bx := bx.offN HXD.out (.bool true) (.slice Cr19 x2.length kr19) (.slice Cr28 y2.length kr28) (.int .u64 l')
  replace by_ := by_.offN HYD.out (.bool true) (.slice Cr19 x2.length kr19) (.slice Cr28 y2.length kr28) (.int .u64 l')
  replace bk := bk.offN HKD.out (.bool true) (.slice Cr19 x2.length kr19) (.slice Cr28 y2.length kr28) (.int .u64 l')
  replace bm := bm.offN HMD.out (.bool true) (.slice Cr19 x2.length kr19) (.slice Cr28 y2.length kr28) (.int .u64 l')
  replace bc := bc.offN HCD.out (.bool true) (.slice Cr19 x2.length kr19) (.slice Cr28 y2.length kr28) (.int .u64 l')
  replace Na := Na.setN bd (.bool true) (.slice Cr19 x2.length kr19) (.slice Cr28 y2.length kr28) (.int .u64 l')
  replace Nb := Nb.setN bd (.bool true) (.slice Cr19 x2.length kr19) (.slice Cr28 y2.length kr28) (.int .u64 l')
  replace HP := HP.setN (g := gd) (by simp) (.bool true) (.slice Cr19 x2.length kr19) (.slice Cr28 y2.length kr28) (.int .u64 l')
  replace bd := bd.setN (.bool true) (.slice Cr19 x2.length kr19) (.slice Cr28 y2.length kr28) (.int .u64 l')
  clear zo mo
  generalize ((((w9x).setCell ⟨gd, 0, none⟩ (.bool true)).setCell ⟨gd, 1, none⟩ (.slice Cr19 x2.length kr19)).setCell ⟨gd, 2, none⟩ (.slice Cr28 y2.length kr28)).setCell ⟨gd, 3, none⟩ (.int .u64 l') = w10x at *
  have b6 := Six.mk bx bk by_ bm bc bd
  clear bx bk by_ bm bc bd
  refine hK.out _ _ (by first | exact K6.out _ b6 (ZVS.out _ hb) | exact K6.out _ b6 (ZVP.out _ HP) | exact K6.out _ b6.drew (ZVS.out _ hb.drew)) (fun hHeld => ?_)
  clear hK K
  try simp only [Act.put, List.setIfInBounds_toArray, List.set_cons_zero, List.set_cons_succ]
  refine wpAnyZ_done (by kernel_rfl) ?_ _
  go_wp2_with fail
  go_end0
  obtain ⟨bx, bk, by_, bm, bc, bd⟩ := b6
  exact ⟨rfl, HP0.out.trans HP, _, _, _, _, bc, bd, bm, Na.mono HBS.out, Nb.mono HBS.out⟩
  exact AllReadyZ.nil
  exact AllReadyZ.nil
  exact AllReadyZ.nil
  exact AllReadyZ.nil
  exact AllReadyZ.nil
  exact AllReadyZ.nil
  exact AllReadyZ.nil
  refine AllReadyZ.cons (opAt rfl) (fun K hK => ?_) ?_
  go_simp
  replace b6 := b6.alloc (.cells #[.int .u64 v0] 22)
  replace r5 := r5.alloc (.cells #[.int .u64 v0] 22)
  replace r11 := r11.alloc (.cells #[.int .u64 v0] 22)
  replace hb := hb.alloc hb.size (.cells #[.int .u64 v0] 22)
  have b27 := Blk.new w2x 22 #[.int .u64 v0]
  generalize w2x.alloc (.cells #[.int .u64 v0] 22) = w3x at *
  generalize w2x.heap.size = g27 at *
  refine hK.out _ _ (by first | exact K6.out _ b6 (ZVS.out _ hb) | exact K6.out _ b6 (ZVP.out _ HP) | exact K6.out _ b6.drew (ZVS.out _ hb.drew)) (fun hHeld => ?_)
  clear hK K
  try simp only [Act.put, List.setIfInBounds_toArray, List.set_cons_zero, List.set_cons_succ]
  refine wpAnyZ_ready (rs := [14, 18]) (by kernel_rfl) (by simp) ?_
  refine AllReadyZ.cons (opAt rfl) (fun K hK => ?_) ?_
  go_simp
  refine (node_yes _ _ _ _ l _ HLx1.out r5.sl r11.sl HR1.out).mono ?_
  rintro e w4x ⟨rfl, hb1⟩
  replace b6 := b6.below hb1 b6.lt
  replace b27 := b27.below hb1 b27.lt
  replace r5 := r5.below hb1
  replace r11 := r11.below hb1
  replace hb := hb.trans (hb1.mono hb.size)
  clear hb1
  have Na : NdO w4x wS.heap.size (.agg #[.bool true, .slice Cr5 x1.length kr5, .slice Cr11 y1.length kr11, .int .u64 l]) true x1 y1 l := ⟨_, _, rfl, r5, r11⟩
  clear r5 r11
  try go_wp2_with fail
  refine hK.out _ _ (by first | exact K6.out _ b6 (ZVS.out _ hb) | exact K6.out _ b6 (ZVP.out _ HP) | exact K6.out _ b6.drew (ZVS.out _ hb.drew)) (fun hHeld => ?_)
  clear hK K
  try simp only [Act.put, List.setIfInBounds_toArray, List.set_cons_zero, List.set_cons_succ]
  refine wpAnyZ_ready (rs := [18]) (by kernel_rfl) (by simp) ?_
  refine AllReadyZ.cons (opAt rfl) (fun K hK => ?_) ?_
  go_simp
  replace b6 := b6.alloc (.cells #[.int .u64 key] 22)
  replace b27 := b27.alloc (.cells #[.int .u64 key] 22)
  replace Na := Na.below ((Below.refl _ _).alloc (Nat.le_refl _) (.cells #[.int .u64 key] 22))
  replace hb := hb.alloc hb.size (.cells #[.int .u64 key] 22)
  have b18 := Blk.new w4x 22 #[.int .u64 key]
  generalize w4x.alloc (.cells #[.int .u64 key] 22) = w5x at *
  generalize w4x.heap.size = g18 at *
  refine hK.out _ _ (by first | exact K6.out _ b6 (ZVS.out _ hb) | exact K6.out _ b6 (ZVP.out _ HP) | exact K6.out _ b6.drew (ZVS.out _ hb.drew)) (fun hHeld => ?_)
  clear hK K
  try simp only [Act.put, List.setIfInBounds_toArray, List.set_cons_zero, List.set_cons_succ]
  refine wpAnyZ_ready (rs := [19]) (by kernel_rfl) (by simp) ?_
  refine AllReadyZ.cons (opAt rfl) (fun K hK => ?_) ?_
  go_simp
  refine (W1.out _ hb _ (sl_one b18)).mono ?_
  rintro e w6x ⟨⟨u, rfl, r19⟩, hb1⟩
  replace r19 := r19.mono (lo' := wS.heap.size) hb.size
  rw [← HX2.out] at r19
  replace b6 := b6.below hb1 b6.lt
  replace b27 := b27.below hb1 b27.lt
  replace b18 := b18.below hb1 b18.lt
  replace Na := Na.below hb1
  replace hb := hb.trans (hb1.mono hb.size)
  clear hb1
  obtain ⟨Cr19, kr19, rfl⟩ := r19.val
  try go_wp2_with fail
  refine hK.out _ _ (by first | exact K6.out _ b6 (ZVS.out _ hb) | exact K6.out _ b6 (ZVP.out _ HP) | exact K6.out _ b6.drew (ZVS.out _ hb.drew)) (fun hHeld => ?_)
  clear hK K
  try simp only [Act.put, List.setIfInBounds_toArray, List.set_cons_zero, List.set_cons_succ]
  refine wpAnyZ_ready (rs := [28]) (by kernel_rfl) (by simp) ?_
  refine AllReadyZ.cons (opAt rfl) (fun K hK => ?_) ?_
  go_simp
  refine (W2.out _ hb _ (sl_one b27)).mono ?_
  rintro e w7x ⟨⟨u, rfl, r28⟩, hb1⟩
  replace r28 := r28.mono (lo' := wS.heap.size) hb.size
  rw [← HY2.out] at r28
  replace b6 := b6.below hb1 b6.lt
  replace b27 := b27.below hb1 b27.lt
  replace b18 := b18.below hb1 b18.lt
  replace r19 := r19.below hb1
  replace Na := Na.below hb1
  replace hb := hb.trans (hb1.mono hb.size)
  clear hb1
  obtain ⟨Cr28, kr28, rfl⟩ := r28.val
  try go_wp2_with fail
  refine hK.out _ _ (by first | exact K6.out _ b6 (ZVS.out _ hb) | exact K6.out _ b6 (ZVP.out _ HP) | exact K6.out _ b6.drew (ZVS.out _ hb.drew)) (fun hHeld => ?_)
  clear hK K
  try simp only [Act.put, List.setIfInBounds_toArray, List.set_cons_zero, List.set_cons_succ]
  refine wpAnyZ_ready (rs := [31]) (by kernel_rfl) (by simp) ?_
  refine AllReadyZ.cons (opAt rfl) (fun K hK => ?_) ?_
  go_simp
  refine (node_yes _ _ _ _ l' _ HLx2.out r19.sl r28.sl HR2.out).mono ?_
  rintro e w8x ⟨rfl, hb1⟩
  replace b6 := b6.below hb1 b6.lt
  replace b27 := b27.below hb1 b27.lt
  replace b18 := b18.below hb1 b18.lt
  replace r19 := r19.below hb1
  replace r28 := r28.below hb1
  replace Na := Na.below hb1
  replace hb := hb.trans (hb1.mono hb.size)
  clear hb1
  have Nb : NdO w8x wS.heap.size (.agg #[.bool true, .slice Cr19 x2.length kr19, .slice Cr28 y2.length kr28, .int .u64 l']) true x2 y2 l' := ⟨_, _, rfl, r19, r28⟩
  clear r19 r28
  try go_wp2_with fail
  refine hK.out _ _ (by first | exact K6.out _ b6 (ZVS.out _ hb) | exact K6.out _ b6 (ZVP.out _ HP) | exact K6.out _ b6.drew (ZVS.out _ hb.drew)) (fun hHeld => ?_)
  clear hK K
  try simp only [Act.put, List.setIfInBounds_toArray, List.set_cons_zero, List.set_cons_succ]
  refine wpAnyZ_ready (rs := [32]) (by kernel_rfl) (by simp) ?_
  refine AllReadyZ.cons (opAt rfl) (fun K hK => ?_) ?_
  obtain ⟨bx, bk, by_, bm, bc, bd⟩ := b6
  have zo := fun i => bc.frozen i
  have mo := fun i => bc.cell i
  go_simp
  replace bx := bx.offN HXC.out (.bool true) (.slice Cr5 x1.length kr5) (.slice Cr11 y1.length kr11) (.int .u64 l)
  replace by_ := by_.offN HYC.out (.bool true) (.slice Cr5 x1.length kr5) (.slice Cr11 y1.length kr11) (.int .u64 l)
  replace bk := bk.offN HKC.out (.bool true) (.slice Cr5 x1.length kr5) (.slice Cr11 y1.length kr11) (.int .u64 l)
  replace bm := bm.offN HMC.out (.bool true) (.slice Cr5 x1.length kr5) (.slice Cr11 y1.length kr11) (.int .u64 l)
  replace bd := bd.offN HDC.out (.bool true) (.slice Cr5 x1.length kr5) (.slice Cr11 y1.length kr11) (.int .u64 l)
  replace Na := Na.setN bc (.bool true) (.slice Cr5 x1.length kr5) (.slice Cr11 y1.length kr11) (.int .u64 l)
  replace Nb := Nb.setN bc (.bool true) (.slice Cr5 x1.length kr5) (.slice Cr11 y1.length kr11) (.int .u64 l)
  have HP := (Part.of_below (os := [gm, gc, gd]) hb).setN (g := gc) (by simp) (.bool true) (.slice Cr5 x1.length kr5) (.slice Cr11 y1.length kr11) (.int .u64 l)
  clear hb
  replace bc := bc.setN (.bool true) (.slice Cr5 x1.length kr5) (.slice Cr11 y1.length kr11) (.int .u64 l)
  clear zo mo
  generalize ((((w8x).setCell ⟨gc, 0, none⟩ (.bool true)).setCell ⟨gc, 1, none⟩ (.slice Cr5 x1.length kr5)).setCell ⟨gc, 2, none⟩ (.slice Cr11 y1.length kr11)).setCell ⟨gc, 3, none⟩ (.int .u64 l) = w9x at *
  have b6 := Six.mk bx bk by_ bm bc bd
  clear bx bk by_ bm bc bd
  refine hK.out _ _ (by first | exact K6.out _ b6 (ZVS.out _ hb) | exact K6.out _ b6 (ZVP.out _ HP) | exact K6.out _ b6.drew (ZVS.out _ hb.drew)) (fun hHeld => ?_)
  clear hK K
  try simp only [Act.put, List.setIfInBounds_toArray, List.set_cons_zero, List.set_cons_succ]
  refine wpAnyZ_ready (rs := [33]) (by kernel_rfl) (by simp) ?_
  refine AllReadyZ.cons (opAt rfl) (fun K hK => ?_) ?_
  obtain ⟨bx, bk, by_, bm, bc, bd⟩ := b6
  have zo := fun i => bd.frozen i
  have mo := fun i => bd.cell i
  go_simp
  replace bx := bx.offN HXD.out (.bool true) (.slice Cr19 x2.length kr19) (.slice Cr28 y2.length kr28) (.int .u64 l')
  replace by_ := by_.offN HYD.out (.bool true) (.slice Cr19 x2.length kr19) (.slice Cr28 y2.length kr28) (.int .u64 l')
  replace bk := bk.offN HKD.out (.bool true) (.slice Cr19 x2.length kr19) (.slice Cr28 y2.length kr28) (.int .u64 l')
  replace bm := bm.offN HMD.out (.bool true) (.slice Cr19 x2.length kr19) (.slice Cr28 y2.length kr28) (.int .u64 l')
  replace bc := bc.offN HCD.out (.bool true) (.slice Cr19 x2.length kr19) (.slice Cr28 y2.length kr28) (.int .u64 l')
  replace Na := Na.setN bd (.bool true) (.slice Cr19 x2.length kr19) (.slice Cr28 y2.length kr28) (.int .u64 l')
  replace Nb := Nb.setN bd (.bool true) (.slice Cr19 x2.length kr19) (.slice Cr28 y2.length kr28) (.int .u64 l')
  replace HP := HP.setN (g := gd) (by simp) (.bool true) (.slice Cr19 x2.length kr19) (.slice Cr28 y2.length kr28) (.int .u64 l')
  replace bd := bd.setN (.bool true) (.slice Cr19 x2.length kr19) (.slice Cr28 y2.length kr28) (.int .u64 l')
  clear zo mo
  generalize ((((w9x).setCell ⟨gd, 0, none⟩ (.bool true)).setCell ⟨gd, 1, none⟩ (.slice Cr19 x2.length kr19)).setCell ⟨gd, 2, none⟩ (.slice Cr28 y2.length kr28)).setCell ⟨gd, 3, none⟩ (.int .u64 l') = w10x at *
  have b6 := Six.mk bx bk by_ bm bc bd
  clear bx bk by_ bm bc bd
  refine hK.out _ _ (by first | exact K6.out _ b6 (ZVS.out _ hb) | exact K6.out _ b6 (ZVP.out _ HP) | exact K6.out _ b6.drew (ZVS.out _ hb.drew)) (fun hHeld => ?_)
  clear hK K
  try simp only [Act.put, List.setIfInBounds_toArray, List.set_cons_zero, List.set_cons_succ]
  refine wpAnyZ_done (by kernel_rfl) ?_ _
  go_wp2_with fail
  go_end0
  obtain ⟨bx, bk, by_, bm, bc, bd⟩ := b6
  exact ⟨rfl, HP0.out.trans HP, _, _, _, _, bc, bd, bm, Na.mono HBS.out, Nb.mono HBS.out⟩
  exact AllReadyZ.nil
  exact AllReadyZ.nil
  exact AllReadyZ.nil
  exact AllReadyZ.nil
  exact AllReadyZ.nil
  exact AllReadyZ.nil
  refine AllReadyZ.cons (opAt rfl) (fun K hK => ?_) ?_
  go_simp
  replace b6 := b6.alloc (.cells #[.int .u64 key] 22)
  replace b27 := b27.alloc (.cells #[.int .u64 key] 22)
  replace r5 := r5.alloc (.cells #[.int .u64 key] 22)
  replace r11 := r11.alloc (.cells #[.int .u64 key] 22)
  replace hb := hb.alloc hb.size (.cells #[.int .u64 key] 22)
  have b18 := Blk.new w3x 22 #[.int .u64 key]
  generalize w3x.alloc (.cells #[.int .u64 key] 22) = w4x at *
  generalize w3x.heap.size = g18 at *
  refine hK.out _ _ (by first | exact K6.out _ b6 (ZVS.out _ hb) | exact K6.out _ b6 (ZVP.out _ HP) | exact K6.out _ b6.drew (ZVS.out _ hb.drew)) (fun hHeld => ?_)
  clear hK K
  try simp only [Act.put, List.setIfInBounds_toArray, List.set_cons_zero, List.set_cons_succ]
  refine wpAnyZ_ready (rs := [14]) (by kernel_rfl) (by simp) ?_
  refine AllReadyZ.cons (opAt rfl) (fun K hK => ?_) ?_
  go_simp
  refine (node_yes _ _ _ _ l _ HLx1.out r5.sl r11.sl HR1.out).mono ?_
  rintro e w5x ⟨rfl, hb1⟩
  replace b6 := b6.below hb1 b6.lt
  replace b27 := b27.below hb1 b27.lt
  replace b18 := b18.below hb1 b18.lt
  replace r5 := r5.below hb1
  replace r11 := r11.below hb1
  replace hb := hb.trans (hb1.mono hb.size)
  clear hb1
  have Na : NdO w5x wS.heap.size (.agg #[.bool true, .slice Cr5 x1.length kr5, .slice Cr11 y1.length kr11, .int .u64 l]) true x1 y1 l := ⟨_, _, rfl, r5, r11⟩
  clear r5 r11
  try go_wp2_with fail
  refine hK.out _ _ (by first | exact K6.out _ b6 (ZVS.out _ hb) | exact K6.out _ b6 (ZVP.out _ HP) | exact K6.out _ b6.drew (ZVS.out _ hb.drew)) (fun hHeld => ?_)
  clear hK K
  try simp only [Act.put, List.setIfInBounds_toArray, List.set_cons_zero, List.set_cons_succ]
  refine wpAnyZ_ready (rs := [19]) (by kernel_rfl) (by simp) ?_
  refine AllReadyZ.cons (opAt rfl) (fun K hK => ?_) ?_
  go_simp
  refine (W1.out _ hb _ (sl_one b18)).mono ?_
  rintro e w6x ⟨⟨u, rfl, r19⟩, hb1⟩
  replace r19 := r19.mono (lo' := wS.heap.size) hb.size
  rw [← HX2.out] at r19
  replace b6 := b6.below hb1 b6.lt
  replace b27 := b27.below hb1 b27.lt
  replace b18 := b18.below hb1 b18.lt
  replace Na := Na.below hb1
  replace hb := hb.trans (hb1.mono hb.size)
  clear hb1
  obtain ⟨Cr19, kr19, rfl⟩ := r19.val
  try go_wp2_with fail
  refine hK.out _ _ (by first | exact K6.out _ b6 (ZVS.out _ hb) | exact K6.out _ b6 (ZVP.out _ HP) | exact K6.out _ b6.drew (ZVS.out _ hb.drew)) (fun hHeld => ?_)
  clear hK K
  try simp only [Act.put, List.setIfInBounds_toArray, List.set_cons_zero, List.set_cons_succ]
  refine wpAnyZ_ready (rs := [28]) (by kernel_rfl) (by simp) ?_
  refine AllReadyZ.cons (opAt rfl) (fun K hK => ?_) ?_
  go_simp
  refine (W2.out _ hb _ (sl_one b27)).mono ?_
  rintro e w7x ⟨⟨u, rfl, r28⟩, hb1⟩
  replace r28 := r28.mono (lo' := wS.heap.size) hb.size
  rw [← HY2.out] at r28
  replace b6 := b6.below hb1 b6.lt
  replace b27 := b27.below hb1 b27.lt
  replace b18 := b18.below hb1 b18.lt
  replace r19 := r19.below hb1
  replace Na := Na.below hb1
  replace hb := hb.trans (hb1.mono hb.size)
  clear hb1
  obtain ⟨Cr28, kr28, rfl⟩ := r28.val
  try go_wp2_with fail
  refine hK.out _ _ (by first | exact K6.out _ b6 (ZVS.out _ hb) | exact K6.out _ b6 (ZVP.out _ HP) | exact K6.out _ b6.drew (ZVS.out _ hb.drew)) (fun hHeld => ?_)
  clear hK K
  try simp only [Act.put, List.setIfInBounds_toArray, List.set_cons_zero, List.set_cons_succ]
  refine wpAnyZ_ready (rs := [31]) (by kernel_rfl) (by simp) ?_
  refine AllReadyZ.cons (opAt rfl) (fun K hK => ?_) ?_
  go_simp
  refine (node_yes _ _ _ _ l' _ HLx2.out r19.sl r28.sl HR2.out).mono ?_
  rintro e w8x ⟨rfl, hb1⟩
  replace b6 := b6.below hb1 b6.lt
  replace b27 := b27.below hb1 b27.lt
  replace b18 := b18.below hb1 b18.lt
  replace r19 := r19.below hb1
  replace r28 := r28.below hb1
  replace Na := Na.below hb1
  replace hb := hb.trans (hb1.mono hb.size)
  clear hb1
  have Nb : NdO w8x wS.heap.size (.agg #[.bool true, .slice Cr19 x2.length kr19, .slice Cr28 y2.length kr28, .int .u64 l']) true x2 y2 l' := ⟨_, _, rfl, r19, r28⟩
  clear r19 r28
  try go_wp2_with fail
  refine hK.out _ _ (by first | exact K6.out _ b6 (ZVS.out _ hb) | exact K6.out _ b6 (ZVP.out _ HP) | exact K6.out _ b6.drew (ZVS.out _ hb.drew)) (fun hHeld => ?_)
  clear hK K
  try simp only [Act.put, List.setIfInBounds_toArray, List.set_cons_zero, List.set_cons_succ]
  refine wpAnyZ_ready (rs := [32]) (by kernel_rfl) (by simp) ?_
  refine AllReadyZ.cons (opAt rfl) (fun K hK => ?_) ?_
  obtain ⟨bx, bk, by_, bm, bc, bd⟩ := b6
  have zo := fun i => bc.frozen i
  have mo := fun i => bc.cell i
  go_simp
  replace bx := bx.offN HXC.out (.bool true) (.slice Cr5 x1.length kr5) (.slice Cr11 y1.length kr11) (.int .u64 l)
  replace by_ := by_.offN HYC.out (.bool true) (.slice Cr5 x1.length kr5) (.slice Cr11 y1.length kr11) (.int .u64 l)
  replace bk := bk.offN HKC.out (.bool true) (.slice Cr5 x1.length kr5) (.slice Cr11 y1.length kr11) (.int .u64 l)
  replace bm := bm.offN HMC.out (.bool true) (.slice Cr5 x1.length kr5) (.slice Cr11 y1.length kr11) (.int .u64 l)
  replace bd := bd.offN HDC.out (.bool true) (.slice Cr5 x1.length kr5) (.slice Cr11 y1.length kr11) (.int .u64 l)
  replace Na := Na.setN bc (.bool true) (.slice Cr5 x1.length kr5) (.slice Cr11 y1.length kr11) (.int .u64 l)
  replace Nb := Nb.setN bc (.bool true) (.slice Cr5 x1.length kr5) (.slice Cr11 y1.length kr11) (.int .u64 l)
  have HP := (Part.of_below (os := [gm, gc, gd]) hb).setN (g := gc) (by simp) (.bool true) (.slice Cr5 x1.length kr5) (.slice Cr11 y1.length kr11) (.int .u64 l)
  clear hb
  replace bc := bc.setN (.bool true) (.slice Cr5 x1.length kr5) (.slice Cr11 y1.length kr11) (.int .u64 l)
  clear zo mo
  generalize ((((w8x).setCell ⟨gc, 0, none⟩ (.bool true)).setCell ⟨gc, 1, none⟩ (.slice Cr5 x1.length kr5)).setCell ⟨gc, 2, none⟩ (.slice Cr11 y1.length kr11)).setCell ⟨gc, 3, none⟩ (.int .u64 l) = w9x at *
  have b6 := Six.mk bx bk by_ bm bc bd
  clear bx bk by_ bm bc bd
  refine hK.out _ _ (by first | exact K6.out _ b6 (ZVS.out _ hb) | exact K6.out _ b6 (ZVP.out _ HP) | exact K6.out _ b6.drew (ZVS.out _ hb.drew)) (fun hHeld => ?_)
  clear hK K
  try simp only [Act.put, List.setIfInBounds_toArray, List.set_cons_zero, List.set_cons_succ]
  refine wpAnyZ_ready (rs := [33]) (by kernel_rfl) (by simp) ?_
  refine AllReadyZ.cons (opAt rfl) (fun K hK => ?_) ?_
  obtain ⟨bx, bk, by_, bm, bc, bd⟩ := b6
  have zo := fun i => bd.frozen i
  have mo := fun i => bd.cell i
  go_simp
  replace bx := bx.offN HXD.out (.bool true) (.slice Cr19 x2.length kr19) (.slice Cr28 y2.length kr28) (.int .u64 l')
  replace by_ := by_.offN HYD.out (.bool true) (.slice Cr19 x2.length kr19) (.slice Cr28 y2.length kr28) (.int .u64 l')
  replace bk := bk.offN HKD.out (.bool true) (.slice Cr19 x2.length kr19) (.slice Cr28 y2.length kr28) (.int .u64 l')
  replace bm := bm.offN HMD.out (.bool true) (.slice Cr19 x2.length kr19) (.slice Cr28 y2.length kr28) (.int .u64 l')
  replace bc := bc.offN HCD.out (.bool true) (.slice Cr19 x2.length kr19) (.slice Cr28 y2.length kr28) (.int .u64 l')
  replace Na := Na.setN bd (.bool true) (.slice Cr19 x2.length kr19) (.slice Cr28 y2.length kr28) (.int .u64 l')
  replace Nb := Nb.setN bd (.bool true) (.slice Cr19 x2.length kr19) (.slice Cr28 y2.length kr28) (.int .u64 l')
  replace HP := HP.setN (g := gd) (by simp) (.bool true) (.slice Cr19 x2.length kr19) (.slice Cr28 y2.length kr28) (.int .u64 l')
  replace bd := bd.setN (.bool true) (.slice Cr19 x2.length kr19) (.slice Cr28 y2.length kr28) (.int .u64 l')
  clear zo mo
  generalize ((((w9x).setCell ⟨gd, 0, none⟩ (.bool true)).setCell ⟨gd, 1, none⟩ (.slice Cr19 x2.length kr19)).setCell ⟨gd, 2, none⟩ (.slice Cr28 y2.length kr28)).setCell ⟨gd, 3, none⟩ (.int .u64 l') = w10x at *
  have b6 := Six.mk bx bk by_ bm bc bd
  clear bx bk by_ bm bc bd
  refine hK.out _ _ (by first | exact K6.out _ b6 (ZVS.out _ hb) | exact K6.out _ b6 (ZVP.out _ HP) | exact K6.out _ b6.drew (ZVS.out _ hb.drew)) (fun hHeld => ?_)
  clear hK K
  try simp only [Act.put, List.setIfInBounds_toArray, List.set_cons_zero, List.set_cons_succ]
  refine wpAnyZ_done (by kernel_rfl) ?_ _
  go_wp2_with fail
  go_end0
  obtain ⟨bx, bk, by_, bm, bc, bd⟩ := b6
  exact ⟨rfl, HP0.out.trans HP, _, _, _, _, bc, bd, bm, Na.mono HBS.out, Nb.mono HBS.out⟩
  exact AllReadyZ.nil
  exact AllReadyZ.nil
  exact AllReadyZ.nil
  exact AllReadyZ.nil
  exact AllReadyZ.nil
  exact AllReadyZ.nil
  exact AllReadyZ.nil
  exact AllReadyZ.nil
  refine AllReadyZ.cons (opAt rfl) (fun K hK => ?_) ?_
  go_simp
  replace b6 := b6.alloc (.cells #[.int .u64 key] 22)
  replace r5 := r5.alloc (.cells #[.int .u64 key] 22)
  replace hb := hb.alloc hb.size (.cells #[.int .u64 key] 22)
  have b18 := Blk.new w1x 22 #[.int .u64 key]
  generalize w1x.alloc (.cells #[.int .u64 key] 22) = w2x at *
  generalize w1x.heap.size = g18 at *
  refine hK.out _ _ (by first | exact K6.out _ b6 (ZVS.out _ hb) | exact K6.out _ b6 (ZVP.out _ HP) | exact K6.out _ b6.drew (ZVS.out _ hb.drew)) (fun hHeld => ?_)
  clear hK K
  try simp only [Act.put, List.setIfInBounds_toArray, List.set_cons_zero, List.set_cons_succ]
  refine wpAnyZ_ready (rs := [11, 27]) (by kernel_rfl) (by simp) ?_
  refine AllReadyZ.cons (opAt rfl) (fun K hK => ?_) ?_
  go_simp
  refine (W6.out _ hb).mono ?_
  rintro e w3x ⟨⟨u, rfl, r11⟩, hb1⟩
  replace r11 := r11.mono (lo' := wS.heap.size) hb.size
  rw [← HY1.out] at r11
  replace b6 := b6.below hb1 b6.lt
  replace b18 := b18.below hb1 b18.lt
  replace r5 := r5.below hb1
  replace hb := hb.trans (hb1.mono hb.size)
  clear hb1
  obtain ⟨Cr11, kr11, rfl⟩ := r11.val
  try go_wp2_with fail
  refine hK.out _ _ (by first | exact K6.out _ b6 (ZVS.out _ hb) | exact K6.out _ b6 (ZVP.out _ HP) | exact K6.out _ b6.drew (ZVS.out _ hb.drew)) (fun hHeld => ?_)
  clear hK K
  try simp only [Act.put, List.setIfInBounds_toArray, List.set_cons_zero, List.set_cons_succ]
  refine wpAnyZ_ready (rs := [14, 27]) (by kernel_rfl) (by simp) ?_
  refine AllReadyZ.cons (opAt rfl) (fun K hK => ?_) ?_
  go_simp
  refine (node_yes _ _ _ _ l _ HLx1.out r5.sl r11.sl HR1.out).mono ?_
  rintro e w4x ⟨rfl, hb1⟩
  replace b6 := b6.below hb1 b6.lt
  replace b18 := b18.below hb1 b18.lt
  replace r5 := r5.below hb1
  replace r11 := r11.below hb1
  replace hb := hb.trans (hb1.mono hb.size)
  clear hb1
  have Na : NdO w4x wS.heap.size (.agg #[.bool true, .slice Cr5 x1.length kr5, .slice Cr11 y1.length kr11, .int .u64 l]) true x1 y1 l := ⟨_, _, rfl, r5, r11⟩
  clear r5 r11
  try go_wp2_with fail
  refine hK.out _ _ (by first | exact K6.out _ b6 (ZVS.out _ hb) | exact K6.out _ b6 (ZVP.out _ HP) | exact K6.out _ b6.drew (ZVS.out _ hb.drew)) (fun hHeld => ?_)
  clear hK K
  try simp only [Act.put, List.setIfInBounds_toArray, List.set_cons_zero, List.set_cons_succ]
  refine wpAnyZ_ready (rs := [19, 27]) (by kernel_rfl) (by simp) ?_
  refine AllReadyZ.cons (opAt rfl) (fun K hK => ?_) ?_
  go_simp
  refine (W1.out _ hb _ (sl_one b18)).mono ?_
  rintro e w5x ⟨⟨u, rfl, r19⟩, hb1⟩
  replace r19 := r19.mono (lo' := wS.heap.size) hb.size
  rw [← HX2.out] at r19
  replace b6 := b6.below hb1 b6.lt
  replace b18 := b18.below hb1 b18.lt
  replace Na := Na.below hb1
  replace hb := hb.trans (hb1.mono hb.size)
  clear hb1
  obtain ⟨Cr19, kr19, rfl⟩ := r19.val
  try go_wp2_with fail
  refine hK.out _ _ (by first | exact K6.out _ b6 (ZVS.out _ hb) | exact K6.out _ b6 (ZVP.out _ HP) | exact K6.out _ b6.drew (ZVS.out _ hb.drew)) (fun hHeld => ?_)
  clear hK K
  try simp only [Act.put, List.setIfInBounds_toArray, List.set_cons_zero, List.set_cons_succ]
  refine wpAnyZ_ready (rs := [27]) (by kernel_rfl) (by simp) ?_
  refine AllReadyZ.cons (opAt rfl) (fun K hK => ?_) ?_
  go_simp
  replace b6 := b6.alloc (.cells #[.int .u64 v0] 22)
  replace b18 := b18.alloc (.cells #[.int .u64 v0] 22)
  replace r19 := r19.alloc (.cells #[.int .u64 v0] 22)
  replace Na := Na.below ((Below.refl _ _).alloc (Nat.le_refl _) (.cells #[.int .u64 v0] 22))
  replace hb := hb.alloc hb.size (.cells #[.int .u64 v0] 22)
  have b27 := Blk.new w5x 22 #[.int .u64 v0]
  generalize w5x.alloc (.cells #[.int .u64 v0] 22) = w6x at *
  generalize w5x.heap.size = g27 at *
  refine hK.out _ _ (by first | exact K6.out _ b6 (ZVS.out _ hb) | exact K6.out _ b6 (ZVP.out _ HP) | exact K6.out _ b6.drew (ZVS.out _ hb.drew)) (fun hHeld => ?_)
  clear hK K
  try simp only [Act.put, List.setIfInBounds_toArray, List.set_cons_zero, List.set_cons_succ]
  refine wpAnyZ_ready (rs := [28]) (by kernel_rfl) (by simp) ?_
  refine AllReadyZ.cons (opAt rfl) (fun K hK => ?_) ?_
  go_simp
  refine (W2.out _ hb _ (sl_one b27)).mono ?_
  rintro e w7x ⟨⟨u, rfl, r28⟩, hb1⟩
  replace r28 := r28.mono (lo' := wS.heap.size) hb.size
  rw [← HY2.out] at r28
  replace b6 := b6.below hb1 b6.lt
  replace b18 := b18.below hb1 b18.lt
  replace b27 := b27.below hb1 b27.lt
  replace r19 := r19.below hb1
  replace Na := Na.below hb1
  replace hb := hb.trans (hb1.mono hb.size)
  clear hb1
  obtain ⟨Cr28, kr28, rfl⟩ := r28.val
  try go_wp2_with fail
  refine hK.out _ _ (by first | exact K6.out _ b6 (ZVS.out _ hb) | exact K6.out _ b6 (ZVP.out _ HP) | exact K6.out _ b6.drew (ZVS.out _ hb.drew)) (fun hHeld => ?_)
  clear hK K
  try simp only [Act.put, List.setIfInBounds_toArray, List.set_cons_zero, List.set_cons_succ]
  refine wpAnyZ_ready (rs := [31]) (by kernel_rfl) (by simp) ?_
  refine AllReadyZ.cons (opAt rfl) (fun K hK => ?_) ?_
  go_simp
  refine (node_yes _ _ _ _ l' _ HLx2.out r19.sl r28.sl HR2.out).mono ?_
  rintro e w8x ⟨rfl, hb1⟩
  replace b6 := b6.below hb1 b6.lt
  replace b18 := b18.below hb1 b18.lt
  replace b27 := b27.below hb1 b27.lt
  replace r19 := r19.below hb1
  replace r28 := r28.below hb1
  replace Na := Na.below hb1
  replace hb := hb.trans (hb1.mono hb.size)
  clear hb1
  have Nb : NdO w8x wS.heap.size (.agg #[.bool true, .slice Cr19 x2.length kr19, .slice Cr28 y2.length kr28, .int .u64 l']) true x2 y2 l' := ⟨_, _, rfl, r19, r28⟩
  clear r19 r28
  try go_wp2_with fail
  refine hK.out _ _ (by first | exact K6.out _ b6 (ZVS.out _ hb) | exact K6.out _ b6 (ZVP.out _ HP) | exact K6.out _ b6.drew (ZVS.out _ hb.drew)) (fun hHeld => ?_)
  clear hK K
  try simp only [Act.put, List.setIfInBounds_toArray, List.set_cons_zero, List.set_cons_succ]
  refine wpAnyZ_ready (rs := [32]) (by kernel_rfl) (by simp) ?_
  refine AllReadyZ.cons (opAt rfl) (fun K hK => ?_) ?_
  obtain ⟨bx, bk, by_, bm, bc, bd⟩ := b6
  have zo := fun i => bc.frozen i
  have mo := fun i => bc.cell i
  go_simp
  replace bx := bx.offN HXC.out (.bool true) (.slice Cr5 x1.length kr5) (.slice Cr11 y1.length kr11) (.int .u64 l)
  replace by_ := by_.offN HYC.out (.bool true) (.slice Cr5 x1.length kr5) (.slice Cr11 y1.length kr11) (.int .u64 l)
  replace bk := bk.offN HKC.out (.bool true) (.slice Cr5 x1.length kr5) (.slice Cr11 y1.length kr11) (.int .u64 l)
  replace bm := bm.offN HMC.out (.bool true) (.slice Cr5 x1.length kr5) (.slice Cr11 y1.length kr11) (.int .u64 l)
  replace bd := bd.offN HDC.out (.bool true) (.slice Cr5 x1.length kr5) (.slice Cr11 y1.length kr11) (.int .u64 l)
  replace Na := Na.setN bc (.bool true) (.slice Cr5 x1.length kr5) (.slice Cr11 y1.length kr11) (.int .u64 l)
  replace Nb := Nb.setN bc (.bool true) (.slice Cr5 x1.length kr5) (.slice Cr11 y1.length kr11) (.int .u64 l)
  have HP := (Part.of_below (os := [gm, gc, gd]) hb).setN (g := gc) (by simp) (.bool true) (.slice Cr5 x1.length kr5) (.slice Cr11 y1.length kr11) (.int .u64 l)
  clear hb
  replace bc := bc.setN (.bool true) (.slice Cr5 x1.length kr5) (.slice Cr11 y1.length kr11) (.int .u64 l)
  clear zo mo
  generalize ((((w8x).setCell ⟨gc, 0, none⟩ (.bool true)).setCell ⟨gc, 1, none⟩ (.slice Cr5 x1.length kr5)).setCell ⟨gc, 2, none⟩ (.slice Cr11 y1.length kr11)).setCell ⟨gc, 3, none⟩ (.int .u64 l) = w9x at *
  have b6 := Six.mk bx bk by_ bm bc bd
  clear bx bk by_ bm bc bd
  refine hK.out _ _ (by first | exact K6.out _ b6 (ZVS.out _ hb) | exact K6.out _ b6 (ZVP.out _ HP) | exact K6.out _ b6.drew (ZVS.out _ hb.drew)) (fun hHeld => ?_)
  clear hK K
  try simp only [Act.put, List.setIfInBounds_toArray, List.set_cons_zero, List.set_cons_succ]
  refine wpAnyZ_ready (rs := [33]) (by kernel_rfl) (by simp) ?_
  refine AllReadyZ.cons (opAt rfl) (fun K hK => ?_) ?_
  obtain ⟨bx, bk, by_, bm, bc, bd⟩ := b6
  have zo := fun i => bd.frozen i
  have mo := fun i => bd.cell i
  go_simp
  replace bx := bx.offN HXD.out (.bool true) (.slice Cr19 x2.length kr19) (.slice Cr28 y2.length kr28) (.int .u64 l')
  replace by_ := by_.offN HYD.out (.bool true) (.slice Cr19 x2.length kr19) (.slice Cr28 y2.length kr28) (.int .u64 l')
  replace bk := bk.offN HKD.out (.bool true) (.slice Cr19 x2.length kr19) (.slice Cr28 y2.length kr28) (.int .u64 l')
  replace bm := bm.offN HMD.out (.bool true) (.slice Cr19 x2.length kr19) (.slice Cr28 y2.length kr28) (.int .u64 l')
  replace bc := bc.offN HCD.out (.bool true) (.slice Cr19 x2.length kr19) (.slice Cr28 y2.length kr28) (.int .u64 l')
  replace Na := Na.setN bd (.bool true) (.slice Cr19 x2.length kr19) (.slice Cr28 y2.length kr28) (.int .u64 l')
  replace Nb := Nb.setN bd (.bool true) (.slice Cr19 x2.length kr19) (.slice Cr28 y2.length kr28) (.int .u64 l')
  replace HP := HP.setN (g := gd) (by simp) (.bool true) (.slice Cr19 x2.length kr19) (.slice Cr28 y2.length kr28) (.int .u64 l')
  replace bd := bd.setN (.bool true) (.slice Cr19 x2.length kr19) (.slice Cr28 y2.length kr28) (.int .u64 l')
  clear zo mo
  generalize ((((w9x).setCell ⟨gd, 0, none⟩ (.bool true)).setCell ⟨gd, 1, none⟩ (.slice Cr19 x2.length kr19)).setCell ⟨gd, 2, none⟩ (.slice Cr28 y2.length kr28)).setCell ⟨gd, 3, none⟩ (.int .u64 l') = w10x at *
  have b6 := Six.mk bx bk by_ bm bc bd
  clear bx bk by_ bm bc bd
  refine hK.out _ _ (by first | exact K6.out _ b6 (ZVS.out _ hb) | exact K6.out _ b6 (ZVP.out _ HP) | exact K6.out _ b6.drew (ZVS.out _ hb.drew)) (fun hHeld => ?_)
  clear hK K
  try simp only [Act.put, List.setIfInBounds_toArray, List.set_cons_zero, List.set_cons_succ]
  refine wpAnyZ_done (by kernel_rfl) ?_ _
  go_wp2_with fail
  go_end0
  obtain ⟨bx, bk, by_, bm, bc, bd⟩ := b6
  exact ⟨rfl, HP0.out.trans HP, _, _, _, _, bc, bd, bm, Na.mono HBS.out, Nb.mono HBS.out⟩
  exact AllReadyZ.nil
  exact AllReadyZ.nil
  exact AllReadyZ.nil
  exact AllReadyZ.nil
  exact AllReadyZ.nil
  refine AllReadyZ.cons (opAt rfl) (fun K hK => ?_) ?_
  go_simp
  replace b6 := b6.alloc (.cells #[.int .u64 v0] 22)
  replace b18 := b18.alloc (.cells #[.int .u64 v0] 22)
  replace Na := Na.below ((Below.refl _ _).alloc (Nat.le_refl _) (.cells #[.int .u64 v0] 22))
  replace hb := hb.alloc hb.size (.cells #[.int .u64 v0] 22)
  have b27 := Blk.new w4x 22 #[.int .u64 v0]
  generalize w4x.alloc (.cells #[.int .u64 v0] 22) = w5x at *
  generalize w4x.heap.size = g27 at *
  refine hK.out _ _ (by first | exact K6.out _ b6 (ZVS.out _ hb) | exact K6.out _ b6 (ZVP.out _ HP) | exact K6.out _ b6.drew (ZVS.out _ hb.drew)) (fun hHeld => ?_)
  clear hK K
  try simp only [Act.put, List.setIfInBounds_toArray, List.set_cons_zero, List.set_cons_succ]
  refine wpAnyZ_ready (rs := [19]) (by kernel_rfl) (by simp) ?_
  refine AllReadyZ.cons (opAt rfl) (fun K hK => ?_) ?_
  go_simp
  refine (W1.out _ hb _ (sl_one b18)).mono ?_
  rintro e w6x ⟨⟨u, rfl, r19⟩, hb1⟩
  replace r19 := r19.mono (lo' := wS.heap.size) hb.size
  rw [← HX2.out] at r19
  replace b6 := b6.below hb1 b6.lt
  replace b18 := b18.below hb1 b18.lt
  replace b27 := b27.below hb1 b27.lt
  replace Na := Na.below hb1
  replace hb := hb.trans (hb1.mono hb.size)
  clear hb1
  obtain ⟨Cr19, kr19, rfl⟩ := r19.val
  try go_wp2_with fail
  refine hK.out _ _ (by first | exact K6.out _ b6 (ZVS.out _ hb) | exact K6.out _ b6 (ZVP.out _ HP) | exact K6.out _ b6.drew (ZVS.out _ hb.drew)) (fun hHeld => ?_)
  clear hK K
  try simp only [Act.put, List.setIfInBounds_toArray, List.set_cons_zero, List.set_cons_succ]
  refine wpAnyZ_ready (rs := [28]) (by kernel_rfl) (by simp) ?_
  refine AllReadyZ.cons (opAt rfl) (fun K hK => ?_) ?_
  go_simp
  refine (W2.out _ hb _ (sl_one b27)).mono ?_
  rintro e w7x ⟨⟨u, rfl, r28⟩, hb1⟩
  replace r28 := r28.mono (lo' := wS.heap.size) hb.size
  rw [← HY2.out] at r28
  replace b6 := b6.below hb1 b6.lt
  replace b18 := b18.below hb1 b18.lt
  replace b27 := b27.below hb1 b27.lt
  replace r19 := r19.below hb1
  replace Na := Na.below hb1
  replace hb := hb.trans (hb1.mono hb.size)
  clear hb1
  obtain ⟨Cr28, kr28, rfl⟩ := r28.val
  try go_wp2_with fail
  refine hK.out _ _ (by first | exact K6.out _ b6 (ZVS.out _ hb) | exact K6.out _ b6 (ZVP.out _ HP) | exact K6.out _ b6.drew (ZVS.out _ hb.drew)) (fun hHeld => ?_)
  clear hK K
  try simp only [Act.put, List.setIfInBounds_toArray, List.set_cons_zero, List.set_cons_succ]
  refine wpAnyZ_ready (rs := [31]) (by kernel_rfl) (by simp) ?_
  refine AllReadyZ.cons (opAt rfl) (fun K hK => ?_) ?_
  go_simp
  refine (node_yes _ _ _ _ l' _ HLx2.out r19.sl r28.sl HR2.out).mono ?_
  rintro e w8x ⟨rfl, hb1⟩
  replace b6 := b6.below hb1 b6.lt
  replace b18 := b18.below hb1 b18.lt
  replace b27 := b27.below hb1 b27.lt
  replace r19 := r19.below hb1
  replace r28 := r28.below hb1
  replace Na := Na.below hb1
  replace hb := hb.trans (hb1.mono hb.size)
  clear hb1
  have Nb : NdO w8x wS.heap.size (.agg #[.bool true, .slice Cr19 x2.length kr19, .slice Cr28 y2.length kr28, .int .u64 l']) true x2 y2 l' := ⟨_, _, rfl, r19, r28⟩
  clear r19 r28
  try go_wp2_with fail
  refine hK.out _ _ (by first | exact K6.out _ b6 (ZVS.out _ hb) | exact K6.out _ b6 (ZVP.out _ HP) | exact K6.out _ b6.drew (ZVS.out _ hb.drew)) (fun hHeld => ?_)
  clear hK K
  try simp only [Act.put, List.setIfInBounds_toArray, List.set_cons_zero, List.set_cons_succ]
  refine wpAnyZ_ready (rs := [32]) (by kernel_rfl) (by simp) ?_
  refine AllReadyZ.cons (opAt rfl) (fun K hK => ?_) ?_
  obtain ⟨bx, bk, by_, bm, bc, bd⟩ := b6
  have zo := fun i => bc.frozen i
  have mo := fun i => bc.cell i
  go_simp
  replace bx := bx.offN HXC.out (.bool true) (.slice Cr5 x1.length kr5) (.slice Cr11 y1.length kr11) (.int .u64 l)
  replace by_ := by_.offN HYC.out (.bool true) (.slice Cr5 x1.length kr5) (.slice Cr11 y1.length kr11) (.int .u64 l)
  replace bk := bk.offN HKC.out (.bool true) (.slice Cr5 x1.length kr5) (.slice Cr11 y1.length kr11) (.int .u64 l)
  replace bm := bm.offN HMC.out (.bool true) (.slice Cr5 x1.length kr5) (.slice Cr11 y1.length kr11) (.int .u64 l)
  replace bd := bd.offN HDC.out (.bool true) (.slice Cr5 x1.length kr5) (.slice Cr11 y1.length kr11) (.int .u64 l)
  replace Na := Na.setN bc (.bool true) (.slice Cr5 x1.length kr5) (.slice Cr11 y1.length kr11) (.int .u64 l)
  replace Nb := Nb.setN bc (.bool true) (.slice Cr5 x1.length kr5) (.slice Cr11 y1.length kr11) (.int .u64 l)
  have HP := (Part.of_below (os := [gm, gc, gd]) hb).setN (g := gc) (by simp) (.bool true) (.slice Cr5 x1.length kr5) (.slice Cr11 y1.length kr11) (.int .u64 l)
  clear hb
  replace bc := bc.setN (.bool true) (.slice Cr5 x1.length kr5) (.slice Cr11 y1.length kr11) (.int .u64 l)
  clear zo mo
  generalize ((((w8x).setCell ⟨gc, 0, none⟩ (.bool true)).setCell ⟨gc, 1, none⟩ (.slice Cr5 x1.length kr5)).setCell ⟨gc, 2, none⟩ (.slice Cr11 y1.length kr11)).setCell ⟨gc, 3, none⟩ (.int .u64 l) = w9x at *
  have b6 := Six.mk bx bk by_ bm bc bd
  clear bx bk by_ bm bc bd
  refine hK.out _ _ (by first | exact K6.out _ b6 (ZVS.out _ hb) | exact K6.out _ b6 (ZVP.out _ HP) | exact K6.out _ b6.drew (ZVS.out _ hb.drew)) (fun hHeld => ?_)
  clear hK K
  try simp only [Act.put, List.setIfInBounds_toArray, List.set_cons_zero, List.set_cons_succ]
  refine wpAnyZ_ready (rs := [33]) (by kernel_rfl) (by simp) ?_
  refine AllReadyZ.cons (opAt rfl) (fun K hK => ?_) ?_
  obtain ⟨bx, bk, by_, bm, bc, bd⟩ := b6
  have zo := fun i => bd.frozen i
  have mo := fun i => bd.cell i
  go_simp
  replace bx := bx.offN HXD.out (.bool true) (.slice Cr19 x2.length kr19) (.slice Cr28 y2.length kr28) (.int .u64 l')
  replace by_ := by_.offN HYD.out (.bool true) (.slice Cr19 x2.length kr19) (.slice Cr28 y2.length kr28) (.int .u64 l')
  replace bk := bk.offN HKD.out (.bool true) (.slice Cr19 x2.length kr19) (.slice Cr28 y2.length kr28) (.int .u64 l')
  replace bm := bm.offN HMD.out (.bool true) (.slice Cr19 x2.length kr19) (.slice Cr28 y2.length kr28) (.int .u64 l')
  replace bc := bc.offN HCD.out (.bool true) (.slice Cr19 x2.length kr19) (.slice Cr28 y2.length kr28) (.int .u64 l')
  replace Na := Na.setN bd (.bool true) (.slice Cr19 x2.length kr19) (.slice Cr28 y2.length kr28) (.int .u64 l')
  replace Nb := Nb.setN bd (.bool true) (.slice Cr19 x2.length kr19) (.slice Cr28 y2.length kr28) (.int .u64 l')
  replace HP := HP.setN (g := gd) (by simp) (.bool true) (.slice Cr19 x2.length kr19) (.slice Cr28 y2.length kr28) (.int .u64 l')
  replace bd := bd.setN (.bool true) (.slice Cr19 x2.length kr19) (.slice Cr28 y2.length kr28) (.int .u64 l')
  clear zo mo
  generalize ((((w9x).setCell ⟨gd, 0, none⟩ (.bool true)).setCell ⟨gd, 1, none⟩ (.slice Cr19 x2.length kr19)).setCell ⟨gd, 2, none⟩ (.slice Cr28 y2.length kr28)).setCell ⟨gd, 3, none⟩ (.int .u64 l') = w10x at *
  have b6 := Six.mk bx bk by_ bm bc bd
  clear bx bk by_ bm bc bd
  refine hK.out _ _ (by first | exact K6.out _ b6 (ZVS.out _ hb) | exact K6.out _ b6 (ZVP.out _ HP) | exact K6.out _ b6.drew (ZVS.out _ hb.drew)) (fun hHeld => ?_)
  clear hK K
  try simp only [Act.put, List.setIfInBounds_toArray, List.set_cons_zero, List.set_cons_succ]
  refine wpAnyZ_done (by kernel_rfl) ?_ _
  go_wp2_with fail
  go_end0
  obtain ⟨bx, bk, by_, bm, bc, bd⟩ := b6
  exact ⟨rfl, HP0.out.trans HP, _, _, _, _, bc, bd, bm, Na.mono HBS.out, Nb.mono HBS.out⟩
  exact AllReadyZ.nil
  exact AllReadyZ.nil
  exact AllReadyZ.nil
  exact AllReadyZ.nil
  exact AllReadyZ.nil
  exact AllReadyZ.nil
  refine AllReadyZ.cons (opAt rfl) (fun K hK => ?_) ?_
  go_simp
  replace b6 := b6.alloc (.cells #[.int .u64 v0] 22)
  replace b18 := b18.alloc (.cells #[.int .u64 v0] 22)
  replace r5 := r5.alloc (.cells #[.int .u64 v0] 22)
  replace r11 := r11.alloc (.cells #[.int .u64 v0] 22)
  replace hb := hb.alloc hb.size (.cells #[.int .u64 v0] 22)
  have b27 := Blk.new w3x 22 #[.int .u64 v0]
  generalize w3x.alloc (.cells #[.int .u64 v0] 22) = w4x at *
  generalize w3x.heap.size = g27 at *
  refine hK.out _ _ (by first | exact K6.out _ b6 (ZVS.out _ hb) | exact K6.out _ b6 (ZVP.out _ HP) | exact K6.out _ b6.drew (ZVS.out _ hb.drew)) (fun hHeld => ?_)
  clear hK K
  try simp only [Act.put, List.setIfInBounds_toArray, List.set_cons_zero, List.set_cons_succ]
  refine wpAnyZ_ready (rs := [14]) (by kernel_rfl) (by simp) ?_
  refine AllReadyZ.cons (opAt rfl) (fun K hK => ?_) ?_
  go_simp
  refine (node_yes _ _ _ _ l _ HLx1.out r5.sl r11.sl HR1.out).mono ?_
  rintro e w5x ⟨rfl, hb1⟩
  replace b6 := b6.below hb1 b6.lt
  replace b18 := b18.below hb1 b18.lt
  replace b27 := b27.below hb1 b27.lt
  replace r5 := r5.below hb1
  replace r11 := r11.below hb1
  replace hb := hb.trans (hb1.mono hb.size)
  clear hb1
  have Na : NdO w5x wS.heap.size (.agg #[.bool true, .slice Cr5 x1.length kr5, .slice Cr11 y1.length kr11, .int .u64 l]) true x1 y1 l := ⟨_, _, rfl, r5, r11⟩
  clear r5 r11
  try go_wp2_with fail
  refine hK.out _ _ (by first | exact K6.out _ b6 (ZVS.out _ hb) | exact K6.out _ b6 (ZVP.out _ HP) | exact K6.out _ b6.drew (ZVS.out _ hb.drew)) (fun hHeld => ?_)
  clear hK K
  try simp only [Act.put, List.setIfInBounds_toArray, List.set_cons_zero, List.set_cons_succ]
  refine wpAnyZ_ready (rs := [19]) (by kernel_rfl) (by simp) ?_
  refine AllReadyZ.cons (opAt rfl) (fun K hK => ?_) ?_
  go_simp
  refine (W1.out _ hb _ (sl_one b18)).mono ?_
  rintro e w6x ⟨⟨u, rfl, r19⟩, hb1⟩
  replace r19 := r19.mono (lo' := wS.heap.size) hb.size
  rw [← HX2.out] at r19
  replace b6 := b6.below hb1 b6.lt
  replace b18 := b18.below hb1 b18.lt
  replace b27 := b27.below hb1 b27.lt
  replace Na := Na.below hb1
  replace hb := hb.trans (hb1.mono hb.size)
  clear hb1
  obtain ⟨Cr19, kr19, rfl⟩ := r19.val
  try go_wp2_with fail
  refine hK.out _ _ (by first | exact K6.out _ b6 (ZVS.out _ hb) | exact K6.out _ b6 (ZVP.out _ HP) | exact K6.out _ b6.drew (ZVS.out _ hb.drew)) (fun hHeld => ?_)
  clear hK K
  try simp only [Act.put, List.setIfInBounds_toArray, List.set_cons_zero, List.set_cons_succ]
  refine wpAnyZ_ready (rs := [28]) (by kernel_rfl) (by simp) ?_
  refine AllReadyZ.cons (opAt rfl) (fun K hK => ?_) ?_
  go_simp
  refine (W2.out _ hb _ (sl_one b27)).mono ?_
  rintro e w7x ⟨⟨u, rfl, r28⟩, hb1⟩
  replace r28 := r28.mono (lo' := wS.heap.size) hb.size
  rw [← HY2.out] at r28
  replace b6 := b6.below hb1 b6.lt
  replace b18 := b18.below hb1 b18.lt
  replace b27 := b27.below hb1 b27.lt
  replace r19 := r19.below hb1
  replace Na := Na.below hb1
  replace hb := hb.trans (hb1.mono hb.size)
  clear hb1
  obtain ⟨Cr28, kr28, rfl⟩ := r28.val
  try go_wp2_with fail
  refine hK.out _ _ (by first | exact K6.out _ b6 (ZVS.out _ hb) | exact K6.out _ b6 (ZVP.out _ HP) | exact K6.out _ b6.drew (ZVS.out _ hb.drew)) (fun hHeld => ?_)
  clear hK K
  try simp only [Act.put, List.setIfInBounds_toArray, List.set_cons_zero, List.set_cons_succ]
  refine wpAnyZ_ready (rs := [31]) (by kernel_rfl) (by simp) ?_
  refine AllReadyZ.cons (opAt rfl) (fun K hK => ?_) ?_
  go_simp
  refine (node_yes _ _ _ _ l' _ HLx2.out r19.sl r28.sl HR2.out).mono ?_
  rintro e w8x ⟨rfl, hb1⟩
  replace b6 := b6.below hb1 b6.lt
  replace b18 := b18.below hb1 b18.lt
  replace b27 := b27.below hb1 b27.lt
  replace r19 := r19.below hb1
  replace r28 := r28.below hb1
  replace Na := Na.below hb1
  replace hb := hb.trans (hb1.mono hb.size)
  clear hb1
  have Nb : NdO w8x wS.heap.size (.agg #[.bool true, .slice Cr19 x2.length kr19, .slice Cr28 y2.length kr28, .int .u64 l']) true x2 y2 l' := ⟨_, _, rfl, r19, r28⟩
  clear r19 r28
  try go_wp2_with fail
  refine hK.out _ _ (by first | exact K6.out _ b6 (ZVS.out _ hb) | exact K6.out _ b6 (ZVP.out _ HP) | exact K6.out _ b6.drew (ZVS.out _ hb.drew)) (fun hHeld => ?_)
  clear hK K
  try simp only [Act.put, List.setIfInBounds_toArray, List.set_cons_zero, List.set_cons_succ]
  refine wpAnyZ_ready (rs := [32]) (by kernel_rfl) (by simp) ?_
  refine AllReadyZ.cons (opAt rfl) (fun K hK => ?_) ?_
  obtain ⟨bx, bk, by_, bm, bc, bd⟩ := b6
  have zo := fun i => bc.frozen i
  have mo := fun i => bc.cell i
  go_simp
  replace bx := bx.offN HXC.out (.bool true) (.slice Cr5 x1.length kr5) (.slice Cr11 y1.length kr11) (.int .u64 l)
  replace by_ := by_.offN HYC.out (.bool true) (.slice Cr5 x1.length kr5) (.slice Cr11 y1.length kr11) (.int .u64 l)
  replace bk := bk.offN HKC.out (.bool true) (.slice Cr5 x1.length kr5) (.slice Cr11 y1.length kr11) (.int .u64 l)
  replace bm := bm.offN HMC.out (.bool true) (.slice Cr5 x1.length kr5) (.slice Cr11 y1.length kr11) (.int .u64 l)
  replace bd := bd.offN HDC.out (.bool true) (.slice Cr5 x1.length kr5) (.slice Cr11 y1.length kr11) (.int .u64 l)
  replace Na := Na.setN bc (.bool true) (.slice Cr5 x1.length kr5) (.slice Cr11 y1.length kr11) (.int .u64 l)
  replace Nb := Nb.setN bc (.bool true) (.slice Cr5 x1.length kr5) (.slice Cr11 y1.length kr11) (.int .u64 l)
  have HP := (Part.of_below (os := [gm, gc, gd]) hb).setN (g := gc) (by simp) (.bool true) (.slice Cr5 x1.length kr5) (.slice Cr11 y1.length kr11) (.int .u64 l)
  clear hb
  replace bc := bc.setN (.bool true) (.slice Cr5 x1.length kr5) (.slice Cr11 y1.length kr11) (.int .u64 l)
  clear zo mo
  generalize ((((w8x).setCell ⟨gc, 0, none⟩ (.bool true)).setCell ⟨gc, 1, none⟩ (.slice Cr5 x1.length kr5)).setCell ⟨gc, 2, none⟩ (.slice Cr11 y1.length kr11)).setCell ⟨gc, 3, none⟩ (.int .u64 l) = w9x at *
  have b6 := Six.mk bx bk by_ bm bc bd
  clear bx bk by_ bm bc bd
  refine hK.out _ _ (by first | exact K6.out _ b6 (ZVS.out _ hb) | exact K6.out _ b6 (ZVP.out _ HP) | exact K6.out _ b6.drew (ZVS.out _ hb.drew)) (fun hHeld => ?_)
  clear hK K
  try simp only [Act.put, List.setIfInBounds_toArray, List.set_cons_zero, List.set_cons_succ]
  refine wpAnyZ_ready (rs := [33]) (by kernel_rfl) (by simp) ?_
  refine AllReadyZ.cons (opAt rfl) (fun K hK => ?_) ?_
  obtain ⟨bx, bk, by_, bm, bc, bd⟩ := b6
  have zo := fun i => bd.frozen i
  have mo := fun i => bd.cell i
  go_simp
  replace bx := bx.offN HXD.out (.bool true) (.slice Cr19 x2.length kr19) (.slice Cr28 y2.length kr28) (.int .u64 l')
  replace by_ := by_.offN HYD.out (.bool true) (.slice Cr19 x2.length kr19) (.slice Cr28 y2.length kr28) (.int .u64 l')
  replace bk := bk.offN HKD.out (.bool true) (.slice Cr19 x2.length kr19) (.slice Cr28 y2.length kr28) (.int .u64 l')
  replace bm := bm.offN HMD.out (.bool true) (.slice Cr19 x2.length kr19) (.slice Cr28 y2.length kr28) (.int .u64 l')
  replace bc := bc.offN HCD.out (.bool true) (.slice Cr19 x2.length kr19) (.slice Cr28 y2.length kr28) (.int .u64 l')
  replace Na := Na.setN bd (.bool true) (.slice Cr19 x2.length kr19) (.slice Cr28 y2.length kr28) (.int .u64 l')
  replace Nb := Nb.setN bd (.bool true) (.slice Cr19 x2.length kr19) (.slice Cr28 y2.length kr28) (.int .u64 l')
  replace HP := HP.setN (g := gd) (by simp) (.bool true) (.slice Cr19 x2.length kr19) (.slice Cr28 y2.length kr28) (.int .u64 l')
  replace bd := bd.setN (.bool true) (.slice Cr19 x2.length kr19) (.slice Cr28 y2.length kr28) (.int .u64 l')
  clear zo mo
  generalize ((((w9x).setCell ⟨gd, 0, none⟩ (.bool true)).setCell ⟨gd, 1, none⟩ (.slice Cr19 x2.length kr19)).setCell ⟨gd, 2, none⟩ (.slice Cr28 y2.length kr28)).setCell ⟨gd, 3, none⟩ (.int .u64 l') = w10x at *
  have b6 := Six.mk bx bk by_ bm bc bd
  clear bx bk by_ bm bc bd
  refine hK.out _ _ (by first | exact K6.out _ b6 (ZVS.out _ hb) | exact K6.out _ b6 (ZVP.out _ HP) | exact K6.out _ b6.drew (ZVS.out _ hb.drew)) (fun hHeld => ?_)
  clear hK K
  try simp only [Act.put, List.setIfInBounds_toArray, List.set_cons_zero, List.set_cons_succ]
  refine wpAnyZ_done (by kernel_rfl) ?_ _
  go_wp2_with fail
  go_end0
  obtain ⟨bx, bk, by_, bm, bc, bd⟩ := b6
  exact ⟨rfl, HP0.out.trans HP, _, _, _, _, bc, bd, bm, Na.mono HBS.out, Nb.mono HBS.out⟩
  exact AllReadyZ.nil
  exact AllReadyZ.nil
  exact AllReadyZ.nil
  exact AllReadyZ.nil
  exact AllReadyZ.nil
  exact AllReadyZ.nil
  exact AllReadyZ.nil
  refine AllReadyZ.cons (opAt rfl) (fun K hK => ?_) ?_
  go_simp
  replace b6 := b6.alloc (.cells #[.int .u64 v0] 22)
  replace b18 := b18.alloc (.cells #[.int .u64 v0] 22)
  replace r5 := r5.alloc (.cells #[.int .u64 v0] 22)
  replace hb := hb.alloc hb.size (.cells #[.int .u64 v0] 22)
  have b27 := Blk.new w2x 22 #[.int .u64 v0]
  generalize w2x.alloc (.cells #[.int .u64 v0] 22) = w3x at *
  generalize w2x.heap.size = g27 at *
  refine hK.out _ _ (by first | exact K6.out _ b6 (ZVS.out _ hb) | exact K6.out _ b6 (ZVP.out _ HP) | exact K6.out _ b6.drew (ZVS.out _ hb.drew)) (fun hHeld => ?_)
  clear hK K
  try simp only [Act.put, List.setIfInBounds_toArray, List.set_cons_zero, List.set_cons_succ]
  refine wpAnyZ_ready (rs := [11]) (by kernel_rfl) (by simp) ?_
  refine AllReadyZ.cons (opAt rfl) (fun K hK => ?_) ?_
  go_simp
  refine (W6.out _ hb).mono ?_
  rintro e w4x ⟨⟨u, rfl, r11⟩, hb1⟩
  replace r11 := r11.mono (lo' := wS.heap.size) hb.size
  rw [← HY1.out] at r11
  replace b6 := b6.below hb1 b6.lt
  replace b18 := b18.below hb1 b18.lt
  replace b27 := b27.below hb1 b27.lt
  replace r5 := r5.below hb1
  replace hb := hb.trans (hb1.mono hb.size)
  clear hb1
  obtain ⟨Cr11, kr11, rfl⟩ := r11.val
  try go_wp2_with fail
  refine hK.out _ _ (by first | exact K6.out _ b6 (ZVS.out _ hb) | exact K6.out _ b6 (ZVP.out _ HP) | exact K6.out _ b6.drew (ZVS.out _ hb.drew)) (fun hHeld => ?_)
  clear hK K
  try simp only [Act.put, List.setIfInBounds_toArray, List.set_cons_zero, List.set_cons_succ]
  refine wpAnyZ_ready (rs := [14]) (by kernel_rfl) (by simp) ?_
  refine AllReadyZ.cons (opAt rfl) (fun K hK => ?_) ?_
  go_simp
  refine (node_yes _ _ _ _ l _ HLx1.out r5.sl r11.sl HR1.out).mono ?_
  rintro e w5x ⟨rfl, hb1⟩
  replace b6 := b6.below hb1 b6.lt
  replace b18 := b18.below hb1 b18.lt
  replace b27 := b27.below hb1 b27.lt
  replace r5 := r5.below hb1
  replace r11 := r11.below hb1
  replace hb := hb.trans (hb1.mono hb.size)
  clear hb1
  have Na : NdO w5x wS.heap.size (.agg #[.bool true, .slice Cr5 x1.length kr5, .slice Cr11 y1.length kr11, .int .u64 l]) true x1 y1 l := ⟨_, _, rfl, r5, r11⟩
  clear r5 r11
  try go_wp2_with fail
  refine hK.out _ _ (by first | exact K6.out _ b6 (ZVS.out _ hb) | exact K6.out _ b6 (ZVP.out _ HP) | exact K6.out _ b6.drew (ZVS.out _ hb.drew)) (fun hHeld => ?_)
  clear hK K
  try simp only [Act.put, List.setIfInBounds_toArray, List.set_cons_zero, List.set_cons_succ]
  refine wpAnyZ_ready (rs := [19]) (by kernel_rfl) (by simp) ?_
  refine AllReadyZ.cons (opAt rfl) (fun K hK => ?_) ?_
  go_simp
  refine (W1.out _ hb _ (sl_one b18)).mono ?_
  rintro e w6x ⟨⟨u, rfl, r19⟩, hb1⟩
  replace r19 := r19.mono (lo' := wS.heap.size) hb.size
  rw [← HX2.out] at r19
  replace b6 := b6.below hb1 b6.lt
  replace b18 := b18.below hb1 b18.lt
  replace b27 := b27.below hb1 b27.lt
  replace Na := Na.below hb1
  replace hb := hb.trans (hb1.mono hb.size)
  clear hb1
  obtain ⟨Cr19, kr19, rfl⟩ := r19.val
  try go_wp2_with fail
  refine hK.out _ _ (by first | exact K6.out _ b6 (ZVS.out _ hb) | exact K6.out _ b6 (ZVP.out _ HP) | exact K6.out _ b6.drew (ZVS.out _ hb.drew)) (fun hHeld => ?_)
  clear hK K
  try simp only [Act.put, List.setIfInBounds_toArray, List.set_cons_zero, List.set_cons_succ]
  refine wpAnyZ_ready (rs := [28]) (by kernel_rfl) (by simp) ?_
  refine AllReadyZ.cons (opAt rfl) (fun K hK => ?_) ?_
  go_simp
  refine (W2.out _ hb _ (sl_one b27)).mono ?_
  rintro e w7x ⟨⟨u, rfl, r28⟩, hb1⟩
  replace r28 := r28.mono (lo' := wS.heap.size) hb.size
  rw [← HY2.out] at r28
  replace b6 := b6.below hb1 b6.lt
  replace b18 := b18.below hb1 b18.lt
  replace b27 := b27.below hb1 b27.lt
  replace r19 := r19.below hb1
  replace Na := Na.below hb1
  replace hb := hb.trans (hb1.mono hb.size)
  clear hb1
  obtain ⟨Cr28, kr28, rfl⟩ := r28.val
  try go_wp2_with fail
  refine hK.out _ _ (by first | exact K6.out _ b6 (ZVS.out _ hb) | exact K6.out _ b6 (ZVP.out _ HP) | exact K6.out _ b6.drew (ZVS.out _ hb.drew)) (fun hHeld => ?_)
  clear hK K
  try simp only [Act.put, List.setIfInBounds_toArray, List.set_cons_zero, List.set_cons_succ]
  refine wpAnyZ_ready (rs := [31]) (by kernel_rfl) (by simp) ?_
  refine AllReadyZ.cons (opAt rfl) (fun K hK => ?_) ?_
  go_simp
  refine (node_yes _ _ _ _ l' _ HLx2.out r19.sl r28.sl HR2.out).mono ?_
  rintro e w8x ⟨rfl, hb1⟩
  replace b6 := b6.below hb1 b6.lt
  replace b18 := b18.below hb1 b18.lt
  replace b27 := b27.below hb1 b27.lt
  replace r19 := r19.below hb1
  replace r28 := r28.below hb1
  replace Na := Na.below hb1
  replace hb := hb.trans (hb1.mono hb.size)
  clear hb1
  have Nb : NdO w8x wS.heap.size (.agg #[.bool true, .slice Cr19 x2.length kr19, .slice Cr28 y2.length kr28, .int .u64 l']) true x2 y2 l' := ⟨_, _, rfl, r19, r28⟩
  clear r19 r28
  try go_wp2_with fail
  refine hK.out _ _ (by first | exact K6.out _ b6 (ZVS.out _ hb) | exact K6.out _ b6 (ZVP.out _ HP) | exact K6.out _ b6.drew (ZVS.out _ hb.drew)) (fun hHeld => ?_)
  clear hK K
  try simp only [Act.put, List.setIfInBounds_toArray, List.set_cons_zero, List.set_cons_succ]
  refine wpAnyZ_ready (rs := [32]) (by kernel_rfl) (by simp) ?_
  refine AllReadyZ.cons (opAt rfl) (fun K hK => ?_) ?_
  obtain ⟨bx, bk, by_, bm, bc, bd⟩ := b6
  have zo := fun i => bc.frozen i
  have mo := fun i => bc.cell i
  go_simp
  replace bx := bx.offN HXC.out (.bool true) (.slice Cr5 x1.length kr5) (.slice Cr11 y1.length kr11) (.int .u64 l)
  replace by_ := by_.offN HYC.out (.bool true) (.slice Cr5 x1.length kr5) (.slice Cr11 y1.length kr11) (.int .u64 l)
  replace bk := bk.offN HKC.out (.bool true) (.slice Cr5 x1.length kr5) (.slice Cr11 y1.length kr11) (.int .u64 l)
  replace bm := bm.offN HMC.out (.bool true) (.slice Cr5 x1.length kr5) (.slice Cr11 y1.length kr11) (.int .u64 l)
  replace bd := bd.offN HDC.out (.bool true) (.slice Cr5 x1.length kr5) (.slice Cr11 y1.length kr11) (.int .u64 l)
  replace Na := Na.setN bc (.bool true) (.slice Cr5 x1.length kr5) (.slice Cr11 y1.length kr11) (.int .u64 l)
  replace Nb := Nb.setN bc (.bool true) (.slice Cr5 x1.length kr5) (.slice Cr11 y1.length kr11) (.int .u64 l)
  have HP := (Part.of_below (os := [gm, gc, gd]) hb).setN (g := gc) (by simp) (.bool true) (.slice Cr5 x1.length kr5) (.slice Cr11 y1.length kr11) (.int .u64 l)
  clear hb
  replace bc := bc.setN (.bool true) (.slice Cr5 x1.length kr5) (.slice Cr11 y1.length kr11) (.int .u64 l)
  clear zo mo
  generalize ((((w8x).setCell ⟨gc, 0, none⟩ (.bool true)).setCell ⟨gc, 1, none⟩ (.slice Cr5 x1.length kr5)).setCell ⟨gc, 2, none⟩ (.slice Cr11 y1.length kr11)).setCell ⟨gc, 3, none⟩ (.int .u64 l) = w9x at *
  have b6 := Six.mk bx bk by_ bm bc bd
  clear bx bk by_ bm bc bd
  refine hK.out _ _ (by first | exact K6.out _ b6 (ZVS.out _ hb) | exact K6.out _ b6 (ZVP.out _ HP) | exact K6.out _ b6.drew (ZVS.out _ hb.drew)) (fun hHeld => ?_)
  clear hK K
  try simp only [Act.put, List.setIfInBounds_toArray, List.set_cons_zero, List.set_cons_succ]
  refine wpAnyZ_ready (rs := [33]) (by kernel_rfl) (by simp) ?_
  refine AllReadyZ.cons (opAt rfl) (fun K hK => ?_) ?_
  obtain ⟨bx, bk, by_, bm, bc, bd⟩ := b6
  have zo := fun i => bd.frozen i
  have mo := fun i => bd.cell i
  go_simp
  replace bx := bx.offN HXD.out (.bool true) (.slice Cr19 x2.length kr19) (.slice Cr28 y2.length kr28) (.int .u64 l')
  replace by_ := by_.offN HYD.out (.bool true) (.slice Cr19 x2.length kr19) (.slice Cr28 y2.length kr28) (.int .u64 l')
  replace bk := bk.offN HKD.out (.bool true) (.slice Cr19 x2.length kr19) (.slice Cr28 y2.length kr28) (.int .u64 l')
  replace bm := bm.offN HMD.out (.bool true) (.slice Cr19 x2.length kr19) (.slice Cr28 y2.length kr28) (.int .u64 l')
  replace bc := bc.offN HCD.out (.bool true) (.slice Cr19 x2.length kr19) (.slice Cr28 y2.length kr28) (.int .u64 l')
  replace Na := Na.setN bd (.bool true) (.slice Cr19 x2.length kr19) (.slice Cr28 y2.length kr28) (.int .u64 l')
  replace Nb := Nb.setN bd (.bool true) (.slice Cr19 x2.length kr19) (.slice Cr28 y2.length kr28) (.int .u64 l')
  replace HP := HP.setN (g := gd) (by simp) (.bool true) (.slice Cr19 x2.length kr19) (.slice Cr28 y2.length kr28) (.int .u64 l')
  replace bd := bd.setN (.bool true) (.slice Cr19 x2.length kr19) (.slice Cr28 y2.length kr28) (.int .u64 l')
  clear zo mo
  generalize ((((w9x).setCell ⟨gd, 0, none⟩ (.bool true)).setCell ⟨gd, 1, none⟩ (.slice Cr19 x2.length kr19)).setCell ⟨gd, 2, none⟩ (.slice Cr28 y2.length kr28)).setCell ⟨gd, 3, none⟩ (.int .u64 l') = w10x at *
  have b6 := Six.mk bx bk by_ bm bc bd
  clear bx bk by_ bm bc bd
  refine hK.out _ _ (by first | exact K6.out _ b6 (ZVS.out _ hb) | exact K6.out _ b6 (ZVP.out _ HP) | exact K6.out _ b6.drew (ZVS.out _ hb.drew)) (fun hHeld => ?_)
  clear hK K
  try simp only [Act.put, List.setIfInBounds_toArray, List.set_cons_zero, List.set_cons_succ]
  refine wpAnyZ_done (by kernel_rfl) ?_ _
  go_wp2_with fail
  go_end0
  obtain ⟨bx, bk, by_, bm, bc, bd⟩ := b6
  exact ⟨rfl, HP0.out.trans HP, _, _, _, _, bc, bd, bm, Na.mono HBS.out, Nb.mono HBS.out⟩
  exact AllReadyZ.nil
  exact AllReadyZ.nil
  exact AllReadyZ.nil
  exact AllReadyZ.nil
  exact AllReadyZ.nil
  exact AllReadyZ.nil
  exact AllReadyZ.nil
  exact AllReadyZ.nil
  refine AllReadyZ.cons (opAt rfl) (fun K hK => ?_) ?_
  go_simp
  replace b6 := b6.alloc (.cells #[.int .u64 v0] 22)
  replace r5 := r5.alloc (.cells #[.int .u64 v0] 22)
  replace hb := hb.alloc hb.size (.cells #[.int .u64 v0] 22)
  have b27 := Blk.new w1x 22 #[.int .u64 v0]
  generalize w1x.alloc (.cells #[.int .u64 v0] 22) = w2x at *
  generalize w1x.heap.size = g27 at *
  refine hK.out _ _ (by first | exact K6.out _ b6 (ZVS.out _ hb) | exact K6.out _ b6 (ZVP.out _ HP) | exact K6.out _ b6.drew (ZVS.out _ hb.drew)) (fun hHeld => ?_)
  clear hK K
  try simp only [Act.put, List.setIfInBounds_toArray, List.set_cons_zero, List.set_cons_succ]
  refine wpAnyZ_ready (rs := [11, 18]) (by kernel_rfl) (by simp) ?_
  refine AllReadyZ.cons (opAt rfl) (fun K hK => ?_) ?_
  go_simp
  refine (W6.out _ hb).mono ?_
  rintro e w3x ⟨⟨u, rfl, r11⟩, hb1⟩
  replace r11 := r11.mono (lo' := wS.heap.size) hb.size
  rw [← HY1.out] at r11
  replace b6 := b6.below hb1 b6.lt
  replace b27 := b27.below hb1 b27.lt
  replace r5 := r5.below hb1
  replace hb := hb.trans (hb1.mono hb.size)
  clear hb1
  obtain ⟨Cr11, kr11, rfl⟩ := r11.val
  try go_wp2_with fail
  refine hK.out _ _ (by first | exact K6.out _ b6 (ZVS.out _ hb) | exact K6.out _ b6 (ZVP.out _ HP) | exact K6.out _ b6.drew (ZVS.out _ hb.drew)) (fun hHeld => ?_)
  clear hK K
  try simp only [Act.put, List.setIfInBounds_toArray, List.set_cons_zero, List.set_cons_succ]
  refine wpAnyZ_ready (rs := [14, 18]) (by kernel_rfl) (by simp) ?_
  refine AllReadyZ.cons (opAt rfl) (fun K hK => ?_) ?_
  go_simp
  refine (node_yes _ _ _ _ l _ HLx1.out r5.sl r11.sl HR1.out).mono ?_
  rintro e w4x ⟨rfl, hb1⟩
  replace b6 := b6.below hb1 b6.lt
  replace b27 := b27.below hb1 b27.lt
  replace r5 := r5.below hb1
  replace r11 := r11.below hb1
  replace hb := hb.trans (hb1.mono hb.size)
  clear hb1
  have Na : NdO w4x wS.heap.size (.agg #[.bool true, .slice Cr5 x1.length kr5, .slice Cr11 y1.length kr11, .int .u64 l]) true x1 y1 l := ⟨_, _, rfl, r5, r11⟩
  clear r5 r11
  try go_wp2_with fail
  refine hK.out _ _ (by first | exact K6.out _ b6 (ZVS.out _ hb) | exact K6.out _ b6 (ZVP.out _ HP) | exact K6.out _ b6.drew (ZVS.out _ hb.drew)) (fun hHeld => ?_)
  clear hK K
  try simp only [Act.put, List.setIfInBounds_toArray, List.set_cons_zero, List.set_cons_succ]
  refine wpAnyZ_ready (rs := [18]) (by kernel_rfl) (by simp) ?_
  refine AllReadyZ.cons (opAt rfl) (fun K hK => ?_) ?_
  go_simp
  replace b6 := b6.alloc (.cells #[.int .u64 key] 22)
  replace b27 := b27.alloc (.cells #[.int .u64 key] 22)
  replace Na := Na.below ((Below.refl _ _).alloc (Nat.le_refl _) (.cells #[.int .u64 key] 22))
  replace hb := hb.alloc hb.size (.cells #[.int .u64 key] 22)
  have b18 := Blk.new w4x 22 #[.int .u64 key]
  generalize w4x.alloc (.cells #[.int .u64 key] 22) = w5x at *
  generalize w4x.heap.size = g18 at *
  refine hK.out _ _ (by first | exact K6.out _ b6 (ZVS.out _ hb) | exact K6.out _ b6 (ZVP.out _ HP) | exact K6.out _ b6.drew (ZVS.out _ hb.drew)) (fun hHeld => ?_)
  clear hK K
  try simp only [Act.put, List.setIfInBounds_toArray, List.set_cons_zero, List.set_cons_succ]
  refine wpAnyZ_ready (rs := [19]) (by kernel_rfl) (by simp) ?_
  refine AllReadyZ.cons (opAt rfl) (fun K hK => ?_) ?_
  go_simp
  refine (W1.out _ hb _ (sl_one b18)).mono ?_
  rintro e w6x ⟨⟨u, rfl, r19⟩, hb1⟩
  replace r19 := r19.mono (lo' := wS.heap.size) hb.size
  rw [← HX2.out] at r19
  replace b6 := b6.below hb1 b6.lt
  replace b27 := b27.below hb1 b27.lt
  replace b18 := b18.below hb1 b18.lt
  replace Na := Na.below hb1
  replace hb := hb.trans (hb1.mono hb.size)
  clear hb1
  obtain ⟨Cr19, kr19, rfl⟩ := r19.val
  try go_wp2_with fail
  refine hK.out _ _ (by first | exact K6.out _ b6 (ZVS.out _ hb) | exact K6.out _ b6 (ZVP.out _ HP) | exact K6.out _ b6.drew (ZVS.out _ hb.drew)) (fun hHeld => ?_)
  clear hK K
  try simp only [Act.put, List.setIfInBounds_toArray, List.set_cons_zero, List.set_cons_succ]
  refine wpAnyZ_ready (rs := [28]) (by kernel_rfl) (by simp) ?_
  refine AllReadyZ.cons (opAt rfl) (fun K hK => ?_) ?_
  go_simp
  refine (W2.out _ hb _ (sl_one b27)).mono ?_
  rintro e w7x ⟨⟨u, rfl, r28⟩, hb1⟩
  replace r28 := r28.mono (lo' := wS.heap.size) hb.size
  rw [← HY2.out] at r28
  replace b6 := b6.below hb1 b6.lt
  replace b27 := b27.below hb1 b27.lt
  replace b18 := b18.below hb1 b18.lt
  replace r19 := r19.below hb1
  replace Na := Na.below hb1
  replace hb := hb.trans (hb1.mono hb.size)
  clear hb1
  obtain ⟨Cr28, kr28, rfl⟩ := r28.val
  try go_wp2_with fail
  refine hK.out _ _ (by first | exact K6.out _ b6 (ZVS.out _ hb) | exact K6.out _ b6 (ZVP.out _ HP) | exact K6.out _ b6.drew (ZVS.out _ hb.drew)) (fun hHeld => ?_)
  clear hK K
  try simp only [Act.put, List.setIfInBounds_toArray, List.set_cons_zero, List.set_cons_succ]
  refine wpAnyZ_ready (rs := [31]) (by kernel_rfl) (by simp) ?_
  refine AllReadyZ.cons (opAt rfl) (fun K hK => ?_) ?_
  go_simp
  refine (node_yes _ _ _ _ l' _ HLx2.out r19.sl r28.sl HR2.out).mono ?_
  rintro e w8x ⟨rfl, hb1⟩
  replace b6 := b6.below hb1 b6.lt
  replace b27 := b27.below hb1 b27.lt
  replace b18 := b18.below hb1 b18.lt
  replace r19 := r19.below hb1
  replace r28 := r28.below hb1
  replace Na := Na.below hb1
  replace hb := hb.trans (hb1.mono hb.size)
  clear hb1
  have Nb : NdO w8x wS.heap.size (.agg #[.bool true, .slice Cr19 x2.length kr19, .slice Cr28 y2.length kr28, .int .u64 l']) true x2 y2 l' := ⟨_, _, rfl, r19, r28⟩
  clear r19 r28
  try go_wp2_with fail
  refine hK.out _ _ (by first | exact K6.out _ b6 (ZVS.out _ hb) | exact K6.out _ b6 (ZVP.out _ HP) | exact K6.out _ b6.drew (ZVS.out _ hb.drew)) (fun hHeld => ?_)
  clear hK K
  try simp only [Act.put, List.setIfInBounds_toArray, List.set_cons_zero, List.set_cons_succ]
  refine wpAnyZ_ready (rs := [32]) (by kernel_rfl) (by simp) ?_
  refine AllReadyZ.cons (opAt rfl) (fun K hK => ?_) ?_
  obtain ⟨bx, bk, by_, bm, bc, bd⟩ := b6
  have zo := fun i => bc.frozen i
  have mo := fun i => bc.cell i
  go_simp
  replace bx := bx.offN HXC.out (.bool true) (.slice Cr5 x1.length kr5) (.slice Cr11 y1.length kr11) (.int .u64 l)
  replace by_ := by_.offN HYC.out (.bool true) (.slice Cr5 x1.length kr5) (.slice Cr11 y1.length kr11) (.int .u64 l)
  replace bk := bk.offN HKC.out (.bool true) (.slice Cr5 x1.length kr5) (.slice Cr11 y1.length kr11) (.int .u64 l)
  replace bm := bm.offN HMC.out (.bool true) (.slice Cr5 x1.length kr5) (.slice Cr11 y1.length kr11) (.int .u64 l)
  replace bd := bd.offN HDC.out (.bool true) (.slice Cr5 x1.length kr5) (.slice Cr11 y1.length kr11) (.int .u64 l)
  replace Na := Na.setN bc (.bool true) (.slice Cr5 x1.length kr5) (.slice Cr11 y1.length kr11) (.int .u64 l)
  replace Nb := Nb.setN bc (.bool true) (.slice Cr5 x1.length kr5) (.slice Cr11 y1.length kr11) (.int .u64 l)
  have HP := (Part.of_below (os := [gm, gc, gd]) hb).setN (g := gc) (by simp) (.bool true) (.slice Cr5 x1.length kr5) (.slice Cr11 y1.length kr11) (.int .u64 l)
  clear hb
  replace bc := bc.setN (.bool true) (.slice Cr5 x1.length kr5) (.slice Cr11 y1.length kr11) (.int .u64 l)
  clear zo mo
  generalize ((((w8x).setCell ⟨gc, 0, none⟩ (.bool true)).setCell ⟨gc, 1, none⟩ (.slice Cr5 x1.length kr5)).setCell ⟨gc, 2, none⟩ (.slice Cr11 y1.length kr11)).setCell ⟨gc, 3, none⟩ (.int .u64 l) = w9x at *
  have b6 := Six.mk bx bk by_ bm bc bd
  clear bx bk by_ bm bc bd
  refine hK.out _ _ (by first | exact K6.out _ b6 (ZVS.out _ hb) | exact K6.out _ b6 (ZVP.out _ HP) | exact K6.out _ b6.drew (ZVS.out _ hb.drew)) (fun hHeld => ?_)
  clear hK K
  try simp only [Act.put, List.setIfInBounds_toArray, List.set_cons_zero, List.set_cons_succ]
  refine wpAnyZ_ready (rs := [33]) (by kernel_rfl) (by simp) ?_
  refine AllReadyZ.cons (opAt rfl) (fun K hK => ?_) ?_
  obtain ⟨bx, bk, by_, bm, bc, bd⟩ := b6
  have zo := fun i => bd.frozen i
  have mo := fun i => bd.cell i
  go_simp
  replace bx := bx.offN HXD.out (.bool true) (.slice Cr19 x2.length kr19) (.slice Cr28 y2.length kr28) (.int .u64 l')
  replace by_ := by_.offN HYD.out (.bool true) (.slice Cr19 x2.length kr19) (.slice Cr28 y2.length kr28) (.int .u64 l')
  replace bk := bk.offN HKD.out (.bool true) (.slice Cr19 x2.length kr19) (.slice Cr28 y2.length kr28) (.int .u64 l')
  replace bm := bm.offN HMD.out (.bool true) (.slice Cr19 x2.length kr19) (.slice Cr28 y2.length kr28) (.int .u64 l')
  replace bc := bc.offN HCD.out (.bool true) (.slice Cr19 x2.length kr19) (.slice Cr28 y2.length kr28) (.int .u64 l')
  replace Na := Na.setN bd (.bool true) (.slice Cr19 x2.length kr19) (.slice Cr28 y2.length kr28) (.int .u64 l')
  replace Nb := Nb.setN bd (.bool true) (.slice Cr19 x2.length kr19) (.slice Cr28 y2.length kr28) (.int .u64 l')
  replace HP := HP.setN (g := gd) (by simp) (.bool true) (.slice Cr19 x2.length kr19) (.slice Cr28 y2.length kr28) (.int .u64 l')
  replace bd := bd.setN (.bool true) (.slice Cr19 x2.length kr19) (.slice Cr28 y2.length kr28) (.int .u64 l')
  clear zo mo
  generalize ((((w9x).setCell ⟨gd, 0, none⟩ (.bool true)).setCell ⟨gd, 1, none⟩ (.slice Cr19 x2.length kr19)).setCell ⟨gd, 2, none⟩ (.slice Cr28 y2.length kr28)).setCell ⟨gd, 3, none⟩ (.int .u64 l') = w10x at *
  have b6 := Six.mk bx bk by_ bm bc bd
  clear bx bk by_ bm bc bd
  refine hK.out _ _ (by first | exact K6.out _ b6 (ZVS.out _ hb) | exact K6.out _ b6 (ZVP.out _ HP) | exact K6.out _ b6.drew (ZVS.out _ hb.drew)) (fun hHeld => ?_)
  clear hK K
  try simp only [Act.put, List.setIfInBounds_toArray, List.set_cons_zero, List.set_cons_succ]
  refine wpAnyZ_done (by kernel_rfl) ?_ _
  go_wp2_with fail
  go_end0
  obtain ⟨bx, bk, by_, bm, bc, bd⟩ := b6
  exact ⟨rfl, HP0.out.trans HP, _, _, _, _, bc, bd, bm, Na.mono HBS.out, Nb.mono HBS.out⟩
  exact AllReadyZ.nil
  exact AllReadyZ.nil
  exact AllReadyZ.nil
  exact AllReadyZ.nil
  exact AllReadyZ.nil
  exact AllReadyZ.nil
  refine AllReadyZ.cons (opAt rfl) (fun K hK => ?_) ?_
  go_simp
  replace b6 := b6.alloc (.cells #[.int .u64 key] 22)
  replace b27 := b27.alloc (.cells #[.int .u64 key] 22)
  replace r5 := r5.alloc (.cells #[.int .u64 key] 22)
  replace r11 := r11.alloc (.cells #[.int .u64 key] 22)
  replace hb := hb.alloc hb.size (.cells #[.int .u64 key] 22)
  have b18 := Blk.new w3x 22 #[.int .u64 key]
  generalize w3x.alloc (.cells #[.int .u64 key] 22) = w4x at *
  generalize w3x.heap.size = g18 at *
  refine hK.out _ _ (by first | exact K6.out _ b6 (ZVS.out _ hb) | exact K6.out _ b6 (ZVP.out _ HP) | exact K6.out _ b6.drew (ZVS.out _ hb.drew)) (fun hHeld => ?_)
  clear hK K
  try simp only [Act.put, List.setIfInBounds_toArray, List.set_cons_zero, List.set_cons_succ]
  refine wpAnyZ_ready (rs := [14]) (by kernel_rfl) (by simp) ?_
  refine AllReadyZ.cons (opAt rfl) (fun K hK => ?_) ?_
  go_simp
  refine (node_yes _ _ _ _ l _ HLx1.out r5.sl r11.sl HR1.out).mono ?_
  rintro e w5x ⟨rfl, hb1⟩
  replace b6 := b6.below hb1 b6.lt
  replace b27 := b27.below hb1 b27.lt
  replace b18 := b18.below hb1 b18.lt
  replace r5 := r5.below hb1
  replace r11 := r11.below hb1
  replace hb := hb.trans (hb1.mono hb.size)
  clear hb1
  have Na : NdO w5x wS.heap.size (.agg #[.bool true, .slice Cr5 x1.length kr5, .slice Cr11 y1.length kr11, .int .u64 l]) true x1 y1 l := ⟨_, _, rfl, r5, r11⟩
  clear r5 r11
  try go_wp2_with fail
  refine hK.out _ _ (by first | exact K6.out _ b6 (ZVS.out _ hb) | exact K6.out _ b6 (ZVP.out _ HP) | exact K6.out _ b6.drew (ZVS.out _ hb.drew)) (fun hHeld => ?_)
  clear hK K
  try simp only [Act.put, List.setIfInBounds_toArray, List.set_cons_zero, List.set_cons_succ]
  refine wpAnyZ_ready (rs := [19]) (by kernel_rfl) (by simp) ?_
  refine AllReadyZ.cons (opAt rfl) (fun K hK => ?_) ?_
  go_simp
  refine (W1.out _ hb _ (sl_one b18)).mono ?_
  rintro e w6x ⟨⟨u, rfl, r19⟩, hb1⟩
  replace r19 := r19.mono (lo' := wS.heap.size) hb.size
  rw [← HX2.out] at r19
  replace b6 := b6.below hb1 b6.lt
  replace b27 := b27.below hb1 b27.lt
  replace b18 := b18.below hb1 b18.lt
  replace Na := Na.below hb1
  replace hb := hb.trans (hb1.mono hb.size)
  clear hb1
  obtain ⟨Cr19, kr19, rfl⟩ := r19.val
  try go_wp2_with fail
  refine hK.out _ _ (by first | exact K6.out _ b6 (ZVS.out _ hb) | exact K6.out _ b6 (ZVP.out _ HP) | exact K6.out _ b6.drew (ZVS.out _ hb.drew)) (fun hHeld => ?_)
  clear hK K
  try simp only [Act.put, List.setIfInBounds_toArray, List.set_cons_zero, List.set_cons_succ]
  refine wpAnyZ_ready (rs := [28]) (by kernel_rfl) (by simp) ?_
  refine AllReadyZ.cons (opAt rfl) (fun K hK => ?_) ?_
  go_simp
  refine (W2.out _ hb _ (sl_one b27)).mono ?_
  rintro e w7x ⟨⟨u, rfl, r28⟩, hb1⟩
  replace r28 := r28.mono (lo' := wS.heap.size) hb.size
  rw [← HY2.out] at r28
  replace b6 := b6.below hb1 b6.lt
  replace b27 := b27.below hb1 b27.lt
  replace b18 := b18.below hb1 b18.lt
  replace r19 := r19.below hb1
  replace Na := Na.below hb1
  replace hb := hb.trans (hb1.mono hb.size)
  clear hb1
  obtain ⟨Cr28, kr28, rfl⟩ := r28.val
  try go_wp2_with fail
  refine hK.out _ _ (by first | exact K6.out _ b6 (ZVS.out _ hb) | exact K6.out _ b6 (ZVP.out _ HP) | exact K6.out _ b6.drew (ZVS.out _ hb.drew)) (fun hHeld => ?_)
  clear hK K
  try simp only [Act.put, List.setIfInBounds_toArray, List.set_cons_zero, List.set_cons_succ]
  refine wpAnyZ_ready (rs := [31]) (by kernel_rfl) (by simp) ?_
  refine AllReadyZ.cons (opAt rfl) (fun K hK => ?_) ?_
  go_simp
  refine (node_yes _ _ _ _ l' _ HLx2.out r19.sl r28.sl HR2.out).mono ?_
  rintro e w8x ⟨rfl, hb1⟩
  replace b6 := b6.below hb1 b6.lt
  replace b27 := b27.below hb1 b27.lt
  replace b18 := b18.below hb1 b18.lt
  replace r19 := r19.below hb1
  replace r28 := r28.below hb1
  replace Na := Na.below hb1
  replace hb := hb.trans (hb1.mono hb.size)
  clear hb1
  have Nb : NdO w8x wS.heap.size (.agg #[.bool true, .slice Cr19 x2.length kr19, .slice Cr28 y2.length kr28, .int .u64 l']) true x2 y2 l' := ⟨_, _, rfl, r19, r28⟩
  clear r19 r28
  try go_wp2_with fail
  refine hK.out _ _ (by first | exact K6.out _ b6 (ZVS.out _ hb) | exact K6.out _ b6 (ZVP.out _ HP) | exact K6.out _ b6.drew (ZVS.out _ hb.drew)) (fun hHeld => ?_)
  clear hK K
  try simp only [Act.put, List.setIfInBounds_toArray, List.set_cons_zero, List.set_cons_succ]
  refine wpAnyZ_ready (rs := [32]) (by kernel_rfl) (by simp) ?_
  refine AllReadyZ.cons (opAt rfl) (fun K hK => ?_) ?_
  obtain ⟨bx, bk, by_, bm, bc, bd⟩ := b6
  have zo := fun i => bc.frozen i
  have mo := fun i => bc.cell i
  go_simp
  replace bx := bx.offN HXC.out (.bool true) (.slice Cr5 x1.length kr5) (.slice Cr11 y1.length kr11) (.int .u64 l)
  replace by_ := by_.offN HYC.out (.bool true) (.slice Cr5 x1.length kr5) (.slice Cr11 y1.length kr11) (.int .u64 l)
  replace bk := bk.offN HKC.out (.bool true) (.slice Cr5 x1.length kr5) (.slice Cr11 y1.length kr11) (.int .u64 l)
  replace bm := bm.offN HMC.out (.bool true) (.slice Cr5 x1.length kr5) (.slice Cr11 y1.length kr11) (.int .u64 l)
  replace bd := bd.offN HDC.out (.bool true) (.slice Cr5 x1.length kr5) (.slice Cr11 y1.length kr11) (.int .u64 l)
  replace Na := Na.setN bc (.bool true) (.slice Cr5 x1.length kr5) (.slice Cr11 y1.length kr11) (.int .u64 l)
  replace Nb := Nb.setN bc (.bool true) (.slice Cr5 x1.length kr5) (.slice Cr11 y1.length kr11) (.int .u64 l)
  have HP := (Part.of_below (os := [gm, gc, gd]) hb).setN (g := gc) (by simp) (.bool true) (.slice Cr5 x1.length kr5) (.slice Cr11 y1.length kr11) (.int .u64 l)
  clear hb
  replace bc := bc.setN (.bool true) (.slice Cr5 x1.length kr5) (.slice Cr11 y1.length kr11) (.int .u64 l)
  clear zo mo
  generalize ((((w8x).setCell ⟨gc, 0, none⟩ (.bool true)).setCell ⟨gc, 1, none⟩ (.slice Cr5 x1.length kr5)).setCell ⟨gc, 2, none⟩ (.slice Cr11 y1.length kr11)).setCell ⟨gc, 3, none⟩ (.int .u64 l) = w9x at *
  have b6 := Six.mk bx bk by_ bm bc bd
  clear bx bk by_ bm bc bd
  refine hK.out _ _ (by first | exact K6.out _ b6 (ZVS.out _ hb) | exact K6.out _ b6 (ZVP.out _ HP) | exact K6.out _ b6.drew (ZVS.out _ hb.drew)) (fun hHeld => ?_)
  clear hK K
  try simp only [Act.put, List.setIfInBounds_toArray, List.set_cons_zero, List.set_cons_succ]
  refine wpAnyZ_ready (rs := [33]) (by kernel_rfl) (by simp) ?_
  refine AllReadyZ.cons (opAt rfl) (fun K hK => ?_) ?_
  obtain ⟨bx, bk, by_, bm, bc, bd⟩ := b6
  have zo := fun i => bd.frozen i
  have mo := fun i => bd.cell i
  go_simp
  replace bx := bx.offN HXD.out (.bool true) (.slice Cr19 x2.length kr19) (.slice Cr28 y2.length kr28) (.int .u64 l')
  replace by_ := by_.offN HYD.out (.bool true) (.slice Cr19 x2.length kr19) (.slice Cr28 y2.length kr28) (.int .u64 l')
  replace bk := bk.offN HKD.out (.bool true) (.slice Cr19 x2.length kr19) (.slice Cr28 y2.length kr28) (.int .u64 l')
  replace bm := bm.offN HMD.out (.bool true) (.slice Cr19 x2.length kr19) (.slice Cr28 y2.length kr28) (.int .u64 l')
  replace bc := bc.offN HCD.out (.bool true) (.slice Cr19 x2.length kr19) (.slice Cr28 y2.length kr28) (.int .u64 l')
  replace Na := Na.setN bd (.bool true) (.slice Cr19 x2.length kr19) (.slice Cr28 y2.length kr28) (.int .u64 l')
  replace Nb := Nb.setN bd (.bool true) (.slice Cr19 x2.length kr19) (.slice Cr28 y2.length kr28) (.int .u64 l')
  replace HP := HP.setN (g := gd) (by simp) (.bool true) (.slice Cr19 x2.length kr19) (.slice Cr28 y2.length kr28) (.int .u64 l')
  replace bd := bd.setN (.bool true) (.slice Cr19 x2.length kr19) (.slice Cr28 y2.length kr28) (.int .u64 l')
  clear zo mo
  generalize ((((w9x).setCell ⟨gd, 0, none⟩ (.bool true)).setCell ⟨gd, 1, none⟩ (.slice Cr19 x2.length kr19)).setCell ⟨gd, 2, none⟩ (.slice Cr28 y2.length kr28)).setCell ⟨gd, 3, none⟩ (.int .u64 l') = w10x at *
  have b6 := Six.mk bx bk by_ bm bc bd
  clear bx bk by_ bm bc bd
  refine hK.out _ _ (by first | exact K6.out _ b6 (ZVS.out _ hb) | exact K6.out _ b6 (ZVP.out _ HP) | exact K6.out _ b6.drew (ZVS.out _ hb.drew)) (fun hHeld => ?_)
  clear hK K
  try simp only [Act.put, List.setIfInBounds_toArray, List.set_cons_zero, List.set_cons_succ]
  refine wpAnyZ_done (by kernel_rfl) ?_ _
  go_wp2_with fail
  go_end0
  obtain ⟨bx, bk, by_, bm, bc, bd⟩ := b6
  exact ⟨rfl, HP0.out.trans HP, _, _, _, _, bc, bd, bm, Na.mono HBS.out, Nb.mono HBS.out⟩
  exact AllReadyZ.nil
  exact AllReadyZ.nil
  exact AllReadyZ.nil
  exact AllReadyZ.nil
  exact AllReadyZ.nil
  exact AllReadyZ.nil
  exact AllReadyZ.nil
  refine AllReadyZ.cons (opAt rfl) (fun K hK => ?_) ?_
  go_simp
  replace b6 := b6.alloc (.cells #[.int .u64 key] 22)
  replace b27 := b27.alloc (.cells #[.int .u64 key] 22)
  replace r5 := r5.alloc (.cells #[.int .u64 key] 22)
  replace hb := hb.alloc hb.size (.cells #[.int .u64 key] 22)
  have b18 := Blk.new w2x 22 #[.int .u64 key]
  generalize w2x.alloc (.cells #[.int .u64 key] 22) = w3x at *
  generalize w2x.heap.size = g18 at *
  refine hK.out _ _ (by first | exact K6.out _ b6 (ZVS.out _ hb) | exact K6.out _ b6 (ZVP.out _ HP) | exact K6.out _ b6.drew (ZVS.out _ hb.drew)) (fun hHeld => ?_)
  clear hK K
  try simp only [Act.put, List.setIfInBounds_toArray, List.set_cons_zero, List.set_cons_succ]
  refine wpAnyZ_ready (rs := [11]) (by kernel_rfl) (by simp) ?_
  refine AllReadyZ.cons (opAt rfl) (fun K hK => ?_) ?_
  go_simp
  refine (W6.out _ hb).mono ?_
  rintro e w4x ⟨⟨u, rfl, r11⟩, hb1⟩
  replace r11 := r11.mono (lo' := wS.heap.size) hb.size
  rw [← HY1.out] at r11
  replace b6 := b6.below hb1 b6.lt
  replace b27 := b27.below hb1 b27.lt
  replace b18 := b18.below hb1 b18.lt
  replace r5 := r5.below hb1
  replace hb := hb.trans (hb1.mono hb.size)
  clear hb1
  obtain ⟨Cr11, kr11, rfl⟩ := r11.val
  try go_wp2_with fail
  refine hK.out _ _ (by first | exact K6.out _ b6 (ZVS.out _ hb) | exact K6.out _ b6 (ZVP.out _ HP) | exact K6.out _ b6.drew (ZVS.out _ hb.drew)) (fun hHeld => ?_)
  clear hK K
  try simp only [Act.put, List.setIfInBounds_toArray, List.set_cons_zero, List.set_cons_succ]
  refine wpAnyZ_ready (rs := [14]) (by kernel_rfl) (by simp) ?_
  refine AllReadyZ.cons (opAt rfl) (fun K hK => ?_) ?_
  go_simp
  refine (node_yes _ _ _ _ l _ HLx1.out r5.sl r11.sl HR1.out).mono ?_
  rintro e w5x ⟨rfl, hb1⟩
  replace b6 := b6.below hb1 b6.lt
  replace b27 := b27.below hb1 b27.lt
  replace b18 := b18.below hb1 b18.lt
  replace r5 := r5.below hb1
  replace r11 := r11.below hb1
  replace hb := hb.trans (hb1.mono hb.size)
  clear hb1
  have Na : NdO w5x wS.heap.size (.agg #[.bool true, .slice Cr5 x1.length kr5, .slice Cr11 y1.length kr11, .int .u64 l]) true x1 y1 l := ⟨_, _, rfl, r5, r11⟩
  clear r5 r11
  try go_wp2_with fail
  refine hK.out _ _ (by first | exact K6.out _ b6 (ZVS.out _ hb) | exact K6.out _ b6 (ZVP.out _ HP) | exact K6.out _ b6.drew (ZVS.out _ hb.drew)) (fun hHeld => ?_)
  clear hK K
  try simp only [Act.put, List.setIfInBounds_toArray, List.set_cons_zero, List.set_cons_succ]
  refine wpAnyZ_ready (rs := [19]) (by kernel_rfl) (by simp) ?_
  refine AllReadyZ.cons (opAt rfl) (fun K hK => ?_) ?_
  go_simp
  refine (W1.out _ hb _ (sl_one b18)).mono ?_
  rintro e w6x ⟨⟨u, rfl, r19⟩, hb1⟩
  replace r19 := r19.mono (lo' := wS.heap.size) hb.size
  rw [← HX2.out] at r19
  replace b6 := b6.below hb1 b6.lt
  replace b27 := b27.below hb1 b27.lt
  replace b18 := b18.below hb1 b18.lt
  replace Na := Na.below hb1
  replace hb := hb.trans (hb1.mono hb.size)
  clear hb1
  obtain ⟨Cr19, kr19, rfl⟩ := r19.val
  try go_wp2_with fail
  refine hK.out _ _ (by first | exact K6.out _ b6 (ZVS.out _ hb) | exact K6.out _ b6 (ZVP.out _ HP) | exact K6.out _ b6.drew (ZVS.out _ hb.drew)) (fun hHeld => ?_)
  clear hK K
  try simp only [Act.put, List.setIfInBounds_toArray, List.set_cons_zero, List.set_cons_succ]
  refine wpAnyZ_ready (rs := [28]) (by kernel_rfl) (by simp) ?_
  refine AllReadyZ.cons (opAt rfl) (fun K hK => ?_) ?_
  go_simp
  refine (W2.out _ hb _ (sl_one b27)).mono ?_
  rintro e w7x ⟨⟨u, rfl, r28⟩, hb1⟩
  replace r28 := r28.mono (lo' := wS.heap.size) hb.size
  rw [← HY2.out] at r28
  replace b6 := b6.below hb1 b6.lt
  replace b27 := b27.below hb1 b27.lt
  replace b18 := b18.below hb1 b18.lt
  replace r19 := r19.below hb1
  replace Na := Na.below hb1
  replace hb := hb.trans (hb1.mono hb.size)
  clear hb1
  obtain ⟨Cr28, kr28, rfl⟩ := r28.val
  try go_wp2_with fail
  refine hK.out _ _ (by first | exact K6.out _ b6 (ZVS.out _ hb) | exact K6.out _ b6 (ZVP.out _ HP) | exact K6.out _ b6.drew (ZVS.out _ hb.drew)) (fun hHeld => ?_)
  clear hK K
  try simp only [Act.put, List.setIfInBounds_toArray, List.set_cons_zero, List.set_cons_succ]
  refine wpAnyZ_ready (rs := [31]) (by kernel_rfl) (by simp) ?_
  refine AllReadyZ.cons (opAt rfl) (fun K hK => ?_) ?_
  go_simp
  refine (node_yes _ _ _ _ l' _ HLx2.out r19.sl r28.sl HR2.out).mono ?_
  rintro e w8x ⟨rfl, hb1⟩
  replace b6 := b6.below hb1 b6.lt
  replace b27 := b27.below hb1 b27.lt
  replace b18 := b18.below hb1 b18.lt
  replace r19 := r19.below hb1
  replace r28 := r28.below hb1
  replace Na := Na.below hb1
  replace hb := hb.trans (hb1.mono hb.size)
  clear hb1
  have Nb : NdO w8x wS.heap.size (.agg #[.bool true, .slice Cr19 x2.length kr19, .slice Cr28 y2.length kr28, .int .u64 l']) true x2 y2 l' := ⟨_, _, rfl, r19, r28⟩
  clear r19 r28
  try go_wp2_with fail
  refine hK.out _ _ (by first | exact K6.out _ b6 (ZVS.out _ hb) | exact K6.out _ b6 (ZVP.out _ HP) | exact K6.out _ b6.drew (ZVS.out _ hb.drew)) (fun hHeld => ?_)
  clear hK K
  try simp only [Act.put, List.setIfInBounds_toArray, List.set_cons_zero, List.set_cons_succ]
  refine wpAnyZ_ready (rs := [32]) (by kernel_rfl) (by simp) ?_
  refine AllReadyZ.cons (opAt rfl) (fun K hK => ?_) ?_
  obtain ⟨bx, bk, by_, bm, bc, bd⟩ := b6
  have zo := fun i => bc.frozen i
  have mo := fun i => bc.cell i
  go_simp
  replace bx := bx.offN HXC.out (.bool true) (.slice Cr5 x1.length kr5) (.slice Cr11 y1.length kr11) (.int .u64 l)
  replace by_ := by_.offN HYC.out (.bool true) (.slice Cr5 x1.length kr5) (.slice Cr11 y1.length kr11) (.int .u64 l)
  replace bk := bk.offN HKC.out (.bool true) (.slice Cr5 x1.length kr5) (.slice Cr11 y1.length kr11) (.int .u64 l)
  replace bm := bm.offN HMC.out (.bool true) (.slice Cr5 x1.length kr5) (.slice Cr11 y1.length kr11) (.int .u64 l)
  replace bd := bd.offN HDC.out (.bool true) (.slice Cr5 x1.length kr5) (.slice Cr11 y1.length kr11) (.int .u64 l)
  replace Na := Na.setN bc (.bool true) (.slice Cr5 x1.length kr5) (.slice Cr11 y1.length kr11) (.int .u64 l)
  replace Nb := Nb.setN bc (.bool true) (.slice Cr5 x1.length kr5) (.slice Cr11 y1.length kr11) (.int .u64 l)
  have HP := (Part.of_below (os := [gm, gc, gd]) hb).setN (g := gc) (by simp) (.bool true) (.slice Cr5 x1.length kr5) (.slice Cr11 y1.length kr11) (.int .u64 l)
  clear hb
  replace bc := bc.setN (.bool true) (.slice Cr5 x1.length kr5) (.slice Cr11 y1.length kr11) (.int .u64 l)
  clear zo mo
  generalize ((((w8x).setCell ⟨gc, 0, none⟩ (.bool true)).setCell ⟨gc, 1, none⟩ (.slice Cr5 x1.length kr5)).setCell ⟨gc, 2, none⟩ (.slice Cr11 y1.length kr11)).setCell ⟨gc, 3, none⟩ (.int .u64 l) = w9x at *
  have b6 := Six.mk bx bk by_ bm bc bd
  clear bx bk by_ bm bc bd
  refine hK.out _ _ (by first | exact K6.out _ b6 (ZVS.out _ hb) | exact K6.out _ b6 (ZVP.out _ HP) | exact K6.out _ b6.drew (ZVS.out _ hb.drew)) (fun hHeld => ?_)
  clear hK K
  try simp only [Act.put, List.setIfInBounds_toArray, List.set_cons_zero, List.set_cons_succ]
  refine wpAnyZ_ready (rs := [33]) (by kernel_rfl) (by simp) ?_
  refine AllReadyZ.cons (opAt rfl) (fun K hK => ?_) ?_
  obtain ⟨bx, bk, by_, bm, bc, bd⟩ := b6
  have zo := fun i => bd.frozen i
  have mo := fun i => bd.cell i
  go_simp
  replace bx := bx.offN HXD.out (.bool true) (.slice Cr19 x2.length kr19) (.slice Cr28 y2.length kr28) (.int .u64 l')
  replace by_ := by_.offN HYD.out (.bool true) (.slice Cr19 x2.length kr19) (.slice Cr28 y2.length kr28) (.int .u64 l')
  replace bk := bk.offN HKD.out (.bool true) (.slice Cr19 x2.length kr19) (.slice Cr28 y2.length kr28) (.int .u64 l')
  replace bm := bm.offN HMD.out (.bool true) (.slice Cr19 x2.length kr19) (.slice Cr28 y2.length kr28) (.int .u64 l')
  replace bc := bc.offN HCD.out (.bool true) (.slice Cr19 x2.length kr19) (.slice Cr28 y2.length kr28) (.int .u64 l')
  replace Na := Na.setN bd (.bool true) (.slice Cr19 x2.length kr19) (.slice Cr28 y2.length kr28) (.int .u64 l')
  replace Nb := Nb.setN bd (.bool true) (.slice Cr19 x2.length kr19) (.slice Cr28 y2.length kr28) (.int .u64 l')
  replace HP := HP.setN (g := gd) (by simp) (.bool true) (.slice Cr19 x2.length kr19) (.slice Cr28 y2.length kr28) (.int .u64 l')
  replace bd := bd.setN (.bool true) (.slice Cr19 x2.length kr19) (.slice Cr28 y2.length kr28) (.int .u64 l')
  clear zo mo
  generalize ((((w9x).setCell ⟨gd, 0, none⟩ (.bool true)).setCell ⟨gd, 1, none⟩ (.slice Cr19 x2.length kr19)).setCell ⟨gd, 2, none⟩ (.slice Cr28 y2.length kr28)).setCell ⟨gd, 3, none⟩ (.int .u64 l') = w10x at *
  have b6 := Six.mk bx bk by_ bm bc bd
  clear bx bk by_ bm bc bd
  refine hK.out _ _ (by first | exact K6.out _ b6 (ZVS.out _ hb) | exact K6.out _ b6 (ZVP.out _ HP) | exact K6.out _ b6.drew (ZVS.out _ hb.drew)) (fun hHeld => ?_)
  clear hK K
  try simp only [Act.put, List.setIfInBounds_toArray, List.set_cons_zero, List.set_cons_succ]
  refine wpAnyZ_done (by kernel_rfl) ?_ _
  go_wp2_with fail
  go_end0
  obtain ⟨bx, bk, by_, bm, bc, bd⟩ := b6
  exact ⟨rfl, HP0.out.trans HP, _, _, _, _, bc, bd, bm, Na.mono HBS.out, Nb.mono HBS.out⟩
  exact AllReadyZ.nil
  exact AllReadyZ.nil
  exact AllReadyZ.nil
  exact AllReadyZ.nil
  exact AllReadyZ.nil
  exact AllReadyZ.nil
  exact AllReadyZ.nil
  exact AllReadyZ.nil
  exact AllReadyZ.nil
  refine AllReadyZ.cons (opAt rfl) (fun K hK => ?_) ?_
  go_simp
  replace b6 := b6.alloc (.cells #[.int .u64 key] 22)
  replace hb := hb.alloc hb.size (.cells #[.int .u64 key] 22)
  have b18 := Blk.new w0x 22 #[.int .u64 key]
  generalize w0x.alloc (.cells #[.int .u64 key] 22) = w1x at *
  generalize w0x.heap.size = g18 at *
  refine hK.out _ _ (by first | exact K6.out _ b6 (ZVS.out _ hb) | exact K6.out _ b6 (ZVP.out _ HP) | exact K6.out _ b6.drew (ZVS.out _ hb.drew)) (fun hHeld => ?_)
  clear hK K
  try simp only [Act.put, List.setIfInBounds_toArray, List.set_cons_zero, List.set_cons_succ]
  refine wpAnyZ_ready (rs := [5, 27]) (by kernel_rfl) (by simp) ?_
  refine AllReadyZ.cons (opAt rfl) (fun K hK => ?_) ?_
  go_simp
  refine (W5.out _ hb).mono ?_
  rintro e w2x ⟨⟨u, rfl, r5⟩, hb1⟩
  replace r5 := r5.mono (lo' := wS.heap.size) hb.size
  rw [← HX1.out] at r5
  replace b6 := b6.below hb1 b6.lt
  replace b18 := b18.below hb1 b18.lt
  replace hb := hb.trans (hb1.mono hb.size)
  clear hb1
  obtain ⟨Cr5, kr5, rfl⟩ := r5.val
  try go_wp2_with fail
  refine hK.out _ _ (by first | exact K6.out _ b6 (ZVS.out _ hb) | exact K6.out _ b6 (ZVP.out _ HP) | exact K6.out _ b6.drew (ZVS.out _ hb.drew)) (fun hHeld => ?_)
  clear hK K
  try simp only [Act.put, List.setIfInBounds_toArray, List.set_cons_zero, List.set_cons_succ]
  refine wpAnyZ_ready (rs := [11, 27]) (by kernel_rfl) (by simp) ?_
  refine AllReadyZ.cons (opAt rfl) (fun K hK => ?_) ?_
  go_simp
  refine (W6.out _ hb).mono ?_
  rintro e w3x ⟨⟨u, rfl, r11⟩, hb1⟩
  replace r11 := r11.mono (lo' := wS.heap.size) hb.size
  rw [← HY1.out] at r11
  replace b6 := b6.below hb1 b6.lt
  replace b18 := b18.below hb1 b18.lt
  replace r5 := r5.below hb1
  replace hb := hb.trans (hb1.mono hb.size)
  clear hb1
  obtain ⟨Cr11, kr11, rfl⟩ := r11.val
  try go_wp2_with fail
  refine hK.out _ _ (by first | exact K6.out _ b6 (ZVS.out _ hb) | exact K6.out _ b6 (ZVP.out _ HP) | exact K6.out _ b6.drew (ZVS.out _ hb.drew)) (fun hHeld => ?_)
  clear hK K
  try simp only [Act.put, List.setIfInBounds_toArray, List.set_cons_zero, List.set_cons_succ]
  refine wpAnyZ_ready (rs := [14, 27]) (by kernel_rfl) (by simp) ?_
  refine AllReadyZ.cons (opAt rfl) (fun K hK => ?_) ?_
  go_simp
  refine (node_yes _ _ _ _ l _ HLx1.out r5.sl r11.sl HR1.out).mono ?_
  rintro e w4x ⟨rfl, hb1⟩
  replace b6 := b6.below hb1 b6.lt
  replace b18 := b18.below hb1 b18.lt
  replace r5 := r5.below hb1
  replace r11 := r11.below hb1
  replace hb := hb.trans (hb1.mono hb.size)
  clear hb1
  have Na : NdO w4x wS.heap.size (.agg #[.bool true, .slice Cr5 x1.length kr5, .slice Cr11 y1.length kr11, .int .u64 l]) true x1 y1 l := ⟨_, _, rfl, r5, r11⟩
  clear r5 r11
  try go_wp2_with fail
  refine hK.out _ _ (by first | exact K6.out _ b6 (ZVS.out _ hb) | exact K6.out _ b6 (ZVP.out _ HP) | exact K6.out _ b6.drew (ZVS.out _ hb.drew)) (fun hHeld => ?_)
  clear hK K
  try simp only [Act.put, List.setIfInBounds_toArray, List.set_cons_zero, List.set_cons_succ]
  refine wpAnyZ_ready (rs := [19, 27]) (by kernel_rfl) (by simp) ?_
  refine AllReadyZ.cons (opAt rfl) (fun K hK => ?_) ?_
  go_simp
  refine (W1.out _ hb _ (sl_one b18)).mono ?_
  rintro e w5x ⟨⟨u, rfl, r19⟩, hb1⟩
  replace r19 := r19.mono (lo' := wS.heap.size) hb.size
  rw [← HX2.out] at r19
  replace b6 := b6.below hb1 b6.lt
  replace b18 := b18.below hb1 b18.lt
  replace Na := Na.below hb1
  replace hb := hb.trans (hb1.mono hb.size)
  clear hb1
  obtain ⟨Cr19, kr19, rfl⟩ := r19.val
  try go_wp2_with fail
  refine hK.out _ _ (by first | exact K6.out _ b6 (ZVS.out _ hb) | exact K6.out _ b6 (ZVP.out _ HP) | exact K6.out _ b6.drew (ZVS.out _ hb.drew)) (fun hHeld => ?_)
  clear hK K
  try simp only [Act.put, List.setIfInBounds_toArray, List.set_cons_zero, List.set_cons_succ]
  refine wpAnyZ_ready (rs := [27]) (by kernel_rfl) (by simp) ?_
  refine AllReadyZ.cons (opAt rfl) (fun K hK => ?_) ?_
  go_simp
  replace b6 := b6.alloc (.cells #[.int .u64 v0] 22)
  replace b18 := b18.alloc (.cells #[.int .u64 v0] 22)
  replace r19 := r19.alloc (.cells #[.int .u64 v0] 22)
  replace Na := Na.below ((Below.refl _ _).alloc (Nat.le_refl _) (.cells #[.int .u64 v0] 22))
  replace hb := hb.alloc hb.size (.cells #[.int .u64 v0] 22)
  have b27 := Blk.new w5x 22 #[.int .u64 v0]
  generalize w5x.alloc (.cells #[.int .u64 v0] 22) = w6x at *
  generalize w5x.heap.size = g27 at *
  refine hK.out _ _ (by first | exact K6.out _ b6 (ZVS.out _ hb) | exact K6.out _ b6 (ZVP.out _ HP) | exact K6.out _ b6.drew (ZVS.out _ hb.drew)) (fun hHeld => ?_)
  clear hK K
  try simp only [Act.put, List.setIfInBounds_toArray, List.set_cons_zero, List.set_cons_succ]
  refine wpAnyZ_ready (rs := [28]) (by kernel_rfl) (by simp) ?_
  refine AllReadyZ.cons (opAt rfl) (fun K hK => ?_) ?_
  go_simp
  refine (W2.out _ hb _ (sl_one b27)).mono ?_
  rintro e w7x ⟨⟨u, rfl, r28⟩, hb1⟩
  replace r28 := r28.mono (lo' := wS.heap.size) hb.size
  rw [← HY2.out] at r28
  replace b6 := b6.below hb1 b6.lt
  replace b18 := b18.below hb1 b18.lt
  replace b27 := b27.below hb1 b27.lt
  replace r19 := r19.below hb1
  replace Na := Na.below hb1
  replace hb := hb.trans (hb1.mono hb.size)
  clear hb1
  obtain ⟨Cr28, kr28, rfl⟩ := r28.val
  try go_wp2_with fail
  refine hK.out _ _ (by first | exact K6.out _ b6 (ZVS.out _ hb) | exact K6.out _ b6 (ZVP.out _ HP) | exact K6.out _ b6.drew (ZVS.out _ hb.drew)) (fun hHeld => ?_)
  clear hK K
  try simp only [Act.put, List.setIfInBounds_toArray, List.set_cons_zero, List.set_cons_succ]
  refine wpAnyZ_ready (rs := [31]) (by kernel_rfl) (by simp) ?_
  refine AllReadyZ.cons (opAt rfl) (fun K hK => ?_) ?_
  go_simp
  refine (node_yes _ _ _ _ l' _ HLx2.out r19.sl r28.sl HR2.out).mono ?_
  rintro e w8x ⟨rfl, hb1⟩
  replace b6 := b6.below hb1 b6.lt
  replace b18 := b18.below hb1 b18.lt
  replace b27 := b27.below hb1 b27.lt
  replace r19 := r19.below hb1
  replace r28 := r28.below hb1
  replace Na := Na.below hb1
  replace hb := hb.trans (hb1.mono hb.size)
  clear hb1
  have Nb : NdO w8x wS.heap.size (.agg #[.bool true, .slice Cr19 x2.length kr19, .slice Cr28 y2.length kr28, .int .u64 l']) true x2 y2 l' := ⟨_, _, rfl, r19, r28⟩
  clear r19 r28
  try go_wp2_with fail
  refine hK.out _ _ (by first | exact K6.out _ b6 (ZVS.out _ hb) | exact K6.out _ b6 (ZVP.out _ HP) | exact K6.out _ b6.drew (ZVS.out _ hb.drew)) (fun hHeld => ?_)
  clear hK K
  try simp only [Act.put, List.setIfInBounds_toArray, List.set_cons_zero, List.set_cons_succ]
  refine wpAnyZ_ready (rs := [32]) (by kernel_rfl) (by simp) ?_
  refine AllReadyZ.cons (opAt rfl) (fun K hK => ?_) ?_
  obtain ⟨bx, bk, by_, bm, bc, bd⟩ := b6
  have zo := fun i => bc.frozen i
  have mo := fun i => bc.cell i
  go_simp
  replace bx := bx.offN HXC.out (.bool true) (.slice Cr5 x1.length kr5) (.slice Cr11 y1.length kr11) (.int .u64 l)
  replace by_ := by_.offN HYC.out (.bool true) (.slice Cr5 x1.length kr5) (.slice Cr11 y1.length kr11) (.int .u64 l)
  replace bk := bk.offN HKC.out (.bool true) (.slice Cr5 x1.length kr5) (.slice Cr11 y1.length kr11) (.int .u64 l)
  replace bm := bm.offN HMC.out (.bool true) (.slice Cr5 x1.length kr5) (.slice Cr11 y1.length kr11) (.int .u64 l)
  replace bd := bd.offN HDC.out (.bool true) (.slice Cr5 x1.length kr5) (.slice Cr11 y1.length kr11) (.int .u64 l)
  replace Na := Na.setN bc (.bool true) (.slice Cr5 x1.length kr5) (.slice Cr11 y1.length kr11) (.int .u64 l)
  replace Nb := Nb.setN bc (.bool true) (.slice Cr5 x1.length kr5) (.slice Cr11 y1.length kr11) (.int .u64 l)
  have HP := (Part.of_below (os := [gm, gc, gd]) hb).setN (g := gc) (by simp) (.bool true) (.slice Cr5 x1.length kr5) (.slice Cr11 y1.length kr11) (.int .u64 l)
  clear hb
  replace bc := bc.setN (.bool true) (.slice Cr5 x1.length kr5) (.slice Cr11 y1.length kr11) (.int .u64 l)
  clear zo mo
  generalize ((((w8x).setCell ⟨gc, 0, none⟩ (.bool true)).setCell ⟨gc, 1, none⟩ (.slice Cr5 x1.length kr5)).setCell ⟨gc, 2, none⟩ (.slice Cr11 y1.length kr11)).setCell ⟨gc, 3, none⟩ (.int .u64 l) = w9x at *
  have b6 := Six.mk bx bk by_ bm bc bd
  clear bx bk by_ bm bc bd
  refine hK.out _ _ (by first | exact K6.out _ b6 (ZVS.out _ hb) | exact K6.out _ b6 (ZVP.out _ HP) | exact K6.out _ b6.drew (ZVS.out _ hb.drew)) (fun hHeld => ?_)
  clear hK K
  try simp only [Act.put, List.setIfInBounds_toArray, List.set_cons_zero, List.set_cons_succ]
  refine wpAnyZ_ready (rs := [33]) (by kernel_rfl) (by simp) ?_
  refine AllReadyZ.cons (opAt rfl) (fun K hK => ?_) ?_
  obtain ⟨bx, bk, by_, bm, bc, bd⟩ := b6
  have zo := fun i => bd.frozen i
  have mo := fun i => bd.cell i
  go_simp
  replace bx := bx.offN HXD.out (.bool true) (.slice Cr19 x2.length kr19) (.slice Cr28 y2.length kr28) (.int .u64 l')
  replace by_ := by_.offN HYD.out (.bool true) (.slice Cr19 x2.length kr19) (.slice Cr28 y2.length kr28) (.int .u64 l')
  replace bk := bk.offN HKD.out (.bool true) (.slice Cr19 x2.length kr19) (.slice Cr28 y2.length kr28) (.int .u64 l')
  replace bm := bm.offN HMD.out (.bool true) (.slice Cr19 x2.length kr19) (.slice Cr28 y2.length kr28) (.int .u64 l')
  replace bc := bc.offN HCD.out (.bool true) (.slice Cr19 x2.length kr19) (.slice Cr28 y2.length kr28) (.int .u64 l')
  replace Na := Na.setN bd (.bool true) (.slice Cr19 x2.length kr19) (.slice Cr28 y2.length kr28) (.int .u64 l')
  replace Nb := Nb.setN bd (.bool true) (.slice Cr19 x2.length kr19) (.slice Cr28 y2.length kr28) (.int .u64 l')
  replace HP := HP.setN (g := gd) (by simp) (.bool true) (.slice Cr19 x2.length kr19) (.slice Cr28 y2.length kr28) (.int .u64 l')
  replace bd := bd.setN (.bool true) (.slice Cr19 x2.length kr19) (.slice Cr28 y2.length kr28) (.int .u64 l')
  clear zo mo
  generalize ((((w9x).setCell ⟨gd, 0, none⟩ (.bool true)).setCell ⟨gd, 1, none⟩ (.slice Cr19 x2.length kr19)).setCell ⟨gd, 2, none⟩ (.slice Cr28 y2.length kr28)).setCell ⟨gd, 3, none⟩ (.int .u64 l') = w10x at *
  have b6 := Six.mk bx bk by_ bm bc bd
  clear bx bk by_ bm bc bd
  refine hK.out _ _ (by first | exact K6.out _ b6 (ZVS.out _ hb) | exact K6.out _ b6 (ZVP.out _ HP) | exact K6.out _ b6.drew (ZVS.out _ hb.drew)) (fun hHeld => ?_)
  clear hK K
  try simp only [Act.put, List.setIfInBounds_toArray, List.set_cons_zero, List.set_cons_succ]
  refine wpAnyZ_done (by kernel_rfl) ?_ _
  go_wp2_with fail
  go_end0
  obtain ⟨bx, bk, by_, bm, bc, bd⟩ := b6
  exact ⟨rfl, HP0.out.trans HP, _, _, _, _, bc, bd, bm, Na.mono HBS.out, Nb.mono HBS.out⟩
  exact AllReadyZ.nil
  exact AllReadyZ.nil
  exact AllReadyZ.nil
  exact AllReadyZ.nil
  exact AllReadyZ.nil
  refine AllReadyZ.cons (opAt rfl) (fun K hK => ?_) ?_
  go_simp
  replace b6 := b6.alloc (.cells #[.int .u64 v0] 22)
  replace b18 := b18.alloc (.cells #[.int .u64 v0] 22)
  replace Na := Na.below ((Below.refl _ _).alloc (Nat.le_refl _) (.cells #[.int .u64 v0] 22))
  replace hb := hb.alloc hb.size (.cells #[.int .u64 v0] 22)
  have b27 := Blk.new w4x 22 #[.int .u64 v0]
  generalize w4x.alloc (.cells #[.int .u64 v0] 22) = w5x at *
  generalize w4x.heap.size = g27 at *
  refine hK.out _ _ (by first | exact K6.out _ b6 (ZVS.out _ hb) | exact K6.out _ b6 (ZVP.out _ HP) | exact K6.out _ b6.drew (ZVS.out _ hb.drew)) (fun hHeld => ?_)
  clear hK K
  try simp only [Act.put, List.setIfInBounds_toArray, List.set_cons_zero, List.set_cons_succ]
  refine wpAnyZ_ready (rs := [19]) (by kernel_rfl) (by simp) ?_
  refine AllReadyZ.cons (opAt rfl) (fun K hK => ?_) ?_
  go_simp
  refine (W1.out _ hb _ (sl_one b18)).mono ?_
  rintro e w6x ⟨⟨u, rfl, r19⟩, hb1⟩
  replace r19 := r19.mono (lo' := wS.heap.size) hb.size
  rw [← HX2.out] at r19
  replace b6 := b6.below hb1 b6.lt
  replace b18 := b18.below hb1 b18.lt
  replace b27 := b27.below hb1 b27.lt
  replace Na := Na.below hb1
  replace hb := hb.trans (hb1.mono hb.size)
  clear hb1
  obtain ⟨Cr19, kr19, rfl⟩ := r19.val
  try go_wp2_with fail
  refine hK.out _ _ (by first | exact K6.out _ b6 (ZVS.out _ hb) | exact K6.out _ b6 (ZVP.out _ HP) | exact K6.out _ b6.drew (ZVS.out _ hb.drew)) (fun hHeld => ?_)
  clear hK K
  try simp only [Act.put, List.setIfInBounds_toArray, List.set_cons_zero, List.set_cons_succ]
  refine wpAnyZ_ready (rs := [28]) (by kernel_rfl) (by simp) ?_
  refine AllReadyZ.cons (opAt rfl) (fun K hK => ?_) ?_
  go_simp
  refine (W2.out _ hb _ (sl_one b27)).mono ?_
  rintro e w7x ⟨⟨u, rfl, r28⟩, hb1⟩
  replace r28 := r28.mono (lo' := wS.heap.size) hb.size
  rw [← HY2.out] at r28
  replace b6 := b6.below hb1 b6.lt
  replace b18 := b18.below hb1 b18.lt
  replace b27 := b27.below hb1 b27.lt
  replace r19 := r19.below hb1
  replace Na := Na.below hb1
  replace hb := hb.trans (hb1.mono hb.size)
  clear hb1
  obtain ⟨Cr28, kr28, rfl⟩ := r28.val
  try go_wp2_with fail
  refine hK.out _ _ (by first | exact K6.out _ b6 (ZVS.out _ hb) | exact K6.out _ b6 (ZVP.out _ HP) | exact K6.out _ b6.drew (ZVS.out _ hb.drew)) (fun hHeld => ?_)
  clear hK K
  try simp only [Act.put, List.setIfInBounds_toArray, List.set_cons_zero, List.set_cons_succ]
  refine wpAnyZ_ready (rs := [31]) (by kernel_rfl) (by simp) ?_
  refine AllReadyZ.cons (opAt rfl) (fun K hK => ?_) ?_
  go_simp
  refine (node_yes _ _ _ _ l' _ HLx2.out r19.sl r28.sl HR2.out).mono ?_
  rintro e w8x ⟨rfl, hb1⟩
  replace b6 := b6.below hb1 b6.lt
  replace b18 := b18.below hb1 b18.lt
  replace b27 := b27.below hb1 b27.lt
  replace r19 := r19.below hb1
  replace r28 := r28.below hb1
  replace Na := Na.below hb1
  replace hb := hb.trans (hb1.mono hb.size)
  clear hb1
  have Nb : NdO w8x wS.heap.size (.agg #[.bool true, .slice Cr19 x2.length kr19, .slice Cr28 y2.length kr28, .int .u64 l']) true x2 y2 l' := ⟨_, _, rfl, r19, r28⟩
  clear r19 r28
  try go_wp2_with fail
  refine hK.out _ _ (by first | exact K6.out _ b6 (ZVS.out _ hb) | exact K6.out _ b6 (ZVP.out _ HP) | exact K6.out _ b6.drew (ZVS.out _ hb.drew)) (fun hHeld => ?_)
  clear hK K
  try simp only [Act.put, List.setIfInBounds_toArray, List.set_cons_zero, List.set_cons_succ]
  refine wpAnyZ_ready (rs := [32]) (by kernel_rfl) (by simp) ?_
  refine AllReadyZ.cons (opAt rfl) (fun K hK => ?_) ?_
  obtain ⟨bx, bk, by_, bm, bc, bd⟩ := b6
  have zo := fun i => bc.frozen i
  have mo := fun i => bc.cell i
  go_simp
  replace bx := bx.offN HXC.out (.bool true) (.slice Cr5 x1.length kr5) (.slice Cr11 y1.length kr11) (.int .u64 l)
  replace by_ := by_.offN HYC.out (.bool true) (.slice Cr5 x1.length kr5) (.slice Cr11 y1.length kr11) (.int .u64 l)
  replace bk := bk.offN HKC.out (.bool true) (.slice Cr5 x1.length kr5) (.slice Cr11 y1.length kr11) (.int .u64 l)
  replace bm := bm.offN HMC.out (.bool true) (.slice Cr5 x1.length kr5) (.slice Cr11 y1.length kr11) (.int .u64 l)
  replace bd := bd.offN HDC.out (.bool true) (.slice Cr5 x1.length kr5) (.slice Cr11 y1.length kr11) (.int .u64 l)
  replace Na := Na.setN bc (.bool true) (.slice Cr5 x1.length kr5) (.slice Cr11 y1.length kr11) (.int .u64 l)
  replace Nb := Nb.setN bc (.bool true) (.slice Cr5 x1.length kr5) (.slice Cr11 y1.length kr11) (.int .u64 l)
  have HP := (Part.of_below (os := [gm, gc, gd]) hb).setN (g := gc) (by simp) (.bool true) (.slice Cr5 x1.length kr5) (.slice Cr11 y1.length kr11) (.int .u64 l)
  clear hb
  replace bc := bc.setN (.bool true) (.slice Cr5 x1.length kr5) (.slice Cr11 y1.length kr11) (.int .u64 l)
  clear zo mo
  generalize ((((w8x).setCell ⟨gc, 0, none⟩ (.bool true)).setCell ⟨gc, 1, none⟩ (.slice Cr5 x1.length kr5)).setCell ⟨gc, 2, none⟩ (.slice Cr11 y1.length kr11)).setCell ⟨gc, 3, none⟩ (.int .u64 l) = w9x at *
  have b6 := Six.mk bx bk by_ bm bc bd
  clear bx bk by_ bm bc bd
  refine hK.out _ _ (by first | exact K6.out _ b6 (ZVS.out _ hb) | exact K6.out _ b6 (ZVP.out _ HP) | exact K6.out _ b6.drew (ZVS.out _ hb.drew)) (fun hHeld => ?_)
  clear hK K
  try simp only [Act.put, List.setIfInBounds_toArray, List.set_cons_zero, List.set_cons_succ]
  refine wpAnyZ_ready (rs := [33]) (by kernel_rfl) (by simp) ?_
  refine AllReadyZ.cons (opAt rfl) (fun K hK => ?_) ?_
  obtain ⟨bx, bk, by_, bm, bc, bd⟩ := b6
  have zo := fun i => bd.frozen i
  have mo := fun i => bd.cell i
  go_simp
  replace bx := bx.offN HXD.out (.bool true) (.slice Cr19 x2.length kr19) (.slice Cr28 y2.length kr28) (.int .u64 l')
  replace by_ := by_.offN HYD.out (.bool true) (.slice Cr19 x2.length kr19) (.slice Cr28 y2.length kr28) (.int .u64 l')
  replace bk := bk.offN HKD.out (.bool true) (.slice Cr19 x2.length kr19) (.slice Cr28 y2.length kr28) (.int .u64 l')
  replace bm := bm.offN HMD.out (.bool true) (.slice Cr19 x2.length kr19) (.slice Cr28 y2.length kr28) (.int .u64 l')
  replace bc := bc.offN HCD.out (.bool true) (.slice Cr19 x2.length kr19) (.slice Cr28 y2.length kr28) (.int .u64 l')
  replace Na := Na.setN bd (.bool true) (.slice Cr19 x2.length kr19) (.slice Cr28 y2.length kr28) (.int .u64 l')
  replace Nb := Nb.setN bd (.bool true) (.slice Cr19 x2.length kr19) (.slice Cr28 y2.length kr28) (.int .u64 l')
  replace HP := HP.setN (g := gd) (by simp) (.bool true) (.slice Cr19 x2.length kr19) (.slice Cr28 y2.length kr28) (.int .u64 l')
  replace bd := bd.setN (.bool true) (.slice Cr19 x2.length kr19) (.slice Cr28 y2.length kr28) (.int .u64 l')
  clear zo mo
  generalize ((((w9x).setCell ⟨gd, 0, none⟩ (.bool true)).setCell ⟨gd, 1, none⟩ (.slice Cr19 x2.length kr19)).setCell ⟨gd, 2, none⟩ (.slice Cr28 y2.length kr28)).setCell ⟨gd, 3, none⟩ (.int .u64 l') = w10x at *
  have b6 := Six.mk bx bk by_ bm bc bd
  clear bx bk by_ bm bc bd
  refine hK.out _ _ (by first | exact K6.out _ b6 (ZVS.out _ hb) | exact K6.out _ b6 (ZVP.out _ HP) | exact K6.out _ b6.drew (ZVS.out _ hb.drew)) (fun hHeld => ?_)
  clear hK K
  try simp only [Act.put, List.setIfInBounds_toArray, List.set_cons_zero, List.set_cons_succ]
  refine wpAnyZ_done (by kernel_rfl) ?_ _
  go_wp2_with fail
  go_end0
  obtain ⟨bx, bk, by_, bm, bc, bd⟩ := b6
  exact ⟨rfl, HP0.out.trans HP, _, _, _, _, bc, bd, bm, Na.mono HBS.out, Nb.mono HBS.out⟩
  exact AllReadyZ.nil
  exact AllReadyZ.nil
  exact AllReadyZ.nil
  exact AllReadyZ.nil
  exact AllReadyZ.nil
  exact AllReadyZ.nil
  refine AllReadyZ.cons (opAt rfl) (fun K hK => ?_) ?_
  go_simp
  replace b6 := b6.alloc (.cells #[.int .u64 v0] 22)
  replace b18 := b18.alloc (.cells #[.int .u64 v0] 22)
  replace r5 := r5.alloc (.cells #[.int .u64 v0] 22)
  replace r11 := r11.alloc (.cells #[.int .u64 v0] 22)
  replace hb := hb.alloc hb.size (.cells #[.int .u64 v0] 22)
  have b27 := Blk.new w3x 22 #[.int .u64 v0]
  generalize w3x.alloc (.cells #[.int .u64 v0] 22) = w4x at *
  generalize w3x.heap.size = g27 at *
  refine hK.out _ _ (by first | exact K6.out _ b6 (ZVS.out _ hb) | exact K6.out _ b6 (ZVP.out _ HP) | exact K6.out _ b6.drew (ZVS.out _ hb.drew)) (fun hHeld => ?_)
  clear hK K
  try simp only [Act.put, List.setIfInBounds_toArray, List.set_cons_zero, List.set_cons_succ]
  refine wpAnyZ_ready (rs := [14]) (by kernel_rfl) (by simp) ?_
  refine AllReadyZ.cons (opAt rfl) (fun K hK => ?_) ?_
  go_simp
  refine (node_yes _ _ _ _ l _ HLx1.out r5.sl r11.sl HR1.out).mono ?_
  rintro e w5x ⟨rfl, hb1⟩
  replace b6 := b6.below hb1 b6.lt
  replace b18 := b18.below hb1 b18.lt
  replace b27 := b27.below hb1 b27.lt
  replace r5 := r5.below hb1
  replace r11 := r11.below hb1
  replace hb := hb.trans (hb1.mono hb.size)
  clear hb1
  have Na : NdO w5x wS.heap.size (.agg #[.bool true, .slice Cr5 x1.length kr5, .slice Cr11 y1.length kr11, .int .u64 l]) true x1 y1 l := ⟨_, _, rfl, r5, r11⟩
  clear r5 r11
  try go_wp2_with fail
  refine hK.out _ _ (by first | exact K6.out _ b6 (ZVS.out _ hb) | exact K6.out _ b6 (ZVP.out _ HP) | exact K6.out _ b6.drew (ZVS.out _ hb.drew)) (fun hHeld => ?_)
  clear hK K
  try simp only [Act.put, List.setIfInBounds_toArray, List.set_cons_zero, List.set_cons_succ]
  refine wpAnyZ_ready (rs := [19]) (by kernel_rfl) (by simp) ?_
  refine AllReadyZ.cons (opAt rfl) (fun K hK => ?_) ?_
  go_simp
  refine (W1.out _ hb _ (sl_one b18)).mono ?_
  rintro e w6x ⟨⟨u, rfl, r19⟩, hb1⟩
  replace r19 := r19.mono (lo' := wS.heap.size) hb.size
  rw [← HX2.out] at r19
  replace b6 := b6.below hb1 b6.lt
  replace b18 := b18.below hb1 b18.lt
  replace b27 := b27.below hb1 b27.lt
  replace Na := Na.below hb1
  replace hb := hb.trans (hb1.mono hb.size)
  clear hb1
  obtain ⟨Cr19, kr19, rfl⟩ := r19.val
  try go_wp2_with fail
  refine hK.out _ _ (by first | exact K6.out _ b6 (ZVS.out _ hb) | exact K6.out _ b6 (ZVP.out _ HP) | exact K6.out _ b6.drew (ZVS.out _ hb.drew)) (fun hHeld => ?_)
  clear hK K
  try simp only [Act.put, List.setIfInBounds_toArray, List.set_cons_zero, List.set_cons_succ]
  refine wpAnyZ_ready (rs := [28]) (by kernel_rfl) (by simp) ?_
  refine AllReadyZ.cons (opAt rfl) (fun K hK => ?_) ?_
  go_simp
  refine (W2.out _ hb _ (sl_one b27)).mono ?_
  rintro e w7x ⟨⟨u, rfl, r28⟩, hb1⟩
  replace r28 := r28.mono (lo' := wS.heap.size) hb.size
  rw [← HY2.out] at r28
  replace b6 := b6.below hb1 b6.lt
  replace b18 := b18.below hb1 b18.lt
  replace b27 := b27.below hb1 b27.lt
  replace r19 := r19.below hb1
  replace Na := Na.below hb1
  replace hb := hb.trans (hb1.mono hb.size)
  clear hb1
  obtain ⟨Cr28, kr28, rfl⟩ := r28.val
  try go_wp2_with fail
  refine hK.out _ _ (by first | exact K6.out _ b6 (ZVS.out _ hb) | exact K6.out _ b6 (ZVP.out _ HP) | exact K6.out _ b6.drew (ZVS.out _ hb.drew)) (fun hHeld => ?_)
  clear hK K
  try simp only [Act.put, List.setIfInBounds_toArray, List.set_cons_zero, List.set_cons_succ]
  refine wpAnyZ_ready (rs := [31]) (by kernel_rfl) (by simp) ?_
  refine AllReadyZ.cons (opAt rfl) (fun K hK => ?_) ?_
  go_simp
  refine (node_yes _ _ _ _ l' _ HLx2.out r19.sl r28.sl HR2.out).mono ?_
  rintro e w8x ⟨rfl, hb1⟩
  replace b6 := b6.below hb1 b6.lt
  replace b18 := b18.below hb1 b18.lt
  replace b27 := b27.below hb1 b27.lt
  replace r19 := r19.below hb1
  replace r28 := r28.below hb1
  replace Na := Na.below hb1
  replace hb := hb.trans (hb1.mono hb.size)
  clear hb1
  have Nb : NdO w8x wS.heap.size (.agg #[.bool true, .slice Cr19 x2.length kr19, .slice Cr28 y2.length kr28, .int .u64 l']) true x2 y2 l' := ⟨_, _, rfl, r19, r28⟩
  clear r19 r28
  try go_wp2_with fail
  refine hK.out _ _ (by first | exact K6.out _ b6 (ZVS.out _ hb) | exact K6.out _ b6 (ZVP.out _ HP) | exact K6.out _ b6.drew (ZVS.out _ hb.drew)) (fun hHeld => ?_)
  clear hK K
  try simp only [Act.put, List.setIfInBounds_toArray, List.set_cons_zero, List.set_cons_succ]
  refine wpAnyZ_ready (rs := [32]) (by kernel_rfl) (by simp) ?_
  refine AllReadyZ.cons (opAt rfl) (fun K hK => ?_) ?_
  obtain ⟨bx, bk, by_, bm, bc, bd⟩ := b6
  have zo := fun i => bc.frozen i
  have mo := fun i => bc.cell i
  go_simp
  replace bx := bx.offN HXC.out (.bool true) (.slice Cr5 x1.length kr5) (.slice Cr11 y1.length kr11) (.int .u64 l)
  replace by_ := by_.offN HYC.out (.bool true) (.slice Cr5 x1.length kr5) (.slice Cr11 y1.length kr11) (.int .u64 l)
  replace bk := bk.offN HKC.out (.bool true) (.slice Cr5 x1.length kr5) (.slice Cr11 y1.length kr11) (.int .u64 l)
  replace bm := bm.offN HMC.out (.bool true) (.slice Cr5 x1.length kr5) (.slice Cr11 y1.length kr11) (.int .u64 l)
  replace bd := bd.offN HDC.out (.bool true) (.slice Cr5 x1.length kr5) (.slice Cr11 y1.length kr11) (.int .u64 l)
  replace Na := Na.setN bc (.bool true) (.slice Cr5 x1.length kr5) (.slice Cr11 y1.length kr11) (.int .u64 l)
  replace Nb := Nb.setN bc (.bool true) (.slice Cr5 x1.length kr5) (.slice Cr11 y1.length kr11) (.int .u64 l)
  have HP := (Part.of_below (os := [gm, gc, gd]) hb).setN (g := gc) (by simp) (.bool true) (.slice Cr5 x1.length kr5) (.slice Cr11 y1.length kr11) (.int .u64 l)
  clear hb
  replace bc := bc.setN (.bool true) (.slice Cr5 x1.length kr5) (.slice Cr11 y1.length kr11) (.int .u64 l)
  clear zo mo
  generalize ((((w8x).setCell ⟨gc, 0, none⟩ (.bool true)).setCell ⟨gc, 1, none⟩ (.slice Cr5 x1.length kr5)).setCell ⟨gc, 2, none⟩ (.slice Cr11 y1.length kr11)).setCell ⟨gc, 3, none⟩ (.int .u64 l) = w9x at *
  have b6 := Six.mk bx bk by_ bm bc bd
  clear bx bk by_ bm bc bd
  refine hK.out _ _ (by first | exact K6.out _ b6 (ZVS.out _ hb) | exact K6.out _ b6 (ZVP.out _ HP) | exact K6.out _ b6.drew (ZVS.out _ hb.drew)) (fun hHeld => ?_)
  clear hK K
  try simp only [Act.put, List.setIfInBounds_toArray, List.set_cons_zero, List.set_cons_succ]
  refine wpAnyZ_ready (rs := [33]) (by kernel_rfl) (by simp) ?_
  refine AllReadyZ.cons (opAt rfl) (fun K hK => ?_) ?_
  obtain ⟨bx, bk, by_, bm, bc, bd⟩ := b6
  have zo := fun i => bd.frozen i
  have mo := fun i => bd.cell i
  go_simp
  replace bx := bx.offN HXD.out (.bool true) (.slice Cr19 x2.length kr19) (.slice Cr28 y2.length kr28) (.int .u64 l')
  replace by_ := by_.offN HYD.out (.bool true) (.slice Cr19 x2.length kr19) (.slice Cr28 y2.length kr28) (.int .u64 l')
  replace bk := bk.offN HKD.out (.bool true) (.slice Cr19 x2.length kr19) (.slice Cr28 y2.length kr28) (.int .u64 l')
  replace bm := bm.offN HMD.out (.bool true) (.slice Cr19 x2.length kr19) (.slice Cr28 y2.length kr28) (.int .u64 l')
  replace bc := bc.offN HCD.out (.bool true) (.slice Cr19 x2.length kr19) (.slice Cr28 y2.length kr28) (.int .u64 l')
  replace Na := Na.setN bd (.bool true) (.slice Cr19 x2.length kr19) (.slice Cr28 y2.length kr28) (.int .u64 l')
  replace Nb := Nb.setN bd (.bool true) (.slice Cr19 x2.length kr19) (.slice Cr28 y2.length kr28) (.int .u64 l')
  replace HP := HP.setN (g := gd) (by simp) (.bool true) (.slice Cr19 x2.length kr19) (.slice Cr28 y2.length kr28) (.int .u64 l')
  replace bd := bd.setN (.bool true) (.slice Cr19 x2.length kr19) (.slice Cr28 y2.length kr28) (.int .u64 l')
  clear zo mo
  generalize ((((w9x).setCell ⟨gd, 0, none⟩ (.bool true)).setCell ⟨gd, 1, none⟩ (.slice Cr19 x2.length kr19)).setCell ⟨gd, 2, none⟩ (.slice Cr28 y2.length kr28)).setCell ⟨gd, 3, none⟩ (.int .u64 l') = w10x at *
  have b6 := Six.mk bx bk by_ bm bc bd
  clear bx bk by_ bm bc bd
  refine hK.out _ _ (by first | exact K6.out _ b6 (ZVS.out _ hb) | exact K6.out _ b6 (ZVP.out _ HP) | exact K6.out _ b6.drew (ZVS.out _ hb.drew)) (fun hHeld => ?_)
  clear hK K
  try simp only [Act.put, List.setIfInBounds_toArray, List.set_cons_zero, List.set_cons_succ]
  refine wpAnyZ_done (by kernel_rfl) ?_ _
  go_wp2_with fail
  go_end0
  obtain ⟨bx, bk, by_, bm, bc, bd⟩ := b6
  exact ⟨rfl, HP0.out.trans HP, _, _, _, _, bc, bd, bm, Na.mono HBS.out, Nb.mono HBS.out⟩
  exact AllReadyZ.nil
  exact AllReadyZ.nil
  exact AllReadyZ.nil
  exact AllReadyZ.nil
  exact AllReadyZ.nil
  exact AllReadyZ.nil
  exact AllReadyZ.nil
  refine AllReadyZ.cons (opAt rfl) (fun K hK => ?_) ?_
  go_simp
  replace b6 := b6.alloc (.cells #[.int .u64 v0] 22)
  replace b18 := b18.alloc (.cells #[.int .u64 v0] 22)
  replace r5 := r5.alloc (.cells #[.int .u64 v0] 22)
  replace hb := hb.alloc hb.size (.cells #[.int .u64 v0] 22)
  have b27 := Blk.new w2x 22 #[.int .u64 v0]
  generalize w2x.alloc (.cells #[.int .u64 v0] 22) = w3x at *
  generalize w2x.heap.size = g27 at *
  refine hK.out _ _ (by first | exact K6.out _ b6 (ZVS.out _ hb) | exact K6.out _ b6 (ZVP.out _ HP) | exact K6.out _ b6.drew (ZVS.out _ hb.drew)) (fun hHeld => ?_)
  clear hK K
  try simp only [Act.put, List.setIfInBounds_toArray, List.set_cons_zero, List.set_cons_succ]
  refine wpAnyZ_ready (rs := [11]) (by kernel_rfl) (by simp) ?_
  refine AllReadyZ.cons (opAt rfl) (fun K hK => ?_) ?_
  go_simp
  refine (W6.out _ hb).mono ?_
  rintro e w4x ⟨⟨u, rfl, r11⟩, hb1⟩
  replace r11 := r11.mono (lo' := wS.heap.size) hb.size
  rw [← HY1.out] at r11
  replace b6 := b6.below hb1 b6.lt
  replace b18 := b18.below hb1 b18.lt
  replace b27 := b27.below hb1 b27.lt
  replace r5 := r5.below hb1
  replace hb := hb.trans (hb1.mono hb.size)
  clear hb1
  obtain ⟨Cr11, kr11, rfl⟩ := r11.val
  try go_wp2_with fail
  refine hK.out _ _ (by first | exact K6.out _ b6 (ZVS.out _ hb) | exact K6.out _ b6 (ZVP.out _ HP) | exact K6.out _ b6.drew (ZVS.out _ hb.drew)) (fun hHeld => ?_)
  clear hK K
  try simp only [Act.put, List.setIfInBounds_toArray, List.set_cons_zero, List.set_cons_succ]
  refine wpAnyZ_ready (rs := [14]) (by kernel_rfl) (by simp) ?_
  refine AllReadyZ.cons (opAt rfl) (fun K hK => ?_) ?_
  go_simp
  refine (node_yes _ _ _ _ l _ HLx1.out r5.sl r11.sl HR1.out).mono ?_
  rintro e w5x ⟨rfl, hb1⟩
  replace b6 := b6.below hb1 b6.lt
  replace b18 := b18.below hb1 b18.lt
  replace b27 := b27.below hb1 b27.lt
  replace r5 := r5.below hb1
  replace r11 := r11.below hb1
  replace hb := hb.trans (hb1.mono hb.size)
  clear hb1
  have Na : NdO w5x wS.heap.size (.agg #[.bool true, .slice Cr5 x1.length kr5, .slice Cr11 y1.length kr11, .int .u64 l]) true x1 y1 l := ⟨_, _, rfl, r5, r11⟩
  clear r5 r11
  try go_wp2_with fail
  refine hK.out _ _ (by first | exact K6.out _ b6 (ZVS.out _ hb) | exact K6.out _ b6 (ZVP.out _ HP) | exact K6.out _ b6.drew (ZVS.out _ hb.drew)) (fun hHeld => ?_)
  clear hK K
  try simp only [Act.put, List.setIfInBounds_toArray, List.set_cons_zero, List.set_cons_succ]
  refine wpAnyZ_ready (rs := [19]) (by kernel_rfl) (by simp) ?_
  refine AllReadyZ.cons (opAt rfl) (fun K hK => ?_) ?_
  go_simp
  refine (W1.out _ hb _ (sl_one b18)).mono ?_
  rintro e w6x ⟨⟨u, rfl, r19⟩, hb1⟩
  replace r19 := r19.mono (lo' := wS.heap.size) hb.size
  rw [← HX2.out] at r19
  replace b6 := b6.below hb1 b6.lt
  replace b18 := b18.below hb1 b18.lt
  replace b27 := b27.below hb1 b27.lt
  replace Na := Na.below hb1
  replace hb := hb.trans (hb1.mono hb.size)
  clear hb1
  obtain ⟨Cr19, kr19, rfl⟩ := r19.val
  try go_wp2_with fail
  refine hK.out _ _ (by first | exact K6.out _ b6 (ZVS.out _ hb) | exact K6.out _ b6 (ZVP.out _ HP) | exact K6.out _ b6.drew (ZVS.out _ hb.drew)) (fun hHeld => ?_)
  clear hK K
  try simp only [Act.put, List.setIfInBounds_toArray, List.set_cons_zero, List.set_cons_succ]
  refine wpAnyZ_ready (rs := [28]) (by kernel_rfl) (by simp) ?_
  refine AllReadyZ.cons (opAt rfl) (fun K hK => ?_) ?_
  go_simp
  refine (W2.out _ hb _ (sl_one b27)).mono ?_
  rintro e w7x ⟨⟨u, rfl, r28⟩, hb1⟩
  replace r28 := r28.mono (lo' := wS.heap.size) hb.size
  rw [← HY2.out] at r28
  replace b6 := b6.below hb1 b6.lt
  replace b18 := b18.below hb1 b18.lt
  replace b27 := b27.below hb1 b27.lt
  replace r19 := r19.below hb1
  replace Na := Na.below hb1
  replace hb := hb.trans (hb1.mono hb.size)
  clear hb1
  obtain ⟨Cr28, kr28, rfl⟩ := r28.val
  try go_wp2_with fail
  refine hK.out _ _ (by first | exact K6.out _ b6 (ZVS.out _ hb) | exact K6.out _ b6 (ZVP.out _ HP) | exact K6.out _ b6.drew (ZVS.out _ hb.drew)) (fun hHeld => ?_)
  clear hK K
  try simp only [Act.put, List.setIfInBounds_toArray, List.set_cons_zero, List.set_cons_succ]
  refine wpAnyZ_ready (rs := [31]) (by kernel_rfl) (by simp) ?_
  refine AllReadyZ.cons (opAt rfl) (fun K hK => ?_) ?_
  go_simp
  refine (node_yes _ _ _ _ l' _ HLx2.out r19.sl r28.sl HR2.out).mono ?_
  rintro e w8x ⟨rfl, hb1⟩
  replace b6 := b6.below hb1 b6.lt
  replace b18 := b18.below hb1 b18.lt
  replace b27 := b27.below hb1 b27.lt
  replace r19 := r19.below hb1
  replace r28 := r28.below hb1
  replace Na := Na.below hb1
  replace hb := hb.trans (hb1.mono hb.size)
  clear hb1
  have Nb : NdO w8x wS.heap.size (.agg #[.bool true, .slice Cr19 x2.length kr19, .slice Cr28 y2.length kr28, .int .u64 l']) true x2 y2 l' := ⟨_, _, rfl, r19, r28⟩
  clear r19 r28
  try go_wp2_with fail
  refine hK.out _ _ (by first | exact K6.out _ b6 (ZVS.out _ hb) | exact K6.out _ b6 (ZVP.out _ HP) | exact K6.out _ b6.drew (ZVS.out _ hb.drew)) (fun hHeld => ?_)
  clear hK K
  try simp only [Act.put, List.setIfInBounds_toArray, List.set_cons_zero, List.set_cons_succ]
  refine wpAnyZ_ready (rs := [32]) (by kernel_rfl) (by simp) ?_
  refine AllReadyZ.cons (opAt rfl) (fun K hK => ?_) ?_
  obtain ⟨bx, bk, by_, bm, bc, bd⟩ := b6
  have zo := fun i => bc.frozen i
  have mo := fun i => bc.cell i
  go_simp
  replace bx := bx.offN HXC.out (.bool true) (.slice Cr5 x1.length kr5) (.slice Cr11 y1.length kr11) (.int .u64 l)
  replace by_ := by_.offN HYC.out (.bool true) (.slice Cr5 x1.length kr5) (.slice Cr11 y1.length kr11) (.int .u64 l)
  replace bk := bk.offN HKC.out (.bool true) (.slice Cr5 x1.length kr5) (.slice Cr11 y1.length kr11) (.int .u64 l)
  replace bm := bm.offN HMC.out (.bool true) (.slice Cr5 x1.length kr5) (.slice Cr11 y1.length kr11) (.int .u64 l)
  replace bd := bd.offN HDC.out (.bool true) (.slice Cr5 x1.length kr5) (.slice Cr11 y1.length kr11) (.int .u64 l)
  replace Na := Na.setN bc (.bool true) (.slice Cr5 x1.length kr5) (.slice Cr11 y1.length kr11) (.int .u64 l)
  replace Nb := Nb.setN bc (.bool true) (.slice Cr5 x1.length kr5) (.slice Cr11 y1.length kr11) (.int .u64 l)
  have HP := (Part.of_below (os := [gm, gc, gd]) hb).setN (g := gc) (by simp) (.bool true) (.slice Cr5 x1.length kr5) (.slice Cr11 y1.length kr11) (.int .u64 l)
  clear hb
  replace bc := bc.setN (.bool true) (.slice Cr5 x1.length kr5) (.slice Cr11 y1.length kr11) (.int .u64 l)
  clear zo mo
  generalize ((((w8x).setCell ⟨gc, 0, none⟩ (.bool true)).setCell ⟨gc, 1, none⟩ (.slice Cr5 x1.length kr5)).setCell ⟨gc, 2, none⟩ (.slice Cr11 y1.length kr11)).setCell ⟨gc, 3, none⟩ (.int .u64 l) = w9x at *
  have b6 := Six.mk bx bk by_ bm bc bd
  clear bx bk by_ bm bc bd
  refine hK.out _ _ (by first | exact K6.out _ b6 (ZVS.out _ hb) | exact K6.out _ b6 (ZVP.out _ HP) | exact K6.out _ b6.drew (ZVS.out _ hb.drew)) (fun hHeld => ?_)
  clear hK K
  try simp only [Act.put, List.setIfInBounds_toArray, List.set_cons_zero, List.set_cons_succ]
  refine wpAnyZ_ready (rs := [33]) (by kernel_rfl) (by simp) ?_
  refine AllReadyZ.cons (opAt rfl) (fun K hK => ?_) ?_
  obtain ⟨bx, bk, by_, bm, bc, bd⟩ := b6
  have zo := fun i => bd.frozen i
  have mo := fun i => bd.cell i
  go_simp
  replace bx := bx.offN HXD.out (.bool true) (.slice Cr19 x2.length kr19) (.slice Cr28 y2.length kr28) (.int .u64 l')
  replace by_ := by_.offN HYD.out (.bool true) (.slice Cr19 x2.length kr19) (.slice Cr28 y2.length kr28) (.int .u64 l')
  replace bk := bk.offN HKD.out (.bool true) (.slice Cr19 x2.length kr19) (.slice Cr28 y2.length kr28) (.int .u64 l')
  replace bm := bm.offN HMD.out (.bool true) (.slice Cr19 x2.length kr19) (.slice Cr28 y2.length kr28) (.int .u64 l')
  replace bc := bc.offN HCD.out (.bool true) (.slice Cr19 x2.length kr19) (.slice Cr28 y2.length kr28) (.int .u64 l')
  replace Na := Na.setN bd (.bool true) (.slice Cr19 x2.length kr19) (.slice Cr28 y2.length kr28) (.int .u64 l')
  replace Nb := Nb.setN bd (.bool true) (.slice Cr19 x2.length kr19) (.slice Cr28 y2.length kr28) (.int .u64 l')
  replace HP := HP.setN (g := gd) (by simp) (.bool true) (.slice Cr19 x2.length kr19) (.slice Cr28 y2.length kr28) (.int .u64 l')
  replace bd := bd.setN (.bool true) (.slice Cr19 x2.length kr19) (.slice Cr28 y2.length kr28) (.int .u64 l')
  clear zo mo
  generalize ((((w9x).setCell ⟨gd, 0, none⟩ (.bool true)).setCell ⟨gd, 1, none⟩ (.slice Cr19 x2.length kr19)).setCell ⟨gd, 2, none⟩ (.slice Cr28 y2.length kr28)).setCell ⟨gd, 3, none⟩ (.int .u64 l') = w10x at *
  have b6 := Six.mk bx bk by_ bm bc bd
  clear bx bk by_ bm bc bd
  refine hK.out _ _ (by first | exact K6.out _ b6 (ZVS.out _ hb) | exact K6.out _ b6 (ZVP.out _ HP) | exact K6.out _ b6.drew (ZVS.out _ hb.drew)) (fun hHeld => ?_)
  clear hK K
  try simp only [Act.put, List.setIfInBounds_toArray, List.set_cons_zero, List.set_cons_succ]
  refine wpAnyZ_done (by kernel_rfl) ?_ _
  go_wp2_with fail
  go_end0
  obtain ⟨bx, bk, by_, bm, bc, bd⟩ := b6
  exact ⟨rfl, HP0.out.trans HP, _, _, _, _, bc, bd, bm, Na.mono HBS.out, Nb.mono HBS.out⟩
  exact AllReadyZ.nil
  exact AllReadyZ.nil
  exact AllReadyZ.nil
  exact AllReadyZ.nil
  exact AllReadyZ.nil
  exact AllReadyZ.nil
  exact AllReadyZ.nil
  exact AllReadyZ.nil
  refine AllReadyZ.cons (opAt rfl) (fun K hK => ?_) ?_
  go_simp
  replace b6 := b6.alloc (.cells #[.int .u64 v0] 22)
  replace b18 := b18.alloc (.cells #[.int .u64 v0] 22)
  replace hb := hb.alloc hb.size (.cells #[.int .u64 v0] 22)
  have b27 := Blk.new w1x 22 #[.int .u64 v0]
  generalize w1x.alloc (.cells #[.int .u64 v0] 22) = w2x at *
  generalize w1x.heap.size = g27 at *
  refine hK.out _ _ (by first | exact K6.out _ b6 (ZVS.out _ hb) | exact K6.out _ b6 (ZVP.out _ HP) | exact K6.out _ b6.drew (ZVS.out _ hb.drew)) (fun hHeld => ?_)
  clear hK K
  try simp only [Act.put, List.setIfInBounds_toArray, List.set_cons_zero, List.set_cons_succ]
  refine wpAnyZ_ready (rs := [5]) (by kernel_rfl) (by simp) ?_
  refine AllReadyZ.cons (opAt rfl) (fun K hK => ?_) ?_
  go_simp
  refine (W5.out _ hb).mono ?_
  rintro e w3x ⟨⟨u, rfl, r5⟩, hb1⟩
  replace r5 := r5.mono (lo' := wS.heap.size) hb.size
  rw [← HX1.out] at r5
  replace b6 := b6.below hb1 b6.lt
  replace b18 := b18.below hb1 b18.lt
  replace b27 := b27.below hb1 b27.lt
  replace hb := hb.trans (hb1.mono hb.size)
  clear hb1
  obtain ⟨Cr5, kr5, rfl⟩ := r5.val
  try go_wp2_with fail
  refine hK.out _ _ (by first | exact K6.out _ b6 (ZVS.out _ hb) | exact K6.out _ b6 (ZVP.out _ HP) | exact K6.out _ b6.drew (ZVS.out _ hb.drew)) (fun hHeld => ?_)
  clear hK K
  try simp only [Act.put, List.setIfInBounds_toArray, List.set_cons_zero, List.set_cons_succ]
  refine wpAnyZ_ready (rs := [11]) (by kernel_rfl) (by simp) ?_
  refine AllReadyZ.cons (opAt rfl) (fun K hK => ?_) ?_
  go_simp
  refine (W6.out _ hb).mono ?_
  rintro e w4x ⟨⟨u, rfl, r11⟩, hb1⟩
  replace r11 := r11.mono (lo' := wS.heap.size) hb.size
  rw [← HY1.out] at r11
  replace b6 := b6.below hb1 b6.lt
  replace b18 := b18.below hb1 b18.lt
  replace b27 := b27.below hb1 b27.lt
  replace r5 := r5.below hb1
  replace hb := hb.trans (hb1.mono hb.size)
  clear hb1
  obtain ⟨Cr11, kr11, rfl⟩ := r11.val
  try go_wp2_with fail
  refine hK.out _ _ (by first | exact K6.out _ b6 (ZVS.out _ hb) | exact K6.out _ b6 (ZVP.out _ HP) | exact K6.out _ b6.drew (ZVS.out _ hb.drew)) (fun hHeld => ?_)
  clear hK K
  try simp only [Act.put, List.setIfInBounds_toArray, List.set_cons_zero, List.set_cons_succ]
  refine wpAnyZ_ready (rs := [14]) (by kernel_rfl) (by simp) ?_
  refine AllReadyZ.cons (opAt rfl) (fun K hK => ?_) ?_
  go_simp
  refine (node_yes _ _ _ _ l _ HLx1.out r5.sl r11.sl HR1.out).mono ?_
  rintro e w5x ⟨rfl, hb1⟩
  replace b6 := b6.below hb1 b6.lt
  replace b18 := b18.below hb1 b18.lt
  replace b27 := b27.below hb1 b27.lt
  replace r5 := r5.below hb1
  replace r11 := r11.below hb1
  replace hb := hb.trans (hb1.mono hb.size)
  clear hb1
  have Na : NdO w5x wS.heap.size (.agg #[.bool true, .slice Cr5 x1.length kr5, .slice Cr11 y1.length kr11, .int .u64 l]) true x1 y1 l := ⟨_, _, rfl, r5, r11⟩
  clear r5 r11
  try go_wp2_with fail
  refine hK.out _ _ (by first | exact K6.out _ b6 (ZVS.out _ hb) | exact K6.out _ b6 (ZVP.out _ HP) | exact K6.out _ b6.drew (ZVS.out _ hb.drew)) (fun hHeld => ?_)
  clear hK K
  try simp only [Act.put, List.setIfInBounds_toArray, List.set_cons_zero, List.set_cons_succ]
  refine wpAnyZ_ready (rs := [19]) (by kernel_rfl) (by simp) ?_
  refine AllReadyZ.cons (opAt rfl) (fun K hK => ?_) ?_
  go_simp
  refine (W1.out _ hb _ (sl_one b18)).mono ?_
  rintro e w6x ⟨⟨u, rfl, r19⟩, hb1⟩
  replace r19 := r19.mono (lo' := wS.heap.size) hb.size
  rw [← HX2.out] at r19
  replace b6 := b6.below hb1 b6.lt
  replace b18 := b18.below hb1 b18.lt
  replace b27 := b27.below hb1 b27.lt
  replace Na := Na.below hb1
  replace hb := hb.trans (hb1.mono hb.size)
  clear hb1
  obtain ⟨Cr19, kr19, rfl⟩ := r19.val
  try go_wp2_with fail
  refine hK.out _ _ (by first | exact K6.out _ b6 (ZVS.out _ hb) | exact K6.out _ b6 (ZVP.out _ HP) | exact K6.out _ b6.drew (ZVS.out _ hb.drew)) (fun hHeld => ?_)
  clear hK K
  try simp only [Act.put, List.setIfInBounds_toArray, List.set_cons_zero, List.set_cons_succ]
  refine wpAnyZ_ready (rs := [28]) (by kernel_rfl) (by simp) ?_
  refine AllReadyZ.cons (opAt rfl) (fun K hK => ?_) ?_
  go_simp
  refine (W2.out _ hb _ (sl_one b27)).mono ?_
  rintro e w7x ⟨⟨u, rfl, r28⟩, hb1⟩
  replace r28 := r28.mono (lo' := wS.heap.size) hb.size
  rw [← HY2.out] at r28
  replace b6 := b6.below hb1 b6.lt
  replace b18 := b18.below hb1 b18.lt
  replace b27 := b27.below hb1 b27.lt
  replace r19 := r19.below hb1
  replace Na := Na.below hb1
  replace hb := hb.trans (hb1.mono hb.size)
  clear hb1
  obtain ⟨Cr28, kr28, rfl⟩ := r28.val
  try go_wp2_with fail
  refine hK.out _ _ (by first | exact K6.out _ b6 (ZVS.out _ hb) | exact K6.out _ b6 (ZVP.out _ HP) | exact K6.out _ b6.drew (ZVS.out _ hb.drew)) (fun hHeld => ?_)
  clear hK K
  try simp only [Act.put, List.setIfInBounds_toArray, List.set_cons_zero, List.set_cons_succ]
  refine wpAnyZ_ready (rs := [31]) (by kernel_rfl) (by simp) ?_
  refine AllReadyZ.cons (opAt rfl) (fun K hK => ?_) ?_
  go_simp
  refine (node_yes _ _ _ _ l' _ HLx2.out r19.sl r28.sl HR2.out).mono ?_
  rintro e w8x ⟨rfl, hb1⟩
  replace b6 := b6.below hb1 b6.lt
  replace b18 := b18.below hb1 b18.lt
  replace b27 := b27.below hb1 b27.lt
  replace r19 := r19.below hb1
  replace r28 := r28.below hb1
  replace Na := Na.below hb1
  replace hb := hb.trans (hb1.mono hb.size)
  clear hb1
  have Nb : NdO w8x wS.heap.size (.agg #[.bool true, .slice Cr19 x2.length kr19, .slice Cr28 y2.length kr28, .int .u64 l']) true x2 y2 l' := ⟨_, _, rfl, r19, r28⟩
  clear r19 r28
  try go_wp2_with fail
  refine hK.out _ _ (by first | exact K6.out _ b6 (ZVS.out _ hb) | exact K6.out _ b6 (ZVP.out _ HP) | exact K6.out _ b6.drew (ZVS.out _ hb.drew)) (fun hHeld => ?_)
  clear hK K
  try simp only [Act.put, List.setIfInBounds_toArray, List.set_cons_zero, List.set_cons_succ]
  refine wpAnyZ_ready (rs := [32]) (by kernel_rfl) (by simp) ?_
  refine AllReadyZ.cons (opAt rfl) (fun K hK => ?_) ?_
  obtain ⟨bx, bk, by_, bm, bc, bd⟩ := b6
  have zo := fun i => bc.frozen i
  have mo := fun i => bc.cell i
  go_simp
  replace bx := bx.offN HXC.out (.bool true) (.slice Cr5 x1.length kr5) (.slice Cr11 y1.length kr11) (.int .u64 l)
  replace by_ := by_.offN HYC.out (.bool true) (.slice Cr5 x1.length kr5) (.slice Cr11 y1.length kr11) (.int .u64 l)
  replace bk := bk.offN HKC.out (.bool true) (.slice Cr5 x1.length kr5) (.slice Cr11 y1.length kr11) (.int .u64 l)
  replace bm := bm.offN HMC.out (.bool true) (.slice Cr5 x1.length kr5) (.slice Cr11 y1.length kr11) (.int .u64 l)
  replace bd := bd.offN HDC.out (.bool true) (.slice Cr5 x1.length kr5) (.slice Cr11 y1.length kr11) (.int .u64 l)
  replace Na := Na.setN bc (.bool true) (.slice Cr5 x1.length kr5) (.slice Cr11 y1.length kr11) (.int .u64 l)
  replace Nb := Nb.setN bc (.bool true) (.slice Cr5 x1.length kr5) (.slice Cr11 y1.length kr11) (.int .u64 l)
  have HP := (Part.of_below (os := [gm, gc, gd]) hb).setN (g := gc) (by simp) (.bool true) (.slice Cr5 x1.length kr5) (.slice Cr11 y1.length kr11) (.int .u64 l)
  clear hb
  replace bc := bc.setN (.bool true) (.slice Cr5 x1.length kr5) (.slice Cr11 y1.length kr11) (.int .u64 l)
  clear zo mo
  generalize ((((w8x).setCell ⟨gc, 0, none⟩ (.bool true)).setCell ⟨gc, 1, none⟩ (.slice Cr5 x1.length kr5)).setCell ⟨gc, 2, none⟩ (.slice Cr11 y1.length kr11)).setCell ⟨gc, 3, none⟩ (.int .u64 l) = w9x at *
  have b6 := Six.mk bx bk by_ bm bc bd
  clear bx bk by_ bm bc bd
  refine hK.out _ _ (by first | exact K6.out _ b6 (ZVS.out _ hb) | exact K6.out _ b6 (ZVP.out _ HP) | exact K6.out _ b6.drew (ZVS.out _ hb.drew)) (fun hHeld => ?_)
  clear hK K
  try simp only [Act.put, List.setIfInBounds_toArray, List.set_cons_zero, List.set_cons_succ]
  refine wpAnyZ_ready (rs := [33]) (by kernel_rfl) (by simp) ?_
  refine AllReadyZ.cons (opAt rfl) (fun K hK => ?_) ?_
  obtain ⟨bx, bk, by_, bm, bc, bd⟩ := b6
  have zo := fun i => bd.frozen i
  have mo := fun i => bd.cell i
  go_simp
  replace bx := bx.offN HXD.out (.bool true) (.slice Cr19 x2.length kr19) (.slice Cr28 y2.length kr28) (.int .u64 l')
  replace by_ := by_.offN HYD.out (.bool true) (.slice Cr19 x2.length kr19) (.slice Cr28 y2.length kr28) (.int .u64 l')
  replace bk := bk.offN HKD.out (.bool true) (.slice Cr19 x2.length kr19) (.slice Cr28 y2.length kr28) (.int .u64 l')
  replace bm := bm.offN HMD.out (.bool true) (.slice Cr19 x2.length kr19) (.slice Cr28 y2.length kr28) (.int .u64 l')
  replace bc := bc.offN HCD.out (.bool true) (.slice Cr19 x2.length kr19) (.slice Cr28 y2.length kr28) (.int .u64 l')
  replace Na := Na.setN bd (.bool true) (.slice Cr19 x2.length kr19) (.slice Cr28 y2.length kr28) (.int .u64 l')
  replace Nb := Nb.setN bd (.bool true) (.slice Cr19 x2.length kr19) (.slice Cr28 y2.length kr28) (.int .u64 l')
  replace HP := HP.setN (g := gd) (by simp) (.bool true) (.slice Cr19 x2.length kr19) (.slice Cr28 y2.length kr28) (.int .u64 l')
  replace bd := bd.setN (.bool true) (.slice Cr19 x2.length kr19) (.slice Cr28 y2.length kr28) (.int .u64 l')
  clear zo mo
  generalize ((((w9x).setCell ⟨gd, 0, none⟩ (.bool true)).setCell ⟨gd, 1, none⟩ (.slice Cr19 x2.length kr19)).setCell ⟨gd, 2, none⟩ (.slice Cr28 y2.length kr28)).setCell ⟨gd, 3, none⟩ (.int .u64 l') = w10x at *
  have b6 := Six.mk bx bk by_ bm bc bd
  clear bx bk by_ bm bc bd
  refine hK.out _ _ (by first | exact K6.out _ b6 (ZVS.out _ hb) | exact K6.out _ b6 (ZVP.out _ HP) | exact K6.out _ b6.drew (ZVS.out _ hb.drew)) (fun hHeld => ?_)
  clear hK K
  try simp only [Act.put, List.setIfInBounds_toArray, List.set_cons_zero, List.set_cons_succ]
  refine wpAnyZ_done (by kernel_rfl) ?_ _
  go_wp2_with fail
  go_end0
  obtain ⟨bx, bk, by_, bm, bc, bd⟩ := b6
  exact ⟨rfl, HP0.out.trans HP, _, _, _, _, bc, bd, bm, Na.mono HBS.out, Nb.mono HBS.out⟩
  exact AllReadyZ.nil
  exact AllReadyZ.nil
  exact AllReadyZ.nil
  exact AllReadyZ.nil
  exact AllReadyZ.nil
  exact AllReadyZ.nil
  exact AllReadyZ.nil
  exact AllReadyZ.nil
  exact AllReadyZ.nil
  refine AllReadyZ.cons (opAt rfl) (fun K hK => ?_) ?_
  go_simp
  replace b6 := b6.alloc (.cells #[.int .u64 v0] 22)
  replace hb := hb.alloc hb.size (.cells #[.int .u64 v0] 22)
  have b27 := Blk.new w0x 22 #[.int .u64 v0]
  generalize w0x.alloc (.cells #[.int .u64 v0] 22) = w1x at *
  generalize w0x.heap.size = g27 at *
  refine hK.out _ _ (by first | exact K6.out _ b6 (ZVS.out _ hb) | exact K6.out _ b6 (ZVP.out _ HP) | exact K6.out _ b6.drew (ZVS.out _ hb.drew)) (fun hHeld => ?_)
  clear hK K
  try simp only [Act.put, List.setIfInBounds_toArray, List.set_cons_zero, List.set_cons_succ]
  refine wpAnyZ_ready (rs := [5, 18]) (by kernel_rfl) (by simp) ?_
  refine AllReadyZ.cons (opAt rfl) (fun K hK => ?_) ?_
  go_simp
  refine (W5.out _ hb).mono ?_
  rintro e w2x ⟨⟨u, rfl, r5⟩, hb1⟩
  replace r5 := r5.mono (lo' := wS.heap.size) hb.size
  rw [← HX1.out] at r5
  replace b6 := b6.below hb1 b6.lt
  replace b27 := b27.below hb1 b27.lt
  replace hb := hb.trans (hb1.mono hb.size)
  clear hb1
  obtain ⟨Cr5, kr5, rfl⟩ := r5.val
  try go_wp2_with fail
  refine hK.out _ _ (by first | exact K6.out _ b6 (ZVS.out _ hb) | exact K6.out _ b6 (ZVP.out _ HP) | exact K6.out _ b6.drew (ZVS.out _ hb.drew)) (fun hHeld => ?_)
  clear hK K
  try simp only [Act.put, List.setIfInBounds_toArray, List.set_cons_zero, List.set_cons_succ]
  refine wpAnyZ_ready (rs := [11, 18]) (by kernel_rfl) (by simp) ?_
  refine AllReadyZ.cons (opAt rfl) (fun K hK => ?_) ?_
  go_simp
  refine (W6.out _ hb).mono ?_
  rintro e w3x ⟨⟨u, rfl, r11⟩, hb1⟩
  replace r11 := r11.mono (lo' := wS.heap.size) hb.size
  rw [← HY1.out] at r11
  replace b6 := b6.below hb1 b6.lt
  replace b27 := b27.below hb1 b27.lt
  replace r5 := r5.below hb1
  replace hb := hb.trans (hb1.mono hb.size)
  clear hb1
  obtain ⟨Cr11, kr11, rfl⟩ := r11.val
  try go_wp2_with fail
  refine hK.out _ _ (by first | exact K6.out _ b6 (ZVS.out _ hb) | exact K6.out _ b6 (ZVP.out _ HP) | exact K6.out _ b6.drew (ZVS.out _ hb.drew)) (fun hHeld => ?_)
  clear hK K
  try simp only [Act.put, List.setIfInBounds_toArray, List.set_cons_zero, List.set_cons_succ]
  refine wpAnyZ_ready (rs := [14, 18]) (by kernel_rfl) (by simp) ?_
  refine AllReadyZ.cons (opAt rfl) (fun K hK => ?_) ?_
  go_simp
  refine (node_yes _ _ _ _ l _ HLx1.out r5.sl r11.sl HR1.out).mono ?_
  rintro e w4x ⟨rfl, hb1⟩
  replace b6 := b6.below hb1 b6.lt
  replace b27 := b27.below hb1 b27.lt
  replace r5 := r5.below hb1
  replace r11 := r11.below hb1
  replace hb := hb.trans (hb1.mono hb.size)
  clear hb1
  have Na : NdO w4x wS.heap.size (.agg #[.bool true, .slice Cr5 x1.length kr5, .slice Cr11 y1.length kr11, .int .u64 l]) true x1 y1 l := ⟨_, _, rfl, r5, r11⟩
  clear r5 r11
  try go_wp2_with fail
  refine hK.out _ _ (by first | exact K6.out _ b6 (ZVS.out _ hb) | exact K6.out _ b6 (ZVP.out _ HP) | exact K6.out _ b6.drew (ZVS.out _ hb.drew)) (fun hHeld => ?_)
  clear hK K
  try simp only [Act.put, List.setIfInBounds_toArray, List.set_cons_zero, List.set_cons_succ]
  refine wpAnyZ_ready (rs := [18]) (by kernel_rfl) (by simp) ?_
  refine AllReadyZ.cons (opAt rfl) (fun K hK => ?_) ?_
  go_simp
  replace b6 := b6.alloc (.cells #[.int .u64 key] 22)
  replace b27 := b27.alloc (.cells #[.int .u64 key] 22)
  replace Na := Na.below ((Below.refl _ _).alloc (Nat.le_refl _) (.cells #[.int .u64 key] 22))
  replace hb := hb.alloc hb.size (.cells #[.int .u64 key] 22)
  have b18 := Blk.new w4x 22 #[.int .u64 key]
  generalize w4x.alloc (.cells #[.int .u64 key] 22) = w5x at *
  generalize w4x.heap.size = g18 at *
  refine hK.out _ _ (by first | exact K6.out _ b6 (ZVS.out _ hb) | exact K6.out _ b6 (ZVP.out _ HP) | exact K6.out _ b6.drew (ZVS.out _ hb.drew)) (fun hHeld => ?_)
  clear hK K
  try simp only [Act.put, List.setIfInBounds_toArray, List.set_cons_zero, List.set_cons_succ]
  refine wpAnyZ_ready (rs := [19]) (by kernel_rfl) (by simp) ?_
  refine AllReadyZ.cons (opAt rfl) (fun K hK => ?_) ?_
  go_simp
  refine (W1.out _ hb _ (sl_one b18)).mono ?_
  rintro e w6x ⟨⟨u, rfl, r19⟩, hb1⟩
  replace r19 := r19.mono (lo' := wS.heap.size) hb.size
  rw [← HX2.out] at r19
  replace b6 := b6.below hb1 b6.lt
  replace b27 := b27.below hb1 b27.lt
  replace b18 := b18.below hb1 b18.lt
  replace Na := Na.below hb1
  replace hb := hb.trans (hb1.mono hb.size)
  clear hb1
  obtain ⟨Cr19, kr19, rfl⟩ := r19.val
  try go_wp2_with fail
  refine hK.out _ _ (by first | exact K6.out _ b6 (ZVS.out _ hb) | exact K6.out _ b6 (ZVP.out _ HP) | exact K6.out _ b6.drew (ZVS.out _ hb.drew)) (fun hHeld => ?_)
  clear hK K
  try simp only [Act.put, List.setIfInBounds_toArray, List.set_cons_zero, List.set_cons_succ]
  refine wpAnyZ_ready (rs := [28]) (by kernel_rfl) (by simp) ?_
  refine AllReadyZ.cons (opAt rfl) (fun K hK => ?_) ?_
  go_simp
  refine (W2.out _ hb _ (sl_one b27)).mono ?_
  rintro e w7x ⟨⟨u, rfl, r28⟩, hb1⟩
  replace r28 := r28.mono (lo' := wS.heap.size) hb.size
  rw [← HY2.out] at r28
  replace b6 := b6.below hb1 b6.lt
  replace b27 := b27.below hb1 b27.lt
  replace b18 := b18.below hb1 b18.lt
  replace r19 := r19.below hb1
  replace Na := Na.below hb1
  replace hb := hb.trans (hb1.mono hb.size)
  clear hb1
  obtain ⟨Cr28, kr28, rfl⟩ := r28.val
  try go_wp2_with fail
  refine hK.out _ _ (by first | exact K6.out _ b6 (ZVS.out _ hb) | exact K6.out _ b6 (ZVP.out _ HP) | exact K6.out _ b6.drew (ZVS.out _ hb.drew)) (fun hHeld => ?_)
  clear hK K
  try simp only [Act.put, List.setIfInBounds_toArray, List.set_cons_zero, List.set_cons_succ]
  refine wpAnyZ_ready (rs := [31]) (by kernel_rfl) (by simp) ?_
  refine AllReadyZ.cons (opAt rfl) (fun K hK => ?_) ?_
  go_simp
  refine (node_yes _ _ _ _ l' _ HLx2.out r19.sl r28.sl HR2.out).mono ?_
  rintro e w8x ⟨rfl, hb1⟩
  replace b6 := b6.below hb1 b6.lt
  replace b27 := b27.below hb1 b27.lt
  replace b18 := b18.below hb1 b18.lt
  replace r19 := r19.below hb1
  replace r28 := r28.below hb1
  replace Na := Na.below hb1
  replace hb := hb.trans (hb1.mono hb.size)
  clear hb1
  have Nb : NdO w8x wS.heap.size (.agg #[.bool true, .slice Cr19 x2.length kr19, .slice Cr28 y2.length kr28, .int .u64 l']) true x2 y2 l' := ⟨_, _, rfl, r19, r28⟩
  clear r19 r28
  try go_wp2_with fail
  refine hK.out _ _ (by first | exact K6.out _ b6 (ZVS.out _ hb) | exact K6.out _ b6 (ZVP.out _ HP) | exact K6.out _ b6.drew (ZVS.out _ hb.drew)) (fun hHeld => ?_)
  clear hK K
  try simp only [Act.put, List.setIfInBounds_toArray, List.set_cons_zero, List.set_cons_succ]
  refine wpAnyZ_ready (rs := [32]) (by kernel_rfl) (by simp) ?_
  refine AllReadyZ.cons (opAt rfl) (fun K hK => ?_) ?_
  obtain ⟨bx, bk, by_, bm, bc, bd⟩ := b6
  have zo := fun i => bc.frozen i
  have mo := fun i => bc.cell i
  go_simp
  replace bx := bx.offN HXC.out (.bool true) (.slice Cr5 x1.length kr5) (.slice Cr11 y1.length kr11) (.int .u64 l)
  replace by_ := by_.offN HYC.out (.bool true) (.slice Cr5 x1.length kr5) (.slice Cr11 y1.length kr11) (.int .u64 l)
  replace bk := bk.offN HKC.out (.bool true) (.slice Cr5 x1.length kr5) (.slice Cr11 y1.length kr11) (.int .u64 l)
  replace bm := bm.offN HMC.out (.bool true) (.slice Cr5 x1.length kr5) (.slice Cr11 y1.length kr11) (.int .u64 l)
  replace bd := bd.offN HDC.out (.bool true) (.slice Cr5 x1.length kr5) (.slice Cr11 y1.length kr11) (.int .u64 l)
  replace Na := Na.setN bc (.bool true) (.slice Cr5 x1.length kr5) (.slice Cr11 y1.length kr11) (.int .u64 l)
  replace Nb := Nb.setN bc (.bool true) (.slice Cr5 x1.length kr5) (.slice Cr11 y1.length kr11) (.int .u64 l)
  have HP := (Part.of_below (os := [gm, gc, gd]) hb).setN (g := gc) (by simp) (.bool true) (.slice Cr5 x1.length kr5) (.slice Cr11 y1.length kr11) (.int .u64 l)
  clear hb
  replace bc := bc.setN (.bool true) (.slice Cr5 x1.length kr5) (.slice Cr11 y1.length kr11) (.int .u64 l)
  clear zo mo
  generalize ((((w8x).setCell ⟨gc, 0, none⟩ (.bool true)).setCell ⟨gc, 1, none⟩ (.slice Cr5 x1.length kr5)).setCell ⟨gc, 2, none⟩ (.slice Cr11 y1.length kr11)).setCell ⟨gc, 3, none⟩ (.int .u64 l) = w9x at *
  have b6 := Six.mk bx bk by_ bm bc bd
  clear bx bk by_ bm bc bd
  refine hK.out _ _ (by first | exact K6.out _ b6 (ZVS.out _ hb) | exact K6.out _ b6 (ZVP.out _ HP) | exact K6.out _ b6.drew (ZVS.out _ hb.drew)) (fun hHeld => ?_)
  clear hK K
  try simp only [Act.put, List.setIfInBounds_toArray, List.set_cons_zero, List.set_cons_succ]
  refine wpAnyZ_ready (rs := [33]) (by kernel_rfl) (by simp) ?_
  refine AllReadyZ.cons (opAt rfl) (fun K hK => ?_) ?_
  obtain ⟨bx, bk, by_, bm, bc, bd⟩ := b6
  have zo := fun i => bd.frozen i
  have mo := fun i => bd.cell i
  go_simp
  replace bx := bx.offN HXD.out (.bool true) (.slice Cr19 x2.length kr19) (.slice Cr28 y2.length kr28) (.int .u64 l')
  replace by_ := by_.offN HYD.out (.bool true) (.slice Cr19 x2.length kr19) (.slice Cr28 y2.length kr28) (.int .u64 l')
  replace bk := bk.offN HKD.out (.bool true) (.slice Cr19 x2.length kr19) (.slice Cr28 y2.length kr28) (.int .u64 l')
  replace bm := bm.offN HMD.out (.bool true) (.slice Cr19 x2.length kr19) (.slice Cr28 y2.length kr28) (.int .u64 l')
  replace bc := bc.offN HCD.out (.bool true) (.slice Cr19 x2.length kr19) (.slice Cr28 y2.length kr28) (.int .u64 l')
  replace Na := Na.setN bd (.bool true) (.slice Cr19 x2.length kr19) (.slice Cr28 y2.length kr28) (.int .u64 l')
  replace Nb := Nb.setN bd (.bool true) (.slice Cr19 x2.length kr19) (.slice Cr28 y2.length kr28) (.int .u64 l')
  replace HP := HP.setN (g := gd) (by simp) (.bool true) (.slice Cr19 x2.length kr19) (.slice Cr28 y2.length kr28) (.int .u64 l')
  replace bd := bd.setN (.bool true) (.slice Cr19 x2.length kr19) (.slice Cr28 y2.length kr28) (.int .u64 l')
  clear zo mo
  generalize ((((w9x).setCell ⟨gd, 0, none⟩ (.bool true)).setCell ⟨gd, 1, none⟩ (.slice Cr19 x2.length kr19)).setCell ⟨gd, 2, none⟩ (.slice Cr28 y2.length kr28)).setCell ⟨gd, 3, none⟩ (.int .u64 l') = w10x at *
  have b6 := Six.mk bx bk by_ bm bc bd
  clear bx bk by_ bm bc bd
  refine hK.out _ _ (by first | exact K6.out _ b6 (ZVS.out _ hb) | exact K6.out _ b6 (ZVP.out _ HP) | exact K6.out _ b6.drew (ZVS.out _ hb.drew)) (fun hHeld => ?_)
  clear hK K
  try simp only [Act.put, List.setIfInBounds_toArray, List.set_cons_zero, List.set_cons_succ]
  refine wpAnyZ_done (by kernel_rfl) ?_ _
  go_wp2_with fail
  go_end0
  obtain ⟨bx, bk, by_, bm, bc, bd⟩ := b6
  exact ⟨rfl, HP0.out.trans HP, _, _, _, _, bc, bd, bm, Na.mono HBS.out, Nb.mono HBS.out⟩
  exact AllReadyZ.nil
  exact AllReadyZ.nil
  exact AllReadyZ.nil
  exact AllReadyZ.nil
  exact AllReadyZ.nil
  exact AllReadyZ.nil
  refine AllReadyZ.cons (opAt rfl) (fun K hK => ?_) ?_
  go_simp
  replace b6 := b6.alloc (.cells #[.int .u64 key] 22)
  replace b27 := b27.alloc (.cells #[.int .u64 key] 22)
  replace r5 := r5.alloc (.cells #[.int .u64 key] 22)
  replace r11 := r11.alloc (.cells #[.int .u64 key] 22)
  replace hb := hb.alloc hb.size (.cells #[.int .u64 key] 22)
  have b18 := Blk.new w3x 22 #[.int .u64 key]
  generalize w3x.alloc (.cells #[.int .u64 key] 22) = w4x at *
  generalize w3x.heap.size = g18 at *
  refine hK.out _ _ (by first | exact K6.out _ b6 (ZVS.out _ hb) | exact K6.out _ b6 (ZVP.out _ HP) | exact K6.out _ b6.drew (ZVS.out _ hb.drew)) (fun hHeld => ?_)
  clear hK K
  try simp only [Act.put, List.setIfInBounds_toArray, List.set_cons_zero, List.set_cons_succ]
  refine wpAnyZ_ready (rs := [14]) (by kernel_rfl) (by simp) ?_
  refine AllReadyZ.cons (opAt rfl) (fun K hK => ?_) ?_
  go_simp
  refine (node_yes _ _ _ _ l _ HLx1.out r5.sl r11.sl HR1.out).mono ?_
  rintro e w5x ⟨rfl, hb1⟩
  replace b6 := b6.below hb1 b6.lt
  replace b27 := b27.below hb1 b27.lt
  replace b18 := b18.below hb1 b18.lt
  replace r5 := r5.below hb1
  replace r11 := r11.below hb1
  replace hb := hb.trans (hb1.mono hb.size)
  clear hb1
  have Na : NdO w5x wS.heap.size (.agg #[.bool true, .slice Cr5 x1.length kr5, .slice Cr11 y1.length kr11, .int .u64 l]) true x1 y1 l := ⟨_, _, rfl, r5, r11⟩
  clear r5 r11
  try go_wp2_with fail
  refine hK.out _ _ (by first | exact K6.out _ b6 (ZVS.out _ hb) | exact K6.out _ b6 (ZVP.out _ HP) | exact K6.out _ b6.drew (ZVS.out _ hb.drew)) (fun hHeld => ?_)
  clear hK K
  try simp only [Act.put, List.setIfInBounds_toArray, List.set_cons_zero, List.set_cons_succ]
  refine wpAnyZ_ready (rs := [19]) (by kernel_rfl) (by simp) ?_
  refine AllReadyZ.cons (opAt rfl) (fun K hK => ?_) ?_
  go_simp
  refine (W1.out _ hb _ (sl_one b18)).mono ?_
  rintro e w6x ⟨⟨u, rfl, r19⟩, hb1⟩
  replace r19 := r19.mono (lo' := wS.heap.size) hb.size
  rw [← HX2.out] at r19
  replace b6 := b6.below hb1 b6.lt
  replace b27 := b27.below hb1 b27.lt
  replace b18 := b18.below hb1 b18.lt
  replace Na := Na.below hb1
  replace hb := hb.trans (hb1.mono hb.size)
  clear hb1
  obtain ⟨Cr19, kr19, rfl⟩ := r19.val
  try go_wp2_with fail
  refine hK.out _ _ (by first | exact K6.out _ b6 (ZVS.out _ hb) | exact K6.out _ b6 (ZVP.out _ HP) | exact K6.out _ b6.drew (ZVS.out _ hb.drew)) (fun hHeld => ?_)
  clear hK K
  try simp only [Act.put, List.setIfInBounds_toArray, List.set_cons_zero, List.set_cons_succ]
  refine wpAnyZ_ready (rs := [28]) (by kernel_rfl) (by simp) ?_
  refine AllReadyZ.cons (opAt rfl) (fun K hK => ?_) ?_
  go_simp
  refine (W2.out _ hb _ (sl_one b27)).mono ?_
  rintro e w7x ⟨⟨u, rfl, r28⟩, hb1⟩
  replace r28 := r28.mono (lo' := wS.heap.size) hb.size
  rw [← HY2.out] at r28
  replace b6 := b6.below hb1 b6.lt
  replace b27 := b27.below hb1 b27.lt
  replace b18 := b18.below hb1 b18.lt
  replace r19 := r19.below hb1
  replace Na := Na.below hb1
  replace hb := hb.trans (hb1.mono hb.size)
  clear hb1
  obtain ⟨Cr28, kr28, rfl⟩ := r28.val
  try go_wp2_with fail
  refine hK.out _ _ (by first | exact K6.out _ b6 (ZVS.out _ hb) | exact K6.out _ b6 (ZVP.out _ HP) | exact K6.out _ b6.drew (ZVS.out _ hb.drew)) (fun hHeld => ?_)
  clear hK K
  try simp only [Act.put, List.setIfInBounds_toArray, List.set_cons_zero, List.set_cons_succ]
  refine wpAnyZ_ready (rs := [31]) (by kernel_rfl) (by simp) ?_
  refine AllReadyZ.cons (opAt rfl) (fun K hK => ?_) ?_
  go_simp
  refine (node_yes _ _ _ _ l' _ HLx2.out r19.sl r28.sl HR2.out).mono ?_
  rintro e w8x ⟨rfl, hb1⟩
  replace b6 := b6.below hb1 b6.lt
  replace b27 := b27.below hb1 b27.lt
  replace b18 := b18.below hb1 b18.lt
  replace r19 := r19.below hb1
  replace r28 := r28.below hb1
  replace Na := Na.below hb1
  replace hb := hb.trans (hb1.mono hb.size)
  clear hb1
  have Nb : NdO w8x wS.heap.size (.agg #[.bool true, .slice Cr19 x2.length kr19, .slice Cr28 y2.length kr28, .int .u64 l']) true x2 y2 l' := ⟨_, _, rfl, r19, r28⟩
  clear r19 r28
  try go_wp2_with fail
  refine hK.out _ _ (by first | exact K6.out _ b6 (ZVS.out _ hb) | exact K6.out _ b6 (ZVP.out _ HP) | exact K6.out _ b6.drew (ZVS.out _ hb.drew)) (fun hHeld => ?_)
  clear hK K
  try simp only [Act.put, List.setIfInBounds_toArray, List.set_cons_zero, List.set_cons_succ]
  refine wpAnyZ_ready (rs := [32]) (by kernel_rfl) (by simp) ?_
  refine AllReadyZ.cons (opAt rfl) (fun K hK => ?_) ?_
  obtain ⟨bx, bk, by_, bm, bc, bd⟩ := b6
  have zo := fun i => bc.frozen i
  have mo := fun i => bc.cell i
  go_simp
  replace bx := bx.offN HXC.out (.bool true) (.slice Cr5 x1.length kr5) (.slice Cr11 y1.length kr11) (.int .u64 l)
  replace by_ := by_.offN HYC.out (.bool true) (.slice Cr5 x1.length kr5) (.slice Cr11 y1.length kr11) (.int .u64 l)
  replace bk := bk.offN HKC.out (.bool true) (.slice Cr5 x1.length kr5) (.slice Cr11 y1.length kr11) (.int .u64 l)
  replace bm := bm.offN HMC.out (.bool true) (.slice Cr5 x1.length kr5) (.slice Cr11 y1.length kr11) (.int .u64 l)
  replace bd := bd.offN HDC.out (.bool true) (.slice Cr5 x1.length kr5) (.slice Cr11 y1.length kr11) (.int .u64 l)
  replace Na := Na.setN bc (.bool true) (.slice Cr5 x1.length kr5) (.slice Cr11 y1.length kr11) (.int .u64 l)
  replace Nb := Nb.setN bc (.bool true) (.slice Cr5 x1.length kr5) (.slice Cr11 y1.length kr11) (.int .u64 l)
  have HP := (Part.of_below (os := [gm, gc, gd]) hb).setN (g := gc) (by simp) (.bool true) (.slice Cr5 x1.length kr5) (.slice Cr11 y1.length kr11) (.int .u64 l)
  clear hb
  replace bc := bc.setN (.bool true) (.slice Cr5 x1.length kr5) (.slice Cr11 y1.length kr11) (.int .u64 l)
  clear zo mo
  generalize ((((w8x).setCell ⟨gc, 0, none⟩ (.bool true)).setCell ⟨gc, 1, none⟩ (.slice Cr5 x1.length kr5)).setCell ⟨gc, 2, none⟩ (.slice Cr11 y1.length kr11)).setCell ⟨gc, 3, none⟩ (.int .u64 l) = w9x at *
  have b6 := Six.mk bx bk by_ bm bc bd
  clear bx bk by_ bm bc bd
  refine hK.out _ _ (by first | exact K6.out _ b6 (ZVS.out _ hb) | exact K6.out _ b6 (ZVP.out _ HP) | exact K6.out _ b6.drew (ZVS.out _ hb.drew)) (fun hHeld => ?_)
  clear hK K
  try simp only [Act.put, List.setIfInBounds_toArray, List.set_cons_zero, List.set_cons_succ]
  refine wpAnyZ_ready (rs := [33]) (by kernel_rfl) (by simp) ?_
  refine AllReadyZ.cons (opAt rfl) (fun K hK => ?_) ?_
  obtain ⟨bx, bk, by_, bm, bc, bd⟩ := b6
  have zo := fun i => bd.frozen i
  have mo := fun i => bd.cell i
  go_simp
  replace bx := bx.offN HXD.out (.bool true) (.slice Cr19 x2.length kr19) (.slice Cr28 y2.length kr28) (.int .u64 l')
  replace by_ := by_.offN HYD.out (.bool true) (.slice Cr19 x2.length kr19) (.slice Cr28 y2.length kr28) (.int .u64 l')
  replace bk := bk.offN HKD.out (.bool true) (.slice Cr19 x2.length kr19) (.slice Cr28 y2.length kr28) (.int .u64 l')
  replace bm := bm.offN HMD.out (.bool true) (.slice Cr19 x2.length kr19) (.slice Cr28 y2.length kr28) (.int .u64 l')
  replace bc := bc.offN HCD.out (.bool true) (.slice Cr19 x2.length kr19) (.slice Cr28 y2.length kr28) (.int .u64 l')
  replace Na := Na.setN bd (.bool true) (.slice Cr19 x2.length kr19) (.slice Cr28 y2.length kr28) (.int .u64 l')
  replace Nb := Nb.setN bd (.bool true) (.slice Cr19 x2.length kr19) (.slice Cr28 y2.length kr28) (.int .u64 l')
  replace HP := HP.setN (g := gd) (by simp) (.bool true) (.slice Cr19 x2.length kr19) (.slice Cr28 y2.length kr28) (.int .u64 l')
  replace bd := bd.setN (.bool true) (.slice Cr19 x2.length kr19) (.slice Cr28 y2.length kr28) (.int .u64 l')
  clear zo mo
  generalize ((((w9x).setCell ⟨gd, 0, none⟩ (.bool true)).setCell ⟨gd, 1, none⟩ (.slice Cr19 x2.length kr19)).setCell ⟨gd, 2, none⟩ (.slice Cr28 y2.length kr28)).setCell ⟨gd, 3, none⟩ (.int .u64 l') = w10x at *
  have b6 := Six.mk bx bk by_ bm bc bd
  clear bx bk by_ bm bc bd
  refine hK.out _ _ (by first | exact K6.out _ b6 (ZVS.out _ hb) | exact K6.out _ b6 (ZVP.out _ HP) | exact K6.out _ b6.drew (ZVS.out _ hb.drew)) (fun hHeld => ?_)
  clear hK K
  try simp only [Act.put, List.setIfInBounds_toArray, List.set_cons_zero, List.set_cons_succ]
  refine wpAnyZ_done (by kernel_rfl) ?_ _
  go_wp2_with fail
  go_end0
  obtain ⟨bx, bk, by_, bm, bc, bd⟩ := b6
  exact ⟨rfl, HP0.out.trans HP, _, _, _, _, bc, bd, bm, Na.mono HBS.out, Nb.mono HBS.out⟩
  exact AllReadyZ.nil
  exact AllReadyZ.nil
  exact AllReadyZ.nil
  exact AllReadyZ.nil
  exact AllReadyZ.nil
  exact AllReadyZ.nil
  exact AllReadyZ.nil
  refine AllReadyZ.cons (opAt rfl) (fun K hK => ?_) ?_
  go_simp
  replace b6 := b6.alloc (.cells #[.int .u64 key] 22)
  replace b27 := b27.alloc (.cells #[.int .u64 key] 22)
  replace r5 := r5.alloc (.cells #[.int .u64 key] 22)
  replace hb := hb.alloc hb.size (.cells #[.int .u64 key] 22)
  have b18 := Blk.new w2x 22 #[.int .u64 key]
  generalize w2x.alloc (.cells #[.int .u64 key] 22) = w3x at *
  generalize w2x.heap.size = g18 at *
  refine hK.out _ _ (by first | exact K6.out _ b6 (ZVS.out _ hb) | exact K6.out _ b6 (ZVP.out _ HP) | exact K6.out _ b6.drew (ZVS.out _ hb.drew)) (fun hHeld => ?_)
  clear hK K
  try simp only [Act.put, List.setIfInBounds_toArray, List.set_cons_zero, List.set_cons_succ]
  refine wpAnyZ_ready (rs := [11]) (by kernel_rfl) (by simp) ?_
  refine AllReadyZ.cons (opAt rfl) (fun K hK => ?_) ?_
  go_simp
  refine (W6.out _ hb).mono ?_
  rintro e w4x ⟨⟨u, rfl, r11⟩, hb1⟩
  replace r11 := r11.mono (lo' := wS.heap.size) hb.size
  rw [← HY1.out] at r11
  replace b6 := b6.below hb1 b6.lt
  replace b27 := b27.below hb1 b27.lt
  replace b18 := b18.below hb1 b18.lt
  replace r5 := r5.below hb1
  replace hb := hb.trans (hb1.mono hb.size)
  clear hb1
  obtain ⟨Cr11, kr11, rfl⟩ := r11.val
  try go_wp2_with fail
  refine hK.out _ _ (by first | exact K6.out _ b6 (ZVS.out _ hb) | exact K6.out _ b6 (ZVP.out _ HP) | exact K6.out _ b6.drew (ZVS.out _ hb.drew)) (fun hHeld => ?_)
  clear hK K
  try simp only [Act.put, List.setIfInBounds_toArray, List.set_cons_zero, List.set_cons_succ]
  refine wpAnyZ_ready (rs := [14]) (by kernel_rfl) (by simp) ?_
  refine AllReadyZ.cons (opAt rfl) (fun K hK => ?_) ?_
  go_simp
  refine (node_yes _ _ _ _ l _ HLx1.out r5.sl r11.sl HR1.out).mono ?_
  rintro e w5x ⟨rfl, hb1⟩
  replace b6 := b6.below hb1 b6.lt
  replace b27 := b27.below hb1 b27.lt
  replace b18 := b18.below hb1 b18.lt
  replace r5 := r5.below hb1
  replace r11 := r11.below hb1
  replace hb := hb.trans (hb1.mono hb.size)
  clear hb1
  have Na : NdO w5x wS.heap.size (.agg #[.bool true, .slice Cr5 x1.length kr5, .slice Cr11 y1.length kr11, .int .u64 l]) true x1 y1 l := ⟨_, _, rfl, r5, r11⟩
  clear r5 r11
  try go_wp2_with fail
  refine hK.out _ _ (by first | exact K6.out _ b6 (ZVS.out _ hb) | exact K6.out _ b6 (ZVP.out _ HP) | exact K6.out _ b6.drew (ZVS.out _ hb.drew)) (fun hHeld => ?_)
  clear hK K
  try simp only [Act.put, List.setIfInBounds_toArray, List.set_cons_zero, List.set_cons_succ]
  refine wpAnyZ_ready (rs := [19]) (by kernel_rfl) (by simp) ?_
  refine AllReadyZ.cons (opAt rfl) (fun K hK => ?_) ?_
  go_simp
  refine (W1.out _ hb _ (sl_one b18)).mono ?_
  rintro e w6x ⟨⟨u, rfl, r19⟩, hb1⟩
  replace r19 := r19.mono (lo' := wS.heap.size) hb.size
  rw [← HX2.out] at r19
  replace b6 := b6.below hb1 b6.lt
  replace b27 := b27.below hb1 b27.lt
  replace b18 := b18.below hb1 b18.lt
  replace Na := Na.below hb1
  replace hb := hb.trans (hb1.mono hb.size)
  clear hb1
  obtain ⟨Cr19, kr19, rfl⟩ := r19.val
  try go_wp2_with fail
  refine hK.out _ _ (by first | exact K6.out _ b6 (ZVS.out _ hb) | exact K6.out _ b6 (ZVP.out _ HP) | exact K6.out _ b6.drew (ZVS.out _ hb.drew)) (fun hHeld => ?_)
  clear hK K
  try simp only [Act.put, List.setIfInBounds_toArray, List.set_cons_zero, List.set_cons_succ]
  refine wpAnyZ_ready (rs := [28]) (by kernel_rfl) (by simp) ?_
  refine AllReadyZ.cons (opAt rfl) (fun K hK => ?_) ?_
  go_simp
  refine (W2.out _ hb _ (sl_one b27)).mono ?_
  rintro e w7x ⟨⟨u, rfl, r28⟩, hb1⟩
  replace r28 := r28.mono (lo' := wS.heap.size) hb.size
  rw [← HY2.out] at r28
  replace b6 := b6.below hb1 b6.lt
  replace b27 := b27.below hb1 b27.lt
  replace b18 := b18.below hb1 b18.lt
  replace r19 := r19.below hb1
  replace Na := Na.below hb1
  replace hb := hb.trans (hb1.mono hb.size)
  clear hb1
  obtain ⟨Cr28, kr28, rfl⟩ := r28.val
  try go_wp2_with fail
  refine hK.out _ _ (by first | exact K6.out _ b6 (ZVS.out _ hb) | exact K6.out _ b6 (ZVP.out _ HP) | exact K6.out _ b6.drew (ZVS.out _ hb.drew)) (fun hHeld => ?_)
  clear hK K
  try simp only [Act.put, List.setIfInBounds_toArray, List.set_cons_zero, List.set_cons_succ]
  refine wpAnyZ_ready (rs := [31]) (by kernel_rfl) (by simp) ?_
  refine AllReadyZ.cons (opAt rfl) (fun K hK => ?_) ?_
  go_simp
  refine (node_yes _ _ _ _ l' _ HLx2.out r19.sl r28.sl HR2.out).mono ?_
  rintro e w8x ⟨rfl, hb1⟩
  replace b6 := b6.below hb1 b6.lt
  replace b27 := b27.below hb1 b27.lt
  replace b18 := b18.below hb1 b18.lt
  replace r19 := r19.below hb1
  replace r28 := r28.below hb1
  replace Na := Na.below hb1
  replace hb := hb.trans (hb1.mono hb.size)
  clear hb1
  have Nb : NdO w8x wS.heap.size (.agg #[.bool true, .slice Cr19 x2.length kr19, .slice Cr28 y2.length kr28, .int .u64 l']) true x2 y2 l' := ⟨_, _, rfl, r19, r28⟩
  clear r19 r28
  try go_wp2_with fail
  refine hK.out _ _ (by first | exact K6.out _ b6 (ZVS.out _ hb) | exact K6.out _ b6 (ZVP.out _ HP) | exact K6.out _ b6.drew (ZVS.out _ hb.drew)) (fun hHeld => ?_)
  clear hK K
  try simp only [Act.put, List.setIfInBounds_toArray, List.set_cons_zero, List.set_cons_succ]
  refine wpAnyZ_ready (rs := [32]) (by kernel_rfl) (by simp) ?_
  refine AllReadyZ.cons (opAt rfl) (fun K hK => ?_) ?_
  obtain ⟨bx, bk, by_, bm, bc, bd⟩ := b6
  have zo := fun i => bc.frozen i
  have mo := fun i => bc.cell i
  go_simp
  replace bx := bx.offN HXC.out (.bool true) (.slice Cr5 x1.length kr5) (.slice Cr11 y1.length kr11) (.int .u64 l)
  replace by_ := by_.offN HYC.out (.bool true) (.slice Cr5 x1.length kr5) (.slice Cr11 y1.length kr11) (.int .u64 l)
  replace bk := bk.offN HKC.out (.bool true) (.slice Cr5 x1.length kr5) (.slice Cr11 y1.length kr11) (.int .u64 l)
  replace bm := bm.offN HMC.out (.bool true) (.slice Cr5 x1.length kr5) (.slice Cr11 y1.length kr11) (.int .u64 l)
  replace bd := bd.offN HDC.out (.bool true) (.slice Cr5 x1.length kr5) (.slice Cr11 y1.length kr11) (.int .u64 l)
  replace Na := Na.setN bc (.bool true) (.slice Cr5 x1.length kr5) (.slice Cr11 y1.length kr11) (.int .u64 l)
  replace Nb := Nb.setN bc (.bool true) (.slice Cr5 x1.length kr5) (.slice Cr11 y1.length kr11) (.int .u64 l)
  have HP := (Part.of_below (os := [gm, gc, gd]) hb).setN (g := gc) (by simp) (.bool true) (.slice Cr5 x1.length kr5) (.slice Cr11 y1.length kr11) (.int .u64 l)
  clear hb
  replace bc := bc.setN (.bool true) (.slice Cr5 x1.length kr5) (.slice Cr11 y1.length kr11) (.int .u64 l)
  clear zo mo
  generalize ((((w8x).setCell ⟨gc, 0, none⟩ (.bool true)).setCell ⟨gc, 1, none⟩ (.slice Cr5 x1.length kr5)).setCell ⟨gc, 2, none⟩ (.slice Cr11 y1.length kr11)).setCell ⟨gc, 3, none⟩ (.int .u64 l) = w9x at *
  have b6 := Six.mk bx bk by_ bm bc bd
  clear bx bk by_ bm bc bd
  refine hK.out _ _ (by first | exact K6.out _ b6 (ZVS.out _ hb) | exact K6.out _ b6 (ZVP.out _ HP) | exact K6.out _ b6.drew (ZVS.out _ hb.drew)) (fun hHeld => ?_)
  clear hK K
  try simp only [Act.put, List.setIfInBounds_toArray, List.set_cons_zero, List.set_cons_succ]
  refine wpAnyZ_ready (rs := [33]) (by kernel_rfl) (by simp) ?_
  refine AllReadyZ.cons (opAt rfl) (fun K hK => ?_) ?_
  obtain ⟨bx, bk, by_, bm, bc, bd⟩ := b6
  have zo := fun i => bd.frozen i
  have mo := fun i => bd.cell i
  go_simp
  replace bx := bx.offN HXD.out (.bool true) (.slice Cr19 x2.length kr19) (.slice Cr28 y2.length kr28) (.int .u64 l')
  replace by_ := by_.offN HYD.out (.bool true) (.slice Cr19 x2.length kr19) (.slice Cr28 y2.length kr28) (.int .u64 l')
  replace bk := bk.offN HKD.out (.bool true) (.slice Cr19 x2.length kr19) (.slice Cr28 y2.length kr28) (.int .u64 l')
  replace bm := bm.offN HMD.out (.bool true) (.slice Cr19 x2.length kr19) (.slice Cr28 y2.length kr28) (.int .u64 l')
  replace bc := bc.offN HCD.out (.bool true) (.slice Cr19 x2.length kr19) (.slice Cr28 y2.length kr28) (.int .u64 l')
  replace Na := Na.setN bd (.bool true) (.slice Cr19 x2.length kr19) (.slice Cr28 y2.length kr28) (.int .u64 l')
  replace Nb := Nb.setN bd (.bool true) (.slice Cr19 x2.length kr19) (.slice Cr28 y2.length kr28) (.int .u64 l')
  replace HP := HP.setN (g := gd) (by simp) (.bool true) (.slice Cr19 x2.length kr19) (.slice Cr28 y2.length kr28) (.int .u64 l')
  replace bd := bd.setN (.bool true) (.slice Cr19 x2.length kr19) (.slice Cr28 y2.length kr28) (.int .u64 l')
  clear zo mo
  generalize ((((w9x).setCell ⟨gd, 0, none⟩ (.bool true)).setCell ⟨gd, 1, none⟩ (.slice Cr19 x2.length kr19)).setCell ⟨gd, 2, none⟩ (.slice Cr28 y2.length kr28)).setCell ⟨gd, 3, none⟩ (.int .u64 l') = w10x at *
  have b6 := Six.mk bx bk by_ bm bc bd
  clear bx bk by_ bm bc bd
  refine hK.out _ _ (by first | exact K6.out _ b6 (ZVS.out _ hb) | exact K6.out _ b6 (ZVP.out _ HP) | exact K6.out _ b6.drew (ZVS.out _ hb.drew)) (fun hHeld => ?_)
  clear hK K
  try simp only [Act.put, List.setIfInBounds_toArray, List.set_cons_zero, List.set_cons_succ]
  refine wpAnyZ_done (by kernel_rfl) ?_ _
  go_wp2_with fail
  go_end0
  obtain ⟨bx, bk, by_, bm, bc, bd⟩ := b6
  exact ⟨rfl, HP0.out.trans HP, _, _, _, _, bc, bd, bm, Na.mono HBS.out, Nb.mono HBS.out⟩
  exact AllReadyZ.nil
  exact AllReadyZ.nil
  exact AllReadyZ.nil
  exact AllReadyZ.nil
  exact AllReadyZ.nil
  exact AllReadyZ.nil
  exact AllReadyZ.nil
  exact AllReadyZ.nil
  refine AllReadyZ.cons (opAt rfl) (fun K hK => ?_) ?_
  go_simp
  replace b6 := b6.alloc (.cells #[.int .u64 key] 22)
  replace b27 := b27.alloc (.cells #[.int .u64 key] 22)
  replace hb := hb.alloc hb.size (.cells #[.int .u64 key] 22)
  have b18 := Blk.new w1x 22 #[.int .u64 key]
  generalize w1x.alloc (.cells #[.int .u64 key] 22) = w2x at *
  generalize w1x.heap.size = g18 at *
  refine hK.out _ _ (by first | exact K6.out _ b6 (ZVS.out _ hb) | exact K6.out _ b6 (ZVP.out _ HP) | exact K6.out _ b6.drew (ZVS.out _ hb.drew)) (fun hHeld => ?_)
  clear hK K
  try simp only [Act.put, List.setIfInBounds_toArray, List.set_cons_zero, List.set_cons_succ]
  refine wpAnyZ_ready (rs := [5]) (by kernel_rfl) (by simp) ?_
  refine AllReadyZ.cons (opAt rfl) (fun K hK => ?_) ?_
  go_simp
  refine (W5.out _ hb).mono ?_
  rintro e w3x ⟨⟨u, rfl, r5⟩, hb1⟩
  replace r5 := r5.mono (lo' := wS.heap.size) hb.size
  rw [← HX1.out] at r5
  replace b6 := b6.below hb1 b6.lt
  replace b27 := b27.below hb1 b27.lt
  replace b18 := b18.below hb1 b18.lt
  replace hb := hb.trans (hb1.mono hb.size)
  clear hb1
  obtain ⟨Cr5, kr5, rfl⟩ := r5.val
  try go_wp2_with fail
  refine hK.out _ _ (by first | exact K6.out _ b6 (ZVS.out _ hb) | exact K6.out _ b6 (ZVP.out _ HP) | exact K6.out _ b6.drew (ZVS.out _ hb.drew)) (fun hHeld => ?_)
  clear hK K
  try simp only [Act.put, List.setIfInBounds_toArray, List.set_cons_zero, List.set_cons_succ]
  refine wpAnyZ_ready (rs := [11]) (by kernel_rfl) (by simp) ?_
  refine AllReadyZ.cons (opAt rfl) (fun K hK => ?_) ?_
  go_simp
  refine (W6.out _ hb).mono ?_
  rintro e w4x ⟨⟨u, rfl, r11⟩, hb1⟩
  replace r11 := r11.mono (lo' := wS.heap.size) hb.size
  rw [← HY1.out] at r11
  replace b6 := b6.below hb1 b6.lt
  replace b27 := b27.below hb1 b27.lt
  replace b18 := b18.below hb1 b18.lt
  replace r5 := r5.below hb1
  replace hb := hb.trans (hb1.mono hb.size)
  clear hb1
  obtain ⟨Cr11, kr11, rfl⟩ := r11.val
  try go_wp2_with fail
  refine hK.out _ _ (by first | exact K6.out _ b6 (ZVS.out _ hb) | exact K6.out _ b6 (ZVP.out _ HP) | exact K6.out _ b6.drew (ZVS.out _ hb.drew)) (fun hHeld => ?_)
  clear hK K
  try simp only [Act.put, List.setIfInBounds_toArray, List.set_cons_zero, List.set_cons_succ]
  refine wpAnyZ_ready (rs := [14]) (by kernel_rfl) (by simp) ?_
  refine AllReadyZ.cons (opAt rfl) (fun K hK => ?_) ?_
  go_simp
  refine (node_yes _ _ _ _ l _ HLx1.out r5.sl r11.sl HR1.out).mono ?_
  rintro e w5x ⟨rfl, hb1⟩
  replace b6 := b6.below hb1 b6.lt
  replace b27 := b27.below hb1 b27.lt
  replace b18 := b18.below hb1 b18.lt
  replace r5 := r5.below hb1
  replace r11 := r11.below hb1
  replace hb := hb.trans (hb1.mono hb.size)
  clear hb1
  have Na : NdO w5x wS.heap.size (.agg #[.bool true, .slice Cr5 x1.length kr5, .slice Cr11 y1.length kr11, .int .u64 l]) true x1 y1 l := ⟨_, _, rfl, r5, r11⟩
  clear r5 r11
  try go_wp2_with fail
  refine hK.out _ _ (by first | exact K6.out _ b6 (ZVS.out _ hb) | exact K6.out _ b6 (ZVP.out _ HP) | exact K6.out _ b6.drew (ZVS.out _ hb.drew)) (fun hHeld => ?_)
  clear hK K
  try simp only [Act.put, List.setIfInBounds_toArray, List.set_cons_zero, List.set_cons_succ]
  refine wpAnyZ_ready (rs := [19]) (by kernel_rfl) (by simp) ?_
  refine AllReadyZ.cons (opAt rfl) (fun K hK => ?_) ?_
  go_simp
  refine (W1.out _ hb _ (sl_one b18)).mono ?_
  rintro e w6x ⟨⟨u, rfl, r19⟩, hb1⟩
  replace r19 := r19.mono (lo' := wS.heap.size) hb.size
  rw [← HX2.out] at r19
  replace b6 := b6.below hb1 b6.lt
  replace b27 := b27.below hb1 b27.lt
  replace b18 := b18.below hb1 b18.lt
  replace Na := Na.below hb1
  replace hb := hb.trans (hb1.mono hb.size)
  clear hb1
  obtain ⟨Cr19, kr19, rfl⟩ := r19.val
  try go_wp2_with fail
  refine hK.out _ _ (by first | exact K6.out _ b6 (ZVS.out _ hb) | exact K6.out _ b6 (ZVP.out _ HP) | exact K6.out _ b6.drew (ZVS.out _ hb.drew)) (fun hHeld => ?_)
  clear hK K
  try simp only [Act.put, List.setIfInBounds_toArray, List.set_cons_zero, List.set_cons_succ]
  refine wpAnyZ_ready (rs := [28]) (by kernel_rfl) (by simp) ?_
  refine AllReadyZ.cons (opAt rfl) (fun K hK => ?_) ?_
  go_simp
  refine (W2.out _ hb _ (sl_one b27)).mono ?_
  rintro e w7x ⟨⟨u, rfl, r28⟩, hb1⟩
  replace r28 := r28.mono (lo' := wS.heap.size) hb.size
  rw [← HY2.out] at r28
  replace b6 := b6.below hb1 b6.lt
  replace b27 := b27.below hb1 b27.lt
  replace b18 := b18.below hb1 b18.lt
  replace r19 := r19.below hb1
  replace Na := Na.below hb1
  replace hb := hb.trans (hb1.mono hb.size)
  clear hb1
  obtain ⟨Cr28, kr28, rfl⟩ := r28.val
  try go_wp2_with fail
  refine hK.out _ _ (by first | exact K6.out _ b6 (ZVS.out _ hb) | exact K6.out _ b6 (ZVP.out _ HP) | exact K6.out _ b6.drew (ZVS.out _ hb.drew)) (fun hHeld => ?_)
  clear hK K
  try simp only [Act.put, List.setIfInBounds_toArray, List.set_cons_zero, List.set_cons_succ]
  refine wpAnyZ_ready (rs := [31]) (by kernel_rfl) (by simp) ?_
  refine AllReadyZ.cons (opAt rfl) (fun K hK => ?_) ?_
  go_simp
  refine (node_yes _ _ _ _ l' _ HLx2.out r19.sl r28.sl HR2.out).mono ?_
  rintro e w8x ⟨rfl, hb1⟩
  replace b6 := b6.below hb1 b6.lt
  replace b27 := b27.below hb1 b27.lt
  replace b18 := b18.below hb1 b18.lt
  replace r19 := r19.below hb1
  replace r28 := r28.below hb1
  replace Na := Na.below hb1
  replace hb := hb.trans (hb1.mono hb.size)
  clear hb1
  have Nb : NdO w8x wS.heap.size (.agg #[.bool true, .slice Cr19 x2.length kr19, .slice Cr28 y2.length kr28, .int .u64 l']) true x2 y2 l' := ⟨_, _, rfl, r19, r28⟩
  clear r19 r28
  try go_wp2_with fail
  refine hK.out _ _ (by first | exact K6.out _ b6 (ZVS.out _ hb) | exact K6.out _ b6 (ZVP.out _ HP) | exact K6.out _ b6.drew (ZVS.out _ hb.drew)) (fun hHeld => ?_)
  clear hK K
  try simp only [Act.put, List.setIfInBounds_toArray, List.set_cons_zero, List.set_cons_succ]
  refine wpAnyZ_ready (rs := [32]) (by kernel_rfl) (by simp) ?_
  refine AllReadyZ.cons (opAt rfl) (fun K hK => ?_) ?_
  obtain ⟨bx, bk, by_, bm, bc, bd⟩ := b6
  have zo := fun i => bc.frozen i
  have mo := fun i => bc.cell i
  go_simp
  replace bx := bx.offN HXC.out (.bool true) (.slice Cr5 x1.length kr5) (.slice Cr11 y1.length kr11) (.int .u64 l)
  replace by_ := by_.offN HYC.out (.bool true) (.slice Cr5 x1.length kr5) (.slice Cr11 y1.length kr11) (.int .u64 l)
  replace bk := bk.offN HKC.out (.bool true) (.slice Cr5 x1.length kr5) (.slice Cr11 y1.length kr11) (.int .u64 l)
  replace bm := bm.offN HMC.out (.bool true) (.slice Cr5 x1.length kr5) (.slice Cr11 y1.length kr11) (.int .u64 l)
  replace bd := bd.offN HDC.out (.bool true) (.slice Cr5 x1.length kr5) (.slice Cr11 y1.length kr11) (.int .u64 l)
  replace Na := Na.setN bc (.bool true) (.slice Cr5 x1.length kr5) (.slice Cr11 y1.length kr11) (.int .u64 l)
  replace Nb := Nb.setN bc (.bool true) (.slice Cr5 x1.length kr5) (.slice Cr11 y1.length kr11) (.int .u64 l)
  have HP := (Part.of_below (os := [gm, gc, gd]) hb).setN (g := gc) (by simp) (.bool true) (.slice Cr5 x1.length kr5) (.slice Cr11 y1.length kr11) (.int .u64 l)
  clear hb
  replace bc := bc.setN (.bool true) (.slice Cr5 x1.length kr5) (.slice Cr11 y1.length kr11) (.int .u64 l)
  clear zo mo
  generalize ((((w8x).setCell ⟨gc, 0, none⟩ (.bool true)).setCell ⟨gc, 1, none⟩ (.slice Cr5 x1.length kr5)).setCell ⟨gc, 2, none⟩ (.slice Cr11 y1.length kr11)).setCell ⟨gc, 3, none⟩ (.int .u64 l) = w9x at *
  have b6 := Six.mk bx bk by_ bm bc bd
  clear bx bk by_ bm bc bd
  refine hK.out _ _ (by first | exact K6.out _ b6 (ZVS.out _ hb) | exact K6.out _ b6 (ZVP.out _ HP) | exact K6.out _ b6.drew (ZVS.out _ hb.drew)) (fun hHeld => ?_)
  clear hK K
  try simp only [Act.put, List.setIfInBounds_toArray, List.set_cons_zero, List.set_cons_succ]
  refine wpAnyZ_ready (rs := [33]) (by kernel_rfl) (by simp) ?_
  refine AllReadyZ.cons (opAt rfl) (fun K hK => ?_) ?_
  obtain ⟨bx, bk, by_, bm, bc, bd⟩ := b6
  have zo := fun i => bd.frozen i
  have mo := fun i => bd.cell i
  go_simp
  replace bx := bx.offN HXD.out (.bool true) (.slice Cr19 x2.length kr19) (.slice Cr28 y2.length kr28) (.int .u64 l')
  replace by_ := by_.offN HYD.out (.bool true) (.slice Cr19 x2.length kr19) (.slice Cr28 y2.length kr28) (.int .u64 l')
  replace bk := bk.offN HKD.out (.bool true) (.slice Cr19 x2.length kr19) (.slice Cr28 y2.length kr28) (.int .u64 l')
  replace bm := bm.offN HMD.out (.bool true) (.slice Cr19 x2.length kr19) (.slice Cr28 y2.length kr28) (.int .u64 l')
  replace bc := bc.offN HCD.out (.bool true) (.slice Cr19 x2.length kr19) (.slice Cr28 y2.length kr28) (.int .u64 l')
  replace Na := Na.setN bd (.bool true) (.slice Cr19 x2.length kr19) (.slice Cr28 y2.length kr28) (.int .u64 l')
  replace Nb := Nb.setN bd (.bool true) (.slice Cr19 x2.length kr19) (.slice Cr28 y2.length kr28) (.int .u64 l')
  replace HP := HP.setN (g := gd) (by simp) (.bool true) (.slice Cr19 x2.length kr19) (.slice Cr28 y2.length kr28) (.int .u64 l')
  replace bd := bd.setN (.bool true) (.slice Cr19 x2.length kr19) (.slice Cr28 y2.length kr28) (.int .u64 l')
  clear zo mo
  generalize ((((w9x).setCell ⟨gd, 0, none⟩ (.bool true)).setCell ⟨gd, 1, none⟩ (.slice Cr19 x2.length kr19)).setCell ⟨gd, 2, none⟩ (.slice Cr28 y2.length kr28)).setCell ⟨gd, 3, none⟩ (.int .u64 l') = w10x at *
  have b6 := Six.mk bx bk by_ bm bc bd
  clear bx bk by_ bm bc bd
  refine hK.out _ _ (by first | exact K6.out _ b6 (ZVS.out _ hb) | exact K6.out _ b6 (ZVP.out _ HP) | exact K6.out _ b6.drew (ZVS.out _ hb.drew)) (fun hHeld => ?_)
  clear hK K
  try simp only [Act.put, List.setIfInBounds_toArray, List.set_cons_zero, List.set_cons_succ]
  refine wpAnyZ_done (by kernel_rfl) ?_ _
  go_wp2_with fail
  go_end0
  obtain ⟨bx, bk, by_, bm, bc, bd⟩ := b6
  exact ⟨rfl, HP0.out.trans HP, _, _, _, _, bc, bd, bm, Na.mono HBS.out, Nb.mono HBS.out⟩
  exact AllReadyZ.nil
  exact AllReadyZ.nil
  exact AllReadyZ.nil
  exact AllReadyZ.nil
  exact AllReadyZ.nil
  exact AllReadyZ.nil
  exact AllReadyZ.nil
  exact AllReadyZ.nil
  exact AllReadyZ.nil
  exact AllReadyZ.nil
end Go.Proofs.Ytcmoblibjhaegaa
