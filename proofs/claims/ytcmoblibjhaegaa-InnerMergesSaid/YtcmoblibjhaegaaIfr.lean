/-
  inner.FromRight.
-/
import Derived.Test.YtcmoblibjhaegaaImm
namespace Go.Proofs.Ytcmoblibjhaegaa
open Go.RowKit

/-- Two nodes and a word in blocks. -/
def TwoOut (gc gd gm lo : Nat) (mid : Int) (x1 y1 : List Int) (l : Int) (x2 y2 : List Int) (l' : Int) (w' : World) : Prop :=
  ∃ k1 u1 k2 u2, Blk w' gc 27 #[.bool true, k1, u1, .int .u64 l] ∧ Blk w' gd 27 #[.bool true, k2, u2, .int .u64 l'] ∧ Blk w' gm 22 #[.int .u64 mid] ∧ NdO w' lo (.agg #[.bool true, k1, u1, .int .u64 l]) true x1 y1 l ∧ NdO w' lo (.agg #[.bool true, k2, u2, .int .u64 l']) true x2 y2 l'
theorem TwoOut.set_ {gc gd gm lo g : Nat} {mid l l' : Int} {x1 y1 x2 y2 : List Int} {w' : World} (h : TwoOut gc gd gm lo mid x1 y1 l x2 y2 l' w') {x y : Value} (hb : Blk w' g 4 #[x]) : TwoOut gc gd gm lo mid x1 y1 l x2 y2 l' (w'.setCell ⟨g, 0, none⟩ y) := by
  obtain ⟨k1, u1, k2, u2, h1, h2, h3, h4, h5⟩ := h
  exact ⟨k1, u1, k2, u2, h1.far (p := ⟨g, 0, none⟩) (h1.ne_ hb (by decide)) _, h2.far (p := ⟨g, 0, none⟩) (h2.ne_ hb (by decide)) _, h3.far (p := ⟨g, 0, none⟩) (h3.ne_ hb (by decide)) _, h4.set_blk hb (by decide) _ _, h5.set_blk hb (by decide) _ _⟩
theorem TwoOut.mono {gc gd gm lo lo' : Nat} {mid l l' : Int} {x1 y1 x2 y2 : List Int} {w' : World} (h : TwoOut gc gd gm lo mid x1 y1 l x2 y2 l' w') (hl : lo' ≤ lo) : TwoOut gc gd gm lo' mid x1 y1 l x2 y2 l' w' := by
  obtain ⟨k1, u1, k2, u2, h1, h2, h3, h4, h5⟩ := h
  exact ⟨k1, u1, k2, u2, h1, h2, h3, h4.mono hl, h5.mono hl⟩
set_option maxRecDepth 100000 in
set_option maxHeartbeats 4000000 in
theorem fr1_few (b b' : Bool) (A A' E E' : Option Addr) (c c' f f' : Nat) (ks vs ks' vs' : List Int) (l l' key : Int) (B gx gk gy gm gc gd : Nat) (w : World) (hl : ks.length ≤ 900) (hl' : ks'.length ≤ 900) (h : Nd w B (.agg #[.bool b, .slice A ks.length c, .slice A' vs.length c', .int .u64 l]) b ks vs l) (h' : Nd w B (.agg #[.bool b', .slice E ks'.length f, .slice E' vs'.length f', .int .u64 l']) b' ks' vs' l') (hB : B ≤ w.heap.size) (bx : Blk w gx 27 #[.bool b, .slice A ks.length c, .slice A' vs.length c', .int .u64 l]) (bk : Blk w gk 22 #[.int .u64 key]) (by_ : Blk w gy 27 #[.bool b', .slice E ks'.length f, .slice E' vs'.length f', .int .u64 l'])
    (hno : (rightI b ks vs && rightI b' ks' vs' && rightI true (ks ++ key :: ks') (vs ++ vs')) = false ∨ ((rightI b ks vs = true ∧ rightI b' ks' vs' = true ∧ rightI true (ks ++ key :: ks') (vs ++ vs') = true) ∧ vs'.length < 2)) :
    Calls Try.prog 41 #[.pointer (some ⟨gx, 0, none⟩), .pointer (some ⟨gk, 0, none⟩), .pointer (some ⟨gy, 0, none⟩), .pointer (some ⟨gm, 0, none⟩), .pointer (some ⟨gc, 0, none⟩), .pointer (some ⟨gd, 0, none⟩)] w fun e w' => e = .panicked wrongP ∧ Below w.heap.size w w' := by
  rcases hno with hno | ⟨⟨h1, h2, h3⟩, hfew⟩
  · have Bt := hide (both_wrong _ _ b b' ks vs ks' vs' l l' key w (by omega) (by omega) (h.more hB) (h'.more hB) hno)
    clear h h' hno hl hl'
    generalize ks.length = n at *
    generalize vs.length = m at *
    generalize ks'.length = n' at *
    generalize vs'.length = m' at *
    have mx := fun i => bx.cell i
    have my := fun i => by_.cell i
    have mk := fun i => bk.cell i
    go_enter Try.func41, Try.ntmps41
    go_wp2_with fail
    refine Bt.out.mono ?_
    rintro e w1 ⟨rfl, hb1⟩
    go_wp2_with fail
    exact ⟨rfl, rfl, hb1⟩
  · have Bt := hide (both_yes _ _ b b' ks vs ks' vs' l l' key w (by omega) (by omega) (h.more hB) (h'.more hB) h1 h2 h3)
    have hd : decide ((2 : Int) ≤ (vs'.length : Int)) = false := by rw [decide_eq_false_iff_not]; omega
    have hd2 : decide (2 ≤ vs'.length) = false := by rw [decide_eq_false_iff_not]; omega
    clear h h' h1 h2 h3 hfew hl hl'
    obtain ⟨y1, hy1⟩ : ∃ y, y = ks ++ key :: ks' := ⟨_, rfl⟩
    obtain ⟨y2, hy2⟩ : ∃ y, y = vs ++ vs' := ⟨_, rfl⟩
    rw [← hy1, ← hy2] at Bt
    clear hy1 hy2
    generalize ks.length = n at *
    generalize vs.length = m at *
    generalize ks'.length = n' at *
    generalize vs'.length = m' at *
    have mx := fun i => bx.cell i
    have my := fun i => by_.cell i
    have mk := fun i => bk.cell i
    go_enter Try.func41, Try.ntmps41
    go_wp2_with fail
    refine Bt.out.mono ?_
    rintro e w1 ⟨⟨u, rfl, _⟩, hb1⟩
    replace by_ := by_.below hb1 by_.lt
    clear my mx mk
    have my := fun i => by_.cell i
    go_wp2_with fail
    refine (must_no _).mono ?_
    rintro e w2 ⟨rfl, rfl⟩
    go_wp2_with fail
    exact ⟨rfl, rfl, hb1⟩
set_option maxRecDepth 100000 in
set_option maxHeartbeats 4000000 in
theorem fr1_yes (b b' : Bool) (A A' E E' : Option Addr) (c c' f f' : Nat) (ks vs ks' vs' : List Int) (l l' key : Int) (x1 y1 x2 y2 : List Int) (B gx gk gy gm gc gd : Nat) (w : World) (hl : ks.length ≤ 900) (hl' : ks'.length ≤ 900) (h : Nd w B (.agg #[.bool b, .slice A ks.length c, .slice A' vs.length c', .int .u64 l]) b ks vs l) (h' : Nd w B (.agg #[.bool b', .slice E ks'.length f, .slice E' vs'.length f', .int .u64 l']) b' ks' vs' l') (hB : B ≤ w.heap.size) (bx : Blk w gx 27 #[.bool b, .slice A ks.length c, .slice A' vs.length c', .int .u64 l]) (bk : Blk w gk 22 #[.int .u64 key]) (by_ : Blk w gy 27 #[.bool b', .slice E ks'.length f, .slice E' vs'.length f', .int .u64 l'])
    (bm : Blk w gm 22 #[.int .u64 0]) (bc : Blk w gc 27 #[.bool false, .slice none 0 0, .slice none 0 0, .int .u64 0]) (bd : Blk w gd 27 #[.bool false, .slice none 0 0, .slice none 0 0, .int .u64 0]) (hBm : B ≤ gm) (hBc : B ≤ gc) (hBd : B ≤ gd) (nxc : gx ≠ gc) (nxd : gx ≠ gd) (nyc : gy ≠ gc) (nyd : gy ≠ gd) (ncd : gc ≠ gd) (nkm : gk ≠ gm) (h1 : rightI b ks vs = true) (h2 : rightI b' ks' vs' = true) (h3 : rightI true (ks ++ key :: ks') (vs ++ vs') = true) (hR : 2 ≤ vs'.length)
    (e1 : x1 = ks.take ks.length ++ [key] ++ ks.drop ks.length) (e2 : y1 = vs.take vs.length ++ [vs'.getD 0 0] ++ vs.drop vs.length) (e3 : x2 = ks'.take 0 ++ ks'.drop 1) (e4 : y2 = vs'.take 0 ++ vs'.drop 1) :
    Calls Try.prog 41 #[.pointer (some ⟨gx, 0, none⟩), .pointer (some ⟨gk, 0, none⟩), .pointer (some ⟨gy, 0, none⟩), .pointer (some ⟨gm, 0, none⟩), .pointer (some ⟨gc, 0, none⟩), .pointer (some ⟨gd, 0, none⟩)] w fun e w' => e = .returned (.tuple #[]) ∧ Part [gm, gc, gd] w w' ∧ TwoOut gc gd gm w.heap.size (ks'.getD 0 0) x1 y1 l x2 y2 l' w' := by
  have Bt := hide (both_yes _ _ b b' ks vs ks' vs' l l' key w (by omega) (by omega) (h.more hB) (h'.more hB) h1 h2 h3)
  obtain ⟨rfl, k1, r1⟩ := rightI_parts h1
  obtain ⟨rfl, k2, r2⟩ := rightI_parts h2
  obtain ⟨_, _, r3⟩ := rightI_parts h3
  have d1 : x1 = ks ++ [key] := by rw [e1]; simp
  have d2 : y1 = vs ++ [vs'.getD 0 0] := by rw [e2]; simp
  have d3 : x2 = ks'.drop 1 := by rw [e3]; simp
  have d4 : y2 = vs'.drop 1 := by rw [e4]; simp
  have HR1 := hide (show rightI true x1 y1 = true by rw [d1, d2]; exact rightI_of (by simp; omega) (rise_sub r3 (List.Sublist.append (List.Sublist.refl _) (by simp))))
  have HR2 := hide (show rightI true x2 y2 = true by rw [d3, d4]; exact rightI_of (by simp; omega) (rise_sub r2 (List.drop_sublist _ _)))
  have HLx1 := hide (show x1.length ≤ 1000000 by rw [d1]; simp; omega)
  have HLx2 := hide (show x2.length ≤ 1000000 by rw [d3]; simp; omega)
  have HN1 := hide (Nat.le_refl ks.length)
  have HM1 := hide (Nat.le_refl vs.length)
  have HL1 := hide (show ks.length ≤ 1000 by omega)
  have HL2 := hide (show vs.length ≤ 1000 by omega)
  have g1 : ks'.length ≤ 1000 := by omega
  have g2 : vs'.length ≤ 1000 := by omega
  have g3 : 1 ≤ ks'.length := by omega
  have zz : ((0 : Nat) : Int) = 0 := rfl
  have z1 : ((1 : Nat) : Int) = 1 := rfl
  obtain ⟨ka, ua, ea, SA1, SA2⟩ := h
  simp only [Value.agg.injEq, Array.mk.injEq, List.cons.injEq, and_true, true_and] at ea
  obtain ⟨rfl, rfl⟩ := ea
  obtain ⟨kb, ub, eb, SB1, SB2⟩ := h'
  simp only [Value.agg.injEq, Array.mk.injEq, List.cons.injEq, and_true, true_and] at eb
  obtain ⟨rfl, rfl⟩ := eb
  have T1 := SB1
  have T2 := SB2
  obtain ⟨E0, f0, e0, _, _, hrk⟩ := T1
  simp only [Value.slice.injEq, true_and] at e0
  obtain ⟨rfl, rfl⟩ := e0
  obtain ⟨E1, f1, e0, _, _, hrv⟩ := T2
  simp only [Value.slice.injEq, true_and] at e0
  obtain ⟨rfl, rfl⟩ := e0
  obtain ⟨ae, rfl, zk1, zk2⟩ := hrk.word (k := 0) (by omega)
  obtain ⟨av, rfl, zk3, zk4⟩ := hrv.word (k := 0) (by omega)
  have add0 : ∀ ad : Addr, ad.add 0 = ad := fun ad => by simp [Addr.add]
  have ZM := hide (fun w2 (hB : Below B w w2) => (show w2.cell? ae = some (.int .u64 (ks'.getD 0 0)) from by
    obtain ⟨a', ea, hk, zz⟩ := (hrk.below hB).word (k := 0) (by omega)
    injection ea with ea
    subst ea
    rw [add0] at zz
    rw [zz, gD ks' 0 hk]))
  have ZV := hide (fun w2 (hB : Below B w w2) => (show w2.cell? av = some (.int .u64 (vs'.getD 0 0)) from by
    obtain ⟨a', ea, hk, zz⟩ := (hrv.below hB).word (k := 0) (by omega)
    injection ea with ea
    subst ea
    rw [add0] at zz
    rw [zz, gD vs' 0 hk]))
  have W1 := hide (fun (w2 : World) (hS : Sl w2 w2.heap.size (.slice (some ae) ks'.length f) ks') => without_any (.slice (some ae) ks'.length f) ks' 0 1 w2 (by omega) (by omega) g1 hS)
  have W2 := hide (fun (w2 : World) (hS : Sl w2 w2.heap.size (.slice (some av) vs'.length f') vs') => without_any (.slice (some av) vs'.length f') vs' 0 1 w2 (by omega) (by omega) g2 hS)
  rw [zz, z1] at W1 W2
  have hd : decide ((2 : Int) ≤ (vs'.length : Int)) = true := by rw [decide_eq_true_eq]; omega
  have hd2 : (2 : Int) ≤ (vs'.length : Int) := by omega
  have hd3 : (0 : Int) < (ks'.length : Int) := by omega
  have hd4 : 0 < vs'.length := by omega
  have hd5 : 0 < ks'.length := by omega
  have HX1 := hide e1
  have HY1 := hide e2
  have HX2 := hide e3
  have HY2 := hide e4
  clear zk2 zk4 zk1 zk3 zz z1 e1 e2 e3 e4 d1 d2 d3 d4 h1 h2 h3 r1 r2 r3 k1 k2 hR g1 g2 g3 hrk hrv hl hl'
  obtain ⟨z1, hz1⟩ : ∃ y, y = ks ++ key :: ks' := ⟨_, rfl⟩
  obtain ⟨z2, hz2⟩ : ∃ y, y = vs ++ vs' := ⟨_, rfl⟩
  rw [← hz1, ← hz2] at Bt
  clear hz1 hz2
  generalize ks'.getD 0 0 = mid at *
  generalize vs'.getD 0 0 = v0 at *
  generalize hnn : ks.length = n at *
  generalize hmm : vs.length = m at *
  generalize ks'.length = n' at *
  generalize vs'.length = m' at *
  replace hnn := hide hnn
  replace hmm := hide hmm
  have HXC := hide nxc
  have HXD := hide nxd
  have HYC := hide nyc
  have HYD := hide nyd
  have HCD := hide ncd
  have HDC := hide ncd.symm
  have HKC := hide (bk.ne_ bc (by decide))
  have HKD := hide (bk.ne_ bd (by decide))
  have HMC := hide (bm.ne_ bc (by decide))
  have HMD := hide (bm.ne_ bd (by decide))
  have HXM := hide (bx.ne_ bm (by decide))
  have HYM := hide (by_.ne_ bm (by decide))
  have HKM := hide nkm
  have mx := fun i => bx.cell i
  have my := fun i => by_.cell i
  have mk := fun i => bk.cell i
  go_enter Try.func41, Try.ntmps41
  go_wp2_with fail
  refine Bt.out.mono ?_
  rintro e w1 ⟨⟨u, rfl, _⟩, hb1⟩
  clear mx my mk
  replace bx := bx.below hb1 bx.lt
  replace bk := bk.below hb1 bk.lt
  replace by_ := by_.below hb1 by_.lt
  replace bm := bm.below hb1 bm.lt
  replace bc := bc.below hb1 bc.lt
  replace bd := bd.below hb1 bd.lt
  have my := fun i => by_.cell i
  go_wp2_with fail
  refine (must_yes _).mono ?_
  rintro e w2 ⟨rfl, rfl⟩
  have hBb := hb1.mono hB
  have zm := ZM.out _ hBb
  have mm := fun i => bm.cell i
  have fm := fun i => bm.frozen i
  go_wp2_with fail
  clear my zm mm fm
  have HP0 := hide ((Part.of_below (os := [gm, gc, gd]) hb1).set_ (g := gm) (by simp) 0 (.int .u64 mid))
  have hbS := hBb.setCell (p := ⟨gm, 0, none⟩) hBm (.int .u64 mid)
  have bm9 := bm.set1 (.int .u64 mid)
  replace bx := bx.far (p := ⟨gm, 0, none⟩) HXM.out (.int .u64 mid)
  replace by_ := by_.far (p := ⟨gm, 0, none⟩) HYM.out (.int .u64 mid)
  replace bk := bk.far (p := ⟨gm, 0, none⟩) HKM.out (.int .u64 mid)
  replace bc := bc.far (p := ⟨gm, 0, none⟩) HMC.out.symm (.int .u64 mid)
  replace bd := bd.far (p := ⟨gm, 0, none⟩) HMD.out.symm (.int .u64 mid)
  have hSS : B ≤ (w2.setCell ⟨gm, 0, none⟩ (.int .u64 mid)).heap.size := by rw [size_set]; exact Nat.le_trans hB hb1.size
  have hSW : w.heap.size ≤ (w2.setCell ⟨gm, 0, none⟩ (.int .u64 mid)).heap.size := by rw [size_set]; exact hb1.size
  replace bm := bm9
  clear bm9 hBb hb1
  generalize w2.setCell ⟨gm, 0, none⟩ (.int .u64 mid) = wS at *
  have HBS := hide hSW
  clear hSW
  have S1 := (SA1.below hbS).more hSS
  have S2 := (SA2.below hbS).more hSS
  have S3 := (SB1.below hbS).more hSS
  have S4 := (SB2.below hbS).more hSS
  have ZVS := hide (fun w3 (hb : Below wS.heap.size wS w3) => ZV.out w3 (hbS.trans (hb.mono hSS)))
  have ZVP := hide (fun w3 (hp : Part [gm, gc, gd] wS w3) => ZV.out w3 (Below.part hbS hp (by intro o ho; simp at ho; rcases ho with rfl | rfl | rfl <;> assumption) hSS))
  have W1 := hide (fun w3 (hb : Below wS.heap.size wS w3) => W1.out w3 ((S3.below hb).more hb.size))
  have W2 := hide (fun w3 (hb : Below wS.heap.size wS w3) => W2.out w3 ((S4.below hb).more hb.size))
  have hb := Below.refl wS.heap.size wS
  refine wp_region_heldZ [] (fun w' => w'.cell? ⟨gx, 1, none⟩ = some (.slice A n c) ∧ w'.cell? ⟨gx, 2, none⟩ = some (.slice A' m c') ∧ w'.cell? ⟨gx, 3, none⟩ = some (.int .u64 l) ∧ w'.cell? ⟨gk, 0, none⟩ = some (.int .u64 key) ∧ w'.cell? ⟨gy, 1, none⟩ = some (.slice (some ae) n' f) ∧ w'.cell? ⟨gy, 2, none⟩ = some (.slice (some av) m' f') ∧ w'.cell? ⟨gy, 3, none⟩ = some (.int .u64 l') ∧ w'.cell? av = some (.int .u64 v0)) (by kernel_rfl) (by exact ⟨bx.cell 1, bx.cell 2, bx.cell 3, bk.cell 0, by_.cell 1, by_.cell 2, by_.cell 3, (by first | exact ZVS.out _ hb | exact ZVS.out _ hb.drew | exact ZVP.out _ HP)⟩) (fun hHeld => ?_)
  replace bx := bx.drew
  replace bk := bk.drew
  replace by_ := by_.drew
  replace bm := bm.drew
  replace bc := bc.drew
  replace bd := bd.drew
  replace hb := hb.drew
  generalize wS.drew = w0x at *
  refine' wpAnyZ_takeA (i := 0) (v := ?_) (opAt rfl) (by kernel_rfl) (by kernel_rfl) (by kernel_rfl) (by kernel_rfl) (fun _ _ _ h => h) (by assumption) (by rfl) (fun w hSw => ?_) ?_
  rotate_left
  · (try dsimp only at hSw); go_simp; (try with_reducible rfl)
  try simp only [Act.put, List.setIfInBounds_toArray, List.set_cons_zero, List.set_cons_succ]
  refine' wpAnyZ_takeA (i := 1) (v := ?_) (opAt rfl) (by kernel_rfl) (by kernel_rfl) (by kernel_rfl) (by kernel_rfl) (fun _ _ _ h => h) (by assumption) (by rfl) (fun w hSw => ?_) ?_
  rotate_left
  · (try dsimp only at hSw); go_simp; (try with_reducible rfl)
  try simp only [Act.put, List.setIfInBounds_toArray, List.set_cons_zero, List.set_cons_succ]
  refine' wpAnyZ_takeA (i := 2) (v := ?_) (opAt rfl) (by kernel_rfl) (by kernel_rfl) (by kernel_rfl) (by kernel_rfl) (fun _ _ _ h => h) (by assumption) (by rfl) (fun w hSw => ?_) ?_
  rotate_left
  · (try dsimp only at hSw); go_simp; (try with_reducible rfl)
  try simp only [Act.put, List.setIfInBounds_toArray, List.set_cons_zero, List.set_cons_succ]
  refine' wpAnyZ_takeA (i := 3) (v := ?_) (opAt rfl) (by kernel_rfl) (by kernel_rfl) (by kernel_rfl) (by kernel_rfl) (fun _ _ _ h => h) (by assumption) (by rfl) (fun w hSw => ?_) ?_
  rotate_left
  · (try dsimp only at hSw); go_simp; (try with_reducible rfl)
  try simp only [Act.put, List.setIfInBounds_toArray, List.set_cons_zero, List.set_cons_succ]
  refine' wpAnyZ_takeA (i := 4) (v := ?_) (opAt rfl) (by kernel_rfl) (by kernel_rfl) (by kernel_rfl) (by kernel_rfl) (fun _ _ _ h => h) (by assumption) (by rfl) (fun w hSw => ?_) ?_
  rotate_left
  · (try dsimp only at hSw); go_simp; (try with_reducible rfl)
  try simp only [Act.put, List.setIfInBounds_toArray, List.set_cons_zero, List.set_cons_succ]
  refine' wpAnyZ_takeA (i := 5) (v := ?_) (opAt rfl) (by kernel_rfl) (by kernel_rfl) (by kernel_rfl) (by kernel_rfl) (fun _ _ _ h => h) (by assumption) (by rfl) (fun w hSw => ?_) ?_
  rotate_left
  · (try dsimp only at hSw); go_simp; (try with_reducible rfl)
  try simp only [Act.put, List.setIfInBounds_toArray, List.set_cons_zero, List.set_cons_succ]
  refine' wpAnyZ_takeA (i := 8) (v := ?_) (opAt rfl) (by kernel_rfl) (by kernel_rfl) (by kernel_rfl) (by kernel_rfl) (fun _ _ _ h => h) (by assumption) (by rfl) (fun w hSw => ?_) ?_
  rotate_left
  · (try dsimp only at hSw); go_simp; (try with_reducible rfl)
  try simp only [Act.put, List.setIfInBounds_toArray, List.set_cons_zero, List.set_cons_succ]
  refine' wpAnyZ_takeA (i := 9) (v := ?_) (opAt rfl) (by kernel_rfl) (by kernel_rfl) (by kernel_rfl) (by kernel_rfl) (fun _ _ _ h => h) (by assumption) (by rfl) (fun w hSw => ?_) ?_
  rotate_left
  · (try dsimp only at hSw); go_simp; (try with_reducible rfl)
  try simp only [Act.put, List.setIfInBounds_toArray, List.set_cons_zero, List.set_cons_succ]
  refine' wpAnyZ_takeA (i := 10) (v := ?_) (opAt rfl) (by kernel_rfl) (by kernel_rfl) (by kernel_rfl) (by kernel_rfl) (fun _ _ _ h => h) (by assumption) (by rfl) (fun w hSw => ?_) ?_
  rotate_left
  · (try dsimp only at hSw); go_simp; (try with_reducible rfl)
  try simp only [Act.put, List.setIfInBounds_toArray, List.set_cons_zero, List.set_cons_succ]
  refine' wpAnyZ_takeA (i := 11) (v := ?_) (opAt rfl) (by kernel_rfl) (by kernel_rfl) (by kernel_rfl) (by kernel_rfl) (fun _ _ _ h => h) (by assumption) (by rfl) (fun w hSw => ?_) ?_
  rotate_left
  · (try dsimp only at hSw); go_simp; (try with_reducible rfl)
  try simp only [Act.put, List.setIfInBounds_toArray, List.set_cons_zero, List.set_cons_succ]
  refine' wpAnyZ_takeA (i := 12) (v := ?_) (opAt rfl) (by kernel_rfl) (by kernel_rfl) (by kernel_rfl) (by kernel_rfl) (fun _ _ _ h => h) (by assumption) (by rfl) (fun w hSw => ?_) ?_
  rotate_left
  · (try dsimp only at hSw); go_simp; (try with_reducible rfl)
  try simp only [Act.put, List.setIfInBounds_toArray, List.set_cons_zero, List.set_cons_succ]
  refine' wpAnyZ_takeA (i := 13) (v := ?_) (opAt rfl) (by kernel_rfl) (by kernel_rfl) (by kernel_rfl) (by kernel_rfl) (fun _ _ _ h => h) (by assumption) (by rfl) (fun w hSw => ?_) ?_
  rotate_left
  · (try dsimp only at hSw); go_simp; (try with_reducible rfl)
  try simp only [Act.put, List.setIfInBounds_toArray, List.set_cons_zero, List.set_cons_succ]
  refine' wpAnyZ_takeA (i := 14) (v := ?_) (opAt rfl) (by kernel_rfl) (by kernel_rfl) (by kernel_rfl) (by kernel_rfl) (fun _ _ _ h => h) (by assumption) (by rfl) (fun w hSw => ?_) ?_
  rotate_left
  · (try dsimp only at hSw); go_simp; (try with_reducible rfl)
  try simp only [Act.put, List.setIfInBounds_toArray, List.set_cons_zero, List.set_cons_succ]
  refine' wpAnyZ_takeA (i := 15) (v := ?_) (opAt rfl) (by kernel_rfl) (by kernel_rfl) (by kernel_rfl) (by kernel_rfl) (fun _ _ _ h => h) (by assumption) (by rfl) (fun w hSw => ?_) ?_
  rotate_left
  · (try dsimp only at hSw); go_simp; (try with_reducible rfl)
  try simp only [Act.put, List.setIfInBounds_toArray, List.set_cons_zero, List.set_cons_succ]
  refine' wpAnyZ_takeA (i := 16) (v := ?_) (opAt rfl) (by kernel_rfl) (by kernel_rfl) (by kernel_rfl) (by kernel_rfl) (fun _ _ _ h => h) (by assumption) (by rfl) (fun w hSw => ?_) ?_
  rotate_left
  · (try dsimp only at hSw); go_simp; (try with_reducible rfl)
  try simp only [Act.put, List.setIfInBounds_toArray, List.set_cons_zero, List.set_cons_succ]
  refine' wpAnyZ_takeA (i := 19) (v := ?_) (opAt rfl) (by kernel_rfl) (by kernel_rfl) (by kernel_rfl) (by kernel_rfl) (fun _ _ _ h => h) (by assumption) (by rfl) (fun w hSw => ?_) ?_
  rotate_left
  · (try dsimp only at hSw); go_simp; (try with_reducible rfl)
  try simp only [Act.put, List.setIfInBounds_toArray, List.set_cons_zero, List.set_cons_succ]
  refine' wpAnyZ_takeA (i := 20) (v := ?_) (opAt rfl) (by kernel_rfl) (by kernel_rfl) (by kernel_rfl) (by kernel_rfl) (fun _ _ _ h => h) (by assumption) (by rfl) (fun w hSw => ?_) ?_
  rotate_left
  · (try dsimp only at hSw); go_simp; (try with_reducible rfl)
  try simp only [Act.put, List.setIfInBounds_toArray, List.set_cons_zero, List.set_cons_succ]
  refine' wpAnyZ_takeA (i := 22) (v := ?_) (opAt rfl) (by kernel_rfl) (by kernel_rfl) (by kernel_rfl) (by kernel_rfl) (fun _ _ _ h => h) (by assumption) (by rfl) (fun w hSw => ?_) ?_
  rotate_left
  · (try dsimp only at hSw); go_simp; (try with_reducible rfl)
  try simp only [Act.put, List.setIfInBounds_toArray, List.set_cons_zero, List.set_cons_succ]
  refine' wpAnyZ_takeA (i := 23) (v := ?_) (opAt rfl) (by kernel_rfl) (by kernel_rfl) (by kernel_rfl) (by kernel_rfl) (fun _ _ _ h => h) (by assumption) (by rfl) (fun w hSw => ?_) ?_
  rotate_left
  · (try dsimp only at hSw); go_simp; (try with_reducible rfl)
  try simp only [Act.put, List.setIfInBounds_toArray, List.set_cons_zero, List.set_cons_succ]
  refine' wpAnyZ_takeA (i := 25) (v := ?_) (opAt rfl) (by kernel_rfl) (by kernel_rfl) (by kernel_rfl) (by kernel_rfl) (fun _ _ _ h => h) (by assumption) (by rfl) (fun w hSw => ?_) ?_
  rotate_left
  · (try dsimp only at hSw); go_simp; (try with_reducible rfl)
  try simp only [Act.put, List.setIfInBounds_toArray, List.set_cons_zero, List.set_cons_succ]
  refine' wpAnyZ_takeA (i := 26) (v := ?_) (opAt rfl) (by kernel_rfl) (by kernel_rfl) (by kernel_rfl) (by kernel_rfl) (fun _ _ _ h => h) (by assumption) (by rfl) (fun w hSw => ?_) ?_
  rotate_left
  · (try dsimp only at hSw); go_simp; (try with_reducible rfl)
  try simp only [Act.put, List.setIfInBounds_toArray, List.set_cons_zero, List.set_cons_succ]
  refine' wpAnyZ_takeA (i := 28) (v := ?_) (opAt rfl) (by kernel_rfl) (by kernel_rfl) (by kernel_rfl) (by kernel_rfl) (fun _ _ _ h => h) (by assumption) (by rfl) (fun w hSw => ?_) ?_
  rotate_left
  · (try dsimp only at hSw); go_simp; (try with_reducible rfl)
  try simp only [Act.put, List.setIfInBounds_toArray, List.set_cons_zero, List.set_cons_succ]
  refine' wpAnyZ_takeA (i := 29) (v := ?_) (opAt rfl) (by kernel_rfl) (by kernel_rfl) (by kernel_rfl) (by kernel_rfl) (fun _ _ _ h => h) (by assumption) (by rfl) (fun w hSw => ?_) ?_
  rotate_left
  · (try dsimp only at hSw); go_simp; (try with_reducible rfl)
  try simp only [Act.put, List.setIfInBounds_toArray, List.set_cons_zero, List.set_cons_succ]
  refine wpAnyZ_ready (rs := [6, 17]) (by kernel_rfl) (by simp) ?_
  refine AllReadyZ.cons (opAt rfl) (fun K hK => ?_) ?_
  · skip
    go_simp
    replace bx := bx.alloc (.cells #[.int .u64 key] 22)
    replace bk := bk.alloc (.cells #[.int .u64 key] 22)
    replace by_ := by_.alloc (.cells #[.int .u64 key] 22)
    replace bm := bm.alloc (.cells #[.int .u64 key] 22)
    replace bc := bc.alloc (.cells #[.int .u64 key] 22)
    replace bd := bd.alloc (.cells #[.int .u64 key] 22)
    replace hb := hb.alloc hb.size (.cells #[.int .u64 key] 22)
    have b6 := Blk.new w0x 22 #[.int .u64 key]
    generalize w0x.alloc (.cells #[.int .u64 key] 22) = w1x at *
    generalize w0x.heap.size = g6 at *
    refine hK.out _ _ (by exact ⟨bx.cell 1, bx.cell 2, bx.cell 3, bk.cell 0, by_.cell 1, by_.cell 2, by_.cell 3, (by first | exact ZVS.out _ hb | exact ZVS.out _ hb.drew | exact ZVP.out _ HP)⟩) (fun hHeld => ?_)
    clear hK K
    try simp only [Act.put, List.setIfInBounds_toArray, List.set_cons_zero, List.set_cons_succ]
    refine wpAnyZ_ready (rs := [7, 17]) (by kernel_rfl) (by simp) ?_
    refine AllReadyZ.cons (opAt rfl) (fun K hK => ?_) ?_
    · skip
      go_simp
      refine (with_any _ _ ks [key] n _ (by first | exact HN1.out | (rw [hnn.out]; exact HN1.out) | (rw [hmm.out]; exact HN1.out) | (rw [hnn'.out]; exact HN1.out) | (rw [hmm'.out]; exact HN1.out)) (by first | exact HL1.out | (rw [hnn.out]; exact HL1.out) | (rw [hmm.out]; exact HL1.out) | (rw [hnn'.out]; exact HL1.out) | (rw [hmm'.out]; exact HL1.out)) (by simp) ((S1.below hb).more hb.size) (sl_one b6)).mono ?_
      rintro e w2x ⟨⟨u, rfl, r7⟩, hb1⟩
      replace r7 := r7.mono (lo' := wS.heap.size) hb.size
      rw [← HX1.out] at r7
      replace bx := bx.below hb1 bx.lt
      replace bk := bk.below hb1 bk.lt
      replace by_ := by_.below hb1 by_.lt
      replace bm := bm.below hb1 bm.lt
      replace bc := bc.below hb1 bc.lt
      replace bd := bd.below hb1 bd.lt
      replace b6 := b6.below hb1 b6.lt
      replace hb := hb.trans (hb1.mono hb.size)
      clear hb1
      obtain ⟨Cr7, kr7, rfl⟩ := r7.val
      try go_wp2_with fail
      refine hK.out _ _ (by exact ⟨bx.cell 1, bx.cell 2, bx.cell 3, bk.cell 0, by_.cell 1, by_.cell 2, by_.cell 3, (by first | exact ZVS.out _ hb | exact ZVS.out _ hb.drew | exact ZVP.out _ HP)⟩) (fun hHeld => ?_)
      clear hK K
      try simp only [Act.put, List.setIfInBounds_toArray, List.set_cons_zero, List.set_cons_succ]
      refine wpAnyZ_ready (rs := [17]) (by kernel_rfl) (by simp) ?_
      refine AllReadyZ.cons (opAt rfl) (fun K hK => ?_) ?_
      · skip
        go_simp
        replace bx := bx.alloc (.cells #[.int .u64 v0] 22)
        replace bk := bk.alloc (.cells #[.int .u64 v0] 22)
        replace by_ := by_.alloc (.cells #[.int .u64 v0] 22)
        replace bm := bm.alloc (.cells #[.int .u64 v0] 22)
        replace bc := bc.alloc (.cells #[.int .u64 v0] 22)
        replace bd := bd.alloc (.cells #[.int .u64 v0] 22)
        replace b6 := b6.alloc (.cells #[.int .u64 v0] 22)
        replace r7 := r7.alloc (.cells #[.int .u64 v0] 22)
        replace hb := hb.alloc hb.size (.cells #[.int .u64 v0] 22)
        have b17 := Blk.new w2x 22 #[.int .u64 v0]
        generalize w2x.alloc (.cells #[.int .u64 v0] 22) = w3x at *
        generalize w2x.heap.size = g17 at *
        refine hK.out _ _ (by exact ⟨bx.cell 1, bx.cell 2, bx.cell 3, bk.cell 0, by_.cell 1, by_.cell 2, by_.cell 3, (by first | exact ZVS.out _ hb | exact ZVS.out _ hb.drew | exact ZVP.out _ HP)⟩) (fun hHeld => ?_)
        clear hK K
        try simp only [Act.put, List.setIfInBounds_toArray, List.set_cons_zero, List.set_cons_succ]
        refine wpAnyZ_ready (rs := [18]) (by kernel_rfl) (by simp) ?_
        refine AllReadyZ.cons (opAt rfl) (fun K hK => ?_) ?_
        · skip
          go_simp
          refine (with_any _ _ vs [v0] m _ (by first | exact HM1.out | (rw [hnn.out]; exact HM1.out) | (rw [hmm.out]; exact HM1.out) | (rw [hnn'.out]; exact HM1.out) | (rw [hmm'.out]; exact HM1.out)) (by first | exact HL2.out | (rw [hnn.out]; exact HL2.out) | (rw [hmm.out]; exact HL2.out) | (rw [hnn'.out]; exact HL2.out) | (rw [hmm'.out]; exact HL2.out)) (by simp) ((S2.below hb).more hb.size) (sl_one b17)).mono ?_
          rintro e w4x ⟨⟨u, rfl, r18⟩, hb1⟩
          replace r18 := r18.mono (lo' := wS.heap.size) hb.size
          rw [← HY1.out] at r18
          replace bx := bx.below hb1 bx.lt
          replace bk := bk.below hb1 bk.lt
          replace by_ := by_.below hb1 by_.lt
          replace bm := bm.below hb1 bm.lt
          replace bc := bc.below hb1 bc.lt
          replace bd := bd.below hb1 bd.lt
          replace b6 := b6.below hb1 b6.lt
          replace b17 := b17.below hb1 b17.lt
          replace r7 := r7.below hb1
          replace hb := hb.trans (hb1.mono hb.size)
          clear hb1
          obtain ⟨Cr18, kr18, rfl⟩ := r18.val
          try go_wp2_with fail
          refine hK.out _ _ (by exact ⟨bx.cell 1, bx.cell 2, bx.cell 3, bk.cell 0, by_.cell 1, by_.cell 2, by_.cell 3, (by first | exact ZVS.out _ hb | exact ZVS.out _ hb.drew | exact ZVP.out _ HP)⟩) (fun hHeld => ?_)
          clear hK K
          try simp only [Act.put, List.setIfInBounds_toArray, List.set_cons_zero, List.set_cons_succ]
          refine wpAnyZ_ready (rs := [21]) (by kernel_rfl) (by simp) ?_
          refine AllReadyZ.cons (opAt rfl) (fun K hK => ?_) ?_
          · skip
            go_simp
            refine (node_yes _ _ _ _ l _ HLx1.out r7.sl r18.sl HR1.out).mono ?_
            rintro e w5x ⟨rfl, hb1⟩
            replace bx := bx.below hb1 bx.lt
            replace bk := bk.below hb1 bk.lt
            replace by_ := by_.below hb1 by_.lt
            replace bm := bm.below hb1 bm.lt
            replace bc := bc.below hb1 bc.lt
            replace bd := bd.below hb1 bd.lt
            replace b6 := b6.below hb1 b6.lt
            replace b17 := b17.below hb1 b17.lt
            replace r7 := r7.below hb1
            replace r18 := r18.below hb1
            replace hb := hb.trans (hb1.mono hb.size)
            clear hb1
            have Na : NdO w5x wS.heap.size (.agg #[.bool true, .slice Cr7 x1.length kr7, .slice Cr18 y1.length kr18, .int .u64 l]) true x1 y1 l := ⟨_, _, rfl, r7, r18⟩
            clear r7 r18
            try go_wp2_with fail
            refine hK.out _ _ (by exact ⟨bx.cell 1, bx.cell 2, bx.cell 3, bk.cell 0, by_.cell 1, by_.cell 2, by_.cell 3, (by first | exact ZVS.out _ hb | exact ZVS.out _ hb.drew | exact ZVP.out _ HP)⟩) (fun hHeld => ?_)
            clear hK K
            try simp only [Act.put, List.setIfInBounds_toArray, List.set_cons_zero, List.set_cons_succ]
            refine wpAnyZ_ready (rs := [24]) (by kernel_rfl) (by simp) ?_
            refine AllReadyZ.cons (opAt rfl) (fun K hK => ?_) ?_
            · skip
              go_simp
              refine (W1.out _ hb).mono ?_
              rintro e w6x ⟨⟨u, rfl, r24⟩, hb1⟩
              replace r24 := r24.mono (lo' := wS.heap.size) hb.size
              rw [← HX2.out] at r24
              replace bx := bx.below hb1 bx.lt
              replace bk := bk.below hb1 bk.lt
              replace by_ := by_.below hb1 by_.lt
              replace bm := bm.below hb1 bm.lt
              replace bc := bc.below hb1 bc.lt
              replace bd := bd.below hb1 bd.lt
              replace b6 := b6.below hb1 b6.lt
              replace b17 := b17.below hb1 b17.lt
              replace Na := Na.below hb1
              replace hb := hb.trans (hb1.mono hb.size)
              clear hb1
              obtain ⟨Cr24, kr24, rfl⟩ := r24.val
              try go_wp2_with fail
              refine hK.out _ _ (by exact ⟨bx.cell 1, bx.cell 2, bx.cell 3, bk.cell 0, by_.cell 1, by_.cell 2, by_.cell 3, (by first | exact ZVS.out _ hb | exact ZVS.out _ hb.drew | exact ZVP.out _ HP)⟩) (fun hHeld => ?_)
              clear hK K
              try simp only [Act.put, List.setIfInBounds_toArray, List.set_cons_zero, List.set_cons_succ]
              refine wpAnyZ_ready (rs := [27]) (by kernel_rfl) (by simp) ?_
              refine AllReadyZ.cons (opAt rfl) (fun K hK => ?_) ?_
              · skip
                go_simp
                refine (W2.out _ hb).mono ?_
                rintro e w7x ⟨⟨u, rfl, r27⟩, hb1⟩
                replace r27 := r27.mono (lo' := wS.heap.size) hb.size
                rw [← HY2.out] at r27
                replace bx := bx.below hb1 bx.lt
                replace bk := bk.below hb1 bk.lt
                replace by_ := by_.below hb1 by_.lt
                replace bm := bm.below hb1 bm.lt
                replace bc := bc.below hb1 bc.lt
                replace bd := bd.below hb1 bd.lt
                replace b6 := b6.below hb1 b6.lt
                replace b17 := b17.below hb1 b17.lt
                replace r24 := r24.below hb1
                replace Na := Na.below hb1
                replace hb := hb.trans (hb1.mono hb.size)
                clear hb1
                obtain ⟨Cr27, kr27, rfl⟩ := r27.val
                try go_wp2_with fail
                refine hK.out _ _ (by exact ⟨bx.cell 1, bx.cell 2, bx.cell 3, bk.cell 0, by_.cell 1, by_.cell 2, by_.cell 3, (by first | exact ZVS.out _ hb | exact ZVS.out _ hb.drew | exact ZVP.out _ HP)⟩) (fun hHeld => ?_)
                clear hK K
                try simp only [Act.put, List.setIfInBounds_toArray, List.set_cons_zero, List.set_cons_succ]
                refine wpAnyZ_ready (rs := [30]) (by kernel_rfl) (by simp) ?_
                refine AllReadyZ.cons (opAt rfl) (fun K hK => ?_) ?_
                · skip
                  go_simp
                  refine (node_yes _ _ _ _ l' _ HLx2.out r24.sl r27.sl HR2.out).mono ?_
                  rintro e w8x ⟨rfl, hb1⟩
                  replace bx := bx.below hb1 bx.lt
                  replace bk := bk.below hb1 bk.lt
                  replace by_ := by_.below hb1 by_.lt
                  replace bm := bm.below hb1 bm.lt
                  replace bc := bc.below hb1 bc.lt
                  replace bd := bd.below hb1 bd.lt
                  replace b6 := b6.below hb1 b6.lt
                  replace b17 := b17.below hb1 b17.lt
                  replace r24 := r24.below hb1
                  replace r27 := r27.below hb1
                  replace Na := Na.below hb1
                  replace hb := hb.trans (hb1.mono hb.size)
                  clear hb1
                  have Nb : NdO w8x wS.heap.size (.agg #[.bool true, .slice Cr24 x2.length kr24, .slice Cr27 y2.length kr27, .int .u64 l']) true x2 y2 l' := ⟨_, _, rfl, r24, r27⟩
                  clear r24 r27
                  try go_wp2_with fail
                  refine hK.out _ _ (by exact ⟨bx.cell 1, bx.cell 2, bx.cell 3, bk.cell 0, by_.cell 1, by_.cell 2, by_.cell 3, (by first | exact ZVS.out _ hb | exact ZVS.out _ hb.drew | exact ZVP.out _ HP)⟩) (fun hHeld => ?_)
                  clear hK K
                  try simp only [Act.put, List.setIfInBounds_toArray, List.set_cons_zero, List.set_cons_succ]
                  refine wpAnyZ_ready (rs := [31]) (by kernel_rfl) (by simp) ?_
                  refine AllReadyZ.cons (opAt rfl) (fun K hK => ?_) ?_
                  · skip
                    have zo := fun i => bc.frozen i
                    have mo := fun i => bc.cell i
                    go_simp
                    replace bx := bx.offN HXC.out (.bool true) (.slice Cr7 x1.length kr7) (.slice Cr18 y1.length kr18) (.int .u64 l)
                    replace by_ := by_.offN HYC.out (.bool true) (.slice Cr7 x1.length kr7) (.slice Cr18 y1.length kr18) (.int .u64 l)
                    replace bk := bk.offN HKC.out (.bool true) (.slice Cr7 x1.length kr7) (.slice Cr18 y1.length kr18) (.int .u64 l)
                    replace bm := bm.offN HMC.out (.bool true) (.slice Cr7 x1.length kr7) (.slice Cr18 y1.length kr18) (.int .u64 l)
                    replace bd := bd.offN HDC.out (.bool true) (.slice Cr7 x1.length kr7) (.slice Cr18 y1.length kr18) (.int .u64 l)
                    replace Na := Na.setN bc (.bool true) (.slice Cr7 x1.length kr7) (.slice Cr18 y1.length kr18) (.int .u64 l)
                    replace Nb := Nb.setN bc (.bool true) (.slice Cr7 x1.length kr7) (.slice Cr18 y1.length kr18) (.int .u64 l)
                    have HP := (Part.of_below (os := [gm, gc, gd]) hb).setN (g := gc) (by simp) (.bool true) (.slice Cr7 x1.length kr7) (.slice Cr18 y1.length kr18) (.int .u64 l)
                    clear hb
                    replace bc := bc.setN (.bool true) (.slice Cr7 x1.length kr7) (.slice Cr18 y1.length kr18) (.int .u64 l)
                    clear zo mo
                    generalize ((((w8x).setCell ⟨gc, 0, none⟩ (.bool true)).setCell ⟨gc, 1, none⟩ (.slice Cr7 x1.length kr7)).setCell ⟨gc, 2, none⟩ (.slice Cr18 y1.length kr18)).setCell ⟨gc, 3, none⟩ (.int .u64 l) = w9x at *
                    refine hK.out _ _ (by exact ⟨bx.cell 1, bx.cell 2, bx.cell 3, bk.cell 0, by_.cell 1, by_.cell 2, by_.cell 3, (by first | exact ZVS.out _ hb | exact ZVS.out _ hb.drew | exact ZVP.out _ HP)⟩) (fun hHeld => ?_)
                    clear hK K
                    try simp only [Act.put, List.setIfInBounds_toArray, List.set_cons_zero, List.set_cons_succ]
                    refine wpAnyZ_ready (rs := [32]) (by kernel_rfl) (by simp) ?_
                    refine AllReadyZ.cons (opAt rfl) (fun K hK => ?_) ?_
                    · skip
                      have zo := fun i => bd.frozen i
                      have mo := fun i => bd.cell i
                      go_simp
                      replace bx := bx.offN HXD.out (.bool true) (.slice Cr24 x2.length kr24) (.slice Cr27 y2.length kr27) (.int .u64 l')
                      replace by_ := by_.offN HYD.out (.bool true) (.slice Cr24 x2.length kr24) (.slice Cr27 y2.length kr27) (.int .u64 l')
                      replace bk := bk.offN HKD.out (.bool true) (.slice Cr24 x2.length kr24) (.slice Cr27 y2.length kr27) (.int .u64 l')
                      replace bm := bm.offN HMD.out (.bool true) (.slice Cr24 x2.length kr24) (.slice Cr27 y2.length kr27) (.int .u64 l')
                      replace bc := bc.offN HCD.out (.bool true) (.slice Cr24 x2.length kr24) (.slice Cr27 y2.length kr27) (.int .u64 l')
                      replace Na := Na.setN bd (.bool true) (.slice Cr24 x2.length kr24) (.slice Cr27 y2.length kr27) (.int .u64 l')
                      replace Nb := Nb.setN bd (.bool true) (.slice Cr24 x2.length kr24) (.slice Cr27 y2.length kr27) (.int .u64 l')
                      replace HP := HP.setN (g := gd) (by simp) (.bool true) (.slice Cr24 x2.length kr24) (.slice Cr27 y2.length kr27) (.int .u64 l')
                      replace bd := bd.setN (.bool true) (.slice Cr24 x2.length kr24) (.slice Cr27 y2.length kr27) (.int .u64 l')
                      clear zo mo
                      generalize ((((w9x).setCell ⟨gd, 0, none⟩ (.bool true)).setCell ⟨gd, 1, none⟩ (.slice Cr24 x2.length kr24)).setCell ⟨gd, 2, none⟩ (.slice Cr27 y2.length kr27)).setCell ⟨gd, 3, none⟩ (.int .u64 l') = w10x at *
                      refine hK.out _ _ (by exact ⟨bx.cell 1, bx.cell 2, bx.cell 3, bk.cell 0, by_.cell 1, by_.cell 2, by_.cell 3, (by first | exact ZVS.out _ hb | exact ZVS.out _ hb.drew | exact ZVP.out _ HP)⟩) (fun hHeld => ?_)
                      clear hK K
                      try simp only [Act.put, List.setIfInBounds_toArray, List.set_cons_zero, List.set_cons_succ]
                      refine wpAnyZ_done (by kernel_rfl) ?_ _
                      go_wp2_with fail
                      go_end0
                      exact ⟨rfl, HP0.out.trans HP, _, _, _, _, bc, bd, bm, Na.mono HBS.out, Nb.mono HBS.out⟩
                    exact AllReadyZ.nil
                  exact AllReadyZ.nil
                exact AllReadyZ.nil
              exact AllReadyZ.nil
            exact AllReadyZ.nil
          exact AllReadyZ.nil
        exact AllReadyZ.nil
      exact AllReadyZ.nil
    refine AllReadyZ.cons (opAt rfl) (fun K hK => ?_) ?_
    · skip
      go_simp
      replace bx := bx.alloc (.cells #[.int .u64 v0] 22)
      replace bk := bk.alloc (.cells #[.int .u64 v0] 22)
      replace by_ := by_.alloc (.cells #[.int .u64 v0] 22)
      replace bm := bm.alloc (.cells #[.int .u64 v0] 22)
      replace bc := bc.alloc (.cells #[.int .u64 v0] 22)
      replace bd := bd.alloc (.cells #[.int .u64 v0] 22)
      replace b6 := b6.alloc (.cells #[.int .u64 v0] 22)
      replace hb := hb.alloc hb.size (.cells #[.int .u64 v0] 22)
      have b17 := Blk.new w1x 22 #[.int .u64 v0]
      generalize w1x.alloc (.cells #[.int .u64 v0] 22) = w2x at *
      generalize w1x.heap.size = g17 at *
      refine hK.out _ _ (by exact ⟨bx.cell 1, bx.cell 2, bx.cell 3, bk.cell 0, by_.cell 1, by_.cell 2, by_.cell 3, (by first | exact ZVS.out _ hb | exact ZVS.out _ hb.drew | exact ZVP.out _ HP)⟩) (fun hHeld => ?_)
      clear hK K
      try simp only [Act.put, List.setIfInBounds_toArray, List.set_cons_zero, List.set_cons_succ]
      refine wpAnyZ_ready (rs := [7]) (by kernel_rfl) (by simp) ?_
      refine AllReadyZ.cons (opAt rfl) (fun K hK => ?_) ?_
      · skip
        go_simp
        refine (with_any _ _ ks [key] n _ (by first | exact HN1.out | (rw [hnn.out]; exact HN1.out) | (rw [hmm.out]; exact HN1.out) | (rw [hnn'.out]; exact HN1.out) | (rw [hmm'.out]; exact HN1.out)) (by first | exact HL1.out | (rw [hnn.out]; exact HL1.out) | (rw [hmm.out]; exact HL1.out) | (rw [hnn'.out]; exact HL1.out) | (rw [hmm'.out]; exact HL1.out)) (by simp) ((S1.below hb).more hb.size) (sl_one b6)).mono ?_
        rintro e w3x ⟨⟨u, rfl, r7⟩, hb1⟩
        replace r7 := r7.mono (lo' := wS.heap.size) hb.size
        rw [← HX1.out] at r7
        replace bx := bx.below hb1 bx.lt
        replace bk := bk.below hb1 bk.lt
        replace by_ := by_.below hb1 by_.lt
        replace bm := bm.below hb1 bm.lt
        replace bc := bc.below hb1 bc.lt
        replace bd := bd.below hb1 bd.lt
        replace b6 := b6.below hb1 b6.lt
        replace b17 := b17.below hb1 b17.lt
        replace hb := hb.trans (hb1.mono hb.size)
        clear hb1
        obtain ⟨Cr7, kr7, rfl⟩ := r7.val
        try go_wp2_with fail
        refine hK.out _ _ (by exact ⟨bx.cell 1, bx.cell 2, bx.cell 3, bk.cell 0, by_.cell 1, by_.cell 2, by_.cell 3, (by first | exact ZVS.out _ hb | exact ZVS.out _ hb.drew | exact ZVP.out _ HP)⟩) (fun hHeld => ?_)
        clear hK K
        try simp only [Act.put, List.setIfInBounds_toArray, List.set_cons_zero, List.set_cons_succ]
        refine wpAnyZ_ready (rs := [18]) (by kernel_rfl) (by simp) ?_
        refine AllReadyZ.cons (opAt rfl) (fun K hK => ?_) ?_
        · skip
          go_simp
          refine (with_any _ _ vs [v0] m _ (by first | exact HM1.out | (rw [hnn.out]; exact HM1.out) | (rw [hmm.out]; exact HM1.out) | (rw [hnn'.out]; exact HM1.out) | (rw [hmm'.out]; exact HM1.out)) (by first | exact HL2.out | (rw [hnn.out]; exact HL2.out) | (rw [hmm.out]; exact HL2.out) | (rw [hnn'.out]; exact HL2.out) | (rw [hmm'.out]; exact HL2.out)) (by simp) ((S2.below hb).more hb.size) (sl_one b17)).mono ?_
          rintro e w4x ⟨⟨u, rfl, r18⟩, hb1⟩
          replace r18 := r18.mono (lo' := wS.heap.size) hb.size
          rw [← HY1.out] at r18
          replace bx := bx.below hb1 bx.lt
          replace bk := bk.below hb1 bk.lt
          replace by_ := by_.below hb1 by_.lt
          replace bm := bm.below hb1 bm.lt
          replace bc := bc.below hb1 bc.lt
          replace bd := bd.below hb1 bd.lt
          replace b6 := b6.below hb1 b6.lt
          replace b17 := b17.below hb1 b17.lt
          replace r7 := r7.below hb1
          replace hb := hb.trans (hb1.mono hb.size)
          clear hb1
          obtain ⟨Cr18, kr18, rfl⟩ := r18.val
          try go_wp2_with fail
          refine hK.out _ _ (by exact ⟨bx.cell 1, bx.cell 2, bx.cell 3, bk.cell 0, by_.cell 1, by_.cell 2, by_.cell 3, (by first | exact ZVS.out _ hb | exact ZVS.out _ hb.drew | exact ZVP.out _ HP)⟩) (fun hHeld => ?_)
          clear hK K
          try simp only [Act.put, List.setIfInBounds_toArray, List.set_cons_zero, List.set_cons_succ]
          refine wpAnyZ_ready (rs := [21]) (by kernel_rfl) (by simp) ?_
          refine AllReadyZ.cons (opAt rfl) (fun K hK => ?_) ?_
          · skip
            go_simp
            refine (node_yes _ _ _ _ l _ HLx1.out r7.sl r18.sl HR1.out).mono ?_
            rintro e w5x ⟨rfl, hb1⟩
            replace bx := bx.below hb1 bx.lt
            replace bk := bk.below hb1 bk.lt
            replace by_ := by_.below hb1 by_.lt
            replace bm := bm.below hb1 bm.lt
            replace bc := bc.below hb1 bc.lt
            replace bd := bd.below hb1 bd.lt
            replace b6 := b6.below hb1 b6.lt
            replace b17 := b17.below hb1 b17.lt
            replace r7 := r7.below hb1
            replace r18 := r18.below hb1
            replace hb := hb.trans (hb1.mono hb.size)
            clear hb1
            have Na : NdO w5x wS.heap.size (.agg #[.bool true, .slice Cr7 x1.length kr7, .slice Cr18 y1.length kr18, .int .u64 l]) true x1 y1 l := ⟨_, _, rfl, r7, r18⟩
            clear r7 r18
            try go_wp2_with fail
            refine hK.out _ _ (by exact ⟨bx.cell 1, bx.cell 2, bx.cell 3, bk.cell 0, by_.cell 1, by_.cell 2, by_.cell 3, (by first | exact ZVS.out _ hb | exact ZVS.out _ hb.drew | exact ZVP.out _ HP)⟩) (fun hHeld => ?_)
            clear hK K
            try simp only [Act.put, List.setIfInBounds_toArray, List.set_cons_zero, List.set_cons_succ]
            refine wpAnyZ_ready (rs := [24]) (by kernel_rfl) (by simp) ?_
            refine AllReadyZ.cons (opAt rfl) (fun K hK => ?_) ?_
            · skip
              go_simp
              refine (W1.out _ hb).mono ?_
              rintro e w6x ⟨⟨u, rfl, r24⟩, hb1⟩
              replace r24 := r24.mono (lo' := wS.heap.size) hb.size
              rw [← HX2.out] at r24
              replace bx := bx.below hb1 bx.lt
              replace bk := bk.below hb1 bk.lt
              replace by_ := by_.below hb1 by_.lt
              replace bm := bm.below hb1 bm.lt
              replace bc := bc.below hb1 bc.lt
              replace bd := bd.below hb1 bd.lt
              replace b6 := b6.below hb1 b6.lt
              replace b17 := b17.below hb1 b17.lt
              replace Na := Na.below hb1
              replace hb := hb.trans (hb1.mono hb.size)
              clear hb1
              obtain ⟨Cr24, kr24, rfl⟩ := r24.val
              try go_wp2_with fail
              refine hK.out _ _ (by exact ⟨bx.cell 1, bx.cell 2, bx.cell 3, bk.cell 0, by_.cell 1, by_.cell 2, by_.cell 3, (by first | exact ZVS.out _ hb | exact ZVS.out _ hb.drew | exact ZVP.out _ HP)⟩) (fun hHeld => ?_)
              clear hK K
              try simp only [Act.put, List.setIfInBounds_toArray, List.set_cons_zero, List.set_cons_succ]
              refine wpAnyZ_ready (rs := [27]) (by kernel_rfl) (by simp) ?_
              refine AllReadyZ.cons (opAt rfl) (fun K hK => ?_) ?_
              · skip
                go_simp
                refine (W2.out _ hb).mono ?_
                rintro e w7x ⟨⟨u, rfl, r27⟩, hb1⟩
                replace r27 := r27.mono (lo' := wS.heap.size) hb.size
                rw [← HY2.out] at r27
                replace bx := bx.below hb1 bx.lt
                replace bk := bk.below hb1 bk.lt
                replace by_ := by_.below hb1 by_.lt
                replace bm := bm.below hb1 bm.lt
                replace bc := bc.below hb1 bc.lt
                replace bd := bd.below hb1 bd.lt
                replace b6 := b6.below hb1 b6.lt
                replace b17 := b17.below hb1 b17.lt
                replace r24 := r24.below hb1
                replace Na := Na.below hb1
                replace hb := hb.trans (hb1.mono hb.size)
                clear hb1
                obtain ⟨Cr27, kr27, rfl⟩ := r27.val
                try go_wp2_with fail
                refine hK.out _ _ (by exact ⟨bx.cell 1, bx.cell 2, bx.cell 3, bk.cell 0, by_.cell 1, by_.cell 2, by_.cell 3, (by first | exact ZVS.out _ hb | exact ZVS.out _ hb.drew | exact ZVP.out _ HP)⟩) (fun hHeld => ?_)
                clear hK K
                try simp only [Act.put, List.setIfInBounds_toArray, List.set_cons_zero, List.set_cons_succ]
                refine wpAnyZ_ready (rs := [30]) (by kernel_rfl) (by simp) ?_
                refine AllReadyZ.cons (opAt rfl) (fun K hK => ?_) ?_
                · skip
                  go_simp
                  refine (node_yes _ _ _ _ l' _ HLx2.out r24.sl r27.sl HR2.out).mono ?_
                  rintro e w8x ⟨rfl, hb1⟩
                  replace bx := bx.below hb1 bx.lt
                  replace bk := bk.below hb1 bk.lt
                  replace by_ := by_.below hb1 by_.lt
                  replace bm := bm.below hb1 bm.lt
                  replace bc := bc.below hb1 bc.lt
                  replace bd := bd.below hb1 bd.lt
                  replace b6 := b6.below hb1 b6.lt
                  replace b17 := b17.below hb1 b17.lt
                  replace r24 := r24.below hb1
                  replace r27 := r27.below hb1
                  replace Na := Na.below hb1
                  replace hb := hb.trans (hb1.mono hb.size)
                  clear hb1
                  have Nb : NdO w8x wS.heap.size (.agg #[.bool true, .slice Cr24 x2.length kr24, .slice Cr27 y2.length kr27, .int .u64 l']) true x2 y2 l' := ⟨_, _, rfl, r24, r27⟩
                  clear r24 r27
                  try go_wp2_with fail
                  refine hK.out _ _ (by exact ⟨bx.cell 1, bx.cell 2, bx.cell 3, bk.cell 0, by_.cell 1, by_.cell 2, by_.cell 3, (by first | exact ZVS.out _ hb | exact ZVS.out _ hb.drew | exact ZVP.out _ HP)⟩) (fun hHeld => ?_)
                  clear hK K
                  try simp only [Act.put, List.setIfInBounds_toArray, List.set_cons_zero, List.set_cons_succ]
                  refine wpAnyZ_ready (rs := [31]) (by kernel_rfl) (by simp) ?_
                  refine AllReadyZ.cons (opAt rfl) (fun K hK => ?_) ?_
                  · skip
                    have zo := fun i => bc.frozen i
                    have mo := fun i => bc.cell i
                    go_simp
                    replace bx := bx.offN HXC.out (.bool true) (.slice Cr7 x1.length kr7) (.slice Cr18 y1.length kr18) (.int .u64 l)
                    replace by_ := by_.offN HYC.out (.bool true) (.slice Cr7 x1.length kr7) (.slice Cr18 y1.length kr18) (.int .u64 l)
                    replace bk := bk.offN HKC.out (.bool true) (.slice Cr7 x1.length kr7) (.slice Cr18 y1.length kr18) (.int .u64 l)
                    replace bm := bm.offN HMC.out (.bool true) (.slice Cr7 x1.length kr7) (.slice Cr18 y1.length kr18) (.int .u64 l)
                    replace bd := bd.offN HDC.out (.bool true) (.slice Cr7 x1.length kr7) (.slice Cr18 y1.length kr18) (.int .u64 l)
                    replace Na := Na.setN bc (.bool true) (.slice Cr7 x1.length kr7) (.slice Cr18 y1.length kr18) (.int .u64 l)
                    replace Nb := Nb.setN bc (.bool true) (.slice Cr7 x1.length kr7) (.slice Cr18 y1.length kr18) (.int .u64 l)
                    have HP := (Part.of_below (os := [gm, gc, gd]) hb).setN (g := gc) (by simp) (.bool true) (.slice Cr7 x1.length kr7) (.slice Cr18 y1.length kr18) (.int .u64 l)
                    clear hb
                    replace bc := bc.setN (.bool true) (.slice Cr7 x1.length kr7) (.slice Cr18 y1.length kr18) (.int .u64 l)
                    clear zo mo
                    generalize ((((w8x).setCell ⟨gc, 0, none⟩ (.bool true)).setCell ⟨gc, 1, none⟩ (.slice Cr7 x1.length kr7)).setCell ⟨gc, 2, none⟩ (.slice Cr18 y1.length kr18)).setCell ⟨gc, 3, none⟩ (.int .u64 l) = w9x at *
                    refine hK.out _ _ (by exact ⟨bx.cell 1, bx.cell 2, bx.cell 3, bk.cell 0, by_.cell 1, by_.cell 2, by_.cell 3, (by first | exact ZVS.out _ hb | exact ZVS.out _ hb.drew | exact ZVP.out _ HP)⟩) (fun hHeld => ?_)
                    clear hK K
                    try simp only [Act.put, List.setIfInBounds_toArray, List.set_cons_zero, List.set_cons_succ]
                    refine wpAnyZ_ready (rs := [32]) (by kernel_rfl) (by simp) ?_
                    refine AllReadyZ.cons (opAt rfl) (fun K hK => ?_) ?_
                    · skip
                      have zo := fun i => bd.frozen i
                      have mo := fun i => bd.cell i
                      go_simp
                      replace bx := bx.offN HXD.out (.bool true) (.slice Cr24 x2.length kr24) (.slice Cr27 y2.length kr27) (.int .u64 l')
                      replace by_ := by_.offN HYD.out (.bool true) (.slice Cr24 x2.length kr24) (.slice Cr27 y2.length kr27) (.int .u64 l')
                      replace bk := bk.offN HKD.out (.bool true) (.slice Cr24 x2.length kr24) (.slice Cr27 y2.length kr27) (.int .u64 l')
                      replace bm := bm.offN HMD.out (.bool true) (.slice Cr24 x2.length kr24) (.slice Cr27 y2.length kr27) (.int .u64 l')
                      replace bc := bc.offN HCD.out (.bool true) (.slice Cr24 x2.length kr24) (.slice Cr27 y2.length kr27) (.int .u64 l')
                      replace Na := Na.setN bd (.bool true) (.slice Cr24 x2.length kr24) (.slice Cr27 y2.length kr27) (.int .u64 l')
                      replace Nb := Nb.setN bd (.bool true) (.slice Cr24 x2.length kr24) (.slice Cr27 y2.length kr27) (.int .u64 l')
                      replace HP := HP.setN (g := gd) (by simp) (.bool true) (.slice Cr24 x2.length kr24) (.slice Cr27 y2.length kr27) (.int .u64 l')
                      replace bd := bd.setN (.bool true) (.slice Cr24 x2.length kr24) (.slice Cr27 y2.length kr27) (.int .u64 l')
                      clear zo mo
                      generalize ((((w9x).setCell ⟨gd, 0, none⟩ (.bool true)).setCell ⟨gd, 1, none⟩ (.slice Cr24 x2.length kr24)).setCell ⟨gd, 2, none⟩ (.slice Cr27 y2.length kr27)).setCell ⟨gd, 3, none⟩ (.int .u64 l') = w10x at *
                      refine hK.out _ _ (by exact ⟨bx.cell 1, bx.cell 2, bx.cell 3, bk.cell 0, by_.cell 1, by_.cell 2, by_.cell 3, (by first | exact ZVS.out _ hb | exact ZVS.out _ hb.drew | exact ZVP.out _ HP)⟩) (fun hHeld => ?_)
                      clear hK K
                      try simp only [Act.put, List.setIfInBounds_toArray, List.set_cons_zero, List.set_cons_succ]
                      refine wpAnyZ_done (by kernel_rfl) ?_ _
                      go_wp2_with fail
                      go_end0
                      exact ⟨rfl, HP0.out.trans HP, _, _, _, _, bc, bd, bm, Na.mono HBS.out, Nb.mono HBS.out⟩
                    exact AllReadyZ.nil
                  exact AllReadyZ.nil
                exact AllReadyZ.nil
              exact AllReadyZ.nil
            exact AllReadyZ.nil
          exact AllReadyZ.nil
        exact AllReadyZ.nil
      exact AllReadyZ.nil
    exact AllReadyZ.nil
  refine AllReadyZ.cons (opAt rfl) (fun K hK => ?_) ?_
  · skip
    go_simp
    replace bx := bx.alloc (.cells #[.int .u64 v0] 22)
    replace bk := bk.alloc (.cells #[.int .u64 v0] 22)
    replace by_ := by_.alloc (.cells #[.int .u64 v0] 22)
    replace bm := bm.alloc (.cells #[.int .u64 v0] 22)
    replace bc := bc.alloc (.cells #[.int .u64 v0] 22)
    replace bd := bd.alloc (.cells #[.int .u64 v0] 22)
    replace hb := hb.alloc hb.size (.cells #[.int .u64 v0] 22)
    have b17 := Blk.new w0x 22 #[.int .u64 v0]
    generalize w0x.alloc (.cells #[.int .u64 v0] 22) = w1x at *
    generalize w0x.heap.size = g17 at *
    refine hK.out _ _ (by exact ⟨bx.cell 1, bx.cell 2, bx.cell 3, bk.cell 0, by_.cell 1, by_.cell 2, by_.cell 3, (by first | exact ZVS.out _ hb | exact ZVS.out _ hb.drew | exact ZVP.out _ HP)⟩) (fun hHeld => ?_)
    clear hK K
    try simp only [Act.put, List.setIfInBounds_toArray, List.set_cons_zero, List.set_cons_succ]
    refine wpAnyZ_ready (rs := [6]) (by kernel_rfl) (by simp) ?_
    refine AllReadyZ.cons (opAt rfl) (fun K hK => ?_) ?_
    · skip
      go_simp
      replace bx := bx.alloc (.cells #[.int .u64 key] 22)
      replace bk := bk.alloc (.cells #[.int .u64 key] 22)
      replace by_ := by_.alloc (.cells #[.int .u64 key] 22)
      replace bm := bm.alloc (.cells #[.int .u64 key] 22)
      replace bc := bc.alloc (.cells #[.int .u64 key] 22)
      replace bd := bd.alloc (.cells #[.int .u64 key] 22)
      replace b17 := b17.alloc (.cells #[.int .u64 key] 22)
      replace hb := hb.alloc hb.size (.cells #[.int .u64 key] 22)
      have b6 := Blk.new w1x 22 #[.int .u64 key]
      generalize w1x.alloc (.cells #[.int .u64 key] 22) = w2x at *
      generalize w1x.heap.size = g6 at *
      refine hK.out _ _ (by exact ⟨bx.cell 1, bx.cell 2, bx.cell 3, bk.cell 0, by_.cell 1, by_.cell 2, by_.cell 3, (by first | exact ZVS.out _ hb | exact ZVS.out _ hb.drew | exact ZVP.out _ HP)⟩) (fun hHeld => ?_)
      clear hK K
      try simp only [Act.put, List.setIfInBounds_toArray, List.set_cons_zero, List.set_cons_succ]
      refine wpAnyZ_ready (rs := [7]) (by kernel_rfl) (by simp) ?_
      refine AllReadyZ.cons (opAt rfl) (fun K hK => ?_) ?_
      · skip
        go_simp
        refine (with_any _ _ ks [key] n _ (by first | exact HN1.out | (rw [hnn.out]; exact HN1.out) | (rw [hmm.out]; exact HN1.out) | (rw [hnn'.out]; exact HN1.out) | (rw [hmm'.out]; exact HN1.out)) (by first | exact HL1.out | (rw [hnn.out]; exact HL1.out) | (rw [hmm.out]; exact HL1.out) | (rw [hnn'.out]; exact HL1.out) | (rw [hmm'.out]; exact HL1.out)) (by simp) ((S1.below hb).more hb.size) (sl_one b6)).mono ?_
        rintro e w3x ⟨⟨u, rfl, r7⟩, hb1⟩
        replace r7 := r7.mono (lo' := wS.heap.size) hb.size
        rw [← HX1.out] at r7
        replace bx := bx.below hb1 bx.lt
        replace bk := bk.below hb1 bk.lt
        replace by_ := by_.below hb1 by_.lt
        replace bm := bm.below hb1 bm.lt
        replace bc := bc.below hb1 bc.lt
        replace bd := bd.below hb1 bd.lt
        replace b17 := b17.below hb1 b17.lt
        replace b6 := b6.below hb1 b6.lt
        replace hb := hb.trans (hb1.mono hb.size)
        clear hb1
        obtain ⟨Cr7, kr7, rfl⟩ := r7.val
        try go_wp2_with fail
        refine hK.out _ _ (by exact ⟨bx.cell 1, bx.cell 2, bx.cell 3, bk.cell 0, by_.cell 1, by_.cell 2, by_.cell 3, (by first | exact ZVS.out _ hb | exact ZVS.out _ hb.drew | exact ZVP.out _ HP)⟩) (fun hHeld => ?_)
        clear hK K
        try simp only [Act.put, List.setIfInBounds_toArray, List.set_cons_zero, List.set_cons_succ]
        refine wpAnyZ_ready (rs := [18]) (by kernel_rfl) (by simp) ?_
        refine AllReadyZ.cons (opAt rfl) (fun K hK => ?_) ?_
        · skip
          go_simp
          refine (with_any _ _ vs [v0] m _ (by first | exact HM1.out | (rw [hnn.out]; exact HM1.out) | (rw [hmm.out]; exact HM1.out) | (rw [hnn'.out]; exact HM1.out) | (rw [hmm'.out]; exact HM1.out)) (by first | exact HL2.out | (rw [hnn.out]; exact HL2.out) | (rw [hmm.out]; exact HL2.out) | (rw [hnn'.out]; exact HL2.out) | (rw [hmm'.out]; exact HL2.out)) (by simp) ((S2.below hb).more hb.size) (sl_one b17)).mono ?_
          rintro e w4x ⟨⟨u, rfl, r18⟩, hb1⟩
          replace r18 := r18.mono (lo' := wS.heap.size) hb.size
          rw [← HY1.out] at r18
          replace bx := bx.below hb1 bx.lt
          replace bk := bk.below hb1 bk.lt
          replace by_ := by_.below hb1 by_.lt
          replace bm := bm.below hb1 bm.lt
          replace bc := bc.below hb1 bc.lt
          replace bd := bd.below hb1 bd.lt
          replace b17 := b17.below hb1 b17.lt
          replace b6 := b6.below hb1 b6.lt
          replace r7 := r7.below hb1
          replace hb := hb.trans (hb1.mono hb.size)
          clear hb1
          obtain ⟨Cr18, kr18, rfl⟩ := r18.val
          try go_wp2_with fail
          refine hK.out _ _ (by exact ⟨bx.cell 1, bx.cell 2, bx.cell 3, bk.cell 0, by_.cell 1, by_.cell 2, by_.cell 3, (by first | exact ZVS.out _ hb | exact ZVS.out _ hb.drew | exact ZVP.out _ HP)⟩) (fun hHeld => ?_)
          clear hK K
          try simp only [Act.put, List.setIfInBounds_toArray, List.set_cons_zero, List.set_cons_succ]
          refine wpAnyZ_ready (rs := [21]) (by kernel_rfl) (by simp) ?_
          refine AllReadyZ.cons (opAt rfl) (fun K hK => ?_) ?_
          · skip
            go_simp
            refine (node_yes _ _ _ _ l _ HLx1.out r7.sl r18.sl HR1.out).mono ?_
            rintro e w5x ⟨rfl, hb1⟩
            replace bx := bx.below hb1 bx.lt
            replace bk := bk.below hb1 bk.lt
            replace by_ := by_.below hb1 by_.lt
            replace bm := bm.below hb1 bm.lt
            replace bc := bc.below hb1 bc.lt
            replace bd := bd.below hb1 bd.lt
            replace b17 := b17.below hb1 b17.lt
            replace b6 := b6.below hb1 b6.lt
            replace r7 := r7.below hb1
            replace r18 := r18.below hb1
            replace hb := hb.trans (hb1.mono hb.size)
            clear hb1
            have Na : NdO w5x wS.heap.size (.agg #[.bool true, .slice Cr7 x1.length kr7, .slice Cr18 y1.length kr18, .int .u64 l]) true x1 y1 l := ⟨_, _, rfl, r7, r18⟩
            clear r7 r18
            try go_wp2_with fail
            refine hK.out _ _ (by exact ⟨bx.cell 1, bx.cell 2, bx.cell 3, bk.cell 0, by_.cell 1, by_.cell 2, by_.cell 3, (by first | exact ZVS.out _ hb | exact ZVS.out _ hb.drew | exact ZVP.out _ HP)⟩) (fun hHeld => ?_)
            clear hK K
            try simp only [Act.put, List.setIfInBounds_toArray, List.set_cons_zero, List.set_cons_succ]
            refine wpAnyZ_ready (rs := [24]) (by kernel_rfl) (by simp) ?_
            refine AllReadyZ.cons (opAt rfl) (fun K hK => ?_) ?_
            · skip
              go_simp
              refine (W1.out _ hb).mono ?_
              rintro e w6x ⟨⟨u, rfl, r24⟩, hb1⟩
              replace r24 := r24.mono (lo' := wS.heap.size) hb.size
              rw [← HX2.out] at r24
              replace bx := bx.below hb1 bx.lt
              replace bk := bk.below hb1 bk.lt
              replace by_ := by_.below hb1 by_.lt
              replace bm := bm.below hb1 bm.lt
              replace bc := bc.below hb1 bc.lt
              replace bd := bd.below hb1 bd.lt
              replace b17 := b17.below hb1 b17.lt
              replace b6 := b6.below hb1 b6.lt
              replace Na := Na.below hb1
              replace hb := hb.trans (hb1.mono hb.size)
              clear hb1
              obtain ⟨Cr24, kr24, rfl⟩ := r24.val
              try go_wp2_with fail
              refine hK.out _ _ (by exact ⟨bx.cell 1, bx.cell 2, bx.cell 3, bk.cell 0, by_.cell 1, by_.cell 2, by_.cell 3, (by first | exact ZVS.out _ hb | exact ZVS.out _ hb.drew | exact ZVP.out _ HP)⟩) (fun hHeld => ?_)
              clear hK K
              try simp only [Act.put, List.setIfInBounds_toArray, List.set_cons_zero, List.set_cons_succ]
              refine wpAnyZ_ready (rs := [27]) (by kernel_rfl) (by simp) ?_
              refine AllReadyZ.cons (opAt rfl) (fun K hK => ?_) ?_
              · skip
                go_simp
                refine (W2.out _ hb).mono ?_
                rintro e w7x ⟨⟨u, rfl, r27⟩, hb1⟩
                replace r27 := r27.mono (lo' := wS.heap.size) hb.size
                rw [← HY2.out] at r27
                replace bx := bx.below hb1 bx.lt
                replace bk := bk.below hb1 bk.lt
                replace by_ := by_.below hb1 by_.lt
                replace bm := bm.below hb1 bm.lt
                replace bc := bc.below hb1 bc.lt
                replace bd := bd.below hb1 bd.lt
                replace b17 := b17.below hb1 b17.lt
                replace b6 := b6.below hb1 b6.lt
                replace r24 := r24.below hb1
                replace Na := Na.below hb1
                replace hb := hb.trans (hb1.mono hb.size)
                clear hb1
                obtain ⟨Cr27, kr27, rfl⟩ := r27.val
                try go_wp2_with fail
                refine hK.out _ _ (by exact ⟨bx.cell 1, bx.cell 2, bx.cell 3, bk.cell 0, by_.cell 1, by_.cell 2, by_.cell 3, (by first | exact ZVS.out _ hb | exact ZVS.out _ hb.drew | exact ZVP.out _ HP)⟩) (fun hHeld => ?_)
                clear hK K
                try simp only [Act.put, List.setIfInBounds_toArray, List.set_cons_zero, List.set_cons_succ]
                refine wpAnyZ_ready (rs := [30]) (by kernel_rfl) (by simp) ?_
                refine AllReadyZ.cons (opAt rfl) (fun K hK => ?_) ?_
                · skip
                  go_simp
                  refine (node_yes _ _ _ _ l' _ HLx2.out r24.sl r27.sl HR2.out).mono ?_
                  rintro e w8x ⟨rfl, hb1⟩
                  replace bx := bx.below hb1 bx.lt
                  replace bk := bk.below hb1 bk.lt
                  replace by_ := by_.below hb1 by_.lt
                  replace bm := bm.below hb1 bm.lt
                  replace bc := bc.below hb1 bc.lt
                  replace bd := bd.below hb1 bd.lt
                  replace b17 := b17.below hb1 b17.lt
                  replace b6 := b6.below hb1 b6.lt
                  replace r24 := r24.below hb1
                  replace r27 := r27.below hb1
                  replace Na := Na.below hb1
                  replace hb := hb.trans (hb1.mono hb.size)
                  clear hb1
                  have Nb : NdO w8x wS.heap.size (.agg #[.bool true, .slice Cr24 x2.length kr24, .slice Cr27 y2.length kr27, .int .u64 l']) true x2 y2 l' := ⟨_, _, rfl, r24, r27⟩
                  clear r24 r27
                  try go_wp2_with fail
                  refine hK.out _ _ (by exact ⟨bx.cell 1, bx.cell 2, bx.cell 3, bk.cell 0, by_.cell 1, by_.cell 2, by_.cell 3, (by first | exact ZVS.out _ hb | exact ZVS.out _ hb.drew | exact ZVP.out _ HP)⟩) (fun hHeld => ?_)
                  clear hK K
                  try simp only [Act.put, List.setIfInBounds_toArray, List.set_cons_zero, List.set_cons_succ]
                  refine wpAnyZ_ready (rs := [31]) (by kernel_rfl) (by simp) ?_
                  refine AllReadyZ.cons (opAt rfl) (fun K hK => ?_) ?_
                  · skip
                    have zo := fun i => bc.frozen i
                    have mo := fun i => bc.cell i
                    go_simp
                    replace bx := bx.offN HXC.out (.bool true) (.slice Cr7 x1.length kr7) (.slice Cr18 y1.length kr18) (.int .u64 l)
                    replace by_ := by_.offN HYC.out (.bool true) (.slice Cr7 x1.length kr7) (.slice Cr18 y1.length kr18) (.int .u64 l)
                    replace bk := bk.offN HKC.out (.bool true) (.slice Cr7 x1.length kr7) (.slice Cr18 y1.length kr18) (.int .u64 l)
                    replace bm := bm.offN HMC.out (.bool true) (.slice Cr7 x1.length kr7) (.slice Cr18 y1.length kr18) (.int .u64 l)
                    replace bd := bd.offN HDC.out (.bool true) (.slice Cr7 x1.length kr7) (.slice Cr18 y1.length kr18) (.int .u64 l)
                    replace Na := Na.setN bc (.bool true) (.slice Cr7 x1.length kr7) (.slice Cr18 y1.length kr18) (.int .u64 l)
                    replace Nb := Nb.setN bc (.bool true) (.slice Cr7 x1.length kr7) (.slice Cr18 y1.length kr18) (.int .u64 l)
                    have HP := (Part.of_below (os := [gm, gc, gd]) hb).setN (g := gc) (by simp) (.bool true) (.slice Cr7 x1.length kr7) (.slice Cr18 y1.length kr18) (.int .u64 l)
                    clear hb
                    replace bc := bc.setN (.bool true) (.slice Cr7 x1.length kr7) (.slice Cr18 y1.length kr18) (.int .u64 l)
                    clear zo mo
                    generalize ((((w8x).setCell ⟨gc, 0, none⟩ (.bool true)).setCell ⟨gc, 1, none⟩ (.slice Cr7 x1.length kr7)).setCell ⟨gc, 2, none⟩ (.slice Cr18 y1.length kr18)).setCell ⟨gc, 3, none⟩ (.int .u64 l) = w9x at *
                    refine hK.out _ _ (by exact ⟨bx.cell 1, bx.cell 2, bx.cell 3, bk.cell 0, by_.cell 1, by_.cell 2, by_.cell 3, (by first | exact ZVS.out _ hb | exact ZVS.out _ hb.drew | exact ZVP.out _ HP)⟩) (fun hHeld => ?_)
                    clear hK K
                    try simp only [Act.put, List.setIfInBounds_toArray, List.set_cons_zero, List.set_cons_succ]
                    refine wpAnyZ_ready (rs := [32]) (by kernel_rfl) (by simp) ?_
                    refine AllReadyZ.cons (opAt rfl) (fun K hK => ?_) ?_
                    · skip
                      have zo := fun i => bd.frozen i
                      have mo := fun i => bd.cell i
                      go_simp
                      replace bx := bx.offN HXD.out (.bool true) (.slice Cr24 x2.length kr24) (.slice Cr27 y2.length kr27) (.int .u64 l')
                      replace by_ := by_.offN HYD.out (.bool true) (.slice Cr24 x2.length kr24) (.slice Cr27 y2.length kr27) (.int .u64 l')
                      replace bk := bk.offN HKD.out (.bool true) (.slice Cr24 x2.length kr24) (.slice Cr27 y2.length kr27) (.int .u64 l')
                      replace bm := bm.offN HMD.out (.bool true) (.slice Cr24 x2.length kr24) (.slice Cr27 y2.length kr27) (.int .u64 l')
                      replace bc := bc.offN HCD.out (.bool true) (.slice Cr24 x2.length kr24) (.slice Cr27 y2.length kr27) (.int .u64 l')
                      replace Na := Na.setN bd (.bool true) (.slice Cr24 x2.length kr24) (.slice Cr27 y2.length kr27) (.int .u64 l')
                      replace Nb := Nb.setN bd (.bool true) (.slice Cr24 x2.length kr24) (.slice Cr27 y2.length kr27) (.int .u64 l')
                      replace HP := HP.setN (g := gd) (by simp) (.bool true) (.slice Cr24 x2.length kr24) (.slice Cr27 y2.length kr27) (.int .u64 l')
                      replace bd := bd.setN (.bool true) (.slice Cr24 x2.length kr24) (.slice Cr27 y2.length kr27) (.int .u64 l')
                      clear zo mo
                      generalize ((((w9x).setCell ⟨gd, 0, none⟩ (.bool true)).setCell ⟨gd, 1, none⟩ (.slice Cr24 x2.length kr24)).setCell ⟨gd, 2, none⟩ (.slice Cr27 y2.length kr27)).setCell ⟨gd, 3, none⟩ (.int .u64 l') = w10x at *
                      refine hK.out _ _ (by exact ⟨bx.cell 1, bx.cell 2, bx.cell 3, bk.cell 0, by_.cell 1, by_.cell 2, by_.cell 3, (by first | exact ZVS.out _ hb | exact ZVS.out _ hb.drew | exact ZVP.out _ HP)⟩) (fun hHeld => ?_)
                      clear hK K
                      try simp only [Act.put, List.setIfInBounds_toArray, List.set_cons_zero, List.set_cons_succ]
                      refine wpAnyZ_done (by kernel_rfl) ?_ _
                      go_wp2_with fail
                      go_end0
                      exact ⟨rfl, HP0.out.trans HP, _, _, _, _, bc, bd, bm, Na.mono HBS.out, Nb.mono HBS.out⟩
                    exact AllReadyZ.nil
                  exact AllReadyZ.nil
                exact AllReadyZ.nil
              exact AllReadyZ.nil
            exact AllReadyZ.nil
          exact AllReadyZ.nil
        exact AllReadyZ.nil
      exact AllReadyZ.nil
    exact AllReadyZ.nil
  exact AllReadyZ.nil
end Go.Proofs.Ytcmoblibjhaegaa
