/-
  The Go function MemoryOne.
-/
import Derived.Test.YtpkocgcagemnbaaDoorMemoW
namespace Go.Proofs.YtpkocgcagemnbaaDoor
open Go.RowKit
attribute [local go_sem] past_cell past_cell_add

theorem cutW_all (ws : List Int) (N : Nat) (h : ws.length = N) : cutW ws 0 N = ws := by
  unfold cutW
  rw [show (max (0 : Int) 0).toNat = 0 by omega, List.drop_zero, show (min (N : Int) (ws.length : Int)).toNat = ws.length by omega, List.take_length]
def OneIn (n : Nat) (w : World) (i : Value) (wr : World) : Prop := ∃ (k : Nat), i = .int .i64 k ∧ k ≤ n ∧ Below w.heap.size w wr
set_option maxRecDepth 100000 in
set_option maxHeartbeats 2000000 in
theorem one_big (s t f c0 p k a o v : Int) (A : Option Addr) (n c : Nat) (w : World) (hT : Tab w) (h : (100 : Int) < n ∨ ((n : Int) ≤ 100 ∧ 5000 < rSize s t f c0 p) ∨ ((n : Int) ≤ 100 ∧ rSize s t f c0 p = 0)) :
    Calls Tryd.prog 6 #[.agg #[.int .i64 s, .int .i64 t, .int .i64 f, .int .i64 c0, .int .i64 p], .slice A n c, .agg #[.int .i64 k, .int .i64 a, .int .u64 o, .int .u64 v]] w fun e w' => e = .returned (.bool true) ∧ Below w.heap.size w w' := by
  have SZ := hide (fun w => rsize_any s t f c0 p w)
  have Aw := hide (fun w2 (hb : Below w.heap.size w w2) => awake09 w2 (hT.below hb))
  have bx := (Blk.new w 23 #[.int .i64 s, .int .i64 t, .int .i64 f, .int .i64 c0, .int .i64 p]).alloc (.cells #[.int .i64 k, .int .i64 a, .int .u64 o, .int .u64 v] 46)
  have bo := Blk.new (w.alloc (.cells #[.int .i64 s, .int .i64 t, .int .i64 f, .int .i64 c0, .int .i64 p] 23)) 46 #[.int .i64 k, .int .i64 a, .int .u64 o, .int .u64 v]
  rw [World.size_alloc] at bo
  have B0 := ((Below.refl w.heap.size w).alloc (Nat.le_refl _) (.cells #[.int .i64 s, .int .i64 t, .int .i64 f, .int .i64 c0, .int .i64 p] 23)).alloc (by simp) (.cells #[.int .i64 k, .int .i64 a, .int .u64 o, .int .u64 v] 46)
  generalize rSize s t f c0 p = R at *
  rcases h with h | ⟨h1, h2⟩ | ⟨h1, h2⟩
  · have HB := hide B0
    clear B0 bx bo
    go_enter Tryd.func6, Tryd.ntmps6
    go_wp2_with fail
    refine (Aw.out _ HB.out).mono ?_
    rintro e w1 ⟨rfl, hb1⟩
    go_wp2_with fail
    go_ret
    exact ⟨rfl, HB.out.trans (hb1.mono HB.out.size)⟩
  · go_enter Tryd.func6, Tryd.ntmps6
    go_wp2_with fail
    refine (SZ.out _).mono ?_
    rintro e w1 ⟨rfl, hb1⟩
    try replace bx := bx.below hb1 bx.lt
    try replace bo := bo.below hb1 bo.lt
    try replace by_ := by_.below hb1 by_.lt
    replace B0 := B0.trans (hb1.mono B0.size)
    clear hb1
    try clear mx lx
    try clear mo lo zo
    try clear my ly zy
    try have mx := fun i => bx.cell i
    try have lx := bx.lt
    try have mo := fun i => bo.cell i
    try have lo := bo.lt
    try have zo := fun i => bo.frozen i
    try have my := fun i => by_.cell i
    try have ly := by_.lt
    try have zy := fun i => by_.frozen i
    go_wp2_with fail
    refine (Aw.out _ B0).mono ?_
    rintro e w3 ⟨rfl, hb1⟩
    go_wp2_with fail
    go_ret
    exact ⟨rfl, B0.trans (hb1.mono B0.size)⟩
  · subst h2
    go_enter Tryd.func6, Tryd.ntmps6
    go_wp2_with fail
    refine (SZ.out _).mono ?_
    rintro e w1 ⟨rfl, hb1⟩
    try replace bx := bx.below hb1 bx.lt
    try replace bo := bo.below hb1 bo.lt
    try replace by_ := by_.below hb1 by_.lt
    replace B0 := B0.trans (hb1.mono B0.size)
    clear hb1
    try clear mx lx
    try clear mo lo zo
    try clear my ly zy
    try have mx := fun i => bx.cell i
    try have lx := bx.lt
    try have mo := fun i => bo.cell i
    try have lo := bo.lt
    try have zo := fun i => bo.frozen i
    try have my := fun i => by_.cell i
    try have ly := by_.lt
    try have zy := fun i => by_.frozen i
    go_wp2_with fail
    refine (SZ.out _).mono ?_
    rintro e w2 ⟨rfl, hb1⟩
    try replace bx := bx.below hb1 bx.lt
    try replace bo := bo.below hb1 bo.lt
    try replace by_ := by_.below hb1 by_.lt
    replace B0 := B0.trans (hb1.mono B0.size)
    clear hb1
    try clear mx lx
    try clear mo lo zo
    try clear my ly zy
    try have mx := fun i => bx.cell i
    try have lx := bx.lt
    try have mo := fun i => bo.cell i
    try have lo := bo.lt
    try have zo := fun i => bo.frozen i
    try have my := fun i => by_.cell i
    try have ly := by_.lt
    try have zy := fun i => by_.frozen i
    go_wp2_with fail
    refine (Aw.out _ B0).mono ?_
    rintro e w3 ⟨rfl, hb1⟩
    go_wp2_with fail
    go_ret
    exact ⟨rfl, B0.trans (hb1.mono B0.size)⟩

set_option maxRecDepth 100000 in
set_option maxHeartbeats 8000000 in
theorem one_yes (s t f c0 p k a o v : Int) (A : Option Addr) (n c N : Nat) (l : List (Int × Int)) (w : World) (hT : Tab w) (hc : cfgOk s t f c0 p = true) (hn : n ≤ 100) (hN : laySize s t f = N) (hN5 : N ≤ 5000) (hN1 : 1 ≤ N) (hr : Reads w w.heap.size 2 A n (recW l)) :
    Calls Tryd.prog 6 #[.agg #[.int .i64 s, .int .i64 t, .int .i64 f, .int .i64 c0, .int .i64 p], .slice A n c, .agg #[.int .i64 k, .int .i64 a, .int .u64 o, .int .u64 v]] w fun e w' => e = .returned (.bool true) ∧ Below w.heap.size w w' := by
  have eR : rSize s t f c0 p = N := by unfold rSize; rw [hc, ← hN]; rfl
  have SZ := hide (fun w => rsize_any s t f c0 p w)
  have Aw := hide (fun w2 (hb : Below w.heap.size w w2) => awake09 w2 (hT.below hb))
  rw [eR] at SZ
  have MN := hide (fun w2 (hb : Below w.heap.size w w2) => mnew_yes s t f c0 p N w2 (hT.below hb) hc hN)
  have cb := cfgOk_iff.1 hc
  have LS := hide (fun w2 => size_any s t f c0 p w2 (by omega) (by omega) (by omega))
  rw [hN] at LS
  have HR := hide hr
  have HL := hide hr.lenWri
  have qN : ((N : Int) == 0) = false := by rw [beq_eq_false_iff_ne]; omega
  clear hr hc hN eR cb
  have bx := (Blk.new w 23 #[.int .i64 s, .int .i64 t, .int .i64 f, .int .i64 c0, .int .i64 p]).alloc (.cells #[.int .i64 k, .int .i64 a, .int .u64 o, .int .u64 v] 46)
  have bo := Blk.new (w.alloc (.cells #[.int .i64 s, .int .i64 t, .int .i64 f, .int .i64 c0, .int .i64 p] 23)) 46 #[.int .i64 k, .int .i64 a, .int .u64 o, .int .u64 v]
  rw [World.size_alloc] at bo
  have B0 := ((Below.refl w.heap.size w).alloc (Nat.le_refl _) (.cells #[.int .i64 s, .int .i64 t, .int .i64 f, .int .i64 c0, .int .i64 p] 23)).alloc (by simp) (.cells #[.int .i64 k, .int .i64 a, .int .u64 o, .int .u64 v] 46)
  go_enter Tryd.func6, Tryd.ntmps6
  go_wp2_with fail
  refine (SZ.out _).mono ?_
  rintro e w1 ⟨rfl, hb1⟩
  try replace bx := bx.below hb1 bx.lt
  try replace bo := bo.below hb1 bo.lt
  try replace by_ := by_.below hb1 by_.lt
  replace B0 := B0.trans (hb1.mono B0.size)
  clear hb1
  try clear mx lx
  try clear mo lo zo
  try clear my ly zy
  try have mx := fun i => bx.cell i
  try have lx := bx.lt
  try have mo := fun i => bo.cell i
  try have lo := bo.lt
  try have zo := fun i => bo.frozen i
  try have my := fun i => by_.cell i
  try have ly := by_.lt
  try have zy := fun i => by_.frozen i
  go_wp2_with fail
  refine (SZ.out _).mono ?_
  rintro e w2 ⟨rfl, hb1⟩
  try replace bx := bx.below hb1 bx.lt
  try replace bo := bo.below hb1 bo.lt
  try replace by_ := by_.below hb1 by_.lt
  replace B0 := B0.trans (hb1.mono B0.size)
  clear hb1
  try clear mx lx
  try clear mo lo zo
  try clear my ly zy
  try have mx := fun i => bx.cell i
  try have lx := bx.lt
  try have mo := fun i => bo.cell i
  try have lo := bo.lt
  try have zo := fun i => bo.frozen i
  try have my := fun i => by_.cell i
  try have ly := by_.lt
  try have zy := fun i => by_.frozen i
  go_wp2_with fail
  refine (MN.out _ B0).mono ?_
  rintro e w3 ⟨⟨gm, gw, rfl, hm, lm, lw⟩, hb1⟩
  have lm' := Nat.le_trans B0.size lm
  have lw' := Nat.le_trans B0.size lw
  have ngo : w.heap.size + 1 ≠ gw := by have := bo.lt; omega
  replace bx := bx.below hb1 bx.lt
  replace bo := bo.below hb1 bo.lt
  replace B0 := B0.trans (hb1.mono B0.size)
  have HM := hide hm
  have lgm := hm.1.lt
  have lgw := hm.2.1.lt
  clear hb1 hm lm lw
  try clear mx lx
  try clear mo lo zo
  try clear my ly zy
  try have mx := fun i => bx.cell i
  try have lx := bx.lt
  try have mo := fun i => bo.cell i
  try have lo := bo.lt
  try have zo := fun i => bo.frozen i
  try have my := fun i => by_.cell i
  try have ly := by_.lt
  try have zy := fun i => by_.frozen i
  go_wp2_with fail
  refine (MN.out _ B0).mono ?_
  rintro e w4 ⟨⟨hm, hw, rfl, hn2, lm, lw⟩, hb1⟩
  have nn1 : hm ≠ gw := by omega
  have nn2 : hw ≠ gw := by omega
  have nn3 : gm ≠ hw := by omega
  have ngo2 : w.heap.size + 1 ≠ hw := by have := bo.lt; omega
  have lh' := Nat.le_trans B0.size lw
  have HM := hide (HM.out.below hb1)
  replace bo := bo.below hb1 bo.lt
  replace B0 := B0.trans (hb1.mono B0.size)
  have HN := hide hn2
  clear hb1 hn2 lm lw bx mx lx lgm lgw
  try clear mx lx
  try clear mo lo zo
  try clear my ly zy
  try have mx := fun i => bx.cell i
  try have lx := bx.lt
  try have mo := fun i => bo.cell i
  try have lo := bo.lt
  try have zo := fun i => bo.frozen i
  try have my := fun i => by_.cell i
  try have ly := by_.lt
  try have zy := fun i => by_.frozen i
  have hr4 := HR.out.below B0
  have WR := hide (write_any gm gw s t f c0 p A n c (zs N) l w4 HM.out (hr4.more B0.size) (fun h0 ad h => by
    subst h
    obtain ⟨ad', h1, h2, _⟩ := hr4.2 h0
    injection h1 with h1
    subst h1
    omega) (by omega))
  clear hr4
  go_wp2_with fail
  refine WR.out.mono ?_
  rintro e w5 ⟨⟨u5, rfl⟩, hm5, hg⟩
  have HM := hide hm5
  have HN := hide (HN.out.grown hg (by simp; omega) (by simp; omega))
  replace bo := bo.grown hg (by simp; omega)
  replace B0 := below_grown B0 hg lw' B0.size
  clear hm5 hg WR
  try clear mx lx
  try clear mo lo zo
  try clear my ly zy
  try have mx := fun i => bx.cell i
  try have lx := bx.lt
  try have mo := fun i => bo.cell i
  try have lo := bo.lt
  try have zo := fun i => bo.frozen i
  try have my := fun i => by_.cell i
  try have ly := by_.lt
  try have zy := fun i => by_.frozen i
  have hl1 := hide (show (mWri (zs N) l n).length = N from (mWri_len _ _ _).trans List.length_replicate)
  generalize mWri (zs N) l n = ws1 at *
  have WA := hide (fun w2 h => word_any gm gw s t f c0 p a ws1 w2 h)
  generalize hx : wGet ws1 a = x at *
  have HX := hide hx
  have WN := hide (fun (w2 : World) (h : MemOk w2 hm hw s t f c0 p (zs N)) => write_any hm hw s t f c0 p (some ⟨w2.heap.size, 0, none⟩) 1 1 (zs N) [(a, x)] (w2.alloc (.cells #[.int .i64 a, .int .u64 x] 55)) (h.below ((Below.refl _ _).alloc (Nat.le_refl _) _)) (by rw [World.size_alloc]; exact Reads.new w2 [.int .i64 a, .int .u64 x] 55 1 2 rfl) (fun _ ad e => by injection e with e; subst e; have := h.2.1.lt; show w2.heap.size ≠ hw; omega) (by omega))
  clear hx
  simp only [show mWri (zs N) [(a, x)] 1 = wPut (zs N) a x from rfl] at WN
  have m1 := mo 1
  go_wp2_with fail
  have bod := bo.drewN 1
  have m1' : (w5.drewN 1).cell? ⟨w.heap.size + 1, 1, none⟩ = some (.int .i64 a) := bod.cell 1
  have m1'' : ((w5.drewN 1).alloc (.cells #[.int .i64 a, .int .u64 x] 55)).cell? ⟨w.heap.size + 1, 1, none⟩ = some (.int .i64 a) := (bod.alloc _).cell 1
  go_region_held3 (fun w' => w'.cell? ⟨w.heap.size + 1, 1, none⟩ = some (.int .i64 a)) (first | exact m1' | exact m1'' | go_keep) ((first | (go_at_call 32; refine (WA.out _ (HM.out.below (below_drewN (Below.refl _ _) _))).mono ?_; rintro e w' ⟨rfl, rfl⟩) | (go_at_call 31; refine (WN.out _ (HN.out.below (below_drewN (Below.refl _ _) _))).mono ?_; rintro e w6 ⟨⟨u6, rfl⟩, hm6, hg6⟩; have m1' := keepG hg6 m1'' (show w.heap.size + 1 ≠ hw by omega))))
  have G6 := grown_trans (grown_below ((below_drewN (Below.refl w5.heap.size w5) 1).alloc (by simp) (.cells #[.int .i64 a, .int .u64 x] 55)) (some hw)) hg6
  have HM := hide (HM.out.grown G6 (by simp; omega) (by simp; omega))
  have HN := hide hm6
  replace bo := bo.grown G6 (by simp; omega)
  replace B0 := below_grown B0 G6 lh' B0.size
  clear hm6 hg6 G6 WA WN m1 m1'' bod
  have bx := HM.out.1
  try clear mx lx
  try clear mo lo zo
  try clear my ly zy
  try have mx := fun i => bx.cell i
  try have lx := bx.lt
  try have mo := fun i => bo.cell i
  try have lo := bo.lt
  try have zo := fun i => bo.frozen i
  try have my := fun i => by_.cell i
  try have ly := by_.lt
  try have zy := fun i => by_.frozen i
  obtain ⟨o1, o2, o3⟩ := one_law ws1 (zs N) (hl1.out.trans List.length_replicate.symm) k a o v
  rw [HX.out] at o1 o2
  have WS1 := hide (fun w2 hm => words_some gm gw 0 N s t f c0 p 0 N ws1 w2 hm (by have := hl1.out; omega) (by omega) (by have := hl1.out; omega) (by omega))
  have DM := hide (fun w2 hm => do_any gm gw s t f c0 p k a o v ws1 w2 hm)
  have DN := hide (fun w2 h => do_any hm hw s t f c0 p k a o v (wPut (zs N) a x) w2 h)
  have hl2 := hide ((mDo_len ws1 k a o v).trans hl1.out)
  generalize hzs : wPut (zs N) a x = zs1 at *
  rw [o1] at DN
  generalize (mDo ws1 k a o v).1 = y at *
  generalize (mDo ws1 k a o v).2 = ws2 at *
  generalize (mDo zs1 k a o v).2 = zs2 at *
  have WN2 := hide (fun w2 h => word_any hm hw s t f c0 p a zs2 w2 h)
  have WM2 := hide (fun w2 h => word_any gm gw s t f c0 p a ws2 w2 h)
  rw [o2] at WN2
  generalize wGet ws2 a = q at *
  have WW := hide (show ∀ w2 g, ((MemOk w2 hm hw s t f c0 p zs2 ∧ g = hm) ∨ (MemOk w2 gm gw s t f c0 p ws2 ∧ g = gm)) → Calls Tryd.prog 32 #[.pointer (some ⟨g, 0, none⟩), .int .i64 a] w2 fun e w' => e = .returned (.int .u64 q) ∧ w2 = w' from fun w2 g h => by
    rcases h with ⟨h, rfl⟩ | ⟨h, rfl⟩
    · exact WN2.out w2 h
    · exact WM2.out w2 h)
  clear WN2 WM2
  have WS2 := hide (fun w2 hm => words_some gm gw 0 N s t f c0 p 0 N ws2 w2 hm (by have := hl2.out; omega) (by omega) (by have := hl2.out; omega) (by omega))
  rw [cutW_all ws1 N hl1.out] at WS1
  rw [cutW_all ws2 N hl2.out] at WS2
  have HO := hide o3
  clear o1 o2 o3
  rw [hl1.out] at bx
  try clear mx lx
  try clear mo lo zo
  try clear my ly zy
  try have mx := fun i => bx.cell i
  try have lx := bx.lt
  try have mo := fun i => bo.cell i
  try have lo := bo.lt
  try have zo := fun i => bo.frozen i
  try have my := fun i => by_.cell i
  try have ly := by_.lt
  try have zy := fun i => by_.frozen i
  go_wp2_with fail
  refine (LS.out _).mono ?_
  rintro e w7 ⟨rfl, hb1⟩
  have HM := hide (HM.out.below hb1)
  have HN := hide (HN.out.below hb1)
  replace bo := bo.below hb1 bo.lt
  replace B0 := B0.trans (hb1.mono B0.size)
  clear hb1 bx mx lx
  try clear mx lx
  try clear mo lo zo
  try clear my ly zy
  try have mx := fun i => bx.cell i
  try have lx := bx.lt
  try have mo := fun i => bo.cell i
  try have lo := bo.lt
  try have zo := fun i => bo.frozen i
  try have my := fun i => by_.cell i
  try have ly := by_.lt
  try have zy := fun i => by_.frozen i
  go_wp2_with fail
  refine (WS1.out _ HM.out).mono ?_
  rintro e w8 ⟨⟨u9, rfl, hu⟩, hb1⟩
  have lgw : gw < w7.heap.size := HM.out.2.1.lt
  have lhw : hw < w7.heap.size := HN.out.2.1.lt
  obtain ⟨g9, cap9, rfl, lg9, _⟩ := World.ownsRow.form hu (by have := hl1.out; omega)
  have HU := hide hu
  have HM := hide (HM.out.below hb1)
  have HN := hide (HN.out.below hb1)
  replace bo := bo.below hb1 bo.lt
  replace B0 := B0.trans (hb1.mono B0.size)
  clear hb1 hu WS1
  try clear mx lx
  try clear mo lo zo
  try clear my ly zy
  try have mx := fun i => bx.cell i
  try have lx := bx.lt
  try have mo := fun i => bo.cell i
  try have lo := bo.lt
  try have zo := fun i => bo.frozen i
  try have my := fun i => by_.cell i
  try have ly := by_.lt
  try have zy := fun i => by_.frozen i
  go_wp2_with fail
  refine (DM.out _ HM.out).mono ?_
  rintro e w9 ⟨rfl, hm9, hg9⟩
  have HU := hide (World.ownsRow.kept HU.out hg9 (own_ne_row HU.out lgw))
  have HM := hide hm9
  have HN := hide (HN.out.grown hg9 (by simp; omega) (by simp; omega))
  replace bo := bo.grown hg9 (by simp; omega)
  replace B0 := below_grown B0 hg9 lw' B0.size
  clear hm9 hg9 DM
  try clear mx lx
  try clear mo lo zo
  try clear my ly zy
  try have mx := fun i => bx.cell i
  try have lx := bx.lt
  try have mo := fun i => bo.cell i
  try have lo := bo.lt
  try have zo := fun i => bo.frozen i
  try have my := fun i => by_.cell i
  try have ly := by_.lt
  try have zy := fun i => by_.frozen i
  go_wp2_with fail
  have bod := bo.drewN 1
  have z0 : (w9.drewN 1).cell? ⟨w.heap.size + 1, 0, none⟩ = some (.int .i64 k) := bod.cell 0
  have z1 : (w9.drewN 1).cell? ⟨w.heap.size + 1, 1, none⟩ = some (.int .i64 a) := bod.cell 1
  have z2 : (w9.drewN 1).cell? ⟨w.heap.size + 1, 2, none⟩ = some (.int .u64 o) := bod.cell 2
  have z3 : (w9.drewN 1).cell? ⟨w.heap.size + 1, 3, none⟩ = some (.int .u64 v) := bod.cell 3
  clear bod mo lo zo
  go_region_held3 (fun w' => w'.cell? ⟨w.heap.size + 1, 0, none⟩ = some (.int .i64 k) ∧ w'.cell? ⟨w.heap.size + 1, 1, none⟩ = some (.int .i64 a) ∧ w'.cell? ⟨w.heap.size + 1, 2, none⟩ = some (.int .u64 o) ∧ w'.cell? ⟨w.heap.size + 1, 3, none⟩ = some (.int .u64 v)) (first | exact ⟨z0, z1, z2, z3⟩ | go_keep) ((first | (go_at_call 27; refine (DN.out _ (HN.out.below (below_drewN (Below.refl _ _) _))).mono ?_; rintro e w10 ⟨rfl, hm10, hg10⟩; (replace z0 := keepG hg10 z0 ngo2); (replace z1 := keepG hg10 z1 ngo2); (replace z2 := keepG hg10 z2 ngo2); (replace z3 := keepG hg10 z3 ngo2); have HM10 := hide ((HM.out.below (below_drewN (Below.refl _ _) 1)).grown hg10 (by simp; omega) (by simp; omega))) | (go_at_call 32; (refine (WW.out _ _ ?_).mono ?_); (first | exact .inl ⟨hm10, rfl⟩ | exact .inr ⟨HM10.out, rfl⟩); rintro e w' ⟨rfl, rfl⟩)))
  have lgw9 : gw < w7.heap.size := lgw
  have G10 := grown_trans (grown_below (below_drewN (Below.refl w9.heap.size w9) 1) (some hw)) hg10
  have HU := hide (World.ownsRow.kept HU.out G10 (own_ne_row HU.out lhw))
  have HM := hide HM10.out
  have bx := HM10.out.1
  rw [hl2.out] at bx
  replace bo := bo.grown G10 (by simp; omega)
  replace B0 := below_grown B0 G10 lh' B0.size
  clear hm10 hg10 G10 HM10 z0 z1 z2 z3 WW DN HN
  try clear mx lx
  try clear mo lo zo
  try clear my ly zy
  try have mx := fun i => bx.cell i
  try have lx := bx.lt
  try have mo := fun i => bo.cell i
  try have lo := bo.lt
  try have zo := fun i => bo.frozen i
  try have my := fun i => by_.cell i
  try have ly := by_.lt
  try have zy := fun i => by_.frozen i
  go_wp2_with fail
  refine (LS.out _).mono ?_
  rintro e w11 ⟨rfl, hb1⟩
  have HM := hide (HM.out.below hb1)
  have HU := hide (own_below HU.out hb1)
  replace bo := bo.below hb1 bo.lt
  replace B0 := B0.trans (hb1.mono B0.size)
  clear hb1 bx mx lx
  try clear mx lx
  try clear mo lo zo
  try clear my ly zy
  try have mx := fun i => bx.cell i
  try have lx := bx.lt
  try have mo := fun i => bo.cell i
  try have lo := bo.lt
  try have zo := fun i => bo.frozen i
  try have my := fun i => by_.cell i
  try have ly := by_.lt
  try have zy := fun i => by_.frozen i
  go_wp2_with fail
  refine (WS2.out _ HM.out).mono ?_
  rintro e w12 ⟨⟨u12, rfl, hu⟩, hb1⟩
  obtain ⟨g12, cap12, rfl, lg12, _⟩ := World.ownsRow.form hu (by have := hl2.out; omega)
  have HU := hide (own_below HU.out hb1)
  have HV := hide hu
  replace bo := bo.below hb1 bo.lt
  replace B0 := B0.trans (hb1.mono B0.size)
  clear hb1 hu WS2 HM
  try clear mx lx
  try clear mo lo zo
  try clear my ly zy
  try have mx := fun i => bx.cell i
  try have lx := bx.lt
  try have mo := fun i => bo.cell i
  try have lo := bo.lt
  try have zo := fun i => bo.frozen i
  try have my := fun i => by_.cell i
  try have ly := by_.lt
  try have zy := fun i => by_.frozen i
  have hl1' := hl1.out
  have hl2' := hl2.out
  have C1 := hide (HU.out.cells (g := g9) rfl)
  have C2 := hide (HV.out.cells (g := g12) rfl)
  have HB := hide B0
  clear HU HV B0
  go_wp2_with fail
  have BO := hide bo
  have bb := Below.refl w12.heap.size w12
  clear bo mo lo zo
  go_loopw [12] (OneIn N w12) (fun i _ => N - (intOf i).toNat)
  case atStart => exact ⟨0, rfl, by omega, bb⟩
  case round =>
    obtain ⟨j, rfl, hj, hb⟩ := hrel
    have bo := BO.out.below hb BO.out.lt
    have mo := fun i => bo.cell i
    have lo := bo.lt
    by_cases hlt : j < N
    · have hjz : (j : Int) < (N : Int) := by omega
      by_cases hia : (j : Int) = a
      · subst hia
        go_wp2_with fail
        go_quiet (fail)
        go_wp2_with fail
        go_roundw
        case rel => exact ⟨j + 1, by go_num, by omega, below_drewN hb _⟩
        case measure => simp [intOf]; omega
      · have z1 := C1.out j _ (ints_get ws1 j (by omega))
        have z2 := C2.out j _ (ints_get ws2 j (by omega))
        have e3 := HO.out j hia
        simp only [List.getD_eq_getElem?_getD, List.getElem?_eq_getElem (show j < ws1.length by omega), List.getElem?_eq_getElem (show j < ws2.length by omega), Option.getD_some] at e3
        rw [e3] at z2
        rw [Addr.add_lit, Nat.zero_add] at z1 z2
        replace z1 := (hb.cell (p := ⟨g9, j, none⟩) (World.block_lt_of_cell? _ _ z1)).trans z1
        replace z2 := (hb.cell (p := ⟨g12, j, none⟩) (World.block_lt_of_cell? _ _ z2)).trans z2
        generalize ws1[j] = q1 at *
        clear e3
        go_wp2_with fail
        go_quiet (fail)
        go_wp2_with fail
        go_roundw
        case rel => exact ⟨j + 1, by go_num, by omega, below_drewN hb _⟩
        case measure => simp [intOf]; omega
    · have hjz : ¬ (j : Int) < (N : Int) := by omega
      have B := hide (HB.out.trans (hb.mono HB.out.size))
      clear mo lo bo
      go_wp2_with fail
      refine (Aw.out _ B.out).mono ?_
      rintro e w13 ⟨rfl, hb7⟩
      go_wp2_with fail
      go_ret
      exact ⟨rfl, B.out.trans (hb7.mono B.out.size)⟩
end Go.Proofs.YtpkocgcagemnbaaDoor
