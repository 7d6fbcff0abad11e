/-
  SweepNobody's function.
-/
import Derived.Test.YtokcbipmocpllaaDoorA7
namespace Go.Proofs.YtokcbipmocpllaaDoor
open Go.RowKit

/-- A sweep at step 0, of these lists. -/
def Nb (r : List (Int × Int)) (ks : List Int) (w : World) (v : Value) : Prop := SwV w 0 0 0 0 0 0 0 r ks [] [] 0 0 0 0 0 0 0 0 0 [] 0 v
theorem Nb.below {r : List (Int × Int)} {ks : List Int} {w w' : World} {v : Value} {B : Nat} (h : Nb r ks w v) (hB : w.heap.size ≤ B) (hb : Below B w w') : Nb r ks w' v := SwV.below h hB hb
/-- Its cells. -/
theorem Nb.open_ {r : List (Int × Int)} {ks : List Int} {w : World} {v : Value} (h : Nb r ks w v) : ∃ A1 c1 A2 c2 A3 c3 A4 c4 A5 c5, v = .agg #[.slice A1 r.length c1, .slice A2 ks.length c2, .int .i64 0, .int .i64 0, .int .i64 0, .int .i64 0, .int .i64 0, .int .i64 0, .int .u64 0, .slice A3 0 c3, .slice A4 0 c4, .int .i64 0, .int .i64 0, .int .i64 0, .int .i64 0, .int .i64 0, .int .i64 0, .int .i64 0, .int .u64 0, .int .i64 0, .slice A5 0 c5, .int .i64 0] := by
  obtain ⟨A1, c1, A2, c2, A3, c3, A4, c4, A5, c5, e, _⟩ := h
  exact ⟨A1, c1, A2, c2, A3, c3, A4, c4, A5, c5, e⟩
theorem nb_zero (w : World) : Nb [] [] w (.agg #[.slice none 0 0, .slice none 0 0, .int .i64 0, .int .i64 0, .int .i64 0, .int .i64 0, .int .i64 0, .int .i64 0, .int .u64 0, .slice none 0 0, .slice none 0 0, .int .i64 0, .int .i64 0, .int .i64 0, .int .i64 0, .int .i64 0, .int .i64 0, .int .i64 0, .int .u64 0, .int .i64 0, .slice none 0 0, .int .i64 0]) := ⟨none, 0, none, 0, none, 0, none, 0, none, 0, rfl, Tr.nil _ _ _, Tr.nil _ _ _, Tr.nil _ _ _, Tr.nil _ _ _, Tr.nil _ _ _⟩
theorem nb_new (A : Option Addr) (n c : Nat) (r : List (Int × Int)) (ks : List Int) (v : Value) (w : World) (hn : n ≤ 1000) (hk : ks.length ≤ 1000) (hr : Reads w w.heap.size 2 A n (rec2 r)) (hs : Sl w w.heap.size v ks) :
    Calls Tryd.prog 17 #[.agg #[.int .i64 0, .int .i64 0, .int .i64 0, .int .i64 0, .int .i64 0], .agg #[.slice A n c, v]] w fun e w' => (∃ u, e = .returned u ∧ Nb r ks w' u) ∧ Below w.heap.size w w' := by
  have hl : r.length = n := by have := hr.lenPair; omega
  subst hl
  refine (snew_no 0 0 0 0 0 0 A r.length c r v ks w hn hk hr hs (fun w2 => size_zero w2) (by decide)).mono ?_
  rintro e w' ⟨⟨A1, c1, A4, c4, rfl, o1, o2⟩, hb⟩
  exact ⟨⟨_, rfl, A1, c1, A4, c4, none, 0, none, 0, none, 0, rfl, Tr.of_own o1, Tr.of_own o2, Tr.nil _ _ _, Tr.nil _ _ _, Tr.nil _ _ _⟩, hb⟩
theorem nb_took (r : List (Int × Int)) (ks : List Int) (g : Int) (v : Value) (w : World) (hv : Nb r ks w v) : Calls Tryd.prog 20 #[v, .int .u64 g] w fun e w' => (∃ u, e = .returned u ∧ Nb r ks w' u) ∧ Below w.heap.size w w' :=
  stook_0 0 0 0 0 0 0 r ks [] [] 0 0 0 0 0 0 0 0 0 [] 0 g v w hv
theorem nb_done (r : List (Int × Int)) (ks : List Int) (v : Value) (w : World) (hv : Nb r ks w v) : Calls Tryd.prog 19 #[v] w fun e w' => e = .returned (.bool true) ∧ Below w.heap.size w w' := by
  obtain ⟨A1, c1, A2, c2, A3, c3, A4, c4, A5, c5, rfl⟩ := hv.open_
  exact sdone_any _ _ _ _ _ _ _ _ _ _ _ _ _ _ _ _ _ _ _ _ _ 0 w
theorem nb_now (r : List (Int × Int)) (ks : List Int) (v : Value) (w : World) (h1 : r.length ≤ 1000) (h2 : ks.length ≤ 1000) (hv : Nb r ks w v) : Calls Tryd.prog 24 #[v] w fun e w' => (∃ A3 c3 A4 c4, e = .returned (.agg #[.slice A3 r.length c3, .slice A4 ks.length c4]) ∧ Tr w' 31 2 (.slice A3 r.length c3) r.length (rec2 r) ∧ Tr w' 29 1 (.slice A4 ks.length c4) ks.length (ints .u64 ks)) ∧ Below w.heap.size w w' := by
  obtain ⟨A1, c1, A2, c2, A3, c3, A4, c4, A5, c5, rfl, t1, t2, t3, t4, t5⟩ := hv
  exact snow_any _ _ _ _ _ _ _ _ _ _ _ _ _ _ _ _ _ _ _ _ A1 _ c1 A2 _ c2 r ks w h1 h2 t1 t2
theorem nb_freed (r : List (Int × Int)) (ks : List Int) (v : Value) (w : World) (hv : Nb r ks w v) : Calls Tryd.prog 29 #[v] w fun e w' => (∃ A3 c3, e = .returned (.slice A3 0 c3)) ∧ Below w.heap.size w w' := by
  obtain ⟨A1, c1, A2, c2, A3, c3, A4, c4, A5, c5, rfl, t1, t2, t3, t4, t5⟩ := hv
  refine (sfreed_any _ _ _ _ _ _ _ _ _ _ _ _ _ _ _ _ _ _ _ _ _ A5 _ c5 [] w (by decide) t5).mono ?_
  rintro e w' ⟨⟨A6, c6, rfl, _⟩, hb⟩
  exact ⟨⟨A6, c6, rfl⟩, hb⟩
set_option linter.unusedSimpArgs false in
set_option maxRecDepth 100000 in
set_option maxHeartbeats 4000000 in
theorem swant_0 (v0 v1 v2 v3 v4 v5 v6 v8 v9 v10 v11 v12 v13 v14 v15 v16 v17 v18 v19 v20 v21 : Value) (w : World) : Calls Tryd.prog 22 #[.agg #[v0, v1, v2, v3, v4, v5, v6, .int .i64 0, v8, v9, v10, v11, v12, v13, v14, v15, v16, v17, v18, v19, v20, v21]] w fun e w' => e = .returned (.agg #[.int .i64 0, .int .i64 0, .int .u64 0, .int .u64 0]) ∧ Below w.heap.size w w' := by
  have B0 := ((Below.refl w.heap.size w).alloc (Nat.le_refl _) (.cells #[v0, v1, v2, v3, v4, v5, v6, .int .i64 0, v8, v9, v10, v11, v12, v13, v14, v15, v16, v17, v18, v19, v20, v21] 51)).alloc (by simp only [World.size_alloc]; omega) (.cells #[.int .i64 0, .int .i64 0, .int .u64 0, .int .u64 0] 57)
  have bo := Blk.new (w.alloc (.cells #[v0, v1, v2, v3, v4, v5, v6, .int .i64 0, v8, v9, v10, v11, v12, v13, v14, v15, v16, v17, v18, v19, v20, v21] 51)) 57 #[.int .i64 0, .int .i64 0, .int .u64 0, .int .u64 0]
  rw [World.size_alloc] at bo
  have mo := fun i => bo.cell i
  have zo := fun i => bo.frozen i
  go_enter Tryd.func22, Tryd.ntmps22
  go_wp2_with fail
  clear mo zo
  have m9 := fun i => bo.cell i
  refine bodyPost_ret (v := .agg #[.int .i64 0, .int .i64 0, .int .u64 0, .int .u64 0]) (by simp [results, Tryd.results22, go_sem, m9]) rfl ⟨rfl, B0⟩
theorem nb_want (r : List (Int × Int)) (ks : List Int) (v : Value) (w : World) (hv : Nb r ks w v) : Calls Tryd.prog 22 #[v] w fun e w' => e = .returned (.agg #[.int .i64 0, .int .i64 0, .int .u64 0, .int .u64 0]) ∧ Below w.heap.size w w' := by
  obtain ⟨A1, c1, A2, c2, A3, c3, A4, c4, A5, c5, rfl⟩ := hv.open_
  exact swant_0 _ _ _ _ _ _ _ _ _ _ _ _ _ _ _ _ _ _ _ _ _ w
set_option maxRecDepth 100000 in
set_option maxHeartbeats 4000000 in
theorem snobody_far (A : Option Addr) (n c : Nat) (v : Value) (ks : List Int) (w : World) (AW0 : ∀ w2, Below w.heap.size w w2 → Calls Tryd.prog 6 #[] w2 fun e w' => e = .returned (.bool true) ∧ Below w2.heap.size w2 w') (hs : Sl w w.heap.size v ks) (hfar : 100 < n ∨ (¬ 100 < n ∧ 100 < ks.length)) :
    Calls Tryd.prog 5 #[.agg #[.slice A n c, v]] w fun e w' => e = .returned (.bool true) ∧ Below w.heap.size w w' := by
  obtain ⟨A2, c2, rfl, q1, q2, q3⟩ := hs
  have HS := hide (show Sl w w.heap.size (.slice A2 ks.length c2) ks from ⟨A2, c2, rfl, q1, q2, q3⟩)
  have AW := hide AW0
  have B0 := (Below.refl w.heap.size w).alloc (Nat.le_refl _) (.cells #[.slice A n c, .slice A2 ks.length c2] 25)
  have bx := Blk.new w 25 #[.slice A n c, .slice A2 ks.length c2]
  have mx := fun i => bx.cell i
  clear q1 q2 q3 HS
  generalize ks.length = m at *
  rcases hfar with h1 | ⟨h1, h2⟩
  · have h1i : (100 : Int) < (n : Int) := by omega
    go_enter Tryd.func5, Tryd.ntmps5
    go_wp2_with fail
    refine (AW.out _ B0).mono ?_
    rintro e w9 ⟨rfl, hb1⟩
    go_wp2_with fail
    go_ret
    exact ⟨rfl, B0.trans (hb1.mono B0.size)⟩
  · have h1i : ¬ (100 : Int) < (n : Int) := by omega
    have h2i : (100 : Int) < (m : Int) := by omega
    go_enter Tryd.func5, Tryd.ntmps5
    go_wp2_with fail
    refine (AW.out _ B0).mono ?_
    rintro e w9 ⟨rfl, hb1⟩
    go_wp2_with fail
    go_ret
    exact ⟨rfl, B0.trans (hb1.mono B0.size)⟩
set_option linter.unusedSimpArgs false in
set_option maxRecDepth 100000 in
set_option maxHeartbeats 4000000 in
theorem snobody_yes (A : Option Addr) (c : Nat) (r : List (Int × Int)) (v : Value) (ks : List Int) (w : World) (AW0 : ∀ w2, Below w.heap.size w w2 → Calls Tryd.prog 6 #[] w2 fun e w' => e = .returned (.bool true) ∧ Below w2.heap.size w2 w') (hn : r.length ≤ 100) (hk : ks.length ≤ 100) (hr : Reads w w.heap.size 2 A r.length (rec2 r)) (hs : Sl w w.heap.size v ks) :
    Calls Tryd.prog 5 #[.agg #[.slice A r.length c, v]] w fun e w' => e = .returned (.bool true) ∧ Below w.heap.size w w' := by
  obtain ⟨A2, c2, rfl, q1, q2, q3⟩ := hs
  have HS : Sl w w.heap.size (.slice A2 ks.length c2) ks := ⟨A2, c2, rfl, q1, q2, q3⟩
  have AW := hide AW0
  have NEW := hide (fun w2 (h1 : Reads w2 w2.heap.size 2 A r.length (rec2 r)) (h2 : Sl w2 w2.heap.size (.slice A2 ks.length c2) ks) => nb_new A r.length c r ks (.slice A2 ks.length c2) w2 (by omega) (by omega) h1 h2)
  have NOW := hide (fun v w2 (h : Nb r ks w2 v) => nb_now r ks v w2 (by omega) (by omega) h)
  have SAME := hide (fun B d A c w2 (h1 : Reads w2 w2.heap.size 2 B r.length (rec2 r)) (h2 : Reads w2 w2.heap.size 2 A r.length (rec2 r)) => Same_eq B A r.length d c r w2 rfl (by omega) h1 h2)
  have WORDS := hide (fun u v w2 (h1 : Sl w2 w2.heap.size u ks) (h2 : Sl w2 w2.heap.size v ks) => (by have h9 := words_any u v ks ks w2 (by omega) (by omega) h1 h2; rw [show decide (ks = ks) = true by simp] at h9; exact h9 : Calls Tryd.prog 28 #[u, v] w2 fun e w' => e = .returned (.bool true) ∧ Below w2.heap.size w2 w'))
  have B0 := ((Below.refl w.heap.size w).alloc (Nat.le_refl _) (.cells #[.slice A r.length c, .slice A2 ks.length c2] 25)).alloc (by simp only [World.size_alloc]; omega) (.cells #[.slice none 0 0, .slice none 0 0, .int .i64 0, .int .i64 0, .int .i64 0, .int .i64 0, .int .i64 0, .int .i64 0, .int .u64 0, .slice none 0 0, .slice none 0 0, .int .i64 0, .int .i64 0, .int .i64 0, .int .i64 0, .int .i64 0, .int .i64 0, .int .i64 0, .int .u64 0, .int .i64 0, .slice none 0 0, .int .i64 0] 51)
  have bx := (Blk.new w 25 #[.slice A r.length c, .slice A2 ks.length c2]).alloc (.cells #[.slice none 0 0, .slice none 0 0, .int .i64 0, .int .i64 0, .int .i64 0, .int .i64 0, .int .i64 0, .int .i64 0, .int .u64 0, .slice none 0 0, .slice none 0 0, .int .i64 0, .int .i64 0, .int .i64 0, .int .i64 0, .int .i64 0, .int .i64 0, .int .i64 0, .int .u64 0, .int .i64 0, .slice none 0 0, .int .i64 0] 51)
  have bz := Blk.new (w.alloc (.cells #[.slice A r.length c, .slice A2 ks.length c2] 25)) 51 #[.slice none 0 0, .slice none 0 0, .int .i64 0, .int .i64 0, .int .i64 0, .int .i64 0, .int .i64 0, .int .i64 0, .int .u64 0, .slice none 0 0, .slice none 0 0, .int .i64 0, .int .i64 0, .int .i64 0, .int .i64 0, .int .i64 0, .int .i64 0, .int .i64 0, .int .u64 0, .int .i64 0, .slice none 0 0, .int .i64 0]
  rw [World.size_alloc] at bz
  have h1 : ¬ (100 : Int) < (r.length : Int) := by omega
  have h2 : ¬ (100 : Int) < (ks.length : Int) := by omega
  have hx : ∀ w2, Below w.heap.size w w2 → Reads w2 w2.heap.size 2 A r.length (rec2 r) ∧ Sl w2 w2.heap.size (.slice A2 ks.length c2) ks := fun w2 h => ⟨(hr.below h).more h.size, (HS.below h).more h.size⟩
  have HX := hide hx
  clear hx q1 q2 q3 HS AW0 hr hn hk
  have mx := fun i => (Blk.new w 25 #[.slice A r.length c, .slice A2 ks.length c2]).cell i
  go_enter Tryd.func5, Tryd.ntmps5
  go_wp2_with fail
  refine (NEW.out _ (HX.out _ B0).1 (HX.out _ B0).2).mono ?_
  rintro e w1 ⟨⟨u1, rfl, v1⟩, hb⟩
  replace bx := bx.below hb bx.lt
  replace bz := bz.below hb bz.lt
  replace B0 := B0.trans (hb.mono B0.size)
  clear hb
  generalize hgx : w.heap.size + 1 = gz at *
  replace hgx := hide hgx
  clear mx
  go_wp2_with fail
  refine (nb_took r ks 5 _ _ v1).mono ?_
  rintro e w4 ⟨⟨u2, rfl, v2⟩, hb⟩
  replace bx := bx.below hb bx.lt
  replace bz := bz.below hb bz.lt
  replace B0 := B0.trans (hb.mono B0.size)
  clear hb
  clear v1
  obtain ⟨P1, d1, P2, d2, P3, d3, P4, d4, P5, d5, rfl⟩ := v2.open_
  have bs := Blk.new w4 51 #[.slice none 0 0, .slice none 0 0, .int .i64 0, .int .i64 0, .int .i64 0, .int .i64 0, .int .i64 0, .int .i64 0, .int .u64 0, .slice none 0 0, .slice none 0 0, .int .i64 0, .int .i64 0, .int .i64 0, .int .i64 0, .int .i64 0, .int .i64 0, .int .i64 0, .int .u64 0, .int .i64 0, .slice none 0 0, .int .i64 0]
  have hb := (Below.refl w4.heap.size w4).alloc (Nat.le_refl _) (.cells #[.slice none 0 0, .slice none 0 0, .int .i64 0, .int .i64 0, .int .i64 0, .int .i64 0, .int .i64 0, .int .i64 0, .int .u64 0, .slice none 0 0, .slice none 0 0, .int .i64 0, .int .i64 0, .int .i64 0, .int .i64 0, .int .i64 0, .int .i64 0, .int .i64 0, .int .u64 0, .int .i64 0, .slice none 0 0, .int .i64 0] 51)
  have hgs := B0.size
  have hlx := hide bx.lt
  have hlz := hide bz.lt
  replace bx := bx.below hb bx.lt
  replace bz := bz.below hb bz.lt
  replace v2 := v2.below (Nat.le_refl _) hb
  replace B0 := B0.trans (hb.mono B0.size)
  clear hb
  go_wp2_with (first | (refine wpList_store_mid rfl 51 (.tmp 4) (.tmp 20) rfl w4.heap.size 0 #[.slice P1 r.length d1, .slice P2 ks.length d2, .int .i64 0, .int .i64 0, .int .i64 0, .int .i64 0, .int .i64 0, .int .i64 0, .int .u64 0, .slice P3 0 d3, .slice P4 0 d4, .int .i64 0, .int .i64 0, .int .i64 0, .int .i64 0, .int .i64 0, .int .i64 0, .int .i64 0, .int .u64 0, .int .i64 0, .slice P5 0 d5, .int .i64 0] (by rfl) (by rfl) (bs.there rfl) (by kernel_rfl) (by kernel_rfl) ?_; have hb : Below w4.heap.size (w4.alloc (.cells #[.slice none 0 0, .slice none 0 0, .int .i64 0, .int .i64 0, .int .i64 0, .int .i64 0, .int .i64 0, .int .i64 0, .int .u64 0, .slice none 0 0, .slice none 0 0, .int .i64 0, .int .i64 0, .int .i64 0, .int .i64 0, .int .i64 0, .int .i64 0, .int .i64 0, .int .u64 0, .int .i64 0, .slice none 0 0, .int .i64 0] 51)) ((w4.alloc (.cells #[.slice none 0 0, .slice none 0 0, .int .i64 0, .int .i64 0, .int .i64 0, .int .i64 0, .int .i64 0, .int .i64 0, .int .u64 0, .slice none 0 0, .slice none 0 0, .int .i64 0, .int .i64 0, .int .i64 0, .int .i64 0, .int .i64 0, .int .i64 0, .int .i64 0, .int .u64 0, .int .i64 0, .slice none 0 0, .int .i64 0] 51)).setCells w4.heap.size 0 [.slice P1 r.length d1, .slice P2 ks.length d2, .int .i64 0, .int .i64 0, .int .i64 0, .int .i64 0, .int .i64 0, .int .i64 0, .int .u64 0, .slice P3 0 d3, .slice P4 0 d4, .int .i64 0, .int .i64 0, .int .i64 0, .int .i64 0, .int .i64 0, .int .i64 0, .int .i64 0, .int .u64 0, .int .i64 0, .slice P5 0 d5, .int .i64 0]) := (by rw [putL_eq]; exact Below.putL (Nat.le_refl _) _ _ 0 (Below.refl _ _)); replace v2 := (show Nb r ks ((w4.alloc (.cells #[.slice none 0 0, .slice none 0 0, .int .i64 0, .int .i64 0, .int .i64 0, .int .i64 0, .int .i64 0, .int .i64 0, .int .u64 0, .slice none 0 0, .slice none 0 0, .int .i64 0, .int .i64 0, .int .i64 0, .int .i64 0, .int .i64 0, .int .i64 0, .int .i64 0, .int .u64 0, .int .i64 0, .slice none 0 0, .int .i64 0] 51)).setCells w4.heap.size 0 [.slice P1 r.length d1, .slice P2 ks.length d2, .int .i64 0, .int .i64 0, .int .i64 0, .int .i64 0, .int .i64 0, .int .i64 0, .int .u64 0, .slice P3 0 d3, .slice P4 0 d4, .int .i64 0, .int .i64 0, .int .i64 0, .int .i64 0, .int .i64 0, .int .i64 0, .int .i64 0, .int .u64 0, .int .i64 0, .slice P5 0 d5, .int .i64 0]) _ from by rw [putL_eq]; obtain ⟨Q1, e1, Q2, e2, Q3, e3, Q4, e4, Q5, e5, hq, t1, t2, t3, t4, t5⟩ := v2; exact ⟨Q1, e1, Q2, e2, Q3, e3, Q4, e4, Q5, e5, hq, Tr.putL (by decide) _ 0 bs t1, Tr.putL (by decide) _ 0 bs t2, Tr.putL (by decide) _ 0 bs t3, Tr.putL (by decide) _ 0 bs t4, Tr.putL (by decide) _ 0 bs t5⟩); replace bx := bx.below hb hlx.out; replace bz := bz.below hb hlz.out; replace B0 := (show Below w.heap.size w ((w4.alloc (.cells #[.slice none 0 0, .slice none 0 0, .int .i64 0, .int .i64 0, .int .i64 0, .int .i64 0, .int .i64 0, .int .i64 0, .int .u64 0, .slice none 0 0, .slice none 0 0, .int .i64 0, .int .i64 0, .int .i64 0, .int .i64 0, .int .i64 0, .int .i64 0, .int .i64 0, .int .u64 0, .int .i64 0, .slice none 0 0, .int .i64 0] 51)).setCells w4.heap.size 0 [.slice P1 r.length d1, .slice P2 ks.length d2, .int .i64 0, .int .i64 0, .int .i64 0, .int .i64 0, .int .i64 0, .int .i64 0, .int .u64 0, .slice P3 0 d3, .slice P4 0 d4, .int .i64 0, .int .i64 0, .int .i64 0, .int .i64 0, .int .i64 0, .int .i64 0, .int .i64 0, .int .u64 0, .int .i64 0, .slice P5 0 d5, .int .i64 0]) from by rw [putL_eq]; exact Below.putL (by omega) _ _ 0 B0); clear hb; replace bs := (show Blk ((w4.alloc (.cells #[.slice none 0 0, .slice none 0 0, .int .i64 0, .int .i64 0, .int .i64 0, .int .i64 0, .int .i64 0, .int .i64 0, .int .u64 0, .slice none 0 0, .slice none 0 0, .int .i64 0, .int .i64 0, .int .i64 0, .int .i64 0, .int .i64 0, .int .i64 0, .int .i64 0, .int .u64 0, .int .i64 0, .slice none 0 0, .int .i64 0] 51)).setCells w4.heap.size 0 [.slice P1 r.length d1, .slice P2 ks.length d2, .int .i64 0, .int .i64 0, .int .i64 0, .int .i64 0, .int .i64 0, .int .i64 0, .int .u64 0, .slice P3 0 d3, .slice P4 0 d4, .int .i64 0, .int .i64 0, .int .i64 0, .int .i64 0, .int .i64 0, .int .i64 0, .int .i64 0, .int .u64 0, .int .i64 0, .slice P5 0 d5, .int .i64 0]) w4.heap.size 51 #[.slice P1 r.length d1, .slice P2 ks.length d2, .int .i64 0, .int .i64 0, .int .i64 0, .int .i64 0, .int .i64 0, .int .i64 0, .int .u64 0, .slice P3 0 d3, .slice P4 0 d4, .int .i64 0, .int .i64 0, .int .i64 0, .int .i64 0, .int .i64 0, .int .i64 0, .int .i64 0, .int .u64 0, .int .i64 0, .slice P5 0 d5, .int .i64 0] from by rw [putL_eq]; have h9 := Blk.putL [.slice P1 r.length d1, .slice P2 ks.length d2, .int .i64 0, .int .i64 0, .int .i64 0, .int .i64 0, .int .i64 0, .int .i64 0, .int .u64 0, .slice P3 0 d3, .slice P4 0 d4, .int .i64 0, .int .i64 0, .int .i64 0, .int .i64 0, .int .i64 0, .int .i64 0, .int .i64 0, .int .u64 0, .int .i64 0, .slice P5 0 d5, .int .i64 0] _ _ 0 bs; simpa only [setL, List.setIfInBounds_toArray, List.set_cons_zero, List.set_cons_succ] using h9); generalize hgw : w4.heap.size = gs at *; generalize (w4.alloc (.cells #[.slice none 0 0, .slice none 0 0, .int .i64 0, .int .i64 0, .int .i64 0, .int .i64 0, .int .i64 0, .int .i64 0, .int .u64 0, .slice none 0 0, .slice none 0 0, .int .i64 0, .int .i64 0, .int .i64 0, .int .i64 0, .int .i64 0, .int .i64 0, .int .i64 0, .int .u64 0, .int .i64 0, .slice none 0 0, .int .i64 0] 51)).setCells gs 0 [.slice P1 r.length d1, .slice P2 ks.length d2, .int .i64 0, .int .i64 0, .int .i64 0, .int .i64 0, .int .i64 0, .int .i64 0, .int .u64 0, .slice P3 0 d3, .slice P4 0 d4, .int .i64 0, .int .i64 0, .int .i64 0, .int .i64 0, .int .i64 0, .int .i64 0, .int .i64 0, .int .u64 0, .int .i64 0, .slice P5 0 d5, .int .i64 0] = w5 at *) | (refine wpList_load_mid rfl 51 (.tmp 4) rfl gs 0 (by rfl) [.slice P1 r.length d1, .slice P2 ks.length d2, .int .i64 0, .int .i64 0, .int .i64 0, .int .i64 0, .int .i64 0, .int .i64 0, .int .u64 0, .slice P3 0 d3, .slice P4 0 d4, .int .i64 0, .int .i64 0, .int .i64 0, .int .i64 0, .int .i64 0, .int .i64 0, .int .i64 0, .int .u64 0, .int .i64 0, .slice P5 0 d5, .int .i64 0] _ bs.range Tryd.underlying51 rfl (by kernel_rfl) ?_))
  refine (NOW.out _ _ v2).mono ?_
  rintro e w6 ⟨⟨A3, c3, A4, c4, rfl, t1, t2⟩, hb⟩
  replace bx := bx.below hb bx.lt
  replace bz := bz.below hb bz.lt
  replace bs := bs.below hb bs.lt
  replace v2 := v2.below (Nat.le_refl _) hb
  replace B0 := B0.trans (hb.mono B0.size)
  clear hb
  have bn := Blk.new w6 25 #[.slice none 0 0, .slice none 0 0]
  have hb := (Below.refl w6.heap.size w6).alloc (Nat.le_refl _) (.cells #[.slice none 0 0, .slice none 0 0] 25)
  have hg6 := B0.size
  have hly := hide bx.lt
  have hlw := hide bz.lt
  have hlv := hide bs.lt
  replace bx := bx.below hb bx.lt
  replace bz := bz.below hb bz.lt
  replace bs := bs.below hb bs.lt
  replace v2 := v2.below (Nat.le_refl _) hb
  replace t1 := t1.below (Nat.le_refl _) hb
  replace t2 := t2.below (Nat.le_refl _) hb
  replace B0 := B0.trans (hb.mono B0.size)
  clear hb
  go_wp2_with (first | (refine wpList_store_mid rfl 25 (.tmp 5) (.tmp 22) rfl w6.heap.size 0 #[.slice A3 r.length c3, .slice A4 ks.length c4] (by rfl) (by rfl) (bn.there rfl) (by kernel_rfl) (by kernel_rfl) ?_; have hb : Below w6.heap.size (w6.alloc (.cells #[.slice none 0 0, .slice none 0 0] 25)) ((w6.alloc (.cells #[.slice none 0 0, .slice none 0 0] 25)).setCells w6.heap.size 0 [.slice A3 r.length c3, .slice A4 ks.length c4]) := (by rw [putL_eq]; exact Below.putL (Nat.le_refl _) _ _ 0 (Below.refl _ _)); replace v2 := (show Nb r ks ((w6.alloc (.cells #[.slice none 0 0, .slice none 0 0] 25)).setCells w6.heap.size 0 [.slice A3 r.length c3, .slice A4 ks.length c4]) _ from by rw [putL_eq]; obtain ⟨Q1, e1, Q2, e2, Q3, e3, Q4, e4, Q5, e5, hq, s1, s2, s3, s4, s5⟩ := v2; exact ⟨Q1, e1, Q2, e2, Q3, e3, Q4, e4, Q5, e5, hq, Tr.putL (by decide) _ 0 bn s1, Tr.putL (by decide) _ 0 bn s2, Tr.putL (by decide) _ 0 bn s3, Tr.putL (by decide) _ 0 bn s4, Tr.putL (by decide) _ 0 bn s5⟩); replace t1 := (show Tr ((w6.alloc (.cells #[.slice none 0 0, .slice none 0 0] 25)).setCells w6.heap.size 0 [.slice A3 r.length c3, .slice A4 ks.length c4]) _ _ _ _ _ from by rw [putL_eq]; exact Tr.putL (by decide) _ 0 bn t1); replace t2 := (show Tr ((w6.alloc (.cells #[.slice none 0 0, .slice none 0 0] 25)).setCells w6.heap.size 0 [.slice A3 r.length c3, .slice A4 ks.length c4]) _ _ _ _ _ from by rw [putL_eq]; exact Tr.putL (by decide) _ 0 bn t2); replace bx := bx.below hb hly.out; replace bz := bz.below hb hlw.out; replace bs := bs.below hb hlv.out; replace B0 := (show Below w.heap.size w ((w6.alloc (.cells #[.slice none 0 0, .slice none 0 0] 25)).setCells w6.heap.size 0 [.slice A3 r.length c3, .slice A4 ks.length c4]) from by rw [putL_eq]; exact Below.putL (by omega) _ _ 0 B0); clear hb; replace bn := (show Blk ((w6.alloc (.cells #[.slice none 0 0, .slice none 0 0] 25)).setCells w6.heap.size 0 [.slice A3 r.length c3, .slice A4 ks.length c4]) w6.heap.size 25 #[.slice A3 r.length c3, .slice A4 ks.length c4] from by rw [putL_eq]; have h9 := Blk.putL [.slice A3 r.length c3, .slice A4 ks.length c4] _ _ 0 bn; simpa only [setL, List.setIfInBounds_toArray, List.set_cons_zero, List.set_cons_succ] using h9); generalize hgn : w6.heap.size = gn at *; generalize (w6.alloc (.cells #[.slice none 0 0, .slice none 0 0] 25)).setCells gn 0 [.slice A3 r.length c3, .slice A4 ks.length c4] = w7 at *; clear hgn hgw hg6 hgs hly hlw hlv hlx hlz) | (refine wpList_load_mid rfl 51 (.tmp 3) rfl gz 0 (by rfl) [.slice none 0 0, .slice none 0 0, .int .i64 0, .int .i64 0, .int .i64 0, .int .i64 0, .int .i64 0, .int .i64 0, .int .u64 0, .slice none 0 0, .slice none 0 0, .int .i64 0, .int .i64 0, .int .i64 0, .int .i64 0, .int .i64 0, .int .i64 0, .int .i64 0, .int .u64 0, .int .i64 0, .slice none 0 0, .int .i64 0] _ bz.range Tryd.underlying51 rfl (by kernel_rfl) ?_))
  refine (nb_done [] [] _ _ (nb_zero _)).mono ?_
  rintro e w8 ⟨rfl, hb⟩
  replace bx := bx.below hb bx.lt
  replace bz := bz.below hb bz.lt
  replace bs := bs.below hb bs.lt
  replace bn := bn.below hb bn.lt
  replace v2 := v2.below (Nat.le_refl _) hb
  replace t1 := t1.below (Nat.le_refl _) hb
  replace t2 := t2.below (Nat.le_refl _) hb
  replace B0 := B0.trans (hb.mono B0.size)
  clear hb
  go_wp2_with (first | (refine wpList_load_midG (by rfl) 51 (.tmp 3) rfl gz 0 (by rfl) [.slice none 0 0, .slice none 0 0, .int .i64 0, .int .i64 0, .int .i64 0, .int .i64 0, .int .i64 0, .int .i64 0, .int .u64 0, .slice none 0 0, .slice none 0 0, .int .i64 0, .int .i64 0, .int .i64 0, .int .i64 0, .int .i64 0, .int .i64 0, .int .i64 0, .int .u64 0, .int .i64 0, .slice none 0 0, .int .i64 0] _ bz.range Tryd.underlying51 rfl (by kernel_rfl) ?_))
  refine (nb_took [] [] 1 _ _ (nb_zero _)).mono ?_
  rintro e w8 ⟨⟨u3, rfl, v3⟩, hb⟩
  replace bx := bx.below hb bx.lt
  replace bz := bz.below hb bz.lt
  replace bs := bs.below hb bs.lt
  replace bn := bn.below hb bn.lt
  replace v2 := v2.below (Nat.le_refl _) hb
  replace t1 := t1.below (Nat.le_refl _) hb
  replace t2 := t2.below (Nat.le_refl _) hb
  replace B0 := B0.trans (hb.mono B0.size)
  clear hb
  go_wp2_with fail
  refine (nb_done [] [] _ _ v3).mono ?_
  rintro e w8 ⟨rfl, hb⟩
  replace bx := bx.below hb bx.lt
  replace bz := bz.below hb bz.lt
  replace bs := bs.below hb bs.lt
  replace bn := bn.below hb bn.lt
  replace v2 := v2.below (Nat.le_refl _) hb
  replace t1 := t1.below (Nat.le_refl _) hb
  replace t2 := t2.below (Nat.le_refl _) hb
  replace B0 := B0.trans (hb.mono B0.size)
  clear hb
  clear v3
  go_wp2_with (first | (refine wpList_load_midG (by rfl) 51 (.tmp 3) rfl gz 0 (by rfl) [.slice none 0 0, .slice none 0 0, .int .i64 0, .int .i64 0, .int .i64 0, .int .i64 0, .int .i64 0, .int .i64 0, .int .u64 0, .slice none 0 0, .slice none 0 0, .int .i64 0, .int .i64 0, .int .i64 0, .int .i64 0, .int .i64 0, .int .i64 0, .int .i64 0, .int .u64 0, .int .i64 0, .slice none 0 0, .int .i64 0] _ bz.range Tryd.underlying51 rfl (by kernel_rfl) ?_))
  refine (nb_want [] [] _ _ (nb_zero _)).mono ?_
  rintro e w8 ⟨rfl, hb⟩
  replace bx := bx.below hb bx.lt
  replace bz := bz.below hb bz.lt
  replace bs := bs.below hb bs.lt
  replace bn := bn.below hb bn.lt
  replace v2 := v2.below (Nat.le_refl _) hb
  replace t1 := t1.below (Nat.le_refl _) hb
  replace t2 := t2.below (Nat.le_refl _) hb
  replace B0 := B0.trans (hb.mono B0.size)
  clear hb
  go_wp2_with (first | (refine wpList_load_midG (by rfl) 51 (.tmp 4) rfl gs 0 (by rfl) [.slice P1 r.length d1, .slice P2 ks.length d2, .int .i64 0, .int .i64 0, .int .i64 0, .int .i64 0, .int .i64 0, .int .i64 0, .int .u64 0, .slice P3 0 d3, .slice P4 0 d4, .int .i64 0, .int .i64 0, .int .i64 0, .int .i64 0, .int .i64 0, .int .i64 0, .int .i64 0, .int .u64 0, .int .i64 0, .slice P5 0 d5, .int .i64 0] _ bs.range Tryd.underlying51 rfl (by kernel_rfl) ?_))
  refine (nb_done r ks _ _ v2).mono ?_
  rintro e w8 ⟨rfl, hb⟩
  replace bx := bx.below hb bx.lt
  replace bz := bz.below hb bz.lt
  replace bs := bs.below hb bs.lt
  replace bn := bn.below hb bn.lt
  replace v2 := v2.below (Nat.le_refl _) hb
  replace t1 := t1.below (Nat.le_refl _) hb
  replace t2 := t2.below (Nat.le_refl _) hb
  replace B0 := B0.trans (hb.mono B0.size)
  clear hb
  have mx := fun i => bx.cell i
  have mn := fun i => bn.cell i
  go_wp2_with fail
  refine (SAME.out _ _ _ _ _ t1.reads (HX.out _ B0).1).mono ?_
  rintro e w8 ⟨rfl, hb⟩
  clear mx mn
  replace bx := bx.below hb bx.lt
  replace bz := bz.below hb bz.lt
  replace bs := bs.below hb bs.lt
  replace bn := bn.below hb bn.lt
  replace v2 := v2.below (Nat.le_refl _) hb
  replace t1 := t1.below (Nat.le_refl _) hb
  replace t2 := t2.below (Nat.le_refl _) hb
  replace B0 := B0.trans (hb.mono B0.size)
  clear hb
  have mx := fun i => bx.cell i
  have mn := fun i => bn.cell i
  go_wp2_with fail
  refine (WORDS.out _ _ _ t2.sl (HX.out _ B0).2).mono ?_
  rintro e w8 ⟨rfl, hb⟩
  clear mx mn
  replace bx := bx.below hb bx.lt
  replace bz := bz.below hb bz.lt
  replace bs := bs.below hb bs.lt
  replace bn := bn.below hb bn.lt
  replace v2 := v2.below (Nat.le_refl _) hb
  replace t1 := t1.below (Nat.le_refl _) hb
  replace t2 := t2.below (Nat.le_refl _) hb
  replace B0 := B0.trans (hb.mono B0.size)
  clear hb
  go_wp2_with (first | (refine wpList_load_midG (by rfl) 51 (.tmp 4) rfl gs 0 (by rfl) [.slice P1 r.length d1, .slice P2 ks.length d2, .int .i64 0, .int .i64 0, .int .i64 0, .int .i64 0, .int .i64 0, .int .i64 0, .int .u64 0, .slice P3 0 d3, .slice P4 0 d4, .int .i64 0, .int .i64 0, .int .i64 0, .int .i64 0, .int .i64 0, .int .i64 0, .int .i64 0, .int .u64 0, .int .i64 0, .slice P5 0 d5, .int .i64 0] _ bs.range Tryd.underlying51 rfl (by kernel_rfl) ?_))
  refine (nb_freed r ks _ _ v2).mono ?_
  rintro e w8 ⟨⟨A6, c6, rfl⟩, hb⟩
  replace bx := bx.below hb bx.lt
  replace bz := bz.below hb bz.lt
  replace bs := bs.below hb bs.lt
  replace bn := bn.below hb bn.lt
  replace v2 := v2.below (Nat.le_refl _) hb
  replace t1 := t1.below (Nat.le_refl _) hb
  replace t2 := t2.below (Nat.le_refl _) hb
  replace B0 := B0.trans (hb.mono B0.size)
  clear hb
  go_wp2_with fail
  refine (AW.out _ B0).mono ?_
  rintro e w8 ⟨rfl, hb⟩
  replace B0 := B0.trans (hb.mono B0.size)
  clear hb
  go_wp2_with fail
  go_ret
  exact ⟨rfl, B0⟩
end Go.Proofs.YtokcbipmocpllaaDoor

