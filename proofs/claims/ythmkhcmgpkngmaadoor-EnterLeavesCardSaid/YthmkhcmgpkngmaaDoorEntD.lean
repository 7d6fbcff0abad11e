/-
  The accesses that a thread wants that announces itself, at its last step, and whatever its step.
-/
import Derived.Test.YthmkhcmgpkngmaaDoorEntC
import Derived.Test.YthmkhcmgpkngmaaDoorLayH
import Derived.Deep.RegionHeld3
import Derived.Deep.RegionWith
namespace Go.Proofs.YthmkhcmgpkngmaaDoor
open Go.RowKit
attribute [local go_sem] past_cell past_cell_add

set_option maxHeartbeats 2000000 in
theorem enwant_4 (s t f l p th : Int) (sl : Bool) (ep ck : Int) (w : World) (hs : 1 ≤ s ∧ s ≤ 1000) (ht : 1 ≤ t ∧ t ≤ 64) (hf : 4 ≤ f ∧ f ≤ 64) (hth : 0 ≤ th ∧ th < t) (he : W64 ep) (hk : W64 ck) :
    Calls Tryd.prog 14 #[.agg #[.int .i64 s, .int .i64 t, .int .i64 f, .int .i64 l, .int .i64 p, .int .i64 th, .int .i64 4, .bool sl, .int .u64 ep, .int .u64 ck]] w fun e w' => e = .returned (.agg #[.int .i64 2, .int .i64 (3 + th), .int .u64 0, .int .u64 (amake (if sl = true then 3 else 1) ep ck)]) ∧ Below w.heap.size w w' := by
  have C := hide (fun w2 => lann_any s t f l p th w2 hs ht hf)
  rw [atp4 hth] at C
  have M := hide (fun w2 => enann_any s t f l p th 4 sl ep ck w2 he hk)
  generalize 3 + th = q at *
  generalize amake (if sl = true then 3 else 1) ep ck = y at *
  have bx := Blk.new w 30 #[.int .i64 s, .int .i64 t, .int .i64 f, .int .i64 l, .int .i64 p, .int .i64 th, .int .i64 4, .bool sl, .int .u64 ep, .int .u64 ck]
  have B0 := (Below.refl w.heap.size w).alloc (Nat.le_refl _) (.cells #[.int .i64 s, .int .i64 t, .int .i64 f, .int .i64 l, .int .i64 p, .int .i64 th, .int .i64 4, .bool sl, .int .u64 ep, .int .u64 ck] 30)
  have bo := Blk.new (w.alloc (.cells #[.int .i64 s, .int .i64 t, .int .i64 f, .int .i64 l, .int .i64 p, .int .i64 th, .int .i64 4, .bool sl, .int .u64 ep, .int .u64 ck] 30)) 39 #[.int .i64 0, .int .i64 0, .int .u64 0, .int .u64 0]
  replace B0 := B0.alloc B0.size (.cells #[.int .i64 0, .int .i64 0, .int .u64 0, .int .u64 0] 39)
  replace bx := bx.alloc (.cells #[.int .i64 0, .int .i64 0, .int .u64 0, .int .u64 0] 39)
  rw [World.size_alloc] at bo
  go_enter Tryd.func14, Tryd.ntmps14
  go_wp2_with fail
  generalize (w.alloc (.cells #[.int .i64 s, .int .i64 t, .int .i64 f, .int .i64 l, .int .i64 p, .int .i64 th, .int .i64 4, .bool sl, .int .u64 ep, .int .u64 ck] 30)).alloc (.cells #[.int .i64 0, .int .i64 0, .int .u64 0, .int .u64 0] 39) = w0 at *
  have bd := bx.drewN 1
  have od := bo.drewN 1
  have Bd := below_drewN B0 1
  try clear mx lx
  try clear mo lo zo
  try clear my ly zy
  try have mx := fun i => bx.cell i
  try have lx := bx.lt
  try have mo := fun i => bo.cell i
  try have lo := bo.lt
  try have zo := fun i => bo.frozen i
  try have my := fun i => by_.cell i
  try have ly := by_.lt
  try have zy := fun i => by_.frozen i
  go_region_held3 (fun w' => w'.cell? ⟨w.heap.size, 0, none⟩ = some (.int .i64 s) ∧ w'.cell? ⟨w.heap.size, 1, none⟩ = some (.int .i64 t) ∧ w'.cell? ⟨w.heap.size, 2, none⟩ = some (.int .i64 f) ∧ w'.cell? ⟨w.heap.size, 3, none⟩ = some (.int .i64 l) ∧ w'.cell? ⟨w.heap.size, 4, none⟩ = some (.int .i64 p) ∧ w'.cell? ⟨w.heap.size, 5, none⟩ = some (.int .i64 th) ∧ w'.cell? ⟨w.heap.size, 6, none⟩ = some (.int .i64 4) ∧ w'.cell? ⟨w.heap.size, 7, none⟩ = some (.bool sl) ∧ w'.cell? ⟨w.heap.size, 8, none⟩ = some (.int .u64 ep) ∧ w'.cell? ⟨w.heap.size, 9, none⟩ = some (.int .u64 ck)) (go_keep) ((first | (go_at_call 41; refine (C.out _).mono ?_; rintro e w1 ⟨rfl, hb1⟩; have bd := bd.below hb1 bd.lt; have od := od.below hb1 od.lt; have Bd := Bd.trans (hb1.mono Bd.size); have md := fun i => bd.cell i; have nd := fun i => od.cell i; have zd := fun i => od.frozen i; have ld := bd.lt; have kd := od.lt) | (go_at_call 45; refine (M.out _).mono ?_; rintro e w1 ⟨rfl, hb1⟩; have bd := bd.below hb1 bd.lt; have od := od.below hb1 od.lt; have Bd := Bd.trans (hb1.mono Bd.size); have md := fun i => bd.cell i; have nd := fun i => od.cell i; have zd := fun i => od.frozen i; have ld := bd.lt; have kd := od.lt)))
  all_goals
    go_wp2_with fail
    have b9 := od.put4 (.int .i64 2) (.int .i64 q) (.int .u64 0) (.int .u64 y)
    have B9 := below_put4 Bd (g := w.heap.size + 1) (by omega) (.int .i64 2) (.int .i64 q) (.int .u64 0) (.int .u64 y)
    have m9 := fun i => b9.cell i
    refine bodyPost_ret (v := .agg #[.int .i64 2, .int .i64 q, .int .u64 0, .int .u64 y]) (by simp [results, Tryd.results14, go_sem, m9]) rfl ⟨rfl, B9⟩
set_option maxHeartbeats 2000000 in
theorem erwant_4t (s t f l p th ep ck : Int) (w : World) (hth : 0 ≤ th ∧ th ≤ 1000) (he : W64 ep) (hk : W64 ck) :
    Calls Tryd.prog 15 #[.agg #[.int .i64 s, .int .i64 t, .int .i64 f, .int .i64 l, .int .i64 p], .agg #[.int .i64 th, .int .i64 4, .bool true, .int .u64 ep, .int .u64 ck]] w fun e w' => e = .returned (.agg #[.int .i64 2, .int .i64 (3 + th), .int .u64 0, .int .u64 (amake 3 ep ck)]) ∧ Below w.heap.size w w' := by
  have C := hide (fun w2 => rann_any s t f l p th w2 hth)
  have M := hide (fun w2 => ramake_any 3 ep ck w2 ⟨by omega, by omega⟩ he hk)
  generalize 3 + th = q at *
  generalize amake 3 ep ck = y at *
  have bx := Blk.new w 23 #[.int .i64 s, .int .i64 t, .int .i64 f, .int .i64 l, .int .i64 p]
  have B0 := (Below.refl w.heap.size w).alloc (Nat.le_refl _) (.cells #[.int .i64 s, .int .i64 t, .int .i64 f, .int .i64 l, .int .i64 p] 23)
  have by_ := Blk.new (w.alloc (.cells #[.int .i64 s, .int .i64 t, .int .i64 f, .int .i64 l, .int .i64 p] 23)) 34 #[.int .i64 th, .int .i64 4, .bool true, .int .u64 ep, .int .u64 ck]
  replace B0 := B0.alloc B0.size (.cells #[.int .i64 th, .int .i64 4, .bool true, .int .u64 ep, .int .u64 ck] 34)
  replace bx := bx.alloc (.cells #[.int .i64 th, .int .i64 4, .bool true, .int .u64 ep, .int .u64 ck] 34)
  have bo := Blk.new ((w.alloc (.cells #[.int .i64 s, .int .i64 t, .int .i64 f, .int .i64 l, .int .i64 p] 23)).alloc (.cells #[.int .i64 th, .int .i64 4, .bool true, .int .u64 ep, .int .u64 ck] 34)) 39 #[.int .i64 0, .int .i64 0, .int .u64 0, .int .u64 0]
  replace B0 := B0.alloc B0.size (.cells #[.int .i64 0, .int .i64 0, .int .u64 0, .int .u64 0] 39)
  replace bx := bx.alloc (.cells #[.int .i64 0, .int .i64 0, .int .u64 0, .int .u64 0] 39)
  replace by_ := by_.alloc (.cells #[.int .i64 0, .int .i64 0, .int .u64 0, .int .u64 0] 39)
  rw [World.size_alloc] at by_ bo
  rw [World.size_alloc] at bo
  go_enter Tryd.func15, Tryd.ntmps15
  go_wp2_with fail
  generalize ((w.alloc (.cells #[.int .i64 s, .int .i64 t, .int .i64 f, .int .i64 l, .int .i64 p] 23)).alloc (.cells #[.int .i64 th, .int .i64 4, .bool true, .int .u64 ep, .int .u64 ck] 34)).alloc (.cells #[.int .i64 0, .int .i64 0, .int .u64 0, .int .u64 0] 39) = w0 at *
  have n1 : w.heap.size + 1 ≠ w.heap.size + 1 + 1 := by omega
  have n2 : w.heap.size ≠ w.heap.size + 1 + 1 := by omega
  have n3 : w.heap.size ≤ w.heap.size + 1 + 1 := by omega
  generalize w.heap.size + 1 + 1 = go at *
  have bd := bx.drewN 1
  have ed := by_.drewN 1
  have od := bo.drewN 1
  have Bd := below_drewN B0 1
  try clear mx lx
  try clear mo lo zo
  try clear my ly zy
  try have mx := fun i => bx.cell i
  try have lx := bx.lt
  try have mo := fun i => bo.cell i
  try have lo := bo.lt
  try have zo := fun i => bo.frozen i
  try have my := fun i => by_.cell i
  try have ly := by_.lt
  try have zy := fun i => by_.frozen i
  go_region_held3 (fun w' => w'.cell? ⟨w.heap.size, 0, none⟩ = some (.int .i64 s) ∧ w'.cell? ⟨w.heap.size, 1, none⟩ = some (.int .i64 t) ∧ w'.cell? ⟨w.heap.size, 2, none⟩ = some (.int .i64 f) ∧ w'.cell? ⟨w.heap.size, 3, none⟩ = some (.int .i64 l) ∧ w'.cell? ⟨w.heap.size, 4, none⟩ = some (.int .i64 p) ∧ w'.cell? ⟨w.heap.size + 1, 0, none⟩ = some (.int .i64 th) ∧ w'.cell? ⟨w.heap.size + 1, 1, none⟩ = some (.int .i64 4) ∧ w'.cell? ⟨w.heap.size + 1, 2, none⟩ = some (.bool true) ∧ w'.cell? ⟨w.heap.size + 1, 3, none⟩ = some (.int .u64 ep) ∧ w'.cell? ⟨w.heap.size + 1, 4, none⟩ = some (.int .u64 ck)) (first | go_keep | exact ⟨(bd.off4 n2 _ _ _ _).cell 0, (bd.off4 n2 _ _ _ _).cell 1, (bd.off4 n2 _ _ _ _).cell 2, (bd.off4 n2 _ _ _ _).cell 3, (bd.off4 n2 _ _ _ _).cell 4, (ed.off4 n1 _ _ _ _).cell 0, (ed.off4 n1 _ _ _ _).cell 1, (ed.off4 n1 _ _ _ _).cell 2, (ed.off4 n1 _ _ _ _).cell 3, (ed.off4 n1 _ _ _ _).cell 4⟩) ((first | (go_at_call 46; refine (C.out _).mono ?_; rintro e w1 ⟨rfl, hb1⟩; have bd := bd.below hb1 bd.lt; have ed := ed.below hb1 ed.lt; have od := od.below hb1 od.lt; have Bd := Bd.trans (hb1.mono Bd.size); have md := fun i => bd.cell i; have pd := fun i => ed.cell i; have nd := fun i => od.cell i; have zd := fun i => od.frozen i; have ld := bd.lt; have ke := ed.lt; have kd := od.lt) | (go_at_call 47; refine (M.out _).mono ?_; rintro e w' ⟨rfl, rfl⟩)))
  all_goals
    go_wp2_with fail
    have b9 := od.put4 (.int .i64 2) (.int .i64 q) (.int .u64 0) (.int .u64 y)
    have B9 := below_put4 Bd (g := go) n3 (.int .i64 2) (.int .i64 q) (.int .u64 0) (.int .u64 y)
    have m9 := fun i => b9.cell i
    refine bodyPost_ret (v := .agg #[.int .i64 2, .int .i64 q, .int .u64 0, .int .u64 y]) (by simp [results, Tryd.results15, go_sem, m9]) rfl ⟨rfl, B9⟩
set_option maxHeartbeats 2000000 in
theorem erwant_4f (s t f l p th ep ck : Int) (w : World) (hth : 0 ≤ th ∧ th ≤ 1000) (he : W64 ep) (hk : W64 ck) :
    Calls Tryd.prog 15 #[.agg #[.int .i64 s, .int .i64 t, .int .i64 f, .int .i64 l, .int .i64 p], .agg #[.int .i64 th, .int .i64 4, .bool false, .int .u64 ep, .int .u64 ck]] w fun e w' => e = .returned (.agg #[.int .i64 2, .int .i64 (3 + th), .int .u64 0, .int .u64 (amake 1 ep ck)]) ∧ Below w.heap.size w w' := by
  have C := hide (fun w2 => rann_any s t f l p th w2 hth)
  have M := hide (fun w2 => ramake_any 1 ep ck w2 ⟨by omega, by omega⟩ he hk)
  generalize 3 + th = q at *
  generalize amake 1 ep ck = y at *
  have bx := Blk.new w 23 #[.int .i64 s, .int .i64 t, .int .i64 f, .int .i64 l, .int .i64 p]
  have B0 := (Below.refl w.heap.size w).alloc (Nat.le_refl _) (.cells #[.int .i64 s, .int .i64 t, .int .i64 f, .int .i64 l, .int .i64 p] 23)
  have by_ := Blk.new (w.alloc (.cells #[.int .i64 s, .int .i64 t, .int .i64 f, .int .i64 l, .int .i64 p] 23)) 34 #[.int .i64 th, .int .i64 4, .bool false, .int .u64 ep, .int .u64 ck]
  replace B0 := B0.alloc B0.size (.cells #[.int .i64 th, .int .i64 4, .bool false, .int .u64 ep, .int .u64 ck] 34)
  replace bx := bx.alloc (.cells #[.int .i64 th, .int .i64 4, .bool false, .int .u64 ep, .int .u64 ck] 34)
  have bo := Blk.new ((w.alloc (.cells #[.int .i64 s, .int .i64 t, .int .i64 f, .int .i64 l, .int .i64 p] 23)).alloc (.cells #[.int .i64 th, .int .i64 4, .bool false, .int .u64 ep, .int .u64 ck] 34)) 39 #[.int .i64 0, .int .i64 0, .int .u64 0, .int .u64 0]
  replace B0 := B0.alloc B0.size (.cells #[.int .i64 0, .int .i64 0, .int .u64 0, .int .u64 0] 39)
  replace bx := bx.alloc (.cells #[.int .i64 0, .int .i64 0, .int .u64 0, .int .u64 0] 39)
  replace by_ := by_.alloc (.cells #[.int .i64 0, .int .i64 0, .int .u64 0, .int .u64 0] 39)
  rw [World.size_alloc] at by_ bo
  rw [World.size_alloc] at bo
  go_enter Tryd.func15, Tryd.ntmps15
  go_wp2_with fail
  generalize ((w.alloc (.cells #[.int .i64 s, .int .i64 t, .int .i64 f, .int .i64 l, .int .i64 p] 23)).alloc (.cells #[.int .i64 th, .int .i64 4, .bool false, .int .u64 ep, .int .u64 ck] 34)).alloc (.cells #[.int .i64 0, .int .i64 0, .int .u64 0, .int .u64 0] 39) = w0 at *
  have n1 : w.heap.size + 1 ≠ w.heap.size + 1 + 1 := by omega
  have n2 : w.heap.size ≠ w.heap.size + 1 + 1 := by omega
  have n3 : w.heap.size ≤ w.heap.size + 1 + 1 := by omega
  generalize w.heap.size + 1 + 1 = go at *
  have bd := bx.drewN 1
  have ed := by_.drewN 1
  have od := bo.drewN 1
  have Bd := below_drewN B0 1
  try clear mx lx
  try clear mo lo zo
  try clear my ly zy
  try have mx := fun i => bx.cell i
  try have lx := bx.lt
  try have mo := fun i => bo.cell i
  try have lo := bo.lt
  try have zo := fun i => bo.frozen i
  try have my := fun i => by_.cell i
  try have ly := by_.lt
  try have zy := fun i => by_.frozen i
  go_region_held3 (fun w' => w'.cell? ⟨w.heap.size, 0, none⟩ = some (.int .i64 s) ∧ w'.cell? ⟨w.heap.size, 1, none⟩ = some (.int .i64 t) ∧ w'.cell? ⟨w.heap.size, 2, none⟩ = some (.int .i64 f) ∧ w'.cell? ⟨w.heap.size, 3, none⟩ = some (.int .i64 l) ∧ w'.cell? ⟨w.heap.size, 4, none⟩ = some (.int .i64 p) ∧ w'.cell? ⟨w.heap.size + 1, 0, none⟩ = some (.int .i64 th) ∧ w'.cell? ⟨w.heap.size + 1, 1, none⟩ = some (.int .i64 4) ∧ w'.cell? ⟨w.heap.size + 1, 2, none⟩ = some (.bool false) ∧ w'.cell? ⟨w.heap.size + 1, 3, none⟩ = some (.int .u64 ep) ∧ w'.cell? ⟨w.heap.size + 1, 4, none⟩ = some (.int .u64 ck)) (first | go_keep | exact ⟨(bd.off4 n2 _ _ _ _).cell 0, (bd.off4 n2 _ _ _ _).cell 1, (bd.off4 n2 _ _ _ _).cell 2, (bd.off4 n2 _ _ _ _).cell 3, (bd.off4 n2 _ _ _ _).cell 4, (ed.off4 n1 _ _ _ _).cell 0, (ed.off4 n1 _ _ _ _).cell 1, (ed.off4 n1 _ _ _ _).cell 2, (ed.off4 n1 _ _ _ _).cell 3, (ed.off4 n1 _ _ _ _).cell 4⟩) ((first | (go_at_call 46; refine (C.out _).mono ?_; rintro e w1 ⟨rfl, hb1⟩; have bd := bd.below hb1 bd.lt; have ed := ed.below hb1 ed.lt; have od := od.below hb1 od.lt; have Bd := Bd.trans (hb1.mono Bd.size); have md := fun i => bd.cell i; have pd := fun i => ed.cell i; have nd := fun i => od.cell i; have zd := fun i => od.frozen i; have ld := bd.lt; have ke := ed.lt; have kd := od.lt) | (go_at_call 47; refine (M.out _).mono ?_; rintro e w' ⟨rfl, rfl⟩)))
  all_goals
    go_wp2_with fail
    have b9 := od.put4 (.int .i64 2) (.int .i64 q) (.int .u64 0) (.int .u64 y)
    have B9 := below_put4 Bd (g := go) n3 (.int .i64 2) (.int .i64 q) (.int .u64 0) (.int .u64 y)
    have m9 := fun i => b9.cell i
    refine bodyPost_ret (v := .agg #[.int .i64 2, .int .i64 q, .int .u64 0, .int .u64 y]) (by simp [results, Tryd.results15, go_sem, m9]) rfl ⟨rfl, B9⟩

theorem enwant_any (s t f l p th : Int) (x : Int × Bool × Int × Int) (w : World) (hx : EnOk x) (h : x.1 = 0 ∨ ((1 ≤ s ∧ s ≤ 1000) ∧ (1 ≤ t ∧ t ≤ 64) ∧ (4 ≤ f ∧ f ≤ 64) ∧ (0 ≤ th ∧ th < t))) :
    Calls Tryd.prog 14 #[enV s t f l p th x] w fun e w' => e = .returned (.agg #[.int .i64 (eAsk th x).1, .int .i64 (eAsk th x).2.1, .int .u64 (eAsk th x).2.2.1, .int .u64 (eAsk th x).2.2.2]) ∧ Below w.heap.size w w' := by
  obtain ⟨k, sl, ep, ck⟩ := x
  obtain ⟨hk, h1, h2⟩ := hx
  simp only at hk h1 h2 h
  rcases hk with rfl | rfl | rfl | rfl | rfl
  · exact enwant_0 s t f l p th sl ep ck w
  all_goals
    obtain ⟨hs, ht, hf, hth⟩ := h.resolve_left (by decide)
  · exact enwant_1 s t f l p th sl ep ck w hs ht hf hth
  · exact enwant_2 s t f l p th sl ep ck w hs ht hf hth
  · exact enwant_3 s t f l p th sl ep ck w hs ht hf hth
  · exact enwant_4 s t f l p th sl ep ck w hs ht hf hth h1 h2
theorem erwant_any (s t f l p th : Int) (x : Int × Bool × Int × Int) (w : World) (hx : EnOk x) (h : x.1 = 0 ∨ (0 ≤ th ∧ th ≤ 1000)) :
    Calls Tryd.prog 15 #[.agg #[.int .i64 s, .int .i64 t, .int .i64 f, .int .i64 l, .int .i64 p], renV th x] w fun e w' => e = .returned (.agg #[.int .i64 (eAsk th x).1, .int .i64 (eAsk th x).2.1, .int .u64 (eAsk th x).2.2.1, .int .u64 (eAsk th x).2.2.2]) ∧ Below w.heap.size w w' := by
  obtain ⟨k, sl, ep, ck⟩ := x
  obtain ⟨hk, h1, h2⟩ := hx
  simp only at hk h1 h2 h
  rcases hk with rfl | rfl | rfl | rfl | rfl
  · exact erwant_0 s t f l p th sl ep ck w
  all_goals
    have hth := h.resolve_left (by decide)
  · exact erwant_1 s t f l p th sl ep ck w hth
  · exact erwant_2 s t f l p th sl ep ck w
  · exact erwant_3 s t f l p th sl ep ck w
  · cases sl
    · exact erwant_4f s t f l p th ep ck w hth h1 h2
    · exact erwant_4t s t f l p th ep ck w hth h1 h2
theorem endone_any (s t f l p th : Int) (x : Int × Bool × Int × Int) (w : World) :
    Calls Tryd.prog 13 #[enV s t f l p th x] w fun e w' => e = .returned (.tuple #[.bool (x.1 == 0 && x.2.1), .bool (x.1 == 0)]) ∧ Below w.heap.size w w' := by
  obtain ⟨k, sl, ep, ck⟩ := x
  by_cases h : k = 0
  · subst h
    exact endone_0 s t f l p th sl ep ck w
  · have hk : (k == 0) = false := by simpa using h
    simp only [hk, Bool.false_and]
    exact endone_1 s t f l p th k sl ep ck w hk
set_option maxHeartbeats 2000000 in
theorem ennew_yes (s t f l p th : Int) (sl : Bool) (w : World) (hs : 1 ≤ s ∧ s ≤ 1000) (ht : 1 ≤ t ∧ t ≤ 64) (hf : 4 ≤ f ∧ f ≤ 64) (hth : 0 ≤ th ∧ th < t) :
    Calls Tryd.prog 10 #[.agg #[.int .i64 s, .int .i64 t, .int .i64 f, .int .i64 l, .int .i64 p], .int .i64 th, .bool sl] w fun e w' => e = .returned (.agg #[.int .i64 s, .int .i64 t, .int .i64 f, .int .i64 l, .int .i64 p, .int .i64 th, .int .i64 1, .bool sl, .int .u64 0, .int .u64 0]) ∧ Below w.heap.size w w' := by
  have C := hide (fun w2 => lann_any s t f l p th w2 hs ht hf)
  rw [atp4 hth] at C
  have q0 : 0 ≤ 3 + th := by omega
  generalize 3 + th = q at *
  have bx := Blk.new w 27 #[.int .i64 s, .int .i64 t, .int .i64 f, .int .i64 l, .int .i64 p]
  have B0 := (Below.refl w.heap.size w).alloc (Nat.le_refl _) (.cells #[.int .i64 s, .int .i64 t, .int .i64 f, .int .i64 l, .int .i64 p] 27)
  have bo := Blk.new (w.alloc (.cells #[.int .i64 s, .int .i64 t, .int .i64 f, .int .i64 l, .int .i64 p] 27)) 30 #[.int .i64 0, .int .i64 0, .int .i64 0, .int .i64 0, .int .i64 0, .int .i64 0, .int .i64 0, .bool false, .int .u64 0, .int .u64 0]
  replace B0 := B0.alloc B0.size (.cells #[.int .i64 0, .int .i64 0, .int .i64 0, .int .i64 0, .int .i64 0, .int .i64 0, .int .i64 0, .bool false, .int .u64 0, .int .u64 0] 30)
  replace bx := bx.alloc (.cells #[.int .i64 0, .int .i64 0, .int .i64 0, .int .i64 0, .int .i64 0, .int .i64 0, .int .i64 0, .bool false, .int .u64 0, .int .u64 0] 30)
  rw [World.size_alloc] at bo
  go_enter Tryd.func10, Tryd.ntmps10
  go_wp2_with fail
  refine (C.out _).mono ?_
  rintro e w1 ⟨rfl, hb1⟩
  try replace bx := bx.below hb1 bx.lt
  try replace bo := bo.below hb1 bo.lt
  try replace by_ := by_.below hb1 by_.lt
  replace B0 := B0.trans (hb1.mono B0.size)
  clear hb1
  try clear mx lx
  try clear mo lo zo
  try clear my ly zy
  try have mx := fun i => bx.cell i
  try have lx := bx.lt
  try have mo := fun i => bo.cell i
  try have lo := bo.lt
  try have zo := fun i => bo.frozen i
  try have my := fun i => by_.cell i
  try have ly := by_.lt
  try have zy := fun i => by_.frozen i
  go_wp2_with fail
  have b9 := bo.put10 (.int .i64 s) (.int .i64 t) (.int .i64 f) (.int .i64 l) (.int .i64 p) (.int .i64 th) (.int .i64 1) (.bool sl) (.int .u64 0) (.int .u64 0)
  have B9 := below_put10 B0 (g := w.heap.size + 1) (by omega) (.int .i64 s) (.int .i64 t) (.int .i64 f) (.int .i64 l) (.int .i64 p) (.int .i64 th) (.int .i64 1) (.bool sl) (.int .u64 0) (.int .u64 0)
  have m9 := fun i => b9.cell i
  refine bodyPost_ret (v := .agg #[.int .i64 s, .int .i64 t, .int .i64 f, .int .i64 l, .int .i64 p, .int .i64 th, .int .i64 1, .bool sl, .int .u64 0, .int .u64 0]) (by simp [results, Tryd.results10, go_sem, m9]) rfl ⟨rfl, by first | exact B9 | exact B9.drew⟩
set_option maxHeartbeats 2000000 in
theorem ennew_no (s t f l p th : Int) (sl : Bool) (w : World) (hs : 1 ≤ s ∧ s ≤ 1000) (ht : 1 ≤ t ∧ t ≤ 64) (hf : 4 ≤ f ∧ f ≤ 64) (hth : th < 0 ∨ t ≤ th) :
    Calls Tryd.prog 10 #[.agg #[.int .i64 s, .int .i64 t, .int .i64 f, .int .i64 l, .int .i64 p], .int .i64 th, .bool sl] w fun e w' => e = .returned (.agg #[.int .i64 0, .int .i64 0, .int .i64 0, .int .i64 0, .int .i64 0, .int .i64 0, .int .i64 0, .bool false, .int .u64 0, .int .u64 0]) ∧ Below w.heap.size w w' := by
  have C := hide (fun w2 => lann_any s t f l p th w2 hs ht hf)
  rw [atp4_no hth] at C
  have bx := Blk.new w 27 #[.int .i64 s, .int .i64 t, .int .i64 f, .int .i64 l, .int .i64 p]
  have B0 := (Below.refl w.heap.size w).alloc (Nat.le_refl _) (.cells #[.int .i64 s, .int .i64 t, .int .i64 f, .int .i64 l, .int .i64 p] 27)
  have bo := Blk.new (w.alloc (.cells #[.int .i64 s, .int .i64 t, .int .i64 f, .int .i64 l, .int .i64 p] 27)) 30 #[.int .i64 0, .int .i64 0, .int .i64 0, .int .i64 0, .int .i64 0, .int .i64 0, .int .i64 0, .bool false, .int .u64 0, .int .u64 0]
  replace B0 := B0.alloc B0.size (.cells #[.int .i64 0, .int .i64 0, .int .i64 0, .int .i64 0, .int .i64 0, .int .i64 0, .int .i64 0, .bool false, .int .u64 0, .int .u64 0] 30)
  replace bx := bx.alloc (.cells #[.int .i64 0, .int .i64 0, .int .i64 0, .int .i64 0, .int .i64 0, .int .i64 0, .int .i64 0, .bool false, .int .u64 0, .int .u64 0] 30)
  rw [World.size_alloc] at bo
  go_enter Tryd.func10, Tryd.ntmps10
  go_wp2_with fail
  refine (C.out _).mono ?_
  rintro e w1 ⟨rfl, hb1⟩
  try replace bx := bx.below hb1 bx.lt
  try replace bo := bo.below hb1 bo.lt
  try replace by_ := by_.below hb1 by_.lt
  replace B0 := B0.trans (hb1.mono B0.size)
  clear hb1
  try clear mx lx
  try clear mo lo zo
  try clear my ly zy
  try have mx := fun i => bx.cell i
  try have lx := bx.lt
  try have mo := fun i => bo.cell i
  try have lo := bo.lt
  try have zo := fun i => bo.frozen i
  try have my := fun i => by_.cell i
  try have ly := by_.lt
  try have zy := fun i => by_.frozen i
  go_wp2_with fail
  have b9 := bo.put10 (.int .i64 0) (.int .i64 0) (.int .i64 0) (.int .i64 0) (.int .i64 0) (.int .i64 0) (.int .i64 0) (.bool false) (.int .u64 0) (.int .u64 0)
  have B9 := below_put10 B0 (g := w.heap.size + 1) (by omega) (.int .i64 0) (.int .i64 0) (.int .i64 0) (.int .i64 0) (.int .i64 0) (.int .i64 0) (.int .i64 0) (.bool false) (.int .u64 0) (.int .u64 0)
  have m9 := fun i => b9.cell i
  refine bodyPost_ret (v := .agg #[.int .i64 0, .int .i64 0, .int .i64 0, .int .i64 0, .int .i64 0, .int .i64 0, .int .i64 0, .bool false, .int .u64 0, .int .u64 0]) (by simp [results, Tryd.results10, go_sem, m9]) rfl ⟨rfl, by first | exact B9 | exact B9.drew⟩
set_option maxHeartbeats 2000000 in
theorem ennew_zero (th : Int) (sl : Bool) (w : World) :
    Calls Tryd.prog 10 #[.agg #[.int .i64 0, .int .i64 0, .int .i64 0, .int .i64 0, .int .i64 0], .int .i64 th, .bool sl] w fun e w' => e = .returned (.agg #[.int .i64 0, .int .i64 0, .int .i64 0, .int .i64 0, .int .i64 0, .int .i64 0, .int .i64 0, .bool false, .int .u64 0, .int .u64 0]) ∧ Below w.heap.size w w' := by
  have C := hide (fun w2 => lann_zero th w2)
  have bx := Blk.new w 27 #[.int .i64 0, .int .i64 0, .int .i64 0, .int .i64 0, .int .i64 0]
  have B0 := (Below.refl w.heap.size w).alloc (Nat.le_refl _) (.cells #[.int .i64 0, .int .i64 0, .int .i64 0, .int .i64 0, .int .i64 0] 27)
  have bo := Blk.new (w.alloc (.cells #[.int .i64 0, .int .i64 0, .int .i64 0, .int .i64 0, .int .i64 0] 27)) 30 #[.int .i64 0, .int .i64 0, .int .i64 0, .int .i64 0, .int .i64 0, .int .i64 0, .int .i64 0, .bool false, .int .u64 0, .int .u64 0]
  replace B0 := B0.alloc B0.size (.cells #[.int .i64 0, .int .i64 0, .int .i64 0, .int .i64 0, .int .i64 0, .int .i64 0, .int .i64 0, .bool false, .int .u64 0, .int .u64 0] 30)
  replace bx := bx.alloc (.cells #[.int .i64 0, .int .i64 0, .int .i64 0, .int .i64 0, .int .i64 0, .int .i64 0, .int .i64 0, .bool false, .int .u64 0, .int .u64 0] 30)
  rw [World.size_alloc] at bo
  go_enter Tryd.func10, Tryd.ntmps10
  go_wp2_with fail
  refine (C.out _).mono ?_
  rintro e w1 ⟨rfl, hb1⟩
  try replace bx := bx.below hb1 bx.lt
  try replace bo := bo.below hb1 bo.lt
  try replace by_ := by_.below hb1 by_.lt
  replace B0 := B0.trans (hb1.mono B0.size)
  clear hb1
  try clear mx lx
  try clear mo lo zo
  try clear my ly zy
  try have mx := fun i => bx.cell i
  try have lx := bx.lt
  try have mo := fun i => bo.cell i
  try have lo := bo.lt
  try have zo := fun i => bo.frozen i
  try have my := fun i => by_.cell i
  try have ly := by_.lt
  try have zy := fun i => by_.frozen i
  go_wp2_with fail
  have b9 := bo.put10 (.int .i64 0) (.int .i64 0) (.int .i64 0) (.int .i64 0) (.int .i64 0) (.int .i64 0) (.int .i64 0) (.bool false) (.int .u64 0) (.int .u64 0)
  have B9 := below_put10 B0 (g := w.heap.size + 1) (by omega) (.int .i64 0) (.int .i64 0) (.int .i64 0) (.int .i64 0) (.int .i64 0) (.int .i64 0) (.int .i64 0) (.bool false) (.int .u64 0) (.int .u64 0)
  have m9 := fun i => b9.cell i
  refine bodyPost_ret (v := .agg #[.int .i64 0, .int .i64 0, .int .i64 0, .int .i64 0, .int .i64 0, .int .i64 0, .int .i64 0, .bool false, .int .u64 0, .int .u64 0]) (by simp [results, Tryd.results10, go_sem, m9]) rfl ⟨rfl, by first | exact B9 | exact B9.drew⟩
set_option maxHeartbeats 1000000 in
theorem has_wrong (s t f l p th : Int) (w : World) (hc : cfgOk s t f l p = false) :
    Calls Tryd.prog 43 #[.agg #[.int .i64 s, .int .i64 t, .int .i64 f, .int .i64 l, .int .i64 p], .int .i64 th] w fun e w' => e = .returned (.bool false) ∧ Below w.heap.size w w' := by
  have C := hide (fun w2 => wrong_any s t f l p w2)
  have hw : 0 ≤ wrg s t f l p := by
    have := wrg_ok (s := s) (t := t) (f := f) (l := l) (p := p)
    rw [hc] at this
    have h2 : ¬ wrg s t f l p < 0 := by simpa using this.symm
    omega
  clear hc
  generalize wrg s t f l p = r at *
  have bx := Blk.new w 23 #[.int .i64 s, .int .i64 t, .int .i64 f, .int .i64 l, .int .i64 p]
  have B0 := (Below.refl w.heap.size w).alloc (Nat.le_refl _) (.cells #[.int .i64 s, .int .i64 t, .int .i64 f, .int .i64 l, .int .i64 p] 23)
  go_enter Tryd.func43, Tryd.ntmps43
  go_wp2_with fail
  refine (C.out _).mono ?_
  rintro e w1 ⟨rfl, hb1⟩
  try replace bx := bx.below hb1 bx.lt
  try replace bo := bo.below hb1 bo.lt
  try replace by_ := by_.below hb1 by_.lt
  replace B0 := B0.trans (hb1.mono B0.size)
  clear hb1
  try clear mx lx
  try clear mo lo zo
  try clear my ly zy
  try have mx := fun i => bx.cell i
  try have lx := bx.lt
  try have mo := fun i => bo.cell i
  try have lo := bo.lt
  try have zo := fun i => bo.frozen i
  try have my := fun i => by_.cell i
  try have ly := by_.lt
  try have zy := fun i => by_.frozen i
  go_wp2_with fail
  go_ret
  exact ⟨rfl, B0⟩
set_option maxHeartbeats 1000000 in
theorem has_lo (s t f l p th : Int) (w : World) (hc : cfgOk s t f l p = true) (h0 : th < 0) :
    Calls Tryd.prog 43 #[.agg #[.int .i64 s, .int .i64 t, .int .i64 f, .int .i64 l, .int .i64 p], .int .i64 th] w fun e w' => e = .returned (.bool false) ∧ Below w.heap.size w w' := by
  have C := hide (fun w2 => wrong_any s t f l p w2)
  have hw : wrg s t f l p < 0 := by
    have := wrg_ok (s := s) (t := t) (f := f) (l := l) (p := p)
    rw [hc] at this
    simpa using this.symm
  clear hc
  generalize wrg s t f l p = r at *
  have bx := Blk.new w 23 #[.int .i64 s, .int .i64 t, .int .i64 f, .int .i64 l, .int .i64 p]
  have B0 := (Below.refl w.heap.size w).alloc (Nat.le_refl _) (.cells #[.int .i64 s, .int .i64 t, .int .i64 f, .int .i64 l, .int .i64 p] 23)
  go_enter Tryd.func43, Tryd.ntmps43
  go_wp2_with fail
  refine (C.out _).mono ?_
  rintro e w1 ⟨rfl, hb1⟩
  try replace bx := bx.below hb1 bx.lt
  try replace bo := bo.below hb1 bo.lt
  try replace by_ := by_.below hb1 by_.lt
  replace B0 := B0.trans (hb1.mono B0.size)
  clear hb1
  try clear mx lx
  try clear mo lo zo
  try clear my ly zy
  try have mx := fun i => bx.cell i
  try have lx := bx.lt
  try have mo := fun i => bo.cell i
  try have lo := bo.lt
  try have zo := fun i => bo.frozen i
  try have my := fun i => by_.cell i
  try have ly := by_.lt
  try have zy := fun i => by_.frozen i
  go_wp2_with fail
  go_ret
  exact ⟨rfl, B0⟩
set_option maxHeartbeats 1000000 in
theorem has_hi (s t f l p th : Int) (w : World) (hc : cfgOk s t f l p = true) (h0 : 0 ≤ th) (h1 : t ≤ th) :
    Calls Tryd.prog 43 #[.agg #[.int .i64 s, .int .i64 t, .int .i64 f, .int .i64 l, .int .i64 p], .int .i64 th] w fun e w' => e = .returned (.bool false) ∧ Below w.heap.size w w' := by
  have C := hide (fun w2 => wrong_any s t f l p w2)
  have hw : wrg s t f l p < 0 := by
    have := wrg_ok (s := s) (t := t) (f := f) (l := l) (p := p)
    rw [hc] at this
    simpa using this.symm
  clear hc
  have h2 : ¬ th < t := by omega
  clear h1
  generalize wrg s t f l p = r at *
  have bx := Blk.new w 23 #[.int .i64 s, .int .i64 t, .int .i64 f, .int .i64 l, .int .i64 p]
  have B0 := (Below.refl w.heap.size w).alloc (Nat.le_refl _) (.cells #[.int .i64 s, .int .i64 t, .int .i64 f, .int .i64 l, .int .i64 p] 23)
  go_enter Tryd.func43, Tryd.ntmps43
  go_wp2_with fail
  refine (C.out _).mono ?_
  rintro e w1 ⟨rfl, hb1⟩
  try replace bx := bx.below hb1 bx.lt
  try replace bo := bo.below hb1 bo.lt
  try replace by_ := by_.below hb1 by_.lt
  replace B0 := B0.trans (hb1.mono B0.size)
  clear hb1
  try clear mx lx
  try clear mo lo zo
  try clear my ly zy
  try have mx := fun i => bx.cell i
  try have lx := bx.lt
  try have mo := fun i => bo.cell i
  try have lo := bo.lt
  try have zo := fun i => bo.frozen i
  try have my := fun i => by_.cell i
  try have ly := by_.lt
  try have zy := fun i => by_.frozen i
  go_wp2_with fail
  go_ret
  exact ⟨by simp [h2], B0⟩
set_option maxHeartbeats 1000000 in
theorem has_yes (s t f l p th : Int) (w : World) (hc : cfgOk s t f l p = true) (h0 : 0 ≤ th) (h1 : th < t) :
    Calls Tryd.prog 43 #[.agg #[.int .i64 s, .int .i64 t, .int .i64 f, .int .i64 l, .int .i64 p], .int .i64 th] w fun e w' => e = .returned (.bool true) ∧ Below w.heap.size w w' := by
  have C := hide (fun w2 => wrong_any s t f l p w2)
  have hw : wrg s t f l p < 0 := by
    have := wrg_ok (s := s) (t := t) (f := f) (l := l) (p := p)
    rw [hc] at this
    simpa using this.symm
  clear hc
  generalize wrg s t f l p = r at *
  have bx := Blk.new w 23 #[.int .i64 s, .int .i64 t, .int .i64 f, .int .i64 l, .int .i64 p]
  have B0 := (Below.refl w.heap.size w).alloc (Nat.le_refl _) (.cells #[.int .i64 s, .int .i64 t, .int .i64 f, .int .i64 l, .int .i64 p] 23)
  go_enter Tryd.func43, Tryd.ntmps43
  go_wp2_with fail
  refine (C.out _).mono ?_
  rintro e w1 ⟨rfl, hb1⟩
  try replace bx := bx.below hb1 bx.lt
  try replace bo := bo.below hb1 bo.lt
  try replace by_ := by_.below hb1 by_.lt
  replace B0 := B0.trans (hb1.mono B0.size)
  clear hb1
  try clear mx lx
  try clear mo lo zo
  try clear my ly zy
  try have mx := fun i => bx.cell i
  try have lx := bx.lt
  try have mo := fun i => bo.cell i
  try have lo := bo.lt
  try have zo := fun i => bo.frozen i
  try have my := fun i => by_.cell i
  try have ly := by_.lt
  try have zy := fun i => by_.frozen i
  go_wp2_with fail
  go_ret
  exact ⟨rfl, B0⟩
set_option maxHeartbeats 1000000 in
theorem ernew_yes (s t f l p th : Int) (sl : Bool) (w : World) (hc : cfgOk s t f l p = true) (hth : 0 ≤ th ∧ th < t) :
    Calls Tryd.prog 12 #[.agg #[.int .i64 s, .int .i64 t, .int .i64 f, .int .i64 l, .int .i64 p], .int .i64 th, .bool sl] w fun e w' => e = .returned (.agg #[.int .i64 th, .int .i64 1, .bool sl, .int .u64 0, .int .u64 0]) ∧ Below w.heap.size w w' := by
  have C := hide (fun w2 => has_yes s t f l p th w2 hc hth.1 hth.2)
  clear hc hth
  have bx := Blk.new w 23 #[.int .i64 s, .int .i64 t, .int .i64 f, .int .i64 l, .int .i64 p]
  have B0 := (Below.refl w.heap.size w).alloc (Nat.le_refl _) (.cells #[.int .i64 s, .int .i64 t, .int .i64 f, .int .i64 l, .int .i64 p] 23)
  have bo := Blk.new (w.alloc (.cells #[.int .i64 s, .int .i64 t, .int .i64 f, .int .i64 l, .int .i64 p] 23)) 34 #[.int .i64 0, .int .i64 0, .bool false, .int .u64 0, .int .u64 0]
  replace B0 := B0.alloc B0.size (.cells #[.int .i64 0, .int .i64 0, .bool false, .int .u64 0, .int .u64 0] 34)
  replace bx := bx.alloc (.cells #[.int .i64 0, .int .i64 0, .bool false, .int .u64 0, .int .u64 0] 34)
  rw [World.size_alloc] at bo
  go_enter Tryd.func12, Tryd.ntmps12
  go_wp2_with fail
  refine (C.out _).mono ?_
  rintro e w1 ⟨rfl, hb1⟩
  try replace bx := bx.below hb1 bx.lt
  try replace bo := bo.below hb1 bo.lt
  try replace by_ := by_.below hb1 by_.lt
  replace B0 := B0.trans (hb1.mono B0.size)
  clear hb1
  try clear mx lx
  try clear mo lo zo
  try clear my ly zy
  try have mx := fun i => bx.cell i
  try have lx := bx.lt
  try have mo := fun i => bo.cell i
  try have lo := bo.lt
  try have zo := fun i => bo.frozen i
  try have my := fun i => by_.cell i
  try have ly := by_.lt
  try have zy := fun i => by_.frozen i
  go_wp2_with fail
  have b9 := bo.put5 (.int .i64 th) (.int .i64 1) (.bool sl) (.int .u64 0) (.int .u64 0)
  have B9 := below_put5 B0 (g := w.heap.size + 1) (by omega) (.int .i64 th) (.int .i64 1) (.bool sl) (.int .u64 0) (.int .u64 0)
  have m9 := fun i => b9.cell i
  refine bodyPost_ret (v := .agg #[.int .i64 th, .int .i64 1, .bool sl, .int .u64 0, .int .u64 0]) (by simp [results, Tryd.results12, go_sem, m9]) rfl ⟨rfl, by first | exact B9 | exact B9.drew⟩
set_option maxHeartbeats 1000000 in
theorem ernew_no (s t f l p th : Int) (sl : Bool) (w : World) (h : cfgOk s t f l p = false ∨ th < 0 ∨ t ≤ th) :
    Calls Tryd.prog 12 #[.agg #[.int .i64 s, .int .i64 t, .int .i64 f, .int .i64 l, .int .i64 p], .int .i64 th, .bool sl] w fun e w' => e = .returned (.agg #[.int .i64 0, .int .i64 0, .bool false, .int .u64 0, .int .u64 0]) ∧ Below w.heap.size w w' := by
  have HASNO : ∀ w2, Calls Tryd.prog 43 #[.agg #[.int .i64 s, .int .i64 t, .int .i64 f, .int .i64 l, .int .i64 p], .int .i64 th] w2 fun e w' => e = .returned (.bool false) ∧ Below w2.heap.size w2 w' := by
    intro w2
    cases hc : cfgOk s t f l p with
    | false => exact has_wrong s t f l p th w2 hc
    | true =>
      rw [hc] at h
      by_cases h0 : th < 0
      · exact has_lo s t f l p th w2 hc h0
      · exact has_hi s t f l p th w2 hc (by omega) (by rcases h with h | h | h; cases h; omega; omega)
  have C := hide (fun w2 => HASNO w2)
  clear h HASNO
  have bx := Blk.new w 23 #[.int .i64 s, .int .i64 t, .int .i64 f, .int .i64 l, .int .i64 p]
  have B0 := (Below.refl w.heap.size w).alloc (Nat.le_refl _) (.cells #[.int .i64 s, .int .i64 t, .int .i64 f, .int .i64 l, .int .i64 p] 23)
  have bo := Blk.new (w.alloc (.cells #[.int .i64 s, .int .i64 t, .int .i64 f, .int .i64 l, .int .i64 p] 23)) 34 #[.int .i64 0, .int .i64 0, .bool false, .int .u64 0, .int .u64 0]
  replace B0 := B0.alloc B0.size (.cells #[.int .i64 0, .int .i64 0, .bool false, .int .u64 0, .int .u64 0] 34)
  replace bx := bx.alloc (.cells #[.int .i64 0, .int .i64 0, .bool false, .int .u64 0, .int .u64 0] 34)
  rw [World.size_alloc] at bo
  go_enter Tryd.func12, Tryd.ntmps12
  go_wp2_with fail
  refine (C.out _).mono ?_
  rintro e w1 ⟨rfl, hb1⟩
  try replace bx := bx.below hb1 bx.lt
  try replace bo := bo.below hb1 bo.lt
  try replace by_ := by_.below hb1 by_.lt
  replace B0 := B0.trans (hb1.mono B0.size)
  clear hb1
  try clear mx lx
  try clear mo lo zo
  try clear my ly zy
  try have mx := fun i => bx.cell i
  try have lx := bx.lt
  try have mo := fun i => bo.cell i
  try have lo := bo.lt
  try have zo := fun i => bo.frozen i
  try have my := fun i => by_.cell i
  try have ly := by_.lt
  try have zy := fun i => by_.frozen i
  go_wp2_with fail
  have b9 := bo.put5 (.int .i64 0) (.int .i64 0) (.bool false) (.int .u64 0) (.int .u64 0)
  have B9 := below_put5 B0 (g := w.heap.size + 1) (by omega) (.int .i64 0) (.int .i64 0) (.bool false) (.int .u64 0) (.int .u64 0)
  have m9 := fun i => b9.cell i
  refine bodyPost_ret (v := .agg #[.int .i64 0, .int .i64 0, .bool false, .int .u64 0, .int .u64 0]) (by simp [results, Tryd.results12, go_sem, m9]) rfl ⟨rfl, by first | exact B9 | exact B9.drew⟩
end Go.Proofs.YthmkhcmgpkngmaaDoor
