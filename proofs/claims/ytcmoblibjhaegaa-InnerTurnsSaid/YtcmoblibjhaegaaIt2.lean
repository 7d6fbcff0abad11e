/-
  The Go function InnerTurns.
-/
import Derived.Test.YtcmoblibjhaegaaIjr
import Derived.Test.YtcmoblibjhaegaaIqa
namespace Go.Proofs.Ytcmoblibjhaegaa
open Go.RowKit

set_option maxHeartbeats 2000000 in
theorem turns_big (v : Value) (b : Bool) (ks vs : List Int) (l i key child : Int) (w : World) (h : Nd w w.heap.size v b ks vs l) (hsm : ¬ (ks.length ≤ 80 ∧ vs.length ≤ 80)) :
    Calls Try.prog 5 #[v, .int .i64 i, .int .u64 key, .int .u64 child] w fun e w' => e = .returned (.bool true) ∧ Below w.heap.size w w' := by
  obtain ⟨A, c, A', c', rfl⟩ := ValN w b ks vs l v h
  have Sm := hide (fun w2 => small_any b A A' ks.length c vs.length c' l w2)
  rw [show (decide (ks.length ≤ 80) && decide (vs.length ≤ 80)) = false by simp; omega] at Sm
  clear h hsm
  generalize ks.length = n at *
  generalize vs.length = m at *
  have B0 := (Below.refl w.heap.size w).alloc (Nat.le_refl _) (.cells #[.bool b, .slice A n c, .slice A' m c', .int .u64 l] 27)
  have bx := Blk.new w 27 #[.bool b, .slice A n c, .slice A' m c', .int .u64 l]
  go_enter Try.func5, Try.ntmps5
  go_wp2_with fail
  refine (Sm.out _).mono ?_
  rintro e w1 ⟨rfl, hb1⟩
  try replace bx := bx.below hb1 bx.lt
  try replace bo := bo.below hb1 bo.lt
  try replace by_ := by_.below hb1 by_.lt
  replace B0 := B0.trans (hb1.mono B0.size)
  clear hb1
  try clear mx lx
  try clear mo lo zo
  try clear my ly zy
  try have mx := fun i => bx.cell i
  try have lx := bx.lt
  try have mo := fun i => bo.cell i
  try have lo := bo.lt
  try have zo := fun i => bo.frozen i
  try have my := fun i => by_.cell i
  try have ly := by_.lt
  try have zy := fun i => by_.frozen i
  go_wp2_with fail
  refine (awake13 _).mono ?_
  rintro e w2 ⟨rfl, hb1⟩
  try replace bx := bx.below hb1 bx.lt
  try replace bo := bo.below hb1 bo.lt
  try replace by_ := by_.below hb1 by_.lt
  replace B0 := B0.trans (hb1.mono B0.size)
  clear hb1
  try clear mx lx
  try clear mo lo zo
  try clear my ly zy
  try have mx := fun i => bx.cell i
  try have lx := bx.lt
  try have mo := fun i => bo.cell i
  try have lo := bo.lt
  try have zo := fun i => bo.frozen i
  try have my := fun i => by_.cell i
  try have ly := by_.lt
  try have zy := fun i => by_.frozen i
  go_wp2_with fail
  go_ret
  exact ⟨rfl, B0⟩
set_option maxRecDepth 100000 in
set_option maxHeartbeats 4000000 in
theorem turns_no (v : Value) (b : Bool) (ks vs : List Int) (l i key child : Int) (w : World) (h : Nd w w.heap.size v b ks vs l) (hk : ks.length ≤ 80) (hv : vs.length ≤ 80) (hr : rightI b ks vs = false) :
    Calls Try.prog 5 #[v, .int .i64 i, .int .u64 key, .int .u64 child] w fun e w' => e = .returned (.bool true) ∧ Below w.heap.size w w' := by
  have Ad := hide (fun w2 (hB : Below w.heap.size w w2) => iadd_out v b ks vs l i key child w2 (by omega) ((h.below hB).more hB.size) (.inl hr))
  have Dr := hide (fun w2 (hB : Below w.heap.size w w2) => idrop_out v b ks vs l i w2 (by omega) ((h.below hB).more hB.size) (.inl hr))
  have Rr := hide (fun w2 (hB : Below w.heap.size w w2) => irright_any v b ks vs l w2 (by omega) ((h.below hB).more hB.size))
  have Rt := hide (fun w2 (hB : Below w.heap.size w w2) => iright_any v b ks vs l w2 (by omega) ((h.below hB).more hB.size))
  have Ch := hide (fun w2 (hB : Below w.heap.size w w2) => child_any v b ks vs l key w2 (by omega) ((h.below hB).more hB.size))
  rw [show childN b ks vs key = 0 by unfold childN; rw [hr]; rfl] at Ch
  rw [hr] at Rr Rt
  have Sa := hide (fun w2 => none_any _ false [] [] 0 w2 (by simp) (by simp) (Nd.zero w2 w2.heap.size))
  rw [show sameB false [] [] 0 false [] [] 0 = true by decide] at Sa
  obtain ⟨A, c, A', c', rfl⟩ := ValN w b ks vs l v h
  have Sm := hide (fun w2 => small_any b A A' ks.length c vs.length c' l w2)
  rw [show (decide (ks.length ≤ 80) && decide (vs.length ≤ 80)) = true by simp; omega] at Sm
  clear h hk hv hr
  generalize ks.length = n at *
  generalize vs.length = m at *
  have hb := (Below.refl w.heap.size w).alloc (Nat.le_refl _) (.cells #[.bool b, .slice A n c, .slice A' m c', .int .u64 l] 27)
  have bx := Blk.new w 27 #[.bool b, .slice A n c, .slice A' m c', .int .u64 l]
  have m_bx := fun i => bx.cell i
  have z_bx := fun i => bx.frozen i
  go_enter Try.func5, Try.ntmps5
  go_wp2_with fail
  refine (Sm.out _).mono ?_
  rintro e wk ⟨rfl, hb1⟩
  clear m_bx z_bx
  replace bx := bx.below hb1 bx.lt
  replace hb := hb.trans (hb1.mono hb.size)
  clear hb1
  have m_bx := fun i => bx.cell i
  have z_bx := fun i => bx.frozen i
  go_wp2_with fail
  refine (Ad.out _ hb).mono ?_
  rintro e wk ⟨rfl, hb1⟩
  clear m_bx z_bx
  replace bx := bx.below hb1 bx.lt
  replace hb := hb.trans (hb1.mono hb.size)
  clear hb1
  have ba := Blk.new wk 27 #[.bool false, .slice none 0 0, .slice none 0 0, .int .u64 0]
  replace bx := bx.alloc (.cells #[.bool false, .slice none 0 0, .slice none 0 0, .int .u64 0] 27)
  replace hb := hb.alloc hb.size (.cells #[.bool false, .slice none 0 0, .slice none 0 0, .int .u64 0] 27)
  have m_bx := fun i => bx.cell i
  have m_ba := fun i => ba.cell i
  have z_bx := fun i => bx.frozen i
  have z_ba := fun i => ba.frozen i
  go_wp2_with fail
  generalize wk.alloc (.cells #[.bool false, .slice none 0 0, .slice none 0 0, .int .u64 0] 27) = wk1 at *
  generalize wk.heap.size = gba at *
  refine (Dr.out _ hb).mono ?_
  rintro e wk ⟨rfl, hb1⟩
  clear m_bx z_bx m_ba z_ba
  replace bx := bx.below hb1 bx.lt
  replace ba := ba.below hb1 ba.lt
  replace hb := hb.trans (hb1.mono hb.size)
  clear hb1
  have bb := Blk.new wk 27 #[.bool false, .slice none 0 0, .slice none 0 0, .int .u64 0]
  replace bx := bx.alloc (.cells #[.bool false, .slice none 0 0, .slice none 0 0, .int .u64 0] 27)
  replace ba := ba.alloc (.cells #[.bool false, .slice none 0 0, .slice none 0 0, .int .u64 0] 27)
  replace hb := hb.alloc hb.size (.cells #[.bool false, .slice none 0 0, .slice none 0 0, .int .u64 0] 27)
  have m_bx := fun i => bx.cell i
  have m_ba := fun i => ba.cell i
  have m_bb := fun i => bb.cell i
  have z_bx := fun i => bx.frozen i
  have z_ba := fun i => ba.frozen i
  have z_bb := fun i => bb.frozen i
  go_wp2_with fail
  generalize wk.alloc (.cells #[.bool false, .slice none 0 0, .slice none 0 0, .int .u64 0] 27) = wk1 at *
  generalize wk.heap.size = gbb at *
  refine (Rr.out _ hb).mono ?_
  rintro e wk ⟨rfl, hb1⟩
  clear m_bx z_bx m_ba z_ba m_bb z_bb
  replace bx := bx.below hb1 bx.lt
  replace ba := ba.below hb1 ba.lt
  replace bb := bb.below hb1 bb.lt
  replace hb := hb.trans (hb1.mono hb.size)
  clear hb1
  have m_bx := fun i => bx.cell i
  have m_ba := fun i => ba.cell i
  have m_bb := fun i => bb.cell i
  have z_bx := fun i => bx.frozen i
  have z_ba := fun i => ba.frozen i
  have z_bb := fun i => bb.frozen i
  go_wp2_with fail
  refine (Rt.out _ hb).mono ?_
  rintro e wk ⟨rfl, hb1⟩
  clear m_bx z_bx m_ba z_ba m_bb z_bb
  replace bx := bx.below hb1 bx.lt
  replace ba := ba.below hb1 ba.lt
  replace bb := bb.below hb1 bb.lt
  replace hb := hb.trans (hb1.mono hb.size)
  clear hb1
  have m_bx := fun i => bx.cell i
  have m_ba := fun i => ba.cell i
  have m_bb := fun i => bb.cell i
  have z_bx := fun i => bx.frozen i
  have z_ba := fun i => ba.frozen i
  have z_bb := fun i => bb.frozen i
  go_wp2_with fail
  refine (Ch.out _ hb).mono ?_
  rintro e wk ⟨rfl, hb1⟩
  clear m_bx z_bx m_ba z_ba m_bb z_bb
  replace bx := bx.below hb1 bx.lt
  replace ba := ba.below hb1 ba.lt
  replace bb := bb.below hb1 bb.lt
  replace hb := hb.trans (hb1.mono hb.size)
  clear hb1
  have m_bx := fun i => bx.cell i
  have m_ba := fun i => ba.cell i
  have m_bb := fun i => bb.cell i
  have z_bx := fun i => bx.frozen i
  have z_ba := fun i => ba.frozen i
  have z_bb := fun i => bb.frozen i
  go_wp2_with fail
  refine (Sa.out _).mono ?_
  rintro e wk ⟨rfl, hb1⟩
  clear m_bx z_bx m_ba z_ba m_bb z_bb
  replace bx := bx.below hb1 bx.lt
  replace ba := ba.below hb1 ba.lt
  replace bb := bb.below hb1 bb.lt
  replace hb := hb.trans (hb1.mono hb.size)
  clear hb1
  have m_bx := fun i => bx.cell i
  have m_ba := fun i => ba.cell i
  have m_bb := fun i => bb.cell i
  have z_bx := fun i => bx.frozen i
  have z_ba := fun i => ba.frozen i
  have z_bb := fun i => bb.frozen i
  go_wp2_with fail
  refine (Sa.out _).mono ?_
  rintro e wk ⟨rfl, hb1⟩
  clear m_bx z_bx m_ba z_ba m_bb z_bb
  replace bx := bx.below hb1 bx.lt
  replace ba := ba.below hb1 ba.lt
  replace bb := bb.below hb1 bb.lt
  replace hb := hb.trans (hb1.mono hb.size)
  clear hb1
  have m_bx := fun i => bx.cell i
  have m_ba := fun i => ba.cell i
  have m_bb := fun i => bb.cell i
  have z_bx := fun i => bx.frozen i
  have z_ba := fun i => ba.frozen i
  have z_bb := fun i => bb.frozen i
  go_wp2_with fail
  refine (awake13 _).mono ?_
  rintro e wk ⟨rfl, hb1⟩
  clear m_bx z_bx m_ba z_ba m_bb z_bb
  replace bx := bx.below hb1 bx.lt
  replace ba := ba.below hb1 ba.lt
  replace bb := bb.below hb1 bb.lt
  replace hb := hb.trans (hb1.mono hb.size)
  clear hb1
  have m_bx := fun i => bx.cell i
  have m_ba := fun i => ba.cell i
  have m_bb := fun i => bb.cell i
  have z_bx := fun i => bx.frozen i
  have z_ba := fun i => ba.frozen i
  have z_bb := fun i => bb.frozen i
  go_wp2_with fail
  go_ret
  exact ⟨rfl, hb⟩
set_option maxRecDepth 100000 in
set_option maxHeartbeats 4000000 in
theorem t_neg (v : Value) (ks vs : List Int) (l i key child : Int) (w : World) (h : Nd w w.heap.size v true ks vs l) (hk : ks.length ≤ 80) (hv : vs.length ≤ 80) (hr : rightI true ks vs = true) (Ad0 : ∀ w2, Below w.heap.size w w2 → Calls Try.prog 17 #[v, .int .i64 i, .int .u64 key, .int .u64 child] w2 fun e w' => e = .returned (.tuple #[.agg #[.bool false, .slice none 0 0, .slice none 0 0, .int .u64 0], .bool false]) ∧ Below w2.heap.size w2 w') (Dr0 : ∀ w2, Below w.heap.size w w2 → Calls Try.prog 18 #[v, .int .i64 i] w2 fun e w' => e = .returned (.tuple #[.agg #[.bool false, .slice none 0 0, .slice none 0 0, .int .u64 0], .bool false]) ∧ Below w2.heap.size w2 w') (q0 : decide ((1 : Int) ≤ i) = false) (q1 : decide ((0 : Int) ≤ i) = false) :
    Calls Try.prog 5 #[v, .int .i64 i, .int .u64 key, .int .u64 child] w fun e w' => e = .returned (.bool true) ∧ Below w.heap.size w w' := by
  have Ad := hide Ad0
  have Dr := hide Dr0
  clear Ad0 Dr0
  have Rr := hide (fun w2 (hB : Below w.heap.size w w2) => irright_any v true ks vs l w2 (by omega) ((h.below hB).more hB.size))
  have Rt := hide (fun w2 (hB : Below w.heap.size w w2) => iright_any v true ks vs l w2 (by omega) ((h.below hB).more hB.size))
  have Ch := hide (fun w2 (hB : Below w.heap.size w w2) => child_any v true ks vs l key w2 (by omega) ((h.below hB).more hB.size))
  have Rc := hide (fun w2 (hB : Below w.heap.size w w2) => rchild_any v true ks vs l key w2 (by omega) ((h.below hB).more hB.size))
  rw [child_right hr] at Ch
  rw [hr] at Rr Rt
  obtain ⟨A, c, A', c', rfl⟩ := ValN w true ks vs l v h
  have Sm := hide (fun w2 => small_any true A A' ks.length c vs.length c' l w2)
  rw [show (decide (ks.length ≤ 80) && decide (vs.length ≤ 80)) = true by simp; omega] at Sm
  clear h hk hv hr
  generalize upN key ks = kc at *
  generalize ks.length = n at *
  generalize vs.length = m at *
  have hb := (Below.refl w.heap.size w).alloc (Nat.le_refl _) (.cells #[.bool true, .slice A n c, .slice A' m c', .int .u64 l] 27)
  have bx := Blk.new w 27 #[.bool true, .slice A n c, .slice A' m c', .int .u64 l]
  have m_bx := fun i => bx.cell i
  have z_bx := fun i => bx.frozen i
  go_enter Try.func5, Try.ntmps5
  go_wp2_with fail
  refine (Sm.out _).mono ?_
  rintro e wk ⟨rfl, hb1⟩
  clear m_bx z_bx
  replace bx := bx.below hb1 bx.lt
  replace hb := hb.trans (hb1.mono hb.size)
  clear hb1
  have m_bx := fun i => bx.cell i
  have z_bx := fun i => bx.frozen i
  go_wp2_with fail
  refine (Ad.out _ hb).mono ?_
  rintro e wk ⟨rfl, hb1⟩
  clear m_bx z_bx
  replace bx := bx.below hb1 bx.lt
  replace hb := hb.trans (hb1.mono hb.size)
  clear hb1
  have ba := Blk.new wk 27 #[.bool false, .slice none 0 0, .slice none 0 0, .int .u64 0]
  replace bx := bx.alloc (.cells #[.bool false, .slice none 0 0, .slice none 0 0, .int .u64 0] 27)
  replace hb := hb.alloc hb.size (.cells #[.bool false, .slice none 0 0, .slice none 0 0, .int .u64 0] 27)
  have m_bx := fun i => bx.cell i
  have m_ba := fun i => ba.cell i
  have z_bx := fun i => bx.frozen i
  have z_ba := fun i => ba.frozen i
  go_wp2_with fail
  generalize wk.alloc (.cells #[.bool false, .slice none 0 0, .slice none 0 0, .int .u64 0] 27) = wk1 at *
  generalize wk.heap.size = gba at *
  refine (Dr.out _ hb).mono ?_
  rintro e wk ⟨rfl, hb1⟩
  clear m_bx z_bx m_ba z_ba
  replace bx := bx.below hb1 bx.lt
  replace ba := ba.below hb1 ba.lt
  replace hb := hb.trans (hb1.mono hb.size)
  clear hb1
  have bb := Blk.new wk 27 #[.bool false, .slice none 0 0, .slice none 0 0, .int .u64 0]
  replace bx := bx.alloc (.cells #[.bool false, .slice none 0 0, .slice none 0 0, .int .u64 0] 27)
  replace ba := ba.alloc (.cells #[.bool false, .slice none 0 0, .slice none 0 0, .int .u64 0] 27)
  replace hb := hb.alloc hb.size (.cells #[.bool false, .slice none 0 0, .slice none 0 0, .int .u64 0] 27)
  have m_bx := fun i => bx.cell i
  have m_ba := fun i => ba.cell i
  have m_bb := fun i => bb.cell i
  have z_bx := fun i => bx.frozen i
  have z_ba := fun i => ba.frozen i
  have z_bb := fun i => bb.frozen i
  go_wp2_with fail
  generalize wk.alloc (.cells #[.bool false, .slice none 0 0, .slice none 0 0, .int .u64 0] 27) = wk1 at *
  generalize wk.heap.size = gbb at *
  refine (Rr.out _ hb).mono ?_
  rintro e wk ⟨rfl, hb1⟩
  clear m_bx z_bx m_ba z_ba m_bb z_bb
  replace bx := bx.below hb1 bx.lt
  replace ba := ba.below hb1 ba.lt
  replace bb := bb.below hb1 bb.lt
  replace hb := hb.trans (hb1.mono hb.size)
  clear hb1
  have m_bx := fun i => bx.cell i
  have m_ba := fun i => ba.cell i
  have m_bb := fun i => bb.cell i
  have z_bx := fun i => bx.frozen i
  have z_ba := fun i => ba.frozen i
  have z_bb := fun i => bb.frozen i
  go_wp2_with fail
  clear m_bx z_bx m_ba z_ba m_bb z_bb
  refine wp_region_heldZ [] (fun w' => w'.cell? ⟨w.heap.size, 0, none⟩ = some (.bool true) ∧ w'.cell? ⟨w.heap.size, 1, none⟩ = some (.slice A n c) ∧ w'.cell? ⟨w.heap.size, 2, none⟩ = some (.slice A' m c') ∧ w'.cell? ⟨w.heap.size, 3, none⟩ = some (.int .u64 l)) (by kernel_rfl) (by exact cellsN bx) (fun hHeld => ?_)
  replace bx := bx.drew
  replace ba := ba.drew
  replace bb := bb.drew
  replace hb := hb.drew
  generalize wk.drew = wj0 at *
  refine' wpAnyZ_takeA (i := 0) (v := ?_) (opAt rfl) (by kernel_rfl) (by kernel_rfl) (by kernel_rfl) (by kernel_rfl) (fun _ _ _ h => h) (by assumption) (by rfl) (fun w hSw => ?_) ?_
  rotate_left
  · (try dsimp only at hSw); go_simp; (try with_reducible rfl)
  try simp only [Act.put, List.setIfInBounds_toArray, List.set_cons_zero, List.set_cons_succ]
  refine wpAnyZ_ready (rs := [1]) (by kernel_rfl) (by simp) ?_
  refine AllReadyZ.cons (opAt rfl) (fun K hK => ?_) ?_
  · skip
    go_simp
    refine (Rt.out _ hb).mono ?_
    rintro e wj ⟨rfl, hb1⟩
    replace bx := bx.below hb1 bx.lt
    replace ba := ba.below hb1 ba.lt
    replace bb := bb.below hb1 bb.lt
    replace hb := hb.trans (hb1.mono hb.size)
    clear hb1
    try go_wp2_with fail
    refine hK.out _ _ (by exact cellsN bx) (fun hHeld => ?_)
    clear hK K
    try simp only [Act.put, List.setIfInBounds_toArray, List.set_cons_zero, List.set_cons_succ]
    refine' wpAnyZ_takeA (i := 2) (v := ?_) (opAt rfl) (by kernel_rfl) (by kernel_rfl) (by kernel_rfl) (by kernel_rfl) (fun _ _ _ h => h) (by assumption) (by rfl) (fun w hSw => ?_) ?_
    rotate_left
    · (try dsimp only at hSw); go_simp; (try with_reducible rfl)
    try simp only [Act.put, List.setIfInBounds_toArray, List.set_cons_zero, List.set_cons_succ]
    refine' wpAnyZ_takeA (i := 3) (v := ?_) (opAt rfl) (by kernel_rfl) (by kernel_rfl) (by kernel_rfl) (by kernel_rfl) (fun _ _ _ h => h) (by assumption) (by rfl) (fun w hSw => ?_) ?_
    rotate_left
    · (try dsimp only at hSw); go_simp; (try with_reducible rfl)
    try simp only [Act.put, List.setIfInBounds_toArray, List.set_cons_zero, List.set_cons_succ]
    refine' wpAnyZ_takeA (i := 4) (v := ?_) (opAt rfl) (by kernel_rfl) (by kernel_rfl) (by kernel_rfl) (by kernel_rfl) (fun _ _ _ h => h) (by assumption) (by rfl) (fun w hSw => ?_) ?_
    rotate_left
    · (try dsimp only at hSw); go_simp; (try with_reducible rfl)
    try simp only [Act.put, List.setIfInBounds_toArray, List.set_cons_zero, List.set_cons_succ]
    refine' wpAnyZ_takeA (i := 5) (v := ?_) (opAt rfl) (by kernel_rfl) (by kernel_rfl) (by kernel_rfl) (by kernel_rfl) (fun _ _ _ h => h) (by assumption) (by rfl) (fun w hSw => ?_) ?_
    rotate_left
    · (try dsimp only at hSw); go_simp; (try with_reducible rfl)
    try simp only [Act.put, List.setIfInBounds_toArray, List.set_cons_zero, List.set_cons_succ]
    refine' wpAnyZ_takeA (i := 7) (v := ?_) (opAt rfl) (by kernel_rfl) (by kernel_rfl) (by kernel_rfl) (by kernel_rfl) (fun _ _ _ h => h) (by assumption) (by rfl) (fun w hSw => ?_) ?_
    rotate_left
    · (try dsimp only at hSw); go_simp; (try with_reducible rfl)
    try simp only [Act.put, List.setIfInBounds_toArray, List.set_cons_zero, List.set_cons_succ]
    refine' wpAnyZ_takeA (i := 8) (v := ?_) (opAt rfl) (by kernel_rfl) (by kernel_rfl) (by kernel_rfl) (by kernel_rfl) (fun _ _ _ h => h) (by assumption) (by rfl) (fun w hSw => ?_) ?_
    rotate_left
    · (try dsimp only at hSw); go_simp; (try with_reducible rfl)
    try simp only [Act.put, List.setIfInBounds_toArray, List.set_cons_zero, List.set_cons_succ]
    refine wpAnyZ_ready (rs := [6]) (by kernel_rfl) (by simp) ?_
    refine AllReadyZ.cons (opAt rfl) (fun K hK => ?_) ?_
    · skip
      go_simp
      refine (Ch.out _ hb).mono ?_
      rintro e wj ⟨rfl, hb1⟩
      replace bx := bx.below hb1 bx.lt
      replace ba := ba.below hb1 ba.lt
      replace bb := bb.below hb1 bb.lt
      replace hb := hb.trans (hb1.mono hb.size)
      clear hb1
      try go_wp2_with fail
      refine hK.out _ _ (by exact cellsN bx) (fun hHeld => ?_)
      clear hK K
      try simp only [Act.put, List.setIfInBounds_toArray, List.set_cons_zero, List.set_cons_succ]
      refine wpAnyZ_ready (rs := [9]) (by kernel_rfl) (by simp) ?_
      refine AllReadyZ.cons (opAt rfl) (fun K hK => ?_) ?_
      · skip
        go_simp
        refine (Rc.out _ hb).mono ?_
        rintro e wj ⟨rfl, hb1⟩
        replace bx := bx.below hb1 bx.lt
        replace ba := ba.below hb1 ba.lt
        replace bb := bb.below hb1 bb.lt
        replace hb := hb.trans (hb1.mono hb.size)
        clear hb1
        try go_wp2_with fail
        refine hK.out _ _ (by exact cellsN bx) (fun hHeld => ?_)
        clear hK K
        try simp only [Act.put, List.setIfInBounds_toArray, List.set_cons_zero, List.set_cons_succ]
        refine' wpAnyZ_takeA (i := 10) (v := ?_) (opAt rfl) (by kernel_rfl) (by kernel_rfl) (by kernel_rfl) (by kernel_rfl) (fun _ _ _ h => h) (by assumption) (by rfl) (fun w hSw => ?_) ?_
        rotate_left
        · (try dsimp only at hSw); go_simp; (try with_reducible rfl)
        try simp only [Act.put, List.setIfInBounds_toArray, List.set_cons_zero, List.set_cons_succ]
        refine' wpAnyZ_takeA (i := 11) (v := ?_) (opAt rfl) (by kernel_rfl) (by kernel_rfl) (by kernel_rfl) (by kernel_rfl) (fun _ _ _ h => h) (by assumption) (by rfl) (fun w hSw => ?_) ?_
        rotate_left
        · (try dsimp only at hSw); go_simp; (try with_reducible rfl)
        try simp only [Act.put, List.setIfInBounds_toArray, List.set_cons_zero, List.set_cons_succ]
        refine wpAnyZ_done (by kernel_rfl) ?_ _
        have HWbx := hide (Nat.ne_of_lt bx.lt)
        have HWba := hide (Nat.ne_of_lt ba.lt)
        have HWbb := hide (Nat.ne_of_lt bb.lt)
        have HWg := hide hb.size
        have bw := Blk.new wj 27 #[.bool false, .slice none 0 0, .slice none 0 0, .int .u64 0]
        replace bx := bx.alloc (.cells #[.bool false, .slice none 0 0, .slice none 0 0, .int .u64 0] 27)
        replace ba := ba.alloc (.cells #[.bool false, .slice none 0 0, .slice none 0 0, .int .u64 0] 27)
        replace bb := bb.alloc (.cells #[.bool false, .slice none 0 0, .slice none 0 0, .int .u64 0] 27)
        replace hb := hb.alloc hb.size (.cells #[.bool false, .slice none 0 0, .slice none 0 0, .int .u64 0] 27)
        have p_bx := fun i => bx.cell i
        have HWL := hide (show wj.heap.size ≠ wj.heap.size + 1 by omega)
        have HLbx := hide (show w.heap.size ≠ wj.heap.size + 1 by have := HWbx.out; have := bx.lt; rw [World.size_alloc] at this; omega)
        have HLba := hide (show gba ≠ wj.heap.size + 1 by have := HWba.out; have := ba.lt; rw [World.size_alloc] at this; omega)
        have HLbb := hide (show gbb ≠ wj.heap.size + 1 by have := HWbb.out; have := bb.lt; rw [World.size_alloc] at this; omega)
        have HLg := hide (show w.heap.size ≤ wj.heap.size + 1 by have := HWg.out; omega)
        have bl_ := Blk.new (wj.alloc (.cells #[.bool false, .slice none 0 0, .slice none 0 0, .int .u64 0] 27)) 27 #[.bool false, .slice none 0 0, .slice none 0 0, .int .u64 0]
        replace bx := bx.alloc (.cells #[.bool false, .slice none 0 0, .slice none 0 0, .int .u64 0] 27)
        replace ba := ba.alloc (.cells #[.bool false, .slice none 0 0, .slice none 0 0, .int .u64 0] 27)
        replace bb := bb.alloc (.cells #[.bool false, .slice none 0 0, .slice none 0 0, .int .u64 0] 27)
        replace bw := bw.alloc (.cells #[.bool false, .slice none 0 0, .slice none 0 0, .int .u64 0] 27)
        replace hb := hb.alloc hb.size (.cells #[.bool false, .slice none 0 0, .slice none 0 0, .int .u64 0] 27)
        rw [World.size_alloc] at bl_
        have m_bx := fun i => bx.cell i
        have m_ba := fun i => ba.cell i
        have m_bb := fun i => bb.cell i
        have m_bw := fun i => bw.cell i
        have m_bl_ := fun i => bl_.cell i
        have z_bx := fun i => bx.frozen i
        have z_ba := fun i => ba.frozen i
        have z_bb := fun i => bb.frozen i
        have z_bw := fun i => bw.frozen i
        have z_bl_ := fun i => bl_.frozen i
        go_wp2_with fail
        clear p_bx
        generalize (wj.alloc (.cells #[.bool false, .slice none 0 0, .slice none 0 0, .int .u64 0] 27)).alloc (.cells #[.bool false, .slice none 0 0, .slice none 0 0, .int .u64 0] 27) = wk1 at *
        generalize wj.heap.size + 1 = gl at *
        generalize wj.heap.size = gw at *
        have HLbw := HWL
        clear HWL
        refine (same_any _ _ false false [] [] [] [] 0 0 _ (by simp) (by simp) (by simp) (by simp) (Nd.zero _ _) (Nd.zero _ _)).mono ?_
        rw [same_yes]
        rintro e wk ⟨rfl, hb1⟩
        clear m_bx z_bx m_ba z_ba m_bb z_bb m_bw z_bw m_bl_ z_bl_
        replace bx := bx.below hb1 bx.lt
        replace ba := ba.below hb1 ba.lt
        replace bb := bb.below hb1 bb.lt
        replace bw := bw.below hb1 bw.lt
        replace bl_ := bl_.below hb1 bl_.lt
        replace hb := hb.trans (hb1.mono hb.size)
        clear hb1
        have m_bx := fun i => bx.cell i
        have m_ba := fun i => ba.cell i
        have m_bb := fun i => bb.cell i
        have m_bw := fun i => bw.cell i
        have m_bl_ := fun i => bl_.cell i
        have z_bx := fun i => bx.frozen i
        have z_ba := fun i => ba.frozen i
        have z_bb := fun i => bb.frozen i
        have z_bw := fun i => bw.frozen i
        have z_bl_ := fun i => bl_.frozen i
        go_wp2_with fail
        refine (none_any _ false [] [] 0 _ (by simp) (by simp) (Nd.zero _ _)).mono ?_
        rw [show sameB false [] [] 0 false [] [] 0 = true by decide]
        rintro e wk ⟨rfl, hb1⟩
        clear m_bx z_bx m_ba z_ba m_bb z_bb m_bw z_bw m_bl_ z_bl_
        replace bx := bx.below hb1 bx.lt
        replace ba := ba.below hb1 ba.lt
        replace bb := bb.below hb1 bb.lt
        replace bw := bw.below hb1 bw.lt
        replace bl_ := bl_.below hb1 bl_.lt
        replace hb := hb.trans (hb1.mono hb.size)
        clear hb1
        have m_bx := fun i => bx.cell i
        have m_ba := fun i => ba.cell i
        have m_bb := fun i => bb.cell i
        have m_bw := fun i => bw.cell i
        have m_bl_ := fun i => bl_.cell i
        have z_bx := fun i => bx.frozen i
        have z_ba := fun i => ba.frozen i
        have z_bb := fun i => bb.frozen i
        have z_bw := fun i => bw.frozen i
        have z_bl_ := fun i => bl_.frozen i
        go_wp2_with fail
        refine (same_any _ _ false false [] [] [] [] 0 0 _ (by simp) (by simp) (by simp) (by simp) (Nd.zero _ _) (Nd.zero _ _)).mono ?_
        rw [same_yes]
        rintro e wk ⟨rfl, hb1⟩
        clear m_bx z_bx m_ba z_ba m_bb z_bb m_bw z_bw m_bl_ z_bl_
        replace bx := bx.below hb1 bx.lt
        replace ba := ba.below hb1 ba.lt
        replace bb := bb.below hb1 bb.lt
        replace bw := bw.below hb1 bw.lt
        replace bl_ := bl_.below hb1 bl_.lt
        replace hb := hb.trans (hb1.mono hb.size)
        clear hb1
        have m_bx := fun i => bx.cell i
        have m_ba := fun i => ba.cell i
        have m_bb := fun i => bb.cell i
        have m_bw := fun i => bw.cell i
        have m_bl_ := fun i => bl_.cell i
        have z_bx := fun i => bx.frozen i
        have z_ba := fun i => ba.frozen i
        have z_bb := fun i => bb.frozen i
        have z_bw := fun i => bw.frozen i
        have z_bl_ := fun i => bl_.frozen i
        go_wp2_with fail
        refine (none_any _ false [] [] 0 _ (by simp) (by simp) (Nd.zero _ _)).mono ?_
        rw [show sameB false [] [] 0 false [] [] 0 = true by decide]
        rintro e wk ⟨rfl, hb1⟩
        clear m_bx z_bx m_ba z_ba m_bb z_bb m_bw z_bw m_bl_ z_bl_
        replace bx := bx.below hb1 bx.lt
        replace ba := ba.below hb1 ba.lt
        replace bb := bb.below hb1 bb.lt
        replace bw := bw.below hb1 bw.lt
        replace bl_ := bl_.below hb1 bl_.lt
        replace hb := hb.trans (hb1.mono hb.size)
        clear hb1
        have m_bx := fun i => bx.cell i
        have m_ba := fun i => ba.cell i
        have m_bb := fun i => bb.cell i
        have m_bw := fun i => bw.cell i
        have m_bl_ := fun i => bl_.cell i
        have z_bx := fun i => bx.frozen i
        have z_ba := fun i => ba.frozen i
        have z_bb := fun i => bb.frozen i
        have z_bw := fun i => bw.frozen i
        have z_bl_ := fun i => bl_.frozen i
        go_wp2_with fail
        refine (awake13 _).mono ?_
        rintro e wk ⟨rfl, hb1⟩
        replace hb := hb.trans (hb1.mono hb.size)
        go_wp2_with fail
        go_ret
        exact ⟨rfl, hb⟩
      exact AllReadyZ.nil
    exact AllReadyZ.nil
  exact AllReadyZ.nil
set_option maxRecDepth 100000 in
set_option maxHeartbeats 4000000 in
theorem t_zero1 (v : Value) (ks vs : List Int) (l i key child : Int) (w : World) (h : Nd w w.heap.size v true ks vs l) (hk : ks.length ≤ 80) (hv : vs.length ≤ 80) (hr : rightI true ks vs = true) (Ad0 : ∀ w2, Below w.heap.size w w2 → Calls Try.prog 17 #[v, .int .i64 i, .int .u64 key, .int .u64 child] w2 fun e w' => e = .returned (.tuple #[.agg #[.bool false, .slice none 0 0, .slice none 0 0, .int .u64 0], .bool false]) ∧ Below w2.heap.size w2 w') (Dr0 : ∀ w2, Below w.heap.size w w2 → Calls Try.prog 18 #[v, .int .i64 i] w2 fun e w' => e = .returned (.tuple #[.agg #[.bool false, .slice none 0 0, .slice none 0 0, .int .u64 0], .bool false]) ∧ Below w2.heap.size w2 w') (q0 : decide ((1 : Int) ≤ i) = false) (q1 : decide ((0 : Int) ≤ i) = true) (q2 : decide (i < (vs.length : Int)) = true) (q3 : decide ((1 : Int) < (vs.length : Int)) = false) :
    Calls Try.prog 5 #[v, .int .i64 i, .int .u64 key, .int .u64 child] w fun e w' => e = .returned (.bool true) ∧ Below w.heap.size w w' := by
  have Ad := hide Ad0
  have Dr := hide Dr0
  clear Ad0 Dr0
  have Rr := hide (fun w2 (hB : Below w.heap.size w w2) => irright_any v true ks vs l w2 (by omega) ((h.below hB).more hB.size))
  have Rt := hide (fun w2 (hB : Below w.heap.size w w2) => iright_any v true ks vs l w2 (by omega) ((h.below hB).more hB.size))
  have Ch := hide (fun w2 (hB : Below w.heap.size w w2) => child_any v true ks vs l key w2 (by omega) ((h.below hB).more hB.size))
  have Rc := hide (fun w2 (hB : Below w.heap.size w w2) => rchild_any v true ks vs l key w2 (by omega) ((h.below hB).more hB.size))
  rw [child_right hr] at Ch
  rw [hr] at Rr Rt
  obtain ⟨A, c, A', c', rfl⟩ := ValN w true ks vs l v h
  have Sm := hide (fun w2 => small_any true A A' ks.length c vs.length c' l w2)
  rw [show (decide (ks.length ≤ 80) && decide (vs.length ≤ 80)) = true by simp; omega] at Sm
  clear h hk hv hr
  generalize upN key ks = kc at *
  generalize ks.length = n at *
  generalize vs.length = m at *
  have hb := (Below.refl w.heap.size w).alloc (Nat.le_refl _) (.cells #[.bool true, .slice A n c, .slice A' m c', .int .u64 l] 27)
  have bx := Blk.new w 27 #[.bool true, .slice A n c, .slice A' m c', .int .u64 l]
  have m_bx := fun i => bx.cell i
  have z_bx := fun i => bx.frozen i
  go_enter Try.func5, Try.ntmps5
  go_wp2_with fail
  refine (Sm.out _).mono ?_
  rintro e wk ⟨rfl, hb1⟩
  clear m_bx z_bx
  replace bx := bx.below hb1 bx.lt
  replace hb := hb.trans (hb1.mono hb.size)
  clear hb1
  have m_bx := fun i => bx.cell i
  have z_bx := fun i => bx.frozen i
  go_wp2_with fail
  refine (Ad.out _ hb).mono ?_
  rintro e wk ⟨rfl, hb1⟩
  clear m_bx z_bx
  replace bx := bx.below hb1 bx.lt
  replace hb := hb.trans (hb1.mono hb.size)
  clear hb1
  have ba := Blk.new wk 27 #[.bool false, .slice none 0 0, .slice none 0 0, .int .u64 0]
  replace bx := bx.alloc (.cells #[.bool false, .slice none 0 0, .slice none 0 0, .int .u64 0] 27)
  replace hb := hb.alloc hb.size (.cells #[.bool false, .slice none 0 0, .slice none 0 0, .int .u64 0] 27)
  have m_bx := fun i => bx.cell i
  have m_ba := fun i => ba.cell i
  have z_bx := fun i => bx.frozen i
  have z_ba := fun i => ba.frozen i
  go_wp2_with fail
  generalize wk.alloc (.cells #[.bool false, .slice none 0 0, .slice none 0 0, .int .u64 0] 27) = wk1 at *
  generalize wk.heap.size = gba at *
  refine (Dr.out _ hb).mono ?_
  rintro e wk ⟨rfl, hb1⟩
  clear m_bx z_bx m_ba z_ba
  replace bx := bx.below hb1 bx.lt
  replace ba := ba.below hb1 ba.lt
  replace hb := hb.trans (hb1.mono hb.size)
  clear hb1
  have bb := Blk.new wk 27 #[.bool false, .slice none 0 0, .slice none 0 0, .int .u64 0]
  replace bx := bx.alloc (.cells #[.bool false, .slice none 0 0, .slice none 0 0, .int .u64 0] 27)
  replace ba := ba.alloc (.cells #[.bool false, .slice none 0 0, .slice none 0 0, .int .u64 0] 27)
  replace hb := hb.alloc hb.size (.cells #[.bool false, .slice none 0 0, .slice none 0 0, .int .u64 0] 27)
  have m_bx := fun i => bx.cell i
  have m_ba := fun i => ba.cell i
  have m_bb := fun i => bb.cell i
  have z_bx := fun i => bx.frozen i
  have z_ba := fun i => ba.frozen i
  have z_bb := fun i => bb.frozen i
  go_wp2_with fail
  generalize wk.alloc (.cells #[.bool false, .slice none 0 0, .slice none 0 0, .int .u64 0] 27) = wk1 at *
  generalize wk.heap.size = gbb at *
  refine (Rr.out _ hb).mono ?_
  rintro e wk ⟨rfl, hb1⟩
  clear m_bx z_bx m_ba z_ba m_bb z_bb
  replace bx := bx.below hb1 bx.lt
  replace ba := ba.below hb1 ba.lt
  replace bb := bb.below hb1 bb.lt
  replace hb := hb.trans (hb1.mono hb.size)
  clear hb1
  have m_bx := fun i => bx.cell i
  have m_ba := fun i => ba.cell i
  have m_bb := fun i => bb.cell i
  have z_bx := fun i => bx.frozen i
  have z_ba := fun i => ba.frozen i
  have z_bb := fun i => bb.frozen i
  go_wp2_with fail
  clear m_bx z_bx m_ba z_ba m_bb z_bb
  refine wp_region_heldZ [] (fun w' => w'.cell? ⟨w.heap.size, 0, none⟩ = some (.bool true) ∧ w'.cell? ⟨w.heap.size, 1, none⟩ = some (.slice A n c) ∧ w'.cell? ⟨w.heap.size, 2, none⟩ = some (.slice A' m c') ∧ w'.cell? ⟨w.heap.size, 3, none⟩ = some (.int .u64 l)) (by kernel_rfl) (by exact cellsN bx) (fun hHeld => ?_)
  replace bx := bx.drew
  replace ba := ba.drew
  replace bb := bb.drew
  replace hb := hb.drew
  generalize wk.drew = wj0 at *
  refine' wpAnyZ_takeA (i := 0) (v := ?_) (opAt rfl) (by kernel_rfl) (by kernel_rfl) (by kernel_rfl) (by kernel_rfl) (fun _ _ _ h => h) (by assumption) (by rfl) (fun w hSw => ?_) ?_
  rotate_left
  · (try dsimp only at hSw); go_simp; (try with_reducible rfl)
  try simp only [Act.put, List.setIfInBounds_toArray, List.set_cons_zero, List.set_cons_succ]
  refine wpAnyZ_ready (rs := [1]) (by kernel_rfl) (by simp) ?_
  refine AllReadyZ.cons (opAt rfl) (fun K hK => ?_) ?_
  · skip
    go_simp
    refine (Rt.out _ hb).mono ?_
    rintro e wj ⟨rfl, hb1⟩
    replace bx := bx.below hb1 bx.lt
    replace ba := ba.below hb1 ba.lt
    replace bb := bb.below hb1 bb.lt
    replace hb := hb.trans (hb1.mono hb.size)
    clear hb1
    try go_wp2_with fail
    refine hK.out _ _ (by exact cellsN bx) (fun hHeld => ?_)
    clear hK K
    try simp only [Act.put, List.setIfInBounds_toArray, List.set_cons_zero, List.set_cons_succ]
    refine' wpAnyZ_takeA (i := 2) (v := ?_) (opAt rfl) (by kernel_rfl) (by kernel_rfl) (by kernel_rfl) (by kernel_rfl) (fun _ _ _ h => h) (by assumption) (by rfl) (fun w hSw => ?_) ?_
    rotate_left
    · (try dsimp only at hSw); go_simp; (try with_reducible rfl)
    try simp only [Act.put, List.setIfInBounds_toArray, List.set_cons_zero, List.set_cons_succ]
    refine' wpAnyZ_takeA (i := 3) (v := ?_) (opAt rfl) (by kernel_rfl) (by kernel_rfl) (by kernel_rfl) (by kernel_rfl) (fun _ _ _ h => h) (by assumption) (by rfl) (fun w hSw => ?_) ?_
    rotate_left
    · (try dsimp only at hSw); go_simp; (try with_reducible rfl)
    try simp only [Act.put, List.setIfInBounds_toArray, List.set_cons_zero, List.set_cons_succ]
    refine' wpAnyZ_takeA (i := 4) (v := ?_) (opAt rfl) (by kernel_rfl) (by kernel_rfl) (by kernel_rfl) (by kernel_rfl) (fun _ _ _ h => h) (by assumption) (by rfl) (fun w hSw => ?_) ?_
    rotate_left
    · (try dsimp only at hSw); go_simp; (try with_reducible rfl)
    try simp only [Act.put, List.setIfInBounds_toArray, List.set_cons_zero, List.set_cons_succ]
    refine' wpAnyZ_takeA (i := 5) (v := ?_) (opAt rfl) (by kernel_rfl) (by kernel_rfl) (by kernel_rfl) (by kernel_rfl) (fun _ _ _ h => h) (by assumption) (by rfl) (fun w hSw => ?_) ?_
    rotate_left
    · (try dsimp only at hSw); go_simp; (try with_reducible rfl)
    try simp only [Act.put, List.setIfInBounds_toArray, List.set_cons_zero, List.set_cons_succ]
    refine' wpAnyZ_takeA (i := 7) (v := ?_) (opAt rfl) (by kernel_rfl) (by kernel_rfl) (by kernel_rfl) (by kernel_rfl) (fun _ _ _ h => h) (by assumption) (by rfl) (fun w hSw => ?_) ?_
    rotate_left
    · (try dsimp only at hSw); go_simp; (try with_reducible rfl)
    try simp only [Act.put, List.setIfInBounds_toArray, List.set_cons_zero, List.set_cons_succ]
    refine' wpAnyZ_takeA (i := 8) (v := ?_) (opAt rfl) (by kernel_rfl) (by kernel_rfl) (by kernel_rfl) (by kernel_rfl) (fun _ _ _ h => h) (by assumption) (by rfl) (fun w hSw => ?_) ?_
    rotate_left
    · (try dsimp only at hSw); go_simp; (try with_reducible rfl)
    try simp only [Act.put, List.setIfInBounds_toArray, List.set_cons_zero, List.set_cons_succ]
    refine wpAnyZ_ready (rs := [6]) (by kernel_rfl) (by simp) ?_
    refine AllReadyZ.cons (opAt rfl) (fun K hK => ?_) ?_
    · skip
      go_simp
      refine (Ch.out _ hb).mono ?_
      rintro e wj ⟨rfl, hb1⟩
      replace bx := bx.below hb1 bx.lt
      replace ba := ba.below hb1 ba.lt
      replace bb := bb.below hb1 bb.lt
      replace hb := hb.trans (hb1.mono hb.size)
      clear hb1
      try go_wp2_with fail
      refine hK.out _ _ (by exact cellsN bx) (fun hHeld => ?_)
      clear hK K
      try simp only [Act.put, List.setIfInBounds_toArray, List.set_cons_zero, List.set_cons_succ]
      refine wpAnyZ_ready (rs := [9]) (by kernel_rfl) (by simp) ?_
      refine AllReadyZ.cons (opAt rfl) (fun K hK => ?_) ?_
      · skip
        go_simp
        refine (Rc.out _ hb).mono ?_
        rintro e wj ⟨rfl, hb1⟩
        replace bx := bx.below hb1 bx.lt
        replace ba := ba.below hb1 ba.lt
        replace bb := bb.below hb1 bb.lt
        replace hb := hb.trans (hb1.mono hb.size)
        clear hb1
        try go_wp2_with fail
        refine hK.out _ _ (by exact cellsN bx) (fun hHeld => ?_)
        clear hK K
        try simp only [Act.put, List.setIfInBounds_toArray, List.set_cons_zero, List.set_cons_succ]
        refine' wpAnyZ_takeA (i := 10) (v := ?_) (opAt rfl) (by kernel_rfl) (by kernel_rfl) (by kernel_rfl) (by kernel_rfl) (fun _ _ _ h => h) (by assumption) (by rfl) (fun w hSw => ?_) ?_
        rotate_left
        · (try dsimp only at hSw); go_simp; (try with_reducible rfl)
        try simp only [Act.put, List.setIfInBounds_toArray, List.set_cons_zero, List.set_cons_succ]
        refine' wpAnyZ_takeA (i := 11) (v := ?_) (opAt rfl) (by kernel_rfl) (by kernel_rfl) (by kernel_rfl) (by kernel_rfl) (fun _ _ _ h => h) (by assumption) (by rfl) (fun w hSw => ?_) ?_
        rotate_left
        · (try dsimp only at hSw); go_simp; (try with_reducible rfl)
        try simp only [Act.put, List.setIfInBounds_toArray, List.set_cons_zero, List.set_cons_succ]
        refine wpAnyZ_done (by kernel_rfl) ?_ _
        have HWbx := hide (Nat.ne_of_lt bx.lt)
        have HWba := hide (Nat.ne_of_lt ba.lt)
        have HWbb := hide (Nat.ne_of_lt bb.lt)
        have HWg := hide hb.size
        have bw := Blk.new wj 27 #[.bool false, .slice none 0 0, .slice none 0 0, .int .u64 0]
        replace bx := bx.alloc (.cells #[.bool false, .slice none 0 0, .slice none 0 0, .int .u64 0] 27)
        replace ba := ba.alloc (.cells #[.bool false, .slice none 0 0, .slice none 0 0, .int .u64 0] 27)
        replace bb := bb.alloc (.cells #[.bool false, .slice none 0 0, .slice none 0 0, .int .u64 0] 27)
        replace hb := hb.alloc hb.size (.cells #[.bool false, .slice none 0 0, .slice none 0 0, .int .u64 0] 27)
        have p_bx := fun i => bx.cell i
        have HWL := hide (show wj.heap.size ≠ wj.heap.size + 1 by omega)
        have HLbx := hide (show w.heap.size ≠ wj.heap.size + 1 by have := HWbx.out; have := bx.lt; rw [World.size_alloc] at this; omega)
        have HLba := hide (show gba ≠ wj.heap.size + 1 by have := HWba.out; have := ba.lt; rw [World.size_alloc] at this; omega)
        have HLbb := hide (show gbb ≠ wj.heap.size + 1 by have := HWbb.out; have := bb.lt; rw [World.size_alloc] at this; omega)
        have HLg := hide (show w.heap.size ≤ wj.heap.size + 1 by have := HWg.out; omega)
        have bl_ := Blk.new (wj.alloc (.cells #[.bool false, .slice none 0 0, .slice none 0 0, .int .u64 0] 27)) 27 #[.bool false, .slice none 0 0, .slice none 0 0, .int .u64 0]
        replace bx := bx.alloc (.cells #[.bool false, .slice none 0 0, .slice none 0 0, .int .u64 0] 27)
        replace ba := ba.alloc (.cells #[.bool false, .slice none 0 0, .slice none 0 0, .int .u64 0] 27)
        replace bb := bb.alloc (.cells #[.bool false, .slice none 0 0, .slice none 0 0, .int .u64 0] 27)
        replace bw := bw.alloc (.cells #[.bool false, .slice none 0 0, .slice none 0 0, .int .u64 0] 27)
        replace hb := hb.alloc hb.size (.cells #[.bool false, .slice none 0 0, .slice none 0 0, .int .u64 0] 27)
        rw [World.size_alloc] at bl_
        have m_bx := fun i => bx.cell i
        have m_ba := fun i => ba.cell i
        have m_bb := fun i => bb.cell i
        have m_bw := fun i => bw.cell i
        have m_bl_ := fun i => bl_.cell i
        have z_bx := fun i => bx.frozen i
        have z_ba := fun i => ba.frozen i
        have z_bb := fun i => bb.frozen i
        have z_bw := fun i => bw.frozen i
        have z_bl_ := fun i => bl_.frozen i
        go_wp2_with fail
        clear p_bx
        generalize (wj.alloc (.cells #[.bool false, .slice none 0 0, .slice none 0 0, .int .u64 0] 27)).alloc (.cells #[.bool false, .slice none 0 0, .slice none 0 0, .int .u64 0] 27) = wk1 at *
        generalize wj.heap.size + 1 = gl at *
        generalize wj.heap.size = gw at *
        have HLbw := HWL
        clear HWL
        refine (same_any _ _ false false [] [] [] [] 0 0 _ (by simp) (by simp) (by simp) (by simp) (Nd.zero _ _) (Nd.zero _ _)).mono ?_
        rw [same_yes]
        rintro e wk ⟨rfl, hb1⟩
        clear m_bx z_bx m_ba z_ba m_bb z_bb m_bw z_bw m_bl_ z_bl_
        replace bx := bx.below hb1 bx.lt
        replace ba := ba.below hb1 ba.lt
        replace bb := bb.below hb1 bb.lt
        replace bw := bw.below hb1 bw.lt
        replace bl_ := bl_.below hb1 bl_.lt
        replace hb := hb.trans (hb1.mono hb.size)
        clear hb1
        have m_bx := fun i => bx.cell i
        have m_ba := fun i => ba.cell i
        have m_bb := fun i => bb.cell i
        have m_bw := fun i => bw.cell i
        have m_bl_ := fun i => bl_.cell i
        have z_bx := fun i => bx.frozen i
        have z_ba := fun i => ba.frozen i
        have z_bb := fun i => bb.frozen i
        have z_bw := fun i => bw.frozen i
        have z_bl_ := fun i => bl_.frozen i
        go_wp2_with fail
        refine (none_any _ false [] [] 0 _ (by simp) (by simp) (Nd.zero _ _)).mono ?_
        rw [show sameB false [] [] 0 false [] [] 0 = true by decide]
        rintro e wk ⟨rfl, hb1⟩
        clear m_bx z_bx m_ba z_ba m_bb z_bb m_bw z_bw m_bl_ z_bl_
        replace bx := bx.below hb1 bx.lt
        replace ba := ba.below hb1 ba.lt
        replace bb := bb.below hb1 bb.lt
        replace bw := bw.below hb1 bw.lt
        replace bl_ := bl_.below hb1 bl_.lt
        replace hb := hb.trans (hb1.mono hb.size)
        clear hb1
        have m_bx := fun i => bx.cell i
        have m_ba := fun i => ba.cell i
        have m_bb := fun i => bb.cell i
        have m_bw := fun i => bw.cell i
        have m_bl_ := fun i => bl_.cell i
        have z_bx := fun i => bx.frozen i
        have z_ba := fun i => ba.frozen i
        have z_bb := fun i => bb.frozen i
        have z_bw := fun i => bw.frozen i
        have z_bl_ := fun i => bl_.frozen i
        go_wp2_with fail
        refine (same_any _ _ false false [] [] [] [] 0 0 _ (by simp) (by simp) (by simp) (by simp) (Nd.zero _ _) (Nd.zero _ _)).mono ?_
        rw [same_yes]
        rintro e wk ⟨rfl, hb1⟩
        clear m_bx z_bx m_ba z_ba m_bb z_bb m_bw z_bw m_bl_ z_bl_
        replace bx := bx.below hb1 bx.lt
        replace ba := ba.below hb1 ba.lt
        replace bb := bb.below hb1 bb.lt
        replace bw := bw.below hb1 bw.lt
        replace bl_ := bl_.below hb1 bl_.lt
        replace hb := hb.trans (hb1.mono hb.size)
        clear hb1
        have m_bx := fun i => bx.cell i
        have m_ba := fun i => ba.cell i
        have m_bb := fun i => bb.cell i
        have m_bw := fun i => bw.cell i
        have m_bl_ := fun i => bl_.cell i
        have z_bx := fun i => bx.frozen i
        have z_ba := fun i => ba.frozen i
        have z_bb := fun i => bb.frozen i
        have z_bw := fun i => bw.frozen i
        have z_bl_ := fun i => bl_.frozen i
        go_wp2_with fail
        refine (none_any _ false [] [] 0 _ (by simp) (by simp) (Nd.zero _ _)).mono ?_
        rw [show sameB false [] [] 0 false [] [] 0 = true by decide]
        rintro e wk ⟨rfl, hb1⟩
        clear m_bx z_bx m_ba z_ba m_bb z_bb m_bw z_bw m_bl_ z_bl_
        replace bx := bx.below hb1 bx.lt
        replace ba := ba.below hb1 ba.lt
        replace bb := bb.below hb1 bb.lt
        replace bw := bw.below hb1 bw.lt
        replace bl_ := bl_.below hb1 bl_.lt
        replace hb := hb.trans (hb1.mono hb.size)
        clear hb1
        have m_bx := fun i => bx.cell i
        have m_ba := fun i => ba.cell i
        have m_bb := fun i => bb.cell i
        have m_bw := fun i => bw.cell i
        have m_bl_ := fun i => bl_.cell i
        have z_bx := fun i => bx.frozen i
        have z_ba := fun i => ba.frozen i
        have z_bb := fun i => bb.frozen i
        have z_bw := fun i => bw.frozen i
        have z_bl_ := fun i => bl_.frozen i
        go_wp2_with fail
        refine (awake13 _).mono ?_
        rintro e wk ⟨rfl, hb1⟩
        replace hb := hb.trans (hb1.mono hb.size)
        go_wp2_with fail
        go_ret
        exact ⟨rfl, hb⟩
      exact AllReadyZ.nil
    exact AllReadyZ.nil
  exact AllReadyZ.nil
set_option maxRecDepth 100000 in
set_option maxHeartbeats 4000000 in
theorem t_over (v : Value) (ks vs : List Int) (l i key child : Int) (w : World) (h : Nd w w.heap.size v true ks vs l) (hk : ks.length ≤ 80) (hv : vs.length ≤ 80) (hr : rightI true ks vs = true) (Ad0 : ∀ w2, Below w.heap.size w w2 → Calls Try.prog 17 #[v, .int .i64 i, .int .u64 key, .int .u64 child] w2 fun e w' => e = .returned (.tuple #[.agg #[.bool false, .slice none 0 0, .slice none 0 0, .int .u64 0], .bool false]) ∧ Below w2.heap.size w2 w') (Dr0 : ∀ w2, Below w.heap.size w w2 → Calls Try.prog 18 #[v, .int .i64 i] w2 fun e w' => e = .returned (.tuple #[.agg #[.bool false, .slice none 0 0, .slice none 0 0, .int .u64 0], .bool false]) ∧ Below w2.heap.size w2 w') (q0 : decide ((1 : Int) ≤ i) = true) (q1 : decide (i ≤ (vs.length : Int)) = false) (q2 : decide ((0 : Int) ≤ i) = true) (q3 : decide (i < (vs.length : Int)) = false) :
    Calls Try.prog 5 #[v, .int .i64 i, .int .u64 key, .int .u64 child] w fun e w' => e = .returned (.bool true) ∧ Below w.heap.size w w' := by
  have Ad := hide Ad0
  have Dr := hide Dr0
  clear Ad0 Dr0
  have Rr := hide (fun w2 (hB : Below w.heap.size w w2) => irright_any v true ks vs l w2 (by omega) ((h.below hB).more hB.size))
  have Rt := hide (fun w2 (hB : Below w.heap.size w w2) => iright_any v true ks vs l w2 (by omega) ((h.below hB).more hB.size))
  have Ch := hide (fun w2 (hB : Below w.heap.size w w2) => child_any v true ks vs l key w2 (by omega) ((h.below hB).more hB.size))
  have Rc := hide (fun w2 (hB : Below w.heap.size w w2) => rchild_any v true ks vs l key w2 (by omega) ((h.below hB).more hB.size))
  rw [child_right hr] at Ch
  rw [hr] at Rr Rt
  obtain ⟨A, c, A', c', rfl⟩ := ValN w true ks vs l v h
  have Sm := hide (fun w2 => small_any true A A' ks.length c vs.length c' l w2)
  rw [show (decide (ks.length ≤ 80) && decide (vs.length ≤ 80)) = true by simp; omega] at Sm
  clear h hk hv hr
  generalize upN key ks = kc at *
  generalize ks.length = n at *
  generalize vs.length = m at *
  have hb := (Below.refl w.heap.size w).alloc (Nat.le_refl _) (.cells #[.bool true, .slice A n c, .slice A' m c', .int .u64 l] 27)
  have bx := Blk.new w 27 #[.bool true, .slice A n c, .slice A' m c', .int .u64 l]
  have m_bx := fun i => bx.cell i
  have z_bx := fun i => bx.frozen i
  go_enter Try.func5, Try.ntmps5
  go_wp2_with fail
  refine (Sm.out _).mono ?_
  rintro e wk ⟨rfl, hb1⟩
  clear m_bx z_bx
  replace bx := bx.below hb1 bx.lt
  replace hb := hb.trans (hb1.mono hb.size)
  clear hb1
  have m_bx := fun i => bx.cell i
  have z_bx := fun i => bx.frozen i
  go_wp2_with fail
  refine (Ad.out _ hb).mono ?_
  rintro e wk ⟨rfl, hb1⟩
  clear m_bx z_bx
  replace bx := bx.below hb1 bx.lt
  replace hb := hb.trans (hb1.mono hb.size)
  clear hb1
  have ba := Blk.new wk 27 #[.bool false, .slice none 0 0, .slice none 0 0, .int .u64 0]
  replace bx := bx.alloc (.cells #[.bool false, .slice none 0 0, .slice none 0 0, .int .u64 0] 27)
  replace hb := hb.alloc hb.size (.cells #[.bool false, .slice none 0 0, .slice none 0 0, .int .u64 0] 27)
  have m_bx := fun i => bx.cell i
  have m_ba := fun i => ba.cell i
  have z_bx := fun i => bx.frozen i
  have z_ba := fun i => ba.frozen i
  go_wp2_with fail
  generalize wk.alloc (.cells #[.bool false, .slice none 0 0, .slice none 0 0, .int .u64 0] 27) = wk1 at *
  generalize wk.heap.size = gba at *
  refine (Dr.out _ hb).mono ?_
  rintro e wk ⟨rfl, hb1⟩
  clear m_bx z_bx m_ba z_ba
  replace bx := bx.below hb1 bx.lt
  replace ba := ba.below hb1 ba.lt
  replace hb := hb.trans (hb1.mono hb.size)
  clear hb1
  have bb := Blk.new wk 27 #[.bool false, .slice none 0 0, .slice none 0 0, .int .u64 0]
  replace bx := bx.alloc (.cells #[.bool false, .slice none 0 0, .slice none 0 0, .int .u64 0] 27)
  replace ba := ba.alloc (.cells #[.bool false, .slice none 0 0, .slice none 0 0, .int .u64 0] 27)
  replace hb := hb.alloc hb.size (.cells #[.bool false, .slice none 0 0, .slice none 0 0, .int .u64 0] 27)
  have m_bx := fun i => bx.cell i
  have m_ba := fun i => ba.cell i
  have m_bb := fun i => bb.cell i
  have z_bx := fun i => bx.frozen i
  have z_ba := fun i => ba.frozen i
  have z_bb := fun i => bb.frozen i
  go_wp2_with fail
  generalize wk.alloc (.cells #[.bool false, .slice none 0 0, .slice none 0 0, .int .u64 0] 27) = wk1 at *
  generalize wk.heap.size = gbb at *
  refine (Rr.out _ hb).mono ?_
  rintro e wk ⟨rfl, hb1⟩
  clear m_bx z_bx m_ba z_ba m_bb z_bb
  replace bx := bx.below hb1 bx.lt
  replace ba := ba.below hb1 ba.lt
  replace bb := bb.below hb1 bb.lt
  replace hb := hb.trans (hb1.mono hb.size)
  clear hb1
  have m_bx := fun i => bx.cell i
  have m_ba := fun i => ba.cell i
  have m_bb := fun i => bb.cell i
  have z_bx := fun i => bx.frozen i
  have z_ba := fun i => ba.frozen i
  have z_bb := fun i => bb.frozen i
  go_wp2_with fail
  clear m_bx z_bx m_ba z_ba m_bb z_bb
  refine wp_region_heldZ [] (fun w' => w'.cell? ⟨w.heap.size, 0, none⟩ = some (.bool true) ∧ w'.cell? ⟨w.heap.size, 1, none⟩ = some (.slice A n c) ∧ w'.cell? ⟨w.heap.size, 2, none⟩ = some (.slice A' m c') ∧ w'.cell? ⟨w.heap.size, 3, none⟩ = some (.int .u64 l)) (by kernel_rfl) (by exact cellsN bx) (fun hHeld => ?_)
  replace bx := bx.drew
  replace ba := ba.drew
  replace bb := bb.drew
  replace hb := hb.drew
  generalize wk.drew = wj0 at *
  refine' wpAnyZ_takeA (i := 0) (v := ?_) (opAt rfl) (by kernel_rfl) (by kernel_rfl) (by kernel_rfl) (by kernel_rfl) (fun _ _ _ h => h) (by assumption) (by rfl) (fun w hSw => ?_) ?_
  rotate_left
  · (try dsimp only at hSw); go_simp; (try with_reducible rfl)
  try simp only [Act.put, List.setIfInBounds_toArray, List.set_cons_zero, List.set_cons_succ]
  refine wpAnyZ_ready (rs := [1]) (by kernel_rfl) (by simp) ?_
  refine AllReadyZ.cons (opAt rfl) (fun K hK => ?_) ?_
  · skip
    go_simp
    refine (Rt.out _ hb).mono ?_
    rintro e wj ⟨rfl, hb1⟩
    replace bx := bx.below hb1 bx.lt
    replace ba := ba.below hb1 ba.lt
    replace bb := bb.below hb1 bb.lt
    replace hb := hb.trans (hb1.mono hb.size)
    clear hb1
    try go_wp2_with fail
    refine hK.out _ _ (by exact cellsN bx) (fun hHeld => ?_)
    clear hK K
    try simp only [Act.put, List.setIfInBounds_toArray, List.set_cons_zero, List.set_cons_succ]
    refine' wpAnyZ_takeA (i := 2) (v := ?_) (opAt rfl) (by kernel_rfl) (by kernel_rfl) (by kernel_rfl) (by kernel_rfl) (fun _ _ _ h => h) (by assumption) (by rfl) (fun w hSw => ?_) ?_
    rotate_left
    · (try dsimp only at hSw); go_simp; (try with_reducible rfl)
    try simp only [Act.put, List.setIfInBounds_toArray, List.set_cons_zero, List.set_cons_succ]
    refine' wpAnyZ_takeA (i := 3) (v := ?_) (opAt rfl) (by kernel_rfl) (by kernel_rfl) (by kernel_rfl) (by kernel_rfl) (fun _ _ _ h => h) (by assumption) (by rfl) (fun w hSw => ?_) ?_
    rotate_left
    · (try dsimp only at hSw); go_simp; (try with_reducible rfl)
    try simp only [Act.put, List.setIfInBounds_toArray, List.set_cons_zero, List.set_cons_succ]
    refine' wpAnyZ_takeA (i := 4) (v := ?_) (opAt rfl) (by kernel_rfl) (by kernel_rfl) (by kernel_rfl) (by kernel_rfl) (fun _ _ _ h => h) (by assumption) (by rfl) (fun w hSw => ?_) ?_
    rotate_left
    · (try dsimp only at hSw); go_simp; (try with_reducible rfl)
    try simp only [Act.put, List.setIfInBounds_toArray, List.set_cons_zero, List.set_cons_succ]
    refine' wpAnyZ_takeA (i := 5) (v := ?_) (opAt rfl) (by kernel_rfl) (by kernel_rfl) (by kernel_rfl) (by kernel_rfl) (fun _ _ _ h => h) (by assumption) (by rfl) (fun w hSw => ?_) ?_
    rotate_left
    · (try dsimp only at hSw); go_simp; (try with_reducible rfl)
    try simp only [Act.put, List.setIfInBounds_toArray, List.set_cons_zero, List.set_cons_succ]
    refine' wpAnyZ_takeA (i := 7) (v := ?_) (opAt rfl) (by kernel_rfl) (by kernel_rfl) (by kernel_rfl) (by kernel_rfl) (fun _ _ _ h => h) (by assumption) (by rfl) (fun w hSw => ?_) ?_
    rotate_left
    · (try dsimp only at hSw); go_simp; (try with_reducible rfl)
    try simp only [Act.put, List.setIfInBounds_toArray, List.set_cons_zero, List.set_cons_succ]
    refine' wpAnyZ_takeA (i := 8) (v := ?_) (opAt rfl) (by kernel_rfl) (by kernel_rfl) (by kernel_rfl) (by kernel_rfl) (fun _ _ _ h => h) (by assumption) (by rfl) (fun w hSw => ?_) ?_
    rotate_left
    · (try dsimp only at hSw); go_simp; (try with_reducible rfl)
    try simp only [Act.put, List.setIfInBounds_toArray, List.set_cons_zero, List.set_cons_succ]
    refine wpAnyZ_ready (rs := [6]) (by kernel_rfl) (by simp) ?_
    refine AllReadyZ.cons (opAt rfl) (fun K hK => ?_) ?_
    · skip
      go_simp
      refine (Ch.out _ hb).mono ?_
      rintro e wj ⟨rfl, hb1⟩
      replace bx := bx.below hb1 bx.lt
      replace ba := ba.below hb1 ba.lt
      replace bb := bb.below hb1 bb.lt
      replace hb := hb.trans (hb1.mono hb.size)
      clear hb1
      try go_wp2_with fail
      refine hK.out _ _ (by exact cellsN bx) (fun hHeld => ?_)
      clear hK K
      try simp only [Act.put, List.setIfInBounds_toArray, List.set_cons_zero, List.set_cons_succ]
      refine wpAnyZ_ready (rs := [9]) (by kernel_rfl) (by simp) ?_
      refine AllReadyZ.cons (opAt rfl) (fun K hK => ?_) ?_
      · skip
        go_simp
        refine (Rc.out _ hb).mono ?_
        rintro e wj ⟨rfl, hb1⟩
        replace bx := bx.below hb1 bx.lt
        replace ba := ba.below hb1 ba.lt
        replace bb := bb.below hb1 bb.lt
        replace hb := hb.trans (hb1.mono hb.size)
        clear hb1
        try go_wp2_with fail
        refine hK.out _ _ (by exact cellsN bx) (fun hHeld => ?_)
        clear hK K
        try simp only [Act.put, List.setIfInBounds_toArray, List.set_cons_zero, List.set_cons_succ]
        refine' wpAnyZ_takeA (i := 10) (v := ?_) (opAt rfl) (by kernel_rfl) (by kernel_rfl) (by kernel_rfl) (by kernel_rfl) (fun _ _ _ h => h) (by assumption) (by rfl) (fun w hSw => ?_) ?_
        rotate_left
        · (try dsimp only at hSw); go_simp; (try with_reducible rfl)
        try simp only [Act.put, List.setIfInBounds_toArray, List.set_cons_zero, List.set_cons_succ]
        refine' wpAnyZ_takeA (i := 11) (v := ?_) (opAt rfl) (by kernel_rfl) (by kernel_rfl) (by kernel_rfl) (by kernel_rfl) (fun _ _ _ h => h) (by assumption) (by rfl) (fun w hSw => ?_) ?_
        rotate_left
        · (try dsimp only at hSw); go_simp; (try with_reducible rfl)
        try simp only [Act.put, List.setIfInBounds_toArray, List.set_cons_zero, List.set_cons_succ]
        refine wpAnyZ_done (by kernel_rfl) ?_ _
        have HWbx := hide (Nat.ne_of_lt bx.lt)
        have HWba := hide (Nat.ne_of_lt ba.lt)
        have HWbb := hide (Nat.ne_of_lt bb.lt)
        have HWg := hide hb.size
        have bw := Blk.new wj 27 #[.bool false, .slice none 0 0, .slice none 0 0, .int .u64 0]
        replace bx := bx.alloc (.cells #[.bool false, .slice none 0 0, .slice none 0 0, .int .u64 0] 27)
        replace ba := ba.alloc (.cells #[.bool false, .slice none 0 0, .slice none 0 0, .int .u64 0] 27)
        replace bb := bb.alloc (.cells #[.bool false, .slice none 0 0, .slice none 0 0, .int .u64 0] 27)
        replace hb := hb.alloc hb.size (.cells #[.bool false, .slice none 0 0, .slice none 0 0, .int .u64 0] 27)
        have p_bx := fun i => bx.cell i
        have HWL := hide (show wj.heap.size ≠ wj.heap.size + 1 by omega)
        have HLbx := hide (show w.heap.size ≠ wj.heap.size + 1 by have := HWbx.out; have := bx.lt; rw [World.size_alloc] at this; omega)
        have HLba := hide (show gba ≠ wj.heap.size + 1 by have := HWba.out; have := ba.lt; rw [World.size_alloc] at this; omega)
        have HLbb := hide (show gbb ≠ wj.heap.size + 1 by have := HWbb.out; have := bb.lt; rw [World.size_alloc] at this; omega)
        have HLg := hide (show w.heap.size ≤ wj.heap.size + 1 by have := HWg.out; omega)
        have bl_ := Blk.new (wj.alloc (.cells #[.bool false, .slice none 0 0, .slice none 0 0, .int .u64 0] 27)) 27 #[.bool false, .slice none 0 0, .slice none 0 0, .int .u64 0]
        replace bx := bx.alloc (.cells #[.bool false, .slice none 0 0, .slice none 0 0, .int .u64 0] 27)
        replace ba := ba.alloc (.cells #[.bool false, .slice none 0 0, .slice none 0 0, .int .u64 0] 27)
        replace bb := bb.alloc (.cells #[.bool false, .slice none 0 0, .slice none 0 0, .int .u64 0] 27)
        replace bw := bw.alloc (.cells #[.bool false, .slice none 0 0, .slice none 0 0, .int .u64 0] 27)
        replace hb := hb.alloc hb.size (.cells #[.bool false, .slice none 0 0, .slice none 0 0, .int .u64 0] 27)
        rw [World.size_alloc] at bl_
        have m_bx := fun i => bx.cell i
        have m_ba := fun i => ba.cell i
        have m_bb := fun i => bb.cell i
        have m_bw := fun i => bw.cell i
        have m_bl_ := fun i => bl_.cell i
        have z_bx := fun i => bx.frozen i
        have z_ba := fun i => ba.frozen i
        have z_bb := fun i => bb.frozen i
        have z_bw := fun i => bw.frozen i
        have z_bl_ := fun i => bl_.frozen i
        go_wp2_with fail
        clear p_bx
        generalize (wj.alloc (.cells #[.bool false, .slice none 0 0, .slice none 0 0, .int .u64 0] 27)).alloc (.cells #[.bool false, .slice none 0 0, .slice none 0 0, .int .u64 0] 27) = wk1 at *
        generalize wj.heap.size + 1 = gl at *
        generalize wj.heap.size = gw at *
        have HLbw := HWL
        clear HWL
        refine (same_any _ _ false false [] [] [] [] 0 0 _ (by simp) (by simp) (by simp) (by simp) (Nd.zero _ _) (Nd.zero _ _)).mono ?_
        rw [same_yes]
        rintro e wk ⟨rfl, hb1⟩
        clear m_bx z_bx m_ba z_ba m_bb z_bb m_bw z_bw m_bl_ z_bl_
        replace bx := bx.below hb1 bx.lt
        replace ba := ba.below hb1 ba.lt
        replace bb := bb.below hb1 bb.lt
        replace bw := bw.below hb1 bw.lt
        replace bl_ := bl_.below hb1 bl_.lt
        replace hb := hb.trans (hb1.mono hb.size)
        clear hb1
        have m_bx := fun i => bx.cell i
        have m_ba := fun i => ba.cell i
        have m_bb := fun i => bb.cell i
        have m_bw := fun i => bw.cell i
        have m_bl_ := fun i => bl_.cell i
        have z_bx := fun i => bx.frozen i
        have z_ba := fun i => ba.frozen i
        have z_bb := fun i => bb.frozen i
        have z_bw := fun i => bw.frozen i
        have z_bl_ := fun i => bl_.frozen i
        go_wp2_with fail
        refine (none_any _ false [] [] 0 _ (by simp) (by simp) (Nd.zero _ _)).mono ?_
        rw [show sameB false [] [] 0 false [] [] 0 = true by decide]
        rintro e wk ⟨rfl, hb1⟩
        clear m_bx z_bx m_ba z_ba m_bb z_bb m_bw z_bw m_bl_ z_bl_
        replace bx := bx.below hb1 bx.lt
        replace ba := ba.below hb1 ba.lt
        replace bb := bb.below hb1 bb.lt
        replace bw := bw.below hb1 bw.lt
        replace bl_ := bl_.below hb1 bl_.lt
        replace hb := hb.trans (hb1.mono hb.size)
        clear hb1
        have m_bx := fun i => bx.cell i
        have m_ba := fun i => ba.cell i
        have m_bb := fun i => bb.cell i
        have m_bw := fun i => bw.cell i
        have m_bl_ := fun i => bl_.cell i
        have z_bx := fun i => bx.frozen i
        have z_ba := fun i => ba.frozen i
        have z_bb := fun i => bb.frozen i
        have z_bw := fun i => bw.frozen i
        have z_bl_ := fun i => bl_.frozen i
        go_wp2_with fail
        refine (same_any _ _ false false [] [] [] [] 0 0 _ (by simp) (by simp) (by simp) (by simp) (Nd.zero _ _) (Nd.zero _ _)).mono ?_
        rw [same_yes]
        rintro e wk ⟨rfl, hb1⟩
        clear m_bx z_bx m_ba z_ba m_bb z_bb m_bw z_bw m_bl_ z_bl_
        replace bx := bx.below hb1 bx.lt
        replace ba := ba.below hb1 ba.lt
        replace bb := bb.below hb1 bb.lt
        replace bw := bw.below hb1 bw.lt
        replace bl_ := bl_.below hb1 bl_.lt
        replace hb := hb.trans (hb1.mono hb.size)
        clear hb1
        have m_bx := fun i => bx.cell i
        have m_ba := fun i => ba.cell i
        have m_bb := fun i => bb.cell i
        have m_bw := fun i => bw.cell i
        have m_bl_ := fun i => bl_.cell i
        have z_bx := fun i => bx.frozen i
        have z_ba := fun i => ba.frozen i
        have z_bb := fun i => bb.frozen i
        have z_bw := fun i => bw.frozen i
        have z_bl_ := fun i => bl_.frozen i
        go_wp2_with fail
        refine (none_any _ false [] [] 0 _ (by simp) (by simp) (Nd.zero _ _)).mono ?_
        rw [show sameB false [] [] 0 false [] [] 0 = true by decide]
        rintro e wk ⟨rfl, hb1⟩
        clear m_bx z_bx m_ba z_ba m_bb z_bb m_bw z_bw m_bl_ z_bl_
        replace bx := bx.below hb1 bx.lt
        replace ba := ba.below hb1 ba.lt
        replace bb := bb.below hb1 bb.lt
        replace bw := bw.below hb1 bw.lt
        replace bl_ := bl_.below hb1 bl_.lt
        replace hb := hb.trans (hb1.mono hb.size)
        clear hb1
        have m_bx := fun i => bx.cell i
        have m_ba := fun i => ba.cell i
        have m_bb := fun i => bb.cell i
        have m_bw := fun i => bw.cell i
        have m_bl_ := fun i => bl_.cell i
        have z_bx := fun i => bx.frozen i
        have z_ba := fun i => ba.frozen i
        have z_bb := fun i => bb.frozen i
        have z_bw := fun i => bw.frozen i
        have z_bl_ := fun i => bl_.frozen i
        go_wp2_with fail
        refine (awake13 _).mono ?_
        rintro e wk ⟨rfl, hb1⟩
        replace hb := hb.trans (hb1.mono hb.size)
        go_wp2_with fail
        go_ret
        exact ⟨rfl, hb⟩
      exact AllReadyZ.nil
    exact AllReadyZ.nil
  exact AllReadyZ.nil
set_option maxRecDepth 100000 in
set_option maxHeartbeats 4000000 in
theorem t_zero (v : Value) (ks vs : List Int) (l i key child : Int) (w : World) (h : Nd w w.heap.size v true ks vs l) (hk : ks.length ≤ 80) (hv : vs.length ≤ 80) (hr : rightI true ks vs = true) (x2 y2 : List Int) (hx2 : x2.length ≤ 1000) (hy2 : y2.length ≤ 1000) (Ad0 : ∀ w2, Below w.heap.size w w2 → Calls Try.prog 17 #[v, .int .i64 i, .int .u64 key, .int .u64 child] w2 fun e w' => e = .returned (.tuple #[.agg #[.bool false, .slice none 0 0, .slice none 0 0, .int .u64 0], .bool false]) ∧ Below w2.heap.size w2 w') (Dr0 : ∀ w2, Below w.heap.size w w2 → Calls Try.prog 18 #[v, .int .i64 i] w2 fun e w' => (∃ u, e = .returned (.tuple #[u, .bool true]) ∧ NdO w' w2.heap.size u true x2 y2 l) ∧ Below w2.heap.size w2 w') (Rd0 : ∀ w2, Below w.heap.size w w2 → Calls Try.prog 23 #[v, .int .i64 i] w2 fun e w' => (∃ u, e = .returned u ∧ NdO w' w2.heap.size u true x2 y2 l) ∧ Below w2.heap.size w2 w') (q0 : decide ((1 : Int) ≤ i) = false) (q1 : decide ((0 : Int) ≤ i) = true) (q2 : decide (i < (vs.length : Int)) = true) (q3 : decide ((1 : Int) < (vs.length : Int)) = true) :
    Calls Try.prog 5 #[v, .int .i64 i, .int .u64 key, .int .u64 child] w fun e w' => e = .returned (.bool true) ∧ Below w.heap.size w w' := by
  have Ad := hide Ad0
  have Dr := hide Dr0
  have Rd := hide Rd0
  have Hx2 := hide (show x2.length ≤ 1000000 by omega)
  have Hy2 := hide (show y2.length ≤ 1000000 by omega)
  clear Ad0 Dr0 Rd0 hx2 hy2
  have Rr := hide (fun w2 (hB : Below w.heap.size w w2) => irright_any v true ks vs l w2 (by omega) ((h.below hB).more hB.size))
  have Rt := hide (fun w2 (hB : Below w.heap.size w w2) => iright_any v true ks vs l w2 (by omega) ((h.below hB).more hB.size))
  have Ch := hide (fun w2 (hB : Below w.heap.size w w2) => child_any v true ks vs l key w2 (by omega) ((h.below hB).more hB.size))
  have Rc := hide (fun w2 (hB : Below w.heap.size w w2) => rchild_any v true ks vs l key w2 (by omega) ((h.below hB).more hB.size))
  rw [child_right hr] at Ch
  rw [hr] at Rr Rt
  obtain ⟨A, c, A', c', rfl⟩ := ValN w true ks vs l v h
  have Sm := hide (fun w2 => small_any true A A' ks.length c vs.length c' l w2)
  rw [show (decide (ks.length ≤ 80) && decide (vs.length ≤ 80)) = true by simp; omega] at Sm
  clear h hk hv hr
  generalize upN key ks = kc at *
  generalize ks.length = n at *
  generalize vs.length = m at *
  have hb := (Below.refl w.heap.size w).alloc (Nat.le_refl _) (.cells #[.bool true, .slice A n c, .slice A' m c', .int .u64 l] 27)
  have bx := Blk.new w 27 #[.bool true, .slice A n c, .slice A' m c', .int .u64 l]
  have m_bx := fun i => bx.cell i
  have z_bx := fun i => bx.frozen i
  go_enter Try.func5, Try.ntmps5
  go_wp2_with fail
  refine (Sm.out _).mono ?_
  rintro e wk ⟨rfl, hb1⟩
  clear m_bx z_bx
  replace bx := bx.below hb1 bx.lt
  replace hb := hb.trans (hb1.mono hb.size)
  clear hb1
  have m_bx := fun i => bx.cell i
  have z_bx := fun i => bx.frozen i
  go_wp2_with fail
  refine (Ad.out _ hb).mono ?_
  rintro e wk ⟨rfl, hb1⟩
  clear m_bx z_bx
  replace bx := bx.below hb1 bx.lt
  replace hb := hb.trans (hb1.mono hb.size)
  clear hb1
  have ba := Blk.new wk 27 #[.bool false, .slice none 0 0, .slice none 0 0, .int .u64 0]
  replace bx := bx.alloc (.cells #[.bool false, .slice none 0 0, .slice none 0 0, .int .u64 0] 27)
  replace hb := hb.alloc hb.size (.cells #[.bool false, .slice none 0 0, .slice none 0 0, .int .u64 0] 27)
  have m_bx := fun i => bx.cell i
  have m_ba := fun i => ba.cell i
  have z_bx := fun i => bx.frozen i
  have z_ba := fun i => ba.frozen i
  go_wp2_with fail
  generalize wk.alloc (.cells #[.bool false, .slice none 0 0, .slice none 0 0, .int .u64 0] 27) = wk1 at *
  generalize wk.heap.size = gba at *
  refine (Dr.out _ hb).mono ?_
  rintro e wk ⟨⟨u, rfl, Nb⟩, hb1⟩
  clear m_bx z_bx m_ba z_ba
  replace bx := bx.below hb1 bx.lt
  replace ba := ba.below hb1 ba.lt
  replace hb := hb.trans (hb1.mono hb.size)
  clear hb1
  obtain ⟨A3, d3, A4, d4, rfl⟩ := Nb.val
  have bb := Blk.new wk 27 #[.bool true, .slice A3 x2.length d3, .slice A4 y2.length d4, .int .u64 l]
  replace Nb := Nb.below ((Below.refl wk.heap.size wk).alloc (Nat.le_refl _) (.cells #[.bool true, .slice A3 x2.length d3, .slice A4 y2.length d4, .int .u64 l] 27))
  replace bx := bx.alloc (.cells #[.bool true, .slice A3 x2.length d3, .slice A4 y2.length d4, .int .u64 l] 27)
  replace ba := ba.alloc (.cells #[.bool true, .slice A3 x2.length d3, .slice A4 y2.length d4, .int .u64 l] 27)
  replace hb := hb.alloc hb.size (.cells #[.bool true, .slice A3 x2.length d3, .slice A4 y2.length d4, .int .u64 l] 27)
  have m_bx := fun i => bx.cell i
  have m_ba := fun i => ba.cell i
  have m_bb := fun i => bb.cell i
  have z_bx := fun i => bx.frozen i
  have z_ba := fun i => ba.frozen i
  have z_bb := fun i => bb.frozen i
  go_wp2_with fail
  generalize wk.alloc (.cells #[.bool true, .slice A3 x2.length d3, .slice A4 y2.length d4, .int .u64 l] 27) = wk1 at *
  generalize wk.heap.size = gbb at *
  refine (Rr.out _ hb).mono ?_
  rintro e wk ⟨rfl, hb1⟩
  clear m_bx z_bx m_ba z_ba m_bb z_bb
  replace bx := bx.below hb1 bx.lt
  replace ba := ba.below hb1 ba.lt
  replace bb := bb.below hb1 bb.lt
  replace Nb := Nb.below hb1
  replace hb := hb.trans (hb1.mono hb.size)
  clear hb1
  have m_bx := fun i => bx.cell i
  have m_ba := fun i => ba.cell i
  have m_bb := fun i => bb.cell i
  have z_bx := fun i => bx.frozen i
  have z_ba := fun i => ba.frozen i
  have z_bb := fun i => bb.frozen i
  go_wp2_with fail
  clear m_bx z_bx m_ba z_ba m_bb z_bb
  refine wp_region_heldZ [] (fun w' => w'.cell? ⟨w.heap.size, 0, none⟩ = some (.bool true) ∧ w'.cell? ⟨w.heap.size, 1, none⟩ = some (.slice A n c) ∧ w'.cell? ⟨w.heap.size, 2, none⟩ = some (.slice A' m c') ∧ w'.cell? ⟨w.heap.size, 3, none⟩ = some (.int .u64 l)) (by kernel_rfl) (by exact cellsN bx) (fun hHeld => ?_)
  replace bx := bx.drew
  replace ba := ba.drew
  replace bb := bb.drew
  replace hb := hb.drew
  replace Nb := (show NdO wk.drew _ _ _ _ _ _ from Nb)
  generalize wk.drew = wj0 at *
  refine' wpAnyZ_takeA (i := 0) (v := ?_) (opAt rfl) (by kernel_rfl) (by kernel_rfl) (by kernel_rfl) (by kernel_rfl) (fun _ _ _ h => h) (by assumption) (by rfl) (fun w hSw => ?_) ?_
  rotate_left
  · (try dsimp only at hSw); go_simp; (try with_reducible rfl)
  try simp only [Act.put, List.setIfInBounds_toArray, List.set_cons_zero, List.set_cons_succ]
  refine wpAnyZ_ready (rs := [1]) (by kernel_rfl) (by simp) ?_
  refine AllReadyZ.cons (opAt rfl) (fun K hK => ?_) ?_
  · skip
    go_simp
    refine (Rt.out _ hb).mono ?_
    rintro e wj ⟨rfl, hb1⟩
    replace bx := bx.below hb1 bx.lt
    replace ba := ba.below hb1 ba.lt
    replace bb := bb.below hb1 bb.lt
    replace Nb := Nb.below hb1
    replace hb := hb.trans (hb1.mono hb.size)
    clear hb1
    try go_wp2_with fail
    refine hK.out _ _ (by exact cellsN bx) (fun hHeld => ?_)
    clear hK K
    try simp only [Act.put, List.setIfInBounds_toArray, List.set_cons_zero, List.set_cons_succ]
    refine' wpAnyZ_takeA (i := 2) (v := ?_) (opAt rfl) (by kernel_rfl) (by kernel_rfl) (by kernel_rfl) (by kernel_rfl) (fun _ _ _ h => h) (by assumption) (by rfl) (fun w hSw => ?_) ?_
    rotate_left
    · (try dsimp only at hSw); go_simp; (try with_reducible rfl)
    try simp only [Act.put, List.setIfInBounds_toArray, List.set_cons_zero, List.set_cons_succ]
    refine' wpAnyZ_takeA (i := 3) (v := ?_) (opAt rfl) (by kernel_rfl) (by kernel_rfl) (by kernel_rfl) (by kernel_rfl) (fun _ _ _ h => h) (by assumption) (by rfl) (fun w hSw => ?_) ?_
    rotate_left
    · (try dsimp only at hSw); go_simp; (try with_reducible rfl)
    try simp only [Act.put, List.setIfInBounds_toArray, List.set_cons_zero, List.set_cons_succ]
    refine' wpAnyZ_takeA (i := 4) (v := ?_) (opAt rfl) (by kernel_rfl) (by kernel_rfl) (by kernel_rfl) (by kernel_rfl) (fun _ _ _ h => h) (by assumption) (by rfl) (fun w hSw => ?_) ?_
    rotate_left
    · (try dsimp only at hSw); go_simp; (try with_reducible rfl)
    try simp only [Act.put, List.setIfInBounds_toArray, List.set_cons_zero, List.set_cons_succ]
    refine' wpAnyZ_takeA (i := 5) (v := ?_) (opAt rfl) (by kernel_rfl) (by kernel_rfl) (by kernel_rfl) (by kernel_rfl) (fun _ _ _ h => h) (by assumption) (by rfl) (fun w hSw => ?_) ?_
    rotate_left
    · (try dsimp only at hSw); go_simp; (try with_reducible rfl)
    try simp only [Act.put, List.setIfInBounds_toArray, List.set_cons_zero, List.set_cons_succ]
    refine' wpAnyZ_takeA (i := 7) (v := ?_) (opAt rfl) (by kernel_rfl) (by kernel_rfl) (by kernel_rfl) (by kernel_rfl) (fun _ _ _ h => h) (by assumption) (by rfl) (fun w hSw => ?_) ?_
    rotate_left
    · (try dsimp only at hSw); go_simp; (try with_reducible rfl)
    try simp only [Act.put, List.setIfInBounds_toArray, List.set_cons_zero, List.set_cons_succ]
    refine' wpAnyZ_takeA (i := 8) (v := ?_) (opAt rfl) (by kernel_rfl) (by kernel_rfl) (by kernel_rfl) (by kernel_rfl) (fun _ _ _ h => h) (by assumption) (by rfl) (fun w hSw => ?_) ?_
    rotate_left
    · (try dsimp only at hSw); go_simp; (try with_reducible rfl)
    try simp only [Act.put, List.setIfInBounds_toArray, List.set_cons_zero, List.set_cons_succ]
    refine wpAnyZ_ready (rs := [6]) (by kernel_rfl) (by simp) ?_
    refine AllReadyZ.cons (opAt rfl) (fun K hK => ?_) ?_
    · skip
      go_simp
      refine (Ch.out _ hb).mono ?_
      rintro e wj ⟨rfl, hb1⟩
      replace bx := bx.below hb1 bx.lt
      replace ba := ba.below hb1 ba.lt
      replace bb := bb.below hb1 bb.lt
      replace Nb := Nb.below hb1
      replace hb := hb.trans (hb1.mono hb.size)
      clear hb1
      try go_wp2_with fail
      refine hK.out _ _ (by exact cellsN bx) (fun hHeld => ?_)
      clear hK K
      try simp only [Act.put, List.setIfInBounds_toArray, List.set_cons_zero, List.set_cons_succ]
      refine wpAnyZ_ready (rs := [9]) (by kernel_rfl) (by simp) ?_
      refine AllReadyZ.cons (opAt rfl) (fun K hK => ?_) ?_
      · skip
        go_simp
        refine (Rc.out _ hb).mono ?_
        rintro e wj ⟨rfl, hb1⟩
        replace bx := bx.below hb1 bx.lt
        replace ba := ba.below hb1 ba.lt
        replace bb := bb.below hb1 bb.lt
        replace Nb := Nb.below hb1
        replace hb := hb.trans (hb1.mono hb.size)
        clear hb1
        try go_wp2_with fail
        refine hK.out _ _ (by exact cellsN bx) (fun hHeld => ?_)
        clear hK K
        try simp only [Act.put, List.setIfInBounds_toArray, List.set_cons_zero, List.set_cons_succ]
        refine' wpAnyZ_takeA (i := 10) (v := ?_) (opAt rfl) (by kernel_rfl) (by kernel_rfl) (by kernel_rfl) (by kernel_rfl) (fun _ _ _ h => h) (by assumption) (by rfl) (fun w hSw => ?_) ?_
        rotate_left
        · (try dsimp only at hSw); go_simp; (try with_reducible rfl)
        try simp only [Act.put, List.setIfInBounds_toArray, List.set_cons_zero, List.set_cons_succ]
        refine' wpAnyZ_takeA (i := 11) (v := ?_) (opAt rfl) (by kernel_rfl) (by kernel_rfl) (by kernel_rfl) (by kernel_rfl) (fun _ _ _ h => h) (by assumption) (by rfl) (fun w hSw => ?_) ?_
        rotate_left
        · (try dsimp only at hSw); go_simp; (try with_reducible rfl)
        try simp only [Act.put, List.setIfInBounds_toArray, List.set_cons_zero, List.set_cons_succ]
        refine wpAnyZ_done (by kernel_rfl) ?_ _
        have HWbx := hide (Nat.ne_of_lt bx.lt)
        have HWba := hide (Nat.ne_of_lt ba.lt)
        have HWbb := hide (Nat.ne_of_lt bb.lt)
        have HWg := hide hb.size
        have bw := Blk.new wj 27 #[.bool false, .slice none 0 0, .slice none 0 0, .int .u64 0]
        replace Nb := Nb.below ((Below.refl _ _).alloc (Nat.le_refl _) (.cells #[.bool false, .slice none 0 0, .slice none 0 0, .int .u64 0] 27))
        replace bx := bx.alloc (.cells #[.bool false, .slice none 0 0, .slice none 0 0, .int .u64 0] 27)
        replace ba := ba.alloc (.cells #[.bool false, .slice none 0 0, .slice none 0 0, .int .u64 0] 27)
        replace bb := bb.alloc (.cells #[.bool false, .slice none 0 0, .slice none 0 0, .int .u64 0] 27)
        replace hb := hb.alloc hb.size (.cells #[.bool false, .slice none 0 0, .slice none 0 0, .int .u64 0] 27)
        have p_bx := fun i => bx.cell i
        have HWL := hide (show wj.heap.size ≠ wj.heap.size + 1 by omega)
        have HLbx := hide (show w.heap.size ≠ wj.heap.size + 1 by have := HWbx.out; have := bx.lt; rw [World.size_alloc] at this; omega)
        have HLba := hide (show gba ≠ wj.heap.size + 1 by have := HWba.out; have := ba.lt; rw [World.size_alloc] at this; omega)
        have HLbb := hide (show gbb ≠ wj.heap.size + 1 by have := HWbb.out; have := bb.lt; rw [World.size_alloc] at this; omega)
        have HLg := hide (show w.heap.size ≤ wj.heap.size + 1 by have := HWg.out; omega)
        have bl_ := Blk.new (wj.alloc (.cells #[.bool false, .slice none 0 0, .slice none 0 0, .int .u64 0] 27)) 27 #[.bool false, .slice none 0 0, .slice none 0 0, .int .u64 0]
        replace Nb := Nb.below ((Below.refl _ _).alloc (Nat.le_refl _) (.cells #[.bool false, .slice none 0 0, .slice none 0 0, .int .u64 0] 27))
        replace bx := bx.alloc (.cells #[.bool false, .slice none 0 0, .slice none 0 0, .int .u64 0] 27)
        replace ba := ba.alloc (.cells #[.bool false, .slice none 0 0, .slice none 0 0, .int .u64 0] 27)
        replace bb := bb.alloc (.cells #[.bool false, .slice none 0 0, .slice none 0 0, .int .u64 0] 27)
        replace bw := bw.alloc (.cells #[.bool false, .slice none 0 0, .slice none 0 0, .int .u64 0] 27)
        replace hb := hb.alloc hb.size (.cells #[.bool false, .slice none 0 0, .slice none 0 0, .int .u64 0] 27)
        rw [World.size_alloc] at bl_
        have m_bx := fun i => bx.cell i
        have m_ba := fun i => ba.cell i
        have m_bb := fun i => bb.cell i
        have m_bw := fun i => bw.cell i
        have m_bl_ := fun i => bl_.cell i
        have z_bx := fun i => bx.frozen i
        have z_ba := fun i => ba.frozen i
        have z_bb := fun i => bb.frozen i
        have z_bw := fun i => bw.frozen i
        have z_bl_ := fun i => bl_.frozen i
        go_wp2_with fail
        clear p_bx
        generalize (wj.alloc (.cells #[.bool false, .slice none 0 0, .slice none 0 0, .int .u64 0] 27)).alloc (.cells #[.bool false, .slice none 0 0, .slice none 0 0, .int .u64 0] 27) = wk1 at *
        generalize wj.heap.size + 1 = gl at *
        generalize wj.heap.size = gw at *
        have HLbw := HWL
        clear HWL
        refine (Rd.out _ hb).mono ?_
        rintro e wk ⟨⟨u, rfl, Nl⟩, hb1⟩
        clear m_bx z_bx m_ba z_ba m_bb z_bb m_bw z_bw m_bl_ z_bl_
        replace bx := bx.below hb1 bx.lt
        replace ba := ba.below hb1 ba.lt
        replace bb := bb.below hb1 bb.lt
        replace bw := bw.below hb1 bw.lt
        replace bl_ := bl_.below hb1 bl_.lt
        replace Nb := Nb.below hb1
        replace hb := hb.trans (hb1.mono hb.size)
        clear hb1
        obtain ⟨B3, f1, B4, f2, rfl⟩ := Nl.val
        have zs_ := fun i => bl_.frozen i
        have ms_ := fun i => bl_.cell i
        replace Nb := Nb.setN bl_ (.bool true) (.slice B3 x2.length f1) (.slice B4 y2.length f2) (.int .u64 l)
        replace Nl := Nl.setN bl_ (.bool true) (.slice B3 x2.length f1) (.slice B4 y2.length f2) (.int .u64 l)
        replace bx := bx.offN HLbx.out (.bool true) (.slice B3 x2.length f1) (.slice B4 y2.length f2) (.int .u64 l)
        replace ba := ba.offN HLba.out (.bool true) (.slice B3 x2.length f1) (.slice B4 y2.length f2) (.int .u64 l)
        replace bb := bb.offN HLbb.out (.bool true) (.slice B3 x2.length f1) (.slice B4 y2.length f2) (.int .u64 l)
        replace bw := bw.offN HLbw.out (.bool true) (.slice B3 x2.length f1) (.slice B4 y2.length f2) (.int .u64 l)
        replace bl_ := bl_.setN (.bool true) (.slice B3 x2.length f1) (.slice B4 y2.length f2) (.int .u64 l)
        replace hb := below_setN hb (g := gl) HLg.out (.bool true) (.slice B3 x2.length f1) (.slice B4 y2.length f2) (.int .u64 l)
        have m_bx := fun i => bx.cell i
        have m_ba := fun i => ba.cell i
        have m_bb := fun i => bb.cell i
        have m_bw := fun i => bw.cell i
        have m_bl_ := fun i => bl_.cell i
        have z_bx := fun i => bx.frozen i
        have z_ba := fun i => ba.frozen i
        have z_bb := fun i => bb.frozen i
        have z_bw := fun i => bw.frozen i
        have z_bl_ := fun i => bl_.frozen i
        go_wp2_with fail
        generalize ((((wk).setCell ⟨gl, 0, none⟩ (.bool true)).setCell ⟨gl, 1, none⟩ (.slice B3 x2.length f1)).setCell ⟨gl, 2, none⟩ (.slice B4 y2.length f2)).setCell ⟨gl, 3, none⟩ (.int .u64 l) = ws2 at *
        clear zs_ ms_
        refine (same_any _ _ false false [] [] [] [] 0 0 _ (by simp) (by simp) (by simp) (by simp) (Nd.zero _ _) (Nd.zero _ _)).mono ?_
        rw [same_yes]
        rintro e wk ⟨rfl, hb1⟩
        clear m_bx z_bx m_ba z_ba m_bb z_bb m_bw z_bw m_bl_ z_bl_
        replace bx := bx.below hb1 bx.lt
        replace ba := ba.below hb1 ba.lt
        replace bb := bb.below hb1 bb.lt
        replace bw := bw.below hb1 bw.lt
        replace bl_ := bl_.below hb1 bl_.lt
        replace Nb := Nb.below hb1
        replace Nl := Nl.below hb1
        replace hb := hb.trans (hb1.mono hb.size)
        clear hb1
        have m_bx := fun i => bx.cell i
        have m_ba := fun i => ba.cell i
        have m_bb := fun i => bb.cell i
        have m_bw := fun i => bw.cell i
        have m_bl_ := fun i => bl_.cell i
        have z_bx := fun i => bx.frozen i
        have z_ba := fun i => ba.frozen i
        have z_bb := fun i => bb.frozen i
        have z_bw := fun i => bw.frozen i
        have z_bl_ := fun i => bl_.frozen i
        go_wp2_with fail
        refine (none_any _ false [] [] 0 _ (by simp) (by simp) (Nd.zero _ _)).mono ?_
        rw [show sameB false [] [] 0 false [] [] 0 = true by decide]
        rintro e wk ⟨rfl, hb1⟩
        clear m_bx z_bx m_ba z_ba m_bb z_bb m_bw z_bw m_bl_ z_bl_
        replace bx := bx.below hb1 bx.lt
        replace ba := ba.below hb1 ba.lt
        replace bb := bb.below hb1 bb.lt
        replace bw := bw.below hb1 bw.lt
        replace bl_ := bl_.below hb1 bl_.lt
        replace Nb := Nb.below hb1
        replace Nl := Nl.below hb1
        replace hb := hb.trans (hb1.mono hb.size)
        clear hb1
        have m_bx := fun i => bx.cell i
        have m_ba := fun i => ba.cell i
        have m_bb := fun i => bb.cell i
        have m_bw := fun i => bw.cell i
        have m_bl_ := fun i => bl_.cell i
        have z_bx := fun i => bx.frozen i
        have z_ba := fun i => ba.frozen i
        have z_bb := fun i => bb.frozen i
        have z_bw := fun i => bw.frozen i
        have z_bl_ := fun i => bl_.frozen i
        go_wp2_with fail
        refine (same_any _ _ true true x2 y2 x2 y2 l l _ Hx2.out Hy2.out Hx2.out Hy2.out Nb.nd Nl.nd).mono ?_
        rw [same_yes]
        rintro e wk ⟨rfl, hb1⟩
        clear m_bx z_bx m_ba z_ba m_bb z_bb m_bw z_bw m_bl_ z_bl_
        replace bx := bx.below hb1 bx.lt
        replace ba := ba.below hb1 ba.lt
        replace bb := bb.below hb1 bb.lt
        replace bw := bw.below hb1 bw.lt
        replace bl_ := bl_.below hb1 bl_.lt
        replace Nb := Nb.below hb1
        replace Nl := Nl.below hb1
        replace hb := hb.trans (hb1.mono hb.size)
        clear hb1
        have m_bx := fun i => bx.cell i
        have m_ba := fun i => ba.cell i
        have m_bb := fun i => bb.cell i
        have m_bw := fun i => bw.cell i
        have m_bl_ := fun i => bl_.cell i
        have z_bx := fun i => bx.frozen i
        have z_ba := fun i => ba.frozen i
        have z_bb := fun i => bb.frozen i
        have z_bw := fun i => bw.frozen i
        have z_bl_ := fun i => bl_.frozen i
        go_wp2_with fail
        refine (none_any _ true x2 y2 l _ Hx2.out Hy2.out Nl.nd).mono ?_
        rw [show sameB true x2 y2 l false [] [] 0 = false from rfl]
        rintro e wk ⟨rfl, hb1⟩
        clear m_bx z_bx m_ba z_ba m_bb z_bb m_bw z_bw m_bl_ z_bl_
        replace bx := bx.below hb1 bx.lt
        replace ba := ba.below hb1 ba.lt
        replace bb := bb.below hb1 bb.lt
        replace bw := bw.below hb1 bw.lt
        replace bl_ := bl_.below hb1 bl_.lt
        replace Nb := Nb.below hb1
        replace Nl := Nl.below hb1
        replace hb := hb.trans (hb1.mono hb.size)
        clear hb1
        have m_bx := fun i => bx.cell i
        have m_ba := fun i => ba.cell i
        have m_bb := fun i => bb.cell i
        have m_bw := fun i => bw.cell i
        have m_bl_ := fun i => bl_.cell i
        have z_bx := fun i => bx.frozen i
        have z_ba := fun i => ba.frozen i
        have z_bb := fun i => bb.frozen i
        have z_bw := fun i => bw.frozen i
        have z_bl_ := fun i => bl_.frozen i
        go_wp2_with fail
        refine (awake13 _).mono ?_
        rintro e wk ⟨rfl, hb1⟩
        replace hb := hb.trans (hb1.mono hb.size)
        go_wp2_with fail
        go_ret
        exact ⟨rfl, hb⟩
      exact AllReadyZ.nil
    exact AllReadyZ.nil
  exact AllReadyZ.nil
set_option maxRecDepth 100000 in
set_option maxHeartbeats 4000000 in
theorem t_midN (v : Value) (ks vs : List Int) (l i key child : Int) (w : World) (h : Nd w w.heap.size v true ks vs l) (hk : ks.length ≤ 80) (hv : vs.length ≤ 80) (hr : rightI true ks vs = true) (x1 y1 : List Int) (hx1 : x1.length ≤ 1000) (hy1 : y1.length ≤ 1000) (x2 y2 : List Int) (hx2 : x2.length ≤ 1000) (hy2 : y2.length ≤ 1000) (Ad0 : ∀ w2, Below w.heap.size w w2 → Calls Try.prog 17 #[v, .int .i64 i, .int .u64 key, .int .u64 child] w2 fun e w' => e = .returned (.tuple #[.agg #[.bool false, .slice none 0 0, .slice none 0 0, .int .u64 0], .bool false]) ∧ Below w2.heap.size w2 w') (Dr0 : ∀ w2, Below w.heap.size w w2 → Calls Try.prog 18 #[v, .int .i64 i] w2 fun e w' => (∃ u, e = .returned (.tuple #[u, .bool true]) ∧ NdO w' w2.heap.size u true x2 y2 l) ∧ Below w2.heap.size w2 w') (Ra0 : ∀ w2, Below w.heap.size w w2 → Calls Try.prog 22 #[v, .int .i64 i, .int .u64 key, .int .u64 child] w2 fun e w' => (∃ u, e = .returned u ∧ NdO w' w2.heap.size u true x1 y1 l) ∧ Below w2.heap.size w2 w') (h3 : rightI true x1 y1 = false) (Rd0 : ∀ w2, Below w.heap.size w w2 → Calls Try.prog 23 #[v, .int .i64 i] w2 fun e w' => (∃ u, e = .returned u ∧ NdO w' w2.heap.size u true x2 y2 l) ∧ Below w2.heap.size w2 w') (q0 : decide ((1 : Int) ≤ i) = true) (q1 : decide (i ≤ (vs.length : Int)) = true) (q2 : decide ((0 : Int) ≤ i) = true) (q3 : decide (i < (vs.length : Int)) = true) (q4 : decide ((1 : Int) < (vs.length : Int)) = true) :
    Calls Try.prog 5 #[v, .int .i64 i, .int .u64 key, .int .u64 child] w fun e w' => e = .returned (.bool true) ∧ Below w.heap.size w w' := by
  have Ad := hide Ad0
  have Dr := hide Dr0
  have Ra := hide Ra0
  have Hx1 := hide (show x1.length ≤ 1000000 by omega)
  have Hy1 := hide (show y1.length ≤ 1000000 by omega)
  have Rw := hide (fun (u : Value) w2 (hN : Nd w2 w2.heap.size u true x1 y1 l) => irright_any u true x1 y1 l w2 (by omega) hN)
  rw [h3] at Rw
  have Rd := hide Rd0
  have Hx2 := hide (show x2.length ≤ 1000000 by omega)
  have Hy2 := hide (show y2.length ≤ 1000000 by omega)
  clear Ad0 Dr0 Ra0 h3 hx1 hy1 Rd0 hx2 hy2
  have Rr := hide (fun w2 (hB : Below w.heap.size w w2) => irright_any v true ks vs l w2 (by omega) ((h.below hB).more hB.size))
  have Rt := hide (fun w2 (hB : Below w.heap.size w w2) => iright_any v true ks vs l w2 (by omega) ((h.below hB).more hB.size))
  have Ch := hide (fun w2 (hB : Below w.heap.size w w2) => child_any v true ks vs l key w2 (by omega) ((h.below hB).more hB.size))
  have Rc := hide (fun w2 (hB : Below w.heap.size w w2) => rchild_any v true ks vs l key w2 (by omega) ((h.below hB).more hB.size))
  rw [child_right hr] at Ch
  rw [hr] at Rr Rt
  obtain ⟨A, c, A', c', rfl⟩ := ValN w true ks vs l v h
  have Sm := hide (fun w2 => small_any true A A' ks.length c vs.length c' l w2)
  rw [show (decide (ks.length ≤ 80) && decide (vs.length ≤ 80)) = true by simp; omega] at Sm
  clear h hk hv hr
  generalize upN key ks = kc at *
  generalize ks.length = n at *
  generalize vs.length = m at *
  have hb := (Below.refl w.heap.size w).alloc (Nat.le_refl _) (.cells #[.bool true, .slice A n c, .slice A' m c', .int .u64 l] 27)
  have bx := Blk.new w 27 #[.bool true, .slice A n c, .slice A' m c', .int .u64 l]
  have m_bx := fun i => bx.cell i
  have z_bx := fun i => bx.frozen i
  go_enter Try.func5, Try.ntmps5
  go_wp2_with fail
  refine (Sm.out _).mono ?_
  rintro e wk ⟨rfl, hb1⟩
  clear m_bx z_bx
  replace bx := bx.below hb1 bx.lt
  replace hb := hb.trans (hb1.mono hb.size)
  clear hb1
  have m_bx := fun i => bx.cell i
  have z_bx := fun i => bx.frozen i
  go_wp2_with fail
  refine (Ad.out _ hb).mono ?_
  rintro e wk ⟨rfl, hb1⟩
  clear m_bx z_bx
  replace bx := bx.below hb1 bx.lt
  replace hb := hb.trans (hb1.mono hb.size)
  clear hb1
  have ba := Blk.new wk 27 #[.bool false, .slice none 0 0, .slice none 0 0, .int .u64 0]
  replace bx := bx.alloc (.cells #[.bool false, .slice none 0 0, .slice none 0 0, .int .u64 0] 27)
  replace hb := hb.alloc hb.size (.cells #[.bool false, .slice none 0 0, .slice none 0 0, .int .u64 0] 27)
  have m_bx := fun i => bx.cell i
  have m_ba := fun i => ba.cell i
  have z_bx := fun i => bx.frozen i
  have z_ba := fun i => ba.frozen i
  go_wp2_with fail
  generalize wk.alloc (.cells #[.bool false, .slice none 0 0, .slice none 0 0, .int .u64 0] 27) = wk1 at *
  generalize wk.heap.size = gba at *
  refine (Dr.out _ hb).mono ?_
  rintro e wk ⟨⟨u, rfl, Nb⟩, hb1⟩
  clear m_bx z_bx m_ba z_ba
  replace bx := bx.below hb1 bx.lt
  replace ba := ba.below hb1 ba.lt
  replace hb := hb.trans (hb1.mono hb.size)
  clear hb1
  obtain ⟨A3, d3, A4, d4, rfl⟩ := Nb.val
  have bb := Blk.new wk 27 #[.bool true, .slice A3 x2.length d3, .slice A4 y2.length d4, .int .u64 l]
  replace Nb := Nb.below ((Below.refl wk.heap.size wk).alloc (Nat.le_refl _) (.cells #[.bool true, .slice A3 x2.length d3, .slice A4 y2.length d4, .int .u64 l] 27))
  replace bx := bx.alloc (.cells #[.bool true, .slice A3 x2.length d3, .slice A4 y2.length d4, .int .u64 l] 27)
  replace ba := ba.alloc (.cells #[.bool true, .slice A3 x2.length d3, .slice A4 y2.length d4, .int .u64 l] 27)
  replace hb := hb.alloc hb.size (.cells #[.bool true, .slice A3 x2.length d3, .slice A4 y2.length d4, .int .u64 l] 27)
  have m_bx := fun i => bx.cell i
  have m_ba := fun i => ba.cell i
  have m_bb := fun i => bb.cell i
  have z_bx := fun i => bx.frozen i
  have z_ba := fun i => ba.frozen i
  have z_bb := fun i => bb.frozen i
  go_wp2_with fail
  generalize wk.alloc (.cells #[.bool true, .slice A3 x2.length d3, .slice A4 y2.length d4, .int .u64 l] 27) = wk1 at *
  generalize wk.heap.size = gbb at *
  refine (Rr.out _ hb).mono ?_
  rintro e wk ⟨rfl, hb1⟩
  clear m_bx z_bx m_ba z_ba m_bb z_bb
  replace bx := bx.below hb1 bx.lt
  replace ba := ba.below hb1 ba.lt
  replace bb := bb.below hb1 bb.lt
  replace Nb := Nb.below hb1
  replace hb := hb.trans (hb1.mono hb.size)
  clear hb1
  have m_bx := fun i => bx.cell i
  have m_ba := fun i => ba.cell i
  have m_bb := fun i => bb.cell i
  have z_bx := fun i => bx.frozen i
  have z_ba := fun i => ba.frozen i
  have z_bb := fun i => bb.frozen i
  go_wp2_with fail
  clear m_bx z_bx m_ba z_ba m_bb z_bb
  refine wp_region_heldZ [] (fun w' => w'.cell? ⟨w.heap.size, 0, none⟩ = some (.bool true) ∧ w'.cell? ⟨w.heap.size, 1, none⟩ = some (.slice A n c) ∧ w'.cell? ⟨w.heap.size, 2, none⟩ = some (.slice A' m c') ∧ w'.cell? ⟨w.heap.size, 3, none⟩ = some (.int .u64 l)) (by kernel_rfl) (by exact cellsN bx) (fun hHeld => ?_)
  replace bx := bx.drew
  replace ba := ba.drew
  replace bb := bb.drew
  replace hb := hb.drew
  replace Nb := (show NdO wk.drew _ _ _ _ _ _ from Nb)
  generalize wk.drew = wj0 at *
  refine' wpAnyZ_takeA (i := 0) (v := ?_) (opAt rfl) (by kernel_rfl) (by kernel_rfl) (by kernel_rfl) (by kernel_rfl) (fun _ _ _ h => h) (by assumption) (by rfl) (fun w hSw => ?_) ?_
  rotate_left
  · (try dsimp only at hSw); go_simp; (try with_reducible rfl)
  try simp only [Act.put, List.setIfInBounds_toArray, List.set_cons_zero, List.set_cons_succ]
  refine wpAnyZ_ready (rs := [1]) (by kernel_rfl) (by simp) ?_
  refine AllReadyZ.cons (opAt rfl) (fun K hK => ?_) ?_
  · skip
    go_simp
    refine (Rt.out _ hb).mono ?_
    rintro e wj ⟨rfl, hb1⟩
    replace bx := bx.below hb1 bx.lt
    replace ba := ba.below hb1 ba.lt
    replace bb := bb.below hb1 bb.lt
    replace Nb := Nb.below hb1
    replace hb := hb.trans (hb1.mono hb.size)
    clear hb1
    try go_wp2_with fail
    refine hK.out _ _ (by exact cellsN bx) (fun hHeld => ?_)
    clear hK K
    try simp only [Act.put, List.setIfInBounds_toArray, List.set_cons_zero, List.set_cons_succ]
    refine' wpAnyZ_takeA (i := 2) (v := ?_) (opAt rfl) (by kernel_rfl) (by kernel_rfl) (by kernel_rfl) (by kernel_rfl) (fun _ _ _ h => h) (by assumption) (by rfl) (fun w hSw => ?_) ?_
    rotate_left
    · (try dsimp only at hSw); go_simp; (try with_reducible rfl)
    try simp only [Act.put, List.setIfInBounds_toArray, List.set_cons_zero, List.set_cons_succ]
    refine' wpAnyZ_takeA (i := 3) (v := ?_) (opAt rfl) (by kernel_rfl) (by kernel_rfl) (by kernel_rfl) (by kernel_rfl) (fun _ _ _ h => h) (by assumption) (by rfl) (fun w hSw => ?_) ?_
    rotate_left
    · (try dsimp only at hSw); go_simp; (try with_reducible rfl)
    try simp only [Act.put, List.setIfInBounds_toArray, List.set_cons_zero, List.set_cons_succ]
    refine' wpAnyZ_takeA (i := 4) (v := ?_) (opAt rfl) (by kernel_rfl) (by kernel_rfl) (by kernel_rfl) (by kernel_rfl) (fun _ _ _ h => h) (by assumption) (by rfl) (fun w hSw => ?_) ?_
    rotate_left
    · (try dsimp only at hSw); go_simp; (try with_reducible rfl)
    try simp only [Act.put, List.setIfInBounds_toArray, List.set_cons_zero, List.set_cons_succ]
    refine' wpAnyZ_takeA (i := 5) (v := ?_) (opAt rfl) (by kernel_rfl) (by kernel_rfl) (by kernel_rfl) (by kernel_rfl) (fun _ _ _ h => h) (by assumption) (by rfl) (fun w hSw => ?_) ?_
    rotate_left
    · (try dsimp only at hSw); go_simp; (try with_reducible rfl)
    try simp only [Act.put, List.setIfInBounds_toArray, List.set_cons_zero, List.set_cons_succ]
    refine' wpAnyZ_takeA (i := 7) (v := ?_) (opAt rfl) (by kernel_rfl) (by kernel_rfl) (by kernel_rfl) (by kernel_rfl) (fun _ _ _ h => h) (by assumption) (by rfl) (fun w hSw => ?_) ?_
    rotate_left
    · (try dsimp only at hSw); go_simp; (try with_reducible rfl)
    try simp only [Act.put, List.setIfInBounds_toArray, List.set_cons_zero, List.set_cons_succ]
    refine' wpAnyZ_takeA (i := 8) (v := ?_) (opAt rfl) (by kernel_rfl) (by kernel_rfl) (by kernel_rfl) (by kernel_rfl) (fun _ _ _ h => h) (by assumption) (by rfl) (fun w hSw => ?_) ?_
    rotate_left
    · (try dsimp only at hSw); go_simp; (try with_reducible rfl)
    try simp only [Act.put, List.setIfInBounds_toArray, List.set_cons_zero, List.set_cons_succ]
    refine wpAnyZ_ready (rs := [6]) (by kernel_rfl) (by simp) ?_
    refine AllReadyZ.cons (opAt rfl) (fun K hK => ?_) ?_
    · skip
      go_simp
      refine (Ch.out _ hb).mono ?_
      rintro e wj ⟨rfl, hb1⟩
      replace bx := bx.below hb1 bx.lt
      replace ba := ba.below hb1 ba.lt
      replace bb := bb.below hb1 bb.lt
      replace Nb := Nb.below hb1
      replace hb := hb.trans (hb1.mono hb.size)
      clear hb1
      try go_wp2_with fail
      refine hK.out _ _ (by exact cellsN bx) (fun hHeld => ?_)
      clear hK K
      try simp only [Act.put, List.setIfInBounds_toArray, List.set_cons_zero, List.set_cons_succ]
      refine wpAnyZ_ready (rs := [9]) (by kernel_rfl) (by simp) ?_
      refine AllReadyZ.cons (opAt rfl) (fun K hK => ?_) ?_
      · skip
        go_simp
        refine (Rc.out _ hb).mono ?_
        rintro e wj ⟨rfl, hb1⟩
        replace bx := bx.below hb1 bx.lt
        replace ba := ba.below hb1 ba.lt
        replace bb := bb.below hb1 bb.lt
        replace Nb := Nb.below hb1
        replace hb := hb.trans (hb1.mono hb.size)
        clear hb1
        try go_wp2_with fail
        refine hK.out _ _ (by exact cellsN bx) (fun hHeld => ?_)
        clear hK K
        try simp only [Act.put, List.setIfInBounds_toArray, List.set_cons_zero, List.set_cons_succ]
        refine' wpAnyZ_takeA (i := 10) (v := ?_) (opAt rfl) (by kernel_rfl) (by kernel_rfl) (by kernel_rfl) (by kernel_rfl) (fun _ _ _ h => h) (by assumption) (by rfl) (fun w hSw => ?_) ?_
        rotate_left
        · (try dsimp only at hSw); go_simp; (try with_reducible rfl)
        try simp only [Act.put, List.setIfInBounds_toArray, List.set_cons_zero, List.set_cons_succ]
        refine' wpAnyZ_takeA (i := 11) (v := ?_) (opAt rfl) (by kernel_rfl) (by kernel_rfl) (by kernel_rfl) (by kernel_rfl) (fun _ _ _ h => h) (by assumption) (by rfl) (fun w hSw => ?_) ?_
        rotate_left
        · (try dsimp only at hSw); go_simp; (try with_reducible rfl)
        try simp only [Act.put, List.setIfInBounds_toArray, List.set_cons_zero, List.set_cons_succ]
        refine wpAnyZ_done (by kernel_rfl) ?_ _
        have HWbx := hide (Nat.ne_of_lt bx.lt)
        have HWba := hide (Nat.ne_of_lt ba.lt)
        have HWbb := hide (Nat.ne_of_lt bb.lt)
        have HWg := hide hb.size
        have bw := Blk.new wj 27 #[.bool false, .slice none 0 0, .slice none 0 0, .int .u64 0]
        replace Nb := Nb.below ((Below.refl _ _).alloc (Nat.le_refl _) (.cells #[.bool false, .slice none 0 0, .slice none 0 0, .int .u64 0] 27))
        replace bx := bx.alloc (.cells #[.bool false, .slice none 0 0, .slice none 0 0, .int .u64 0] 27)
        replace ba := ba.alloc (.cells #[.bool false, .slice none 0 0, .slice none 0 0, .int .u64 0] 27)
        replace bb := bb.alloc (.cells #[.bool false, .slice none 0 0, .slice none 0 0, .int .u64 0] 27)
        replace hb := hb.alloc hb.size (.cells #[.bool false, .slice none 0 0, .slice none 0 0, .int .u64 0] 27)
        have m_bx := fun i => bx.cell i
        have m_ba := fun i => ba.cell i
        have m_bb := fun i => bb.cell i
        have m_bw := fun i => bw.cell i
        have z_bx := fun i => bx.frozen i
        have z_ba := fun i => ba.frozen i
        have z_bb := fun i => bb.frozen i
        have z_bw := fun i => bw.frozen i
        go_wp2_with fail
        generalize wj.alloc (.cells #[.bool false, .slice none 0 0, .slice none 0 0, .int .u64 0] 27) = wk0 at *
        generalize wj.heap.size = gw at *
        refine (Ra.out _ hb).mono ?_
        rintro e wk ⟨⟨u, rfl, Nw⟩, hb1⟩
        clear m_bx z_bx m_ba z_ba m_bb z_bb m_bw z_bw
        replace bx := bx.below hb1 bx.lt
        replace ba := ba.below hb1 ba.lt
        replace bb := bb.below hb1 bb.lt
        replace bw := bw.below hb1 bw.lt
        replace Nb := Nb.below hb1
        replace hb := hb.trans (hb1.mono hb.size)
        clear hb1
        obtain ⟨B1, e1, B2, e2, rfl⟩ := Nw.val
        have zs_ := fun i => bw.frozen i
        have ms_ := fun i => bw.cell i
        replace Nb := Nb.setN bw (.bool true) (.slice B1 x1.length e1) (.slice B2 y1.length e2) (.int .u64 l)
        replace Nw := Nw.setN bw (.bool true) (.slice B1 x1.length e1) (.slice B2 y1.length e2) (.int .u64 l)
        replace bx := bx.offN HWbx.out (.bool true) (.slice B1 x1.length e1) (.slice B2 y1.length e2) (.int .u64 l)
        replace ba := ba.offN HWba.out (.bool true) (.slice B1 x1.length e1) (.slice B2 y1.length e2) (.int .u64 l)
        replace bb := bb.offN HWbb.out (.bool true) (.slice B1 x1.length e1) (.slice B2 y1.length e2) (.int .u64 l)
        replace bw := bw.setN (.bool true) (.slice B1 x1.length e1) (.slice B2 y1.length e2) (.int .u64 l)
        replace hb := below_setN hb (g := gw) HWg.out (.bool true) (.slice B1 x1.length e1) (.slice B2 y1.length e2) (.int .u64 l)
        have m_bx := fun i => bx.cell i
        have m_ba := fun i => ba.cell i
        have m_bb := fun i => bb.cell i
        have m_bw := fun i => bw.cell i
        have z_bx := fun i => bx.frozen i
        have z_ba := fun i => ba.frozen i
        have z_bb := fun i => bb.frozen i
        have z_bw := fun i => bw.frozen i
        go_wp2_with fail
        generalize ((((wk).setCell ⟨gw, 0, none⟩ (.bool true)).setCell ⟨gw, 1, none⟩ (.slice B1 x1.length e1)).setCell ⟨gw, 2, none⟩ (.slice B2 y1.length e2)).setCell ⟨gw, 3, none⟩ (.int .u64 l) = ws at *
        clear zs_ ms_
        refine (Rw.out _ _ Nw.nd).mono ?_
        rintro e wr ⟨rfl, hb1⟩
        clear m_bx z_bx m_ba z_ba m_bb z_bb m_bw z_bw
        replace bx := bx.below hb1 bx.lt
        replace ba := ba.below hb1 ba.lt
        replace bb := bb.below hb1 bb.lt
        replace bw := bw.below hb1 bw.lt
        replace Nb := Nb.below hb1
        replace Nw := Nw.below hb1
        replace hb := hb.trans (hb1.mono hb.size)
        clear hb1
        clear Nw
        have HLbx := hide (Nat.ne_of_lt bx.lt)
        have HLba := hide (Nat.ne_of_lt ba.lt)
        have HLbb := hide (Nat.ne_of_lt bb.lt)
        have HLbw := hide (Nat.ne_of_lt bw.lt)
        have HLg := hide hb.size
        have zs_ := fun i => bw.frozen i
        have ms_ := fun i => bw.cell i
        replace Nb := Nb.setN bw (.bool false) (.slice none 0 0) (.slice none 0 0) (.int .u64 0)
        replace bx := bx.offN HWbx.out (.bool false) (.slice none 0 0) (.slice none 0 0) (.int .u64 0)
        replace ba := ba.offN HWba.out (.bool false) (.slice none 0 0) (.slice none 0 0) (.int .u64 0)
        replace bb := bb.offN HWbb.out (.bool false) (.slice none 0 0) (.slice none 0 0) (.int .u64 0)
        replace bw := bw.setN (.bool false) (.slice none 0 0) (.slice none 0 0) (.int .u64 0)
        replace hb := below_setN hb (g := gw) HWg.out (.bool false) (.slice none 0 0) (.slice none 0 0) (.int .u64 0)
        have bl_ := Blk.new (((((wr).setCell ⟨gw, 0, none⟩ (.bool false)).setCell ⟨gw, 1, none⟩ (.slice none 0 0)).setCell ⟨gw, 2, none⟩ (.slice none 0 0)).setCell ⟨gw, 3, none⟩ (.int .u64 0)) 27 #[.bool false, .slice none 0 0, .slice none 0 0, .int .u64 0]
        replace Nb := Nb.below ((Below.refl _ _).alloc (Nat.le_refl _) (.cells #[.bool false, .slice none 0 0, .slice none 0 0, .int .u64 0] 27))
        replace bx := bx.alloc (.cells #[.bool false, .slice none 0 0, .slice none 0 0, .int .u64 0] 27)
        replace ba := ba.alloc (.cells #[.bool false, .slice none 0 0, .slice none 0 0, .int .u64 0] 27)
        replace bb := bb.alloc (.cells #[.bool false, .slice none 0 0, .slice none 0 0, .int .u64 0] 27)
        replace bw := bw.alloc (.cells #[.bool false, .slice none 0 0, .slice none 0 0, .int .u64 0] 27)
        replace hb := hb.alloc hb.size (.cells #[.bool false, .slice none 0 0, .slice none 0 0, .int .u64 0] 27)
        simp only [size_set] at bl_
        have m_bx := fun i => bx.cell i
        have m_ba := fun i => ba.cell i
        have m_bb := fun i => bb.cell i
        have m_bw := fun i => bw.cell i
        have m_bl_ := fun i => bl_.cell i
        have z_bx := fun i => bx.frozen i
        have z_ba := fun i => ba.frozen i
        have z_bb := fun i => bb.frozen i
        have z_bw := fun i => bw.frozen i
        have z_bl_ := fun i => bl_.frozen i
        go_wp2_with fail
        generalize (((((wr).setCell ⟨gw, 0, none⟩ (.bool false)).setCell ⟨gw, 1, none⟩ (.slice none 0 0)).setCell ⟨gw, 2, none⟩ (.slice none 0 0)).setCell ⟨gw, 3, none⟩ (.int .u64 0)).alloc (.cells #[.bool false, .slice none 0 0, .slice none 0 0, .int .u64 0] 27) = wk1 at *
        clear zs_ ms_
        generalize wr.heap.size = gl at *
        refine (Rd.out _ hb).mono ?_
        rintro e wk ⟨⟨u, rfl, Nl⟩, hb1⟩
        clear m_bx z_bx m_ba z_ba m_bb z_bb m_bw z_bw m_bl_ z_bl_
        replace bx := bx.below hb1 bx.lt
        replace ba := ba.below hb1 ba.lt
        replace bb := bb.below hb1 bb.lt
        replace bw := bw.below hb1 bw.lt
        replace bl_ := bl_.below hb1 bl_.lt
        replace Nb := Nb.below hb1
        replace hb := hb.trans (hb1.mono hb.size)
        clear hb1
        obtain ⟨B3, f1, B4, f2, rfl⟩ := Nl.val
        have zs_ := fun i => bl_.frozen i
        have ms_ := fun i => bl_.cell i
        replace Nb := Nb.setN bl_ (.bool true) (.slice B3 x2.length f1) (.slice B4 y2.length f2) (.int .u64 l)
        replace Nl := Nl.setN bl_ (.bool true) (.slice B3 x2.length f1) (.slice B4 y2.length f2) (.int .u64 l)
        replace bx := bx.offN HLbx.out (.bool true) (.slice B3 x2.length f1) (.slice B4 y2.length f2) (.int .u64 l)
        replace ba := ba.offN HLba.out (.bool true) (.slice B3 x2.length f1) (.slice B4 y2.length f2) (.int .u64 l)
        replace bb := bb.offN HLbb.out (.bool true) (.slice B3 x2.length f1) (.slice B4 y2.length f2) (.int .u64 l)
        replace bw := bw.offN HLbw.out (.bool true) (.slice B3 x2.length f1) (.slice B4 y2.length f2) (.int .u64 l)
        replace bl_ := bl_.setN (.bool true) (.slice B3 x2.length f1) (.slice B4 y2.length f2) (.int .u64 l)
        replace hb := below_setN hb (g := gl) HLg.out (.bool true) (.slice B3 x2.length f1) (.slice B4 y2.length f2) (.int .u64 l)
        have m_bx := fun i => bx.cell i
        have m_ba := fun i => ba.cell i
        have m_bb := fun i => bb.cell i
        have m_bw := fun i => bw.cell i
        have m_bl_ := fun i => bl_.cell i
        have z_bx := fun i => bx.frozen i
        have z_ba := fun i => ba.frozen i
        have z_bb := fun i => bb.frozen i
        have z_bw := fun i => bw.frozen i
        have z_bl_ := fun i => bl_.frozen i
        go_wp2_with fail
        generalize ((((wk).setCell ⟨gl, 0, none⟩ (.bool true)).setCell ⟨gl, 1, none⟩ (.slice B3 x2.length f1)).setCell ⟨gl, 2, none⟩ (.slice B4 y2.length f2)).setCell ⟨gl, 3, none⟩ (.int .u64 l) = ws2 at *
        clear zs_ ms_
        refine (same_any _ _ false false [] [] [] [] 0 0 _ (by simp) (by simp) (by simp) (by simp) (Nd.zero _ _) (Nd.zero _ _)).mono ?_
        rw [same_yes]
        rintro e wk ⟨rfl, hb1⟩
        clear m_bx z_bx m_ba z_ba m_bb z_bb m_bw z_bw m_bl_ z_bl_
        replace bx := bx.below hb1 bx.lt
        replace ba := ba.below hb1 ba.lt
        replace bb := bb.below hb1 bb.lt
        replace bw := bw.below hb1 bw.lt
        replace bl_ := bl_.below hb1 bl_.lt
        replace Nb := Nb.below hb1
        replace Nl := Nl.below hb1
        replace hb := hb.trans (hb1.mono hb.size)
        clear hb1
        have m_bx := fun i => bx.cell i
        have m_ba := fun i => ba.cell i
        have m_bb := fun i => bb.cell i
        have m_bw := fun i => bw.cell i
        have m_bl_ := fun i => bl_.cell i
        have z_bx := fun i => bx.frozen i
        have z_ba := fun i => ba.frozen i
        have z_bb := fun i => bb.frozen i
        have z_bw := fun i => bw.frozen i
        have z_bl_ := fun i => bl_.frozen i
        go_wp2_with fail
        refine (none_any _ false [] [] 0 _ (by simp) (by simp) (Nd.zero _ _)).mono ?_
        rw [show sameB false [] [] 0 false [] [] 0 = true by decide]
        rintro e wk ⟨rfl, hb1⟩
        clear m_bx z_bx m_ba z_ba m_bb z_bb m_bw z_bw m_bl_ z_bl_
        replace bx := bx.below hb1 bx.lt
        replace ba := ba.below hb1 ba.lt
        replace bb := bb.below hb1 bb.lt
        replace bw := bw.below hb1 bw.lt
        replace bl_ := bl_.below hb1 bl_.lt
        replace Nb := Nb.below hb1
        replace Nl := Nl.below hb1
        replace hb := hb.trans (hb1.mono hb.size)
        clear hb1
        have m_bx := fun i => bx.cell i
        have m_ba := fun i => ba.cell i
        have m_bb := fun i => bb.cell i
        have m_bw := fun i => bw.cell i
        have m_bl_ := fun i => bl_.cell i
        have z_bx := fun i => bx.frozen i
        have z_ba := fun i => ba.frozen i
        have z_bb := fun i => bb.frozen i
        have z_bw := fun i => bw.frozen i
        have z_bl_ := fun i => bl_.frozen i
        go_wp2_with fail
        refine (same_any _ _ true true x2 y2 x2 y2 l l _ Hx2.out Hy2.out Hx2.out Hy2.out Nb.nd Nl.nd).mono ?_
        rw [same_yes]
        rintro e wk ⟨rfl, hb1⟩
        clear m_bx z_bx m_ba z_ba m_bb z_bb m_bw z_bw m_bl_ z_bl_
        replace bx := bx.below hb1 bx.lt
        replace ba := ba.below hb1 ba.lt
        replace bb := bb.below hb1 bb.lt
        replace bw := bw.below hb1 bw.lt
        replace bl_ := bl_.below hb1 bl_.lt
        replace Nb := Nb.below hb1
        replace Nl := Nl.below hb1
        replace hb := hb.trans (hb1.mono hb.size)
        clear hb1
        have m_bx := fun i => bx.cell i
        have m_ba := fun i => ba.cell i
        have m_bb := fun i => bb.cell i
        have m_bw := fun i => bw.cell i
        have m_bl_ := fun i => bl_.cell i
        have z_bx := fun i => bx.frozen i
        have z_ba := fun i => ba.frozen i
        have z_bb := fun i => bb.frozen i
        have z_bw := fun i => bw.frozen i
        have z_bl_ := fun i => bl_.frozen i
        go_wp2_with fail
        refine (none_any _ true x2 y2 l _ Hx2.out Hy2.out Nl.nd).mono ?_
        rw [show sameB true x2 y2 l false [] [] 0 = false from rfl]
        rintro e wk ⟨rfl, hb1⟩
        clear m_bx z_bx m_ba z_ba m_bb z_bb m_bw z_bw m_bl_ z_bl_
        replace bx := bx.below hb1 bx.lt
        replace ba := ba.below hb1 ba.lt
        replace bb := bb.below hb1 bb.lt
        replace bw := bw.below hb1 bw.lt
        replace bl_ := bl_.below hb1 bl_.lt
        replace Nb := Nb.below hb1
        replace Nl := Nl.below hb1
        replace hb := hb.trans (hb1.mono hb.size)
        clear hb1
        have m_bx := fun i => bx.cell i
        have m_ba := fun i => ba.cell i
        have m_bb := fun i => bb.cell i
        have m_bw := fun i => bw.cell i
        have m_bl_ := fun i => bl_.cell i
        have z_bx := fun i => bx.frozen i
        have z_ba := fun i => ba.frozen i
        have z_bb := fun i => bb.frozen i
        have z_bw := fun i => bw.frozen i
        have z_bl_ := fun i => bl_.frozen i
        go_wp2_with fail
        refine (awake13 _).mono ?_
        rintro e wk ⟨rfl, hb1⟩
        replace hb := hb.trans (hb1.mono hb.size)
        go_wp2_with fail
        go_ret
        exact ⟨rfl, hb⟩
      exact AllReadyZ.nil
    exact AllReadyZ.nil
  exact AllReadyZ.nil
set_option maxRecDepth 100000 in
set_option maxHeartbeats 4000000 in
theorem t_midY (v : Value) (ks vs : List Int) (l i key child : Int) (w : World) (h : Nd w w.heap.size v true ks vs l) (hk : ks.length ≤ 80) (hv : vs.length ≤ 80) (hr : rightI true ks vs = true) (x1 y1 : List Int) (hx1 : x1.length ≤ 1000) (hy1 : y1.length ≤ 1000) (x2 y2 : List Int) (hx2 : x2.length ≤ 1000) (hy2 : y2.length ≤ 1000) (Ad0 : ∀ w2, Below w.heap.size w w2 → Calls Try.prog 17 #[v, .int .i64 i, .int .u64 key, .int .u64 child] w2 fun e w' => (∃ u, e = .returned (.tuple #[u, .bool true]) ∧ NdO w' w2.heap.size u true x1 y1 l) ∧ Below w2.heap.size w2 w') (Dr0 : ∀ w2, Below w.heap.size w w2 → Calls Try.prog 18 #[v, .int .i64 i] w2 fun e w' => (∃ u, e = .returned (.tuple #[u, .bool true]) ∧ NdO w' w2.heap.size u true x2 y2 l) ∧ Below w2.heap.size w2 w') (Ra0 : ∀ w2, Below w.heap.size w w2 → Calls Try.prog 22 #[v, .int .i64 i, .int .u64 key, .int .u64 child] w2 fun e w' => (∃ u, e = .returned u ∧ NdO w' w2.heap.size u true x1 y1 l) ∧ Below w2.heap.size w2 w') (h3 : rightI true x1 y1 = true) (Rd0 : ∀ w2, Below w.heap.size w w2 → Calls Try.prog 23 #[v, .int .i64 i] w2 fun e w' => (∃ u, e = .returned u ∧ NdO w' w2.heap.size u true x2 y2 l) ∧ Below w2.heap.size w2 w') (q0 : decide ((1 : Int) ≤ i) = true) (q1 : decide (i ≤ (vs.length : Int)) = true) (q2 : decide ((0 : Int) ≤ i) = true) (q3 : decide (i < (vs.length : Int)) = true) (q4 : decide ((1 : Int) < (vs.length : Int)) = true) :
    Calls Try.prog 5 #[v, .int .i64 i, .int .u64 key, .int .u64 child] w fun e w' => e = .returned (.bool true) ∧ Below w.heap.size w w' := by
  have Ad := hide Ad0
  have Dr := hide Dr0
  have Ra := hide Ra0
  have Hx1 := hide (show x1.length ≤ 1000000 by omega)
  have Hy1 := hide (show y1.length ≤ 1000000 by omega)
  have Rw := hide (fun (u : Value) w2 (hN : Nd w2 w2.heap.size u true x1 y1 l) => irright_any u true x1 y1 l w2 (by omega) hN)
  rw [h3] at Rw
  have Rd := hide Rd0
  have Hx2 := hide (show x2.length ≤ 1000000 by omega)
  have Hy2 := hide (show y2.length ≤ 1000000 by omega)
  clear Ad0 Dr0 Ra0 h3 hx1 hy1 Rd0 hx2 hy2
  have Rr := hide (fun w2 (hB : Below w.heap.size w w2) => irright_any v true ks vs l w2 (by omega) ((h.below hB).more hB.size))
  have Rt := hide (fun w2 (hB : Below w.heap.size w w2) => iright_any v true ks vs l w2 (by omega) ((h.below hB).more hB.size))
  have Ch := hide (fun w2 (hB : Below w.heap.size w w2) => child_any v true ks vs l key w2 (by omega) ((h.below hB).more hB.size))
  have Rc := hide (fun w2 (hB : Below w.heap.size w w2) => rchild_any v true ks vs l key w2 (by omega) ((h.below hB).more hB.size))
  rw [child_right hr] at Ch
  rw [hr] at Rr Rt
  obtain ⟨A, c, A', c', rfl⟩ := ValN w true ks vs l v h
  have Sm := hide (fun w2 => small_any true A A' ks.length c vs.length c' l w2)
  rw [show (decide (ks.length ≤ 80) && decide (vs.length ≤ 80)) = true by simp; omega] at Sm
  clear h hk hv hr
  generalize upN key ks = kc at *
  generalize ks.length = n at *
  generalize vs.length = m at *
  have hb := (Below.refl w.heap.size w).alloc (Nat.le_refl _) (.cells #[.bool true, .slice A n c, .slice A' m c', .int .u64 l] 27)
  have bx := Blk.new w 27 #[.bool true, .slice A n c, .slice A' m c', .int .u64 l]
  have m_bx := fun i => bx.cell i
  have z_bx := fun i => bx.frozen i
  go_enter Try.func5, Try.ntmps5
  go_wp2_with fail
  refine (Sm.out _).mono ?_
  rintro e wk ⟨rfl, hb1⟩
  clear m_bx z_bx
  replace bx := bx.below hb1 bx.lt
  replace hb := hb.trans (hb1.mono hb.size)
  clear hb1
  have m_bx := fun i => bx.cell i
  have z_bx := fun i => bx.frozen i
  go_wp2_with fail
  refine (Ad.out _ hb).mono ?_
  rintro e wk ⟨⟨u, rfl, Na⟩, hb1⟩
  clear m_bx z_bx
  replace bx := bx.below hb1 bx.lt
  replace hb := hb.trans (hb1.mono hb.size)
  clear hb1
  obtain ⟨A1, d1, A2, d2, rfl⟩ := Na.val
  have ba := Blk.new wk 27 #[.bool true, .slice A1 x1.length d1, .slice A2 y1.length d2, .int .u64 l]
  replace Na := Na.below ((Below.refl wk.heap.size wk).alloc (Nat.le_refl _) (.cells #[.bool true, .slice A1 x1.length d1, .slice A2 y1.length d2, .int .u64 l] 27))
  replace bx := bx.alloc (.cells #[.bool true, .slice A1 x1.length d1, .slice A2 y1.length d2, .int .u64 l] 27)
  replace hb := hb.alloc hb.size (.cells #[.bool true, .slice A1 x1.length d1, .slice A2 y1.length d2, .int .u64 l] 27)
  have m_bx := fun i => bx.cell i
  have m_ba := fun i => ba.cell i
  have z_bx := fun i => bx.frozen i
  have z_ba := fun i => ba.frozen i
  go_wp2_with fail
  generalize wk.alloc (.cells #[.bool true, .slice A1 x1.length d1, .slice A2 y1.length d2, .int .u64 l] 27) = wk1 at *
  generalize wk.heap.size = gba at *
  refine (Dr.out _ hb).mono ?_
  rintro e wk ⟨⟨u, rfl, Nb⟩, hb1⟩
  clear m_bx z_bx m_ba z_ba
  replace bx := bx.below hb1 bx.lt
  replace ba := ba.below hb1 ba.lt
  replace Na := Na.below hb1
  replace hb := hb.trans (hb1.mono hb.size)
  clear hb1
  obtain ⟨A3, d3, A4, d4, rfl⟩ := Nb.val
  have bb := Blk.new wk 27 #[.bool true, .slice A3 x2.length d3, .slice A4 y2.length d4, .int .u64 l]
  replace Na := Na.below ((Below.refl wk.heap.size wk).alloc (Nat.le_refl _) (.cells #[.bool true, .slice A3 x2.length d3, .slice A4 y2.length d4, .int .u64 l] 27))
  replace Nb := Nb.below ((Below.refl wk.heap.size wk).alloc (Nat.le_refl _) (.cells #[.bool true, .slice A3 x2.length d3, .slice A4 y2.length d4, .int .u64 l] 27))
  replace bx := bx.alloc (.cells #[.bool true, .slice A3 x2.length d3, .slice A4 y2.length d4, .int .u64 l] 27)
  replace ba := ba.alloc (.cells #[.bool true, .slice A3 x2.length d3, .slice A4 y2.length d4, .int .u64 l] 27)
  replace hb := hb.alloc hb.size (.cells #[.bool true, .slice A3 x2.length d3, .slice A4 y2.length d4, .int .u64 l] 27)
  have m_bx := fun i => bx.cell i
  have m_ba := fun i => ba.cell i
  have m_bb := fun i => bb.cell i
  have z_bx := fun i => bx.frozen i
  have z_ba := fun i => ba.frozen i
  have z_bb := fun i => bb.frozen i
  go_wp2_with fail
  generalize wk.alloc (.cells #[.bool true, .slice A3 x2.length d3, .slice A4 y2.length d4, .int .u64 l] 27) = wk1 at *
  generalize wk.heap.size = gbb at *
  refine (Rr.out _ hb).mono ?_
  rintro e wk ⟨rfl, hb1⟩
  clear m_bx z_bx m_ba z_ba m_bb z_bb
  replace bx := bx.below hb1 bx.lt
  replace ba := ba.below hb1 ba.lt
  replace bb := bb.below hb1 bb.lt
  replace Na := Na.below hb1
  replace Nb := Nb.below hb1
  replace hb := hb.trans (hb1.mono hb.size)
  clear hb1
  have m_bx := fun i => bx.cell i
  have m_ba := fun i => ba.cell i
  have m_bb := fun i => bb.cell i
  have z_bx := fun i => bx.frozen i
  have z_ba := fun i => ba.frozen i
  have z_bb := fun i => bb.frozen i
  go_wp2_with fail
  clear m_bx z_bx m_ba z_ba m_bb z_bb
  refine wp_region_heldZ [] (fun w' => w'.cell? ⟨w.heap.size, 0, none⟩ = some (.bool true) ∧ w'.cell? ⟨w.heap.size, 1, none⟩ = some (.slice A n c) ∧ w'.cell? ⟨w.heap.size, 2, none⟩ = some (.slice A' m c') ∧ w'.cell? ⟨w.heap.size, 3, none⟩ = some (.int .u64 l)) (by kernel_rfl) (by exact cellsN bx) (fun hHeld => ?_)
  replace bx := bx.drew
  replace ba := ba.drew
  replace bb := bb.drew
  replace hb := hb.drew
  replace Na := (show NdO wk.drew _ _ _ _ _ _ from Na)
  replace Nb := (show NdO wk.drew _ _ _ _ _ _ from Nb)
  generalize wk.drew = wj0 at *
  refine' wpAnyZ_takeA (i := 0) (v := ?_) (opAt rfl) (by kernel_rfl) (by kernel_rfl) (by kernel_rfl) (by kernel_rfl) (fun _ _ _ h => h) (by assumption) (by rfl) (fun w hSw => ?_) ?_
  rotate_left
  · (try dsimp only at hSw); go_simp; (try with_reducible rfl)
  try simp only [Act.put, List.setIfInBounds_toArray, List.set_cons_zero, List.set_cons_succ]
  refine wpAnyZ_ready (rs := [1]) (by kernel_rfl) (by simp) ?_
  refine AllReadyZ.cons (opAt rfl) (fun K hK => ?_) ?_
  · skip
    go_simp
    refine (Rt.out _ hb).mono ?_
    rintro e wj ⟨rfl, hb1⟩
    replace bx := bx.below hb1 bx.lt
    replace ba := ba.below hb1 ba.lt
    replace bb := bb.below hb1 bb.lt
    replace Na := Na.below hb1
    replace Nb := Nb.below hb1
    replace hb := hb.trans (hb1.mono hb.size)
    clear hb1
    try go_wp2_with fail
    refine hK.out _ _ (by exact cellsN bx) (fun hHeld => ?_)
    clear hK K
    try simp only [Act.put, List.setIfInBounds_toArray, List.set_cons_zero, List.set_cons_succ]
    refine' wpAnyZ_takeA (i := 2) (v := ?_) (opAt rfl) (by kernel_rfl) (by kernel_rfl) (by kernel_rfl) (by kernel_rfl) (fun _ _ _ h => h) (by assumption) (by rfl) (fun w hSw => ?_) ?_
    rotate_left
    · (try dsimp only at hSw); go_simp; (try with_reducible rfl)
    try simp only [Act.put, List.setIfInBounds_toArray, List.set_cons_zero, List.set_cons_succ]
    refine' wpAnyZ_takeA (i := 3) (v := ?_) (opAt rfl) (by kernel_rfl) (by kernel_rfl) (by kernel_rfl) (by kernel_rfl) (fun _ _ _ h => h) (by assumption) (by rfl) (fun w hSw => ?_) ?_
    rotate_left
    · (try dsimp only at hSw); go_simp; (try with_reducible rfl)
    try simp only [Act.put, List.setIfInBounds_toArray, List.set_cons_zero, List.set_cons_succ]
    refine' wpAnyZ_takeA (i := 4) (v := ?_) (opAt rfl) (by kernel_rfl) (by kernel_rfl) (by kernel_rfl) (by kernel_rfl) (fun _ _ _ h => h) (by assumption) (by rfl) (fun w hSw => ?_) ?_
    rotate_left
    · (try dsimp only at hSw); go_simp; (try with_reducible rfl)
    try simp only [Act.put, List.setIfInBounds_toArray, List.set_cons_zero, List.set_cons_succ]
    refine' wpAnyZ_takeA (i := 5) (v := ?_) (opAt rfl) (by kernel_rfl) (by kernel_rfl) (by kernel_rfl) (by kernel_rfl) (fun _ _ _ h => h) (by assumption) (by rfl) (fun w hSw => ?_) ?_
    rotate_left
    · (try dsimp only at hSw); go_simp; (try with_reducible rfl)
    try simp only [Act.put, List.setIfInBounds_toArray, List.set_cons_zero, List.set_cons_succ]
    refine' wpAnyZ_takeA (i := 7) (v := ?_) (opAt rfl) (by kernel_rfl) (by kernel_rfl) (by kernel_rfl) (by kernel_rfl) (fun _ _ _ h => h) (by assumption) (by rfl) (fun w hSw => ?_) ?_
    rotate_left
    · (try dsimp only at hSw); go_simp; (try with_reducible rfl)
    try simp only [Act.put, List.setIfInBounds_toArray, List.set_cons_zero, List.set_cons_succ]
    refine' wpAnyZ_takeA (i := 8) (v := ?_) (opAt rfl) (by kernel_rfl) (by kernel_rfl) (by kernel_rfl) (by kernel_rfl) (fun _ _ _ h => h) (by assumption) (by rfl) (fun w hSw => ?_) ?_
    rotate_left
    · (try dsimp only at hSw); go_simp; (try with_reducible rfl)
    try simp only [Act.put, List.setIfInBounds_toArray, List.set_cons_zero, List.set_cons_succ]
    refine wpAnyZ_ready (rs := [6]) (by kernel_rfl) (by simp) ?_
    refine AllReadyZ.cons (opAt rfl) (fun K hK => ?_) ?_
    · skip
      go_simp
      refine (Ch.out _ hb).mono ?_
      rintro e wj ⟨rfl, hb1⟩
      replace bx := bx.below hb1 bx.lt
      replace ba := ba.below hb1 ba.lt
      replace bb := bb.below hb1 bb.lt
      replace Na := Na.below hb1
      replace Nb := Nb.below hb1
      replace hb := hb.trans (hb1.mono hb.size)
      clear hb1
      try go_wp2_with fail
      refine hK.out _ _ (by exact cellsN bx) (fun hHeld => ?_)
      clear hK K
      try simp only [Act.put, List.setIfInBounds_toArray, List.set_cons_zero, List.set_cons_succ]
      refine wpAnyZ_ready (rs := [9]) (by kernel_rfl) (by simp) ?_
      refine AllReadyZ.cons (opAt rfl) (fun K hK => ?_) ?_
      · skip
        go_simp
        refine (Rc.out _ hb).mono ?_
        rintro e wj ⟨rfl, hb1⟩
        replace bx := bx.below hb1 bx.lt
        replace ba := ba.below hb1 ba.lt
        replace bb := bb.below hb1 bb.lt
        replace Na := Na.below hb1
        replace Nb := Nb.below hb1
        replace hb := hb.trans (hb1.mono hb.size)
        clear hb1
        try go_wp2_with fail
        refine hK.out _ _ (by exact cellsN bx) (fun hHeld => ?_)
        clear hK K
        try simp only [Act.put, List.setIfInBounds_toArray, List.set_cons_zero, List.set_cons_succ]
        refine' wpAnyZ_takeA (i := 10) (v := ?_) (opAt rfl) (by kernel_rfl) (by kernel_rfl) (by kernel_rfl) (by kernel_rfl) (fun _ _ _ h => h) (by assumption) (by rfl) (fun w hSw => ?_) ?_
        rotate_left
        · (try dsimp only at hSw); go_simp; (try with_reducible rfl)
        try simp only [Act.put, List.setIfInBounds_toArray, List.set_cons_zero, List.set_cons_succ]
        refine' wpAnyZ_takeA (i := 11) (v := ?_) (opAt rfl) (by kernel_rfl) (by kernel_rfl) (by kernel_rfl) (by kernel_rfl) (fun _ _ _ h => h) (by assumption) (by rfl) (fun w hSw => ?_) ?_
        rotate_left
        · (try dsimp only at hSw); go_simp; (try with_reducible rfl)
        try simp only [Act.put, List.setIfInBounds_toArray, List.set_cons_zero, List.set_cons_succ]
        refine wpAnyZ_done (by kernel_rfl) ?_ _
        have HWbx := hide (Nat.ne_of_lt bx.lt)
        have HWba := hide (Nat.ne_of_lt ba.lt)
        have HWbb := hide (Nat.ne_of_lt bb.lt)
        have HWg := hide hb.size
        have bw := Blk.new wj 27 #[.bool false, .slice none 0 0, .slice none 0 0, .int .u64 0]
        replace Na := Na.below ((Below.refl _ _).alloc (Nat.le_refl _) (.cells #[.bool false, .slice none 0 0, .slice none 0 0, .int .u64 0] 27))
        replace Nb := Nb.below ((Below.refl _ _).alloc (Nat.le_refl _) (.cells #[.bool false, .slice none 0 0, .slice none 0 0, .int .u64 0] 27))
        replace bx := bx.alloc (.cells #[.bool false, .slice none 0 0, .slice none 0 0, .int .u64 0] 27)
        replace ba := ba.alloc (.cells #[.bool false, .slice none 0 0, .slice none 0 0, .int .u64 0] 27)
        replace bb := bb.alloc (.cells #[.bool false, .slice none 0 0, .slice none 0 0, .int .u64 0] 27)
        replace hb := hb.alloc hb.size (.cells #[.bool false, .slice none 0 0, .slice none 0 0, .int .u64 0] 27)
        have m_bx := fun i => bx.cell i
        have m_ba := fun i => ba.cell i
        have m_bb := fun i => bb.cell i
        have m_bw := fun i => bw.cell i
        have z_bx := fun i => bx.frozen i
        have z_ba := fun i => ba.frozen i
        have z_bb := fun i => bb.frozen i
        have z_bw := fun i => bw.frozen i
        go_wp2_with fail
        generalize wj.alloc (.cells #[.bool false, .slice none 0 0, .slice none 0 0, .int .u64 0] 27) = wk0 at *
        generalize wj.heap.size = gw at *
        refine (Ra.out _ hb).mono ?_
        rintro e wk ⟨⟨u, rfl, Nw⟩, hb1⟩
        clear m_bx z_bx m_ba z_ba m_bb z_bb m_bw z_bw
        replace bx := bx.below hb1 bx.lt
        replace ba := ba.below hb1 ba.lt
        replace bb := bb.below hb1 bb.lt
        replace bw := bw.below hb1 bw.lt
        replace Na := Na.below hb1
        replace Nb := Nb.below hb1
        replace hb := hb.trans (hb1.mono hb.size)
        clear hb1
        obtain ⟨B1, e1, B2, e2, rfl⟩ := Nw.val
        have zs_ := fun i => bw.frozen i
        have ms_ := fun i => bw.cell i
        replace Na := Na.setN bw (.bool true) (.slice B1 x1.length e1) (.slice B2 y1.length e2) (.int .u64 l)
        replace Nb := Nb.setN bw (.bool true) (.slice B1 x1.length e1) (.slice B2 y1.length e2) (.int .u64 l)
        replace Nw := Nw.setN bw (.bool true) (.slice B1 x1.length e1) (.slice B2 y1.length e2) (.int .u64 l)
        replace bx := bx.offN HWbx.out (.bool true) (.slice B1 x1.length e1) (.slice B2 y1.length e2) (.int .u64 l)
        replace ba := ba.offN HWba.out (.bool true) (.slice B1 x1.length e1) (.slice B2 y1.length e2) (.int .u64 l)
        replace bb := bb.offN HWbb.out (.bool true) (.slice B1 x1.length e1) (.slice B2 y1.length e2) (.int .u64 l)
        replace bw := bw.setN (.bool true) (.slice B1 x1.length e1) (.slice B2 y1.length e2) (.int .u64 l)
        replace hb := below_setN hb (g := gw) HWg.out (.bool true) (.slice B1 x1.length e1) (.slice B2 y1.length e2) (.int .u64 l)
        have m_bx := fun i => bx.cell i
        have m_ba := fun i => ba.cell i
        have m_bb := fun i => bb.cell i
        have m_bw := fun i => bw.cell i
        have z_bx := fun i => bx.frozen i
        have z_ba := fun i => ba.frozen i
        have z_bb := fun i => bb.frozen i
        have z_bw := fun i => bw.frozen i
        go_wp2_with fail
        generalize ((((wk).setCell ⟨gw, 0, none⟩ (.bool true)).setCell ⟨gw, 1, none⟩ (.slice B1 x1.length e1)).setCell ⟨gw, 2, none⟩ (.slice B2 y1.length e2)).setCell ⟨gw, 3, none⟩ (.int .u64 l) = ws at *
        clear zs_ ms_
        refine (Rw.out _ _ Nw.nd).mono ?_
        rintro e wr ⟨rfl, hb1⟩
        clear m_bx z_bx m_ba z_ba m_bb z_bb m_bw z_bw
        replace bx := bx.below hb1 bx.lt
        replace ba := ba.below hb1 ba.lt
        replace bb := bb.below hb1 bb.lt
        replace bw := bw.below hb1 bw.lt
        replace Na := Na.below hb1
        replace Nb := Nb.below hb1
        replace Nw := Nw.below hb1
        replace hb := hb.trans (hb1.mono hb.size)
        clear hb1
        have HLbx := hide (Nat.ne_of_lt bx.lt)
        have HLba := hide (Nat.ne_of_lt ba.lt)
        have HLbb := hide (Nat.ne_of_lt bb.lt)
        have HLbw := hide (Nat.ne_of_lt bw.lt)
        have HLg := hide hb.size
        have bl_ := Blk.new wr 27 #[.bool false, .slice none 0 0, .slice none 0 0, .int .u64 0]
        replace Na := Na.below ((Below.refl _ _).alloc (Nat.le_refl _) (.cells #[.bool false, .slice none 0 0, .slice none 0 0, .int .u64 0] 27))
        replace Nb := Nb.below ((Below.refl _ _).alloc (Nat.le_refl _) (.cells #[.bool false, .slice none 0 0, .slice none 0 0, .int .u64 0] 27))
        replace Nw := Nw.below ((Below.refl _ _).alloc (Nat.le_refl _) (.cells #[.bool false, .slice none 0 0, .slice none 0 0, .int .u64 0] 27))
        replace bx := bx.alloc (.cells #[.bool false, .slice none 0 0, .slice none 0 0, .int .u64 0] 27)
        replace ba := ba.alloc (.cells #[.bool false, .slice none 0 0, .slice none 0 0, .int .u64 0] 27)
        replace bb := bb.alloc (.cells #[.bool false, .slice none 0 0, .slice none 0 0, .int .u64 0] 27)
        replace bw := bw.alloc (.cells #[.bool false, .slice none 0 0, .slice none 0 0, .int .u64 0] 27)
        replace hb := hb.alloc hb.size (.cells #[.bool false, .slice none 0 0, .slice none 0 0, .int .u64 0] 27)
        have m_bx := fun i => bx.cell i
        have m_ba := fun i => ba.cell i
        have m_bb := fun i => bb.cell i
        have m_bw := fun i => bw.cell i
        have m_bl_ := fun i => bl_.cell i
        have z_bx := fun i => bx.frozen i
        have z_ba := fun i => ba.frozen i
        have z_bb := fun i => bb.frozen i
        have z_bw := fun i => bw.frozen i
        have z_bl_ := fun i => bl_.frozen i
        go_wp2_with fail
        generalize wr.alloc (.cells #[.bool false, .slice none 0 0, .slice none 0 0, .int .u64 0] 27) = wk1 at *
        generalize wr.heap.size = gl at *
        refine (Rd.out _ hb).mono ?_
        rintro e wk ⟨⟨u, rfl, Nl⟩, hb1⟩
        clear m_bx z_bx m_ba z_ba m_bb z_bb m_bw z_bw m_bl_ z_bl_
        replace bx := bx.below hb1 bx.lt
        replace ba := ba.below hb1 ba.lt
        replace bb := bb.below hb1 bb.lt
        replace bw := bw.below hb1 bw.lt
        replace bl_ := bl_.below hb1 bl_.lt
        replace Na := Na.below hb1
        replace Nb := Nb.below hb1
        replace Nw := Nw.below hb1
        replace hb := hb.trans (hb1.mono hb.size)
        clear hb1
        obtain ⟨B3, f1, B4, f2, rfl⟩ := Nl.val
        have zs_ := fun i => bl_.frozen i
        have ms_ := fun i => bl_.cell i
        replace Na := Na.setN bl_ (.bool true) (.slice B3 x2.length f1) (.slice B4 y2.length f2) (.int .u64 l)
        replace Nb := Nb.setN bl_ (.bool true) (.slice B3 x2.length f1) (.slice B4 y2.length f2) (.int .u64 l)
        replace Nw := Nw.setN bl_ (.bool true) (.slice B3 x2.length f1) (.slice B4 y2.length f2) (.int .u64 l)
        replace Nl := Nl.setN bl_ (.bool true) (.slice B3 x2.length f1) (.slice B4 y2.length f2) (.int .u64 l)
        replace bx := bx.offN HLbx.out (.bool true) (.slice B3 x2.length f1) (.slice B4 y2.length f2) (.int .u64 l)
        replace ba := ba.offN HLba.out (.bool true) (.slice B3 x2.length f1) (.slice B4 y2.length f2) (.int .u64 l)
        replace bb := bb.offN HLbb.out (.bool true) (.slice B3 x2.length f1) (.slice B4 y2.length f2) (.int .u64 l)
        replace bw := bw.offN HLbw.out (.bool true) (.slice B3 x2.length f1) (.slice B4 y2.length f2) (.int .u64 l)
        replace bl_ := bl_.setN (.bool true) (.slice B3 x2.length f1) (.slice B4 y2.length f2) (.int .u64 l)
        replace hb := below_setN hb (g := gl) HLg.out (.bool true) (.slice B3 x2.length f1) (.slice B4 y2.length f2) (.int .u64 l)
        have m_bx := fun i => bx.cell i
        have m_ba := fun i => ba.cell i
        have m_bb := fun i => bb.cell i
        have m_bw := fun i => bw.cell i
        have m_bl_ := fun i => bl_.cell i
        have z_bx := fun i => bx.frozen i
        have z_ba := fun i => ba.frozen i
        have z_bb := fun i => bb.frozen i
        have z_bw := fun i => bw.frozen i
        have z_bl_ := fun i => bl_.frozen i
        go_wp2_with fail
        generalize ((((wk).setCell ⟨gl, 0, none⟩ (.bool true)).setCell ⟨gl, 1, none⟩ (.slice B3 x2.length f1)).setCell ⟨gl, 2, none⟩ (.slice B4 y2.length f2)).setCell ⟨gl, 3, none⟩ (.int .u64 l) = ws2 at *
        clear zs_ ms_
        refine (same_any _ _ true true x1 y1 x1 y1 l l _ Hx1.out Hy1.out Hx1.out Hy1.out Na.nd Nw.nd).mono ?_
        rw [same_yes]
        rintro e wk ⟨rfl, hb1⟩
        clear m_bx z_bx m_ba z_ba m_bb z_bb m_bw z_bw m_bl_ z_bl_
        replace bx := bx.below hb1 bx.lt
        replace ba := ba.below hb1 ba.lt
        replace bb := bb.below hb1 bb.lt
        replace bw := bw.below hb1 bw.lt
        replace bl_ := bl_.below hb1 bl_.lt
        replace Na := Na.below hb1
        replace Nb := Nb.below hb1
        replace Nw := Nw.below hb1
        replace Nl := Nl.below hb1
        replace hb := hb.trans (hb1.mono hb.size)
        clear hb1
        have m_bx := fun i => bx.cell i
        have m_ba := fun i => ba.cell i
        have m_bb := fun i => bb.cell i
        have m_bw := fun i => bw.cell i
        have m_bl_ := fun i => bl_.cell i
        have z_bx := fun i => bx.frozen i
        have z_ba := fun i => ba.frozen i
        have z_bb := fun i => bb.frozen i
        have z_bw := fun i => bw.frozen i
        have z_bl_ := fun i => bl_.frozen i
        go_wp2_with fail
        refine (none_any _ true x1 y1 l _ Hx1.out Hy1.out Nw.nd).mono ?_
        rw [show sameB true x1 y1 l false [] [] 0 = false from rfl]
        rintro e wk ⟨rfl, hb1⟩
        clear m_bx z_bx m_ba z_ba m_bb z_bb m_bw z_bw m_bl_ z_bl_
        replace bx := bx.below hb1 bx.lt
        replace ba := ba.below hb1 ba.lt
        replace bb := bb.below hb1 bb.lt
        replace bw := bw.below hb1 bw.lt
        replace bl_ := bl_.below hb1 bl_.lt
        replace Na := Na.below hb1
        replace Nb := Nb.below hb1
        replace Nw := Nw.below hb1
        replace Nl := Nl.below hb1
        replace hb := hb.trans (hb1.mono hb.size)
        clear hb1
        have m_bx := fun i => bx.cell i
        have m_ba := fun i => ba.cell i
        have m_bb := fun i => bb.cell i
        have m_bw := fun i => bw.cell i
        have m_bl_ := fun i => bl_.cell i
        have z_bx := fun i => bx.frozen i
        have z_ba := fun i => ba.frozen i
        have z_bb := fun i => bb.frozen i
        have z_bw := fun i => bw.frozen i
        have z_bl_ := fun i => bl_.frozen i
        go_wp2_with fail
        refine (same_any _ _ true true x2 y2 x2 y2 l l _ Hx2.out Hy2.out Hx2.out Hy2.out Nb.nd Nl.nd).mono ?_
        rw [same_yes]
        rintro e wk ⟨rfl, hb1⟩
        clear m_bx z_bx m_ba z_ba m_bb z_bb m_bw z_bw m_bl_ z_bl_
        replace bx := bx.below hb1 bx.lt
        replace ba := ba.below hb1 ba.lt
        replace bb := bb.below hb1 bb.lt
        replace bw := bw.below hb1 bw.lt
        replace bl_ := bl_.below hb1 bl_.lt
        replace Na := Na.below hb1
        replace Nb := Nb.below hb1
        replace Nw := Nw.below hb1
        replace Nl := Nl.below hb1
        replace hb := hb.trans (hb1.mono hb.size)
        clear hb1
        have m_bx := fun i => bx.cell i
        have m_ba := fun i => ba.cell i
        have m_bb := fun i => bb.cell i
        have m_bw := fun i => bw.cell i
        have m_bl_ := fun i => bl_.cell i
        have z_bx := fun i => bx.frozen i
        have z_ba := fun i => ba.frozen i
        have z_bb := fun i => bb.frozen i
        have z_bw := fun i => bw.frozen i
        have z_bl_ := fun i => bl_.frozen i
        go_wp2_with fail
        refine (none_any _ true x2 y2 l _ Hx2.out Hy2.out Nl.nd).mono ?_
        rw [show sameB true x2 y2 l false [] [] 0 = false from rfl]
        rintro e wk ⟨rfl, hb1⟩
        clear m_bx z_bx m_ba z_ba m_bb z_bb m_bw z_bw m_bl_ z_bl_
        replace bx := bx.below hb1 bx.lt
        replace ba := ba.below hb1 ba.lt
        replace bb := bb.below hb1 bb.lt
        replace bw := bw.below hb1 bw.lt
        replace bl_ := bl_.below hb1 bl_.lt
        replace Na := Na.below hb1
        replace Nb := Nb.below hb1
        replace Nw := Nw.below hb1
        replace Nl := Nl.below hb1
        replace hb := hb.trans (hb1.mono hb.size)
        clear hb1
        have m_bx := fun i => bx.cell i
        have m_ba := fun i => ba.cell i
        have m_bb := fun i => bb.cell i
        have m_bw := fun i => bw.cell i
        have m_bl_ := fun i => bl_.cell i
        have z_bx := fun i => bx.frozen i
        have z_ba := fun i => ba.frozen i
        have z_bb := fun i => bb.frozen i
        have z_bw := fun i => bw.frozen i
        have z_bl_ := fun i => bl_.frozen i
        go_wp2_with fail
        refine (awake13 _).mono ?_
        rintro e wk ⟨rfl, hb1⟩
        replace hb := hb.trans (hb1.mono hb.size)
        go_wp2_with fail
        go_ret
        exact ⟨rfl, hb⟩
      exact AllReadyZ.nil
    exact AllReadyZ.nil
  exact AllReadyZ.nil
set_option maxRecDepth 100000 in
set_option maxHeartbeats 4000000 in
theorem t_endN (v : Value) (ks vs : List Int) (l i key child : Int) (w : World) (h : Nd w w.heap.size v true ks vs l) (hk : ks.length ≤ 80) (hv : vs.length ≤ 80) (hr : rightI true ks vs = true) (x1 y1 : List Int) (hx1 : x1.length ≤ 1000) (hy1 : y1.length ≤ 1000) (Ad0 : ∀ w2, Below w.heap.size w w2 → Calls Try.prog 17 #[v, .int .i64 i, .int .u64 key, .int .u64 child] w2 fun e w' => e = .returned (.tuple #[.agg #[.bool false, .slice none 0 0, .slice none 0 0, .int .u64 0], .bool false]) ∧ Below w2.heap.size w2 w') (Dr0 : ∀ w2, Below w.heap.size w w2 → Calls Try.prog 18 #[v, .int .i64 i] w2 fun e w' => e = .returned (.tuple #[.agg #[.bool false, .slice none 0 0, .slice none 0 0, .int .u64 0], .bool false]) ∧ Below w2.heap.size w2 w') (Ra0 : ∀ w2, Below w.heap.size w w2 → Calls Try.prog 22 #[v, .int .i64 i, .int .u64 key, .int .u64 child] w2 fun e w' => (∃ u, e = .returned u ∧ NdO w' w2.heap.size u true x1 y1 l) ∧ Below w2.heap.size w2 w') (h3 : rightI true x1 y1 = false) (q0 : decide ((1 : Int) ≤ i) = true) (q1 : decide (i ≤ (vs.length : Int)) = true) (q2 : decide ((0 : Int) ≤ i) = true) (q3 : decide (i < (vs.length : Int)) = false) :
    Calls Try.prog 5 #[v, .int .i64 i, .int .u64 key, .int .u64 child] w fun e w' => e = .returned (.bool true) ∧ Below w.heap.size w w' := by
  have Ad := hide Ad0
  have Dr := hide Dr0
  have Ra := hide Ra0
  have Hx1 := hide (show x1.length ≤ 1000000 by omega)
  have Hy1 := hide (show y1.length ≤ 1000000 by omega)
  have Rw := hide (fun (u : Value) w2 (hN : Nd w2 w2.heap.size u true x1 y1 l) => irright_any u true x1 y1 l w2 (by omega) hN)
  rw [h3] at Rw
  clear Ad0 Dr0 Ra0 h3 hx1 hy1
  have Rr := hide (fun w2 (hB : Below w.heap.size w w2) => irright_any v true ks vs l w2 (by omega) ((h.below hB).more hB.size))
  have Rt := hide (fun w2 (hB : Below w.heap.size w w2) => iright_any v true ks vs l w2 (by omega) ((h.below hB).more hB.size))
  have Ch := hide (fun w2 (hB : Below w.heap.size w w2) => child_any v true ks vs l key w2 (by omega) ((h.below hB).more hB.size))
  have Rc := hide (fun w2 (hB : Below w.heap.size w w2) => rchild_any v true ks vs l key w2 (by omega) ((h.below hB).more hB.size))
  rw [child_right hr] at Ch
  rw [hr] at Rr Rt
  obtain ⟨A, c, A', c', rfl⟩ := ValN w true ks vs l v h
  have Sm := hide (fun w2 => small_any true A A' ks.length c vs.length c' l w2)
  rw [show (decide (ks.length ≤ 80) && decide (vs.length ≤ 80)) = true by simp; omega] at Sm
  clear h hk hv hr
  generalize upN key ks = kc at *
  generalize ks.length = n at *
  generalize vs.length = m at *
  have hb := (Below.refl w.heap.size w).alloc (Nat.le_refl _) (.cells #[.bool true, .slice A n c, .slice A' m c', .int .u64 l] 27)
  have bx := Blk.new w 27 #[.bool true, .slice A n c, .slice A' m c', .int .u64 l]
  have m_bx := fun i => bx.cell i
  have z_bx := fun i => bx.frozen i
  go_enter Try.func5, Try.ntmps5
  go_wp2_with fail
  refine (Sm.out _).mono ?_
  rintro e wk ⟨rfl, hb1⟩
  clear m_bx z_bx
  replace bx := bx.below hb1 bx.lt
  replace hb := hb.trans (hb1.mono hb.size)
  clear hb1
  have m_bx := fun i => bx.cell i
  have z_bx := fun i => bx.frozen i
  go_wp2_with fail
  refine (Ad.out _ hb).mono ?_
  rintro e wk ⟨rfl, hb1⟩
  clear m_bx z_bx
  replace bx := bx.below hb1 bx.lt
  replace hb := hb.trans (hb1.mono hb.size)
  clear hb1
  have ba := Blk.new wk 27 #[.bool false, .slice none 0 0, .slice none 0 0, .int .u64 0]
  replace bx := bx.alloc (.cells #[.bool false, .slice none 0 0, .slice none 0 0, .int .u64 0] 27)
  replace hb := hb.alloc hb.size (.cells #[.bool false, .slice none 0 0, .slice none 0 0, .int .u64 0] 27)
  have m_bx := fun i => bx.cell i
  have m_ba := fun i => ba.cell i
  have z_bx := fun i => bx.frozen i
  have z_ba := fun i => ba.frozen i
  go_wp2_with fail
  generalize wk.alloc (.cells #[.bool false, .slice none 0 0, .slice none 0 0, .int .u64 0] 27) = wk1 at *
  generalize wk.heap.size = gba at *
  refine (Dr.out _ hb).mono ?_
  rintro e wk ⟨rfl, hb1⟩
  clear m_bx z_bx m_ba z_ba
  replace bx := bx.below hb1 bx.lt
  replace ba := ba.below hb1 ba.lt
  replace hb := hb.trans (hb1.mono hb.size)
  clear hb1
  have bb := Blk.new wk 27 #[.bool false, .slice none 0 0, .slice none 0 0, .int .u64 0]
  replace bx := bx.alloc (.cells #[.bool false, .slice none 0 0, .slice none 0 0, .int .u64 0] 27)
  replace ba := ba.alloc (.cells #[.bool false, .slice none 0 0, .slice none 0 0, .int .u64 0] 27)
  replace hb := hb.alloc hb.size (.cells #[.bool false, .slice none 0 0, .slice none 0 0, .int .u64 0] 27)
  have m_bx := fun i => bx.cell i
  have m_ba := fun i => ba.cell i
  have m_bb := fun i => bb.cell i
  have z_bx := fun i => bx.frozen i
  have z_ba := fun i => ba.frozen i
  have z_bb := fun i => bb.frozen i
  go_wp2_with fail
  generalize wk.alloc (.cells #[.bool false, .slice none 0 0, .slice none 0 0, .int .u64 0] 27) = wk1 at *
  generalize wk.heap.size = gbb at *
  refine (Rr.out _ hb).mono ?_
  rintro e wk ⟨rfl, hb1⟩
  clear m_bx z_bx m_ba z_ba m_bb z_bb
  replace bx := bx.below hb1 bx.lt
  replace ba := ba.below hb1 ba.lt
  replace bb := bb.below hb1 bb.lt
  replace hb := hb.trans (hb1.mono hb.size)
  clear hb1
  have m_bx := fun i => bx.cell i
  have m_ba := fun i => ba.cell i
  have m_bb := fun i => bb.cell i
  have z_bx := fun i => bx.frozen i
  have z_ba := fun i => ba.frozen i
  have z_bb := fun i => bb.frozen i
  go_wp2_with fail
  clear m_bx z_bx m_ba z_ba m_bb z_bb
  refine wp_region_heldZ [] (fun w' => w'.cell? ⟨w.heap.size, 0, none⟩ = some (.bool true) ∧ w'.cell? ⟨w.heap.size, 1, none⟩ = some (.slice A n c) ∧ w'.cell? ⟨w.heap.size, 2, none⟩ = some (.slice A' m c') ∧ w'.cell? ⟨w.heap.size, 3, none⟩ = some (.int .u64 l)) (by kernel_rfl) (by exact cellsN bx) (fun hHeld => ?_)
  replace bx := bx.drew
  replace ba := ba.drew
  replace bb := bb.drew
  replace hb := hb.drew
  generalize wk.drew = wj0 at *
  refine' wpAnyZ_takeA (i := 0) (v := ?_) (opAt rfl) (by kernel_rfl) (by kernel_rfl) (by kernel_rfl) (by kernel_rfl) (fun _ _ _ h => h) (by assumption) (by rfl) (fun w hSw => ?_) ?_
  rotate_left
  · (try dsimp only at hSw); go_simp; (try with_reducible rfl)
  try simp only [Act.put, List.setIfInBounds_toArray, List.set_cons_zero, List.set_cons_succ]
  refine wpAnyZ_ready (rs := [1]) (by kernel_rfl) (by simp) ?_
  refine AllReadyZ.cons (opAt rfl) (fun K hK => ?_) ?_
  · skip
    go_simp
    refine (Rt.out _ hb).mono ?_
    rintro e wj ⟨rfl, hb1⟩
    replace bx := bx.below hb1 bx.lt
    replace ba := ba.below hb1 ba.lt
    replace bb := bb.below hb1 bb.lt
    replace hb := hb.trans (hb1.mono hb.size)
    clear hb1
    try go_wp2_with fail
    refine hK.out _ _ (by exact cellsN bx) (fun hHeld => ?_)
    clear hK K
    try simp only [Act.put, List.setIfInBounds_toArray, List.set_cons_zero, List.set_cons_succ]
    refine' wpAnyZ_takeA (i := 2) (v := ?_) (opAt rfl) (by kernel_rfl) (by kernel_rfl) (by kernel_rfl) (by kernel_rfl) (fun _ _ _ h => h) (by assumption) (by rfl) (fun w hSw => ?_) ?_
    rotate_left
    · (try dsimp only at hSw); go_simp; (try with_reducible rfl)
    try simp only [Act.put, List.setIfInBounds_toArray, List.set_cons_zero, List.set_cons_succ]
    refine' wpAnyZ_takeA (i := 3) (v := ?_) (opAt rfl) (by kernel_rfl) (by kernel_rfl) (by kernel_rfl) (by kernel_rfl) (fun _ _ _ h => h) (by assumption) (by rfl) (fun w hSw => ?_) ?_
    rotate_left
    · (try dsimp only at hSw); go_simp; (try with_reducible rfl)
    try simp only [Act.put, List.setIfInBounds_toArray, List.set_cons_zero, List.set_cons_succ]
    refine' wpAnyZ_takeA (i := 4) (v := ?_) (opAt rfl) (by kernel_rfl) (by kernel_rfl) (by kernel_rfl) (by kernel_rfl) (fun _ _ _ h => h) (by assumption) (by rfl) (fun w hSw => ?_) ?_
    rotate_left
    · (try dsimp only at hSw); go_simp; (try with_reducible rfl)
    try simp only [Act.put, List.setIfInBounds_toArray, List.set_cons_zero, List.set_cons_succ]
    refine' wpAnyZ_takeA (i := 5) (v := ?_) (opAt rfl) (by kernel_rfl) (by kernel_rfl) (by kernel_rfl) (by kernel_rfl) (fun _ _ _ h => h) (by assumption) (by rfl) (fun w hSw => ?_) ?_
    rotate_left
    · (try dsimp only at hSw); go_simp; (try with_reducible rfl)
    try simp only [Act.put, List.setIfInBounds_toArray, List.set_cons_zero, List.set_cons_succ]
    refine' wpAnyZ_takeA (i := 7) (v := ?_) (opAt rfl) (by kernel_rfl) (by kernel_rfl) (by kernel_rfl) (by kernel_rfl) (fun _ _ _ h => h) (by assumption) (by rfl) (fun w hSw => ?_) ?_
    rotate_left
    · (try dsimp only at hSw); go_simp; (try with_reducible rfl)
    try simp only [Act.put, List.setIfInBounds_toArray, List.set_cons_zero, List.set_cons_succ]
    refine' wpAnyZ_takeA (i := 8) (v := ?_) (opAt rfl) (by kernel_rfl) (by kernel_rfl) (by kernel_rfl) (by kernel_rfl) (fun _ _ _ h => h) (by assumption) (by rfl) (fun w hSw => ?_) ?_
    rotate_left
    · (try dsimp only at hSw); go_simp; (try with_reducible rfl)
    try simp only [Act.put, List.setIfInBounds_toArray, List.set_cons_zero, List.set_cons_succ]
    refine wpAnyZ_ready (rs := [6]) (by kernel_rfl) (by simp) ?_
    refine AllReadyZ.cons (opAt rfl) (fun K hK => ?_) ?_
    · skip
      go_simp
      refine (Ch.out _ hb).mono ?_
      rintro e wj ⟨rfl, hb1⟩
      replace bx := bx.below hb1 bx.lt
      replace ba := ba.below hb1 ba.lt
      replace bb := bb.below hb1 bb.lt
      replace hb := hb.trans (hb1.mono hb.size)
      clear hb1
      try go_wp2_with fail
      refine hK.out _ _ (by exact cellsN bx) (fun hHeld => ?_)
      clear hK K
      try simp only [Act.put, List.setIfInBounds_toArray, List.set_cons_zero, List.set_cons_succ]
      refine wpAnyZ_ready (rs := [9]) (by kernel_rfl) (by simp) ?_
      refine AllReadyZ.cons (opAt rfl) (fun K hK => ?_) ?_
      · skip
        go_simp
        refine (Rc.out _ hb).mono ?_
        rintro e wj ⟨rfl, hb1⟩
        replace bx := bx.below hb1 bx.lt
        replace ba := ba.below hb1 ba.lt
        replace bb := bb.below hb1 bb.lt
        replace hb := hb.trans (hb1.mono hb.size)
        clear hb1
        try go_wp2_with fail
        refine hK.out _ _ (by exact cellsN bx) (fun hHeld => ?_)
        clear hK K
        try simp only [Act.put, List.setIfInBounds_toArray, List.set_cons_zero, List.set_cons_succ]
        refine' wpAnyZ_takeA (i := 10) (v := ?_) (opAt rfl) (by kernel_rfl) (by kernel_rfl) (by kernel_rfl) (by kernel_rfl) (fun _ _ _ h => h) (by assumption) (by rfl) (fun w hSw => ?_) ?_
        rotate_left
        · (try dsimp only at hSw); go_simp; (try with_reducible rfl)
        try simp only [Act.put, List.setIfInBounds_toArray, List.set_cons_zero, List.set_cons_succ]
        refine' wpAnyZ_takeA (i := 11) (v := ?_) (opAt rfl) (by kernel_rfl) (by kernel_rfl) (by kernel_rfl) (by kernel_rfl) (fun _ _ _ h => h) (by assumption) (by rfl) (fun w hSw => ?_) ?_
        rotate_left
        · (try dsimp only at hSw); go_simp; (try with_reducible rfl)
        try simp only [Act.put, List.setIfInBounds_toArray, List.set_cons_zero, List.set_cons_succ]
        refine wpAnyZ_done (by kernel_rfl) ?_ _
        have HWbx := hide (Nat.ne_of_lt bx.lt)
        have HWba := hide (Nat.ne_of_lt ba.lt)
        have HWbb := hide (Nat.ne_of_lt bb.lt)
        have HWg := hide hb.size
        have bw := Blk.new wj 27 #[.bool false, .slice none 0 0, .slice none 0 0, .int .u64 0]
        replace bx := bx.alloc (.cells #[.bool false, .slice none 0 0, .slice none 0 0, .int .u64 0] 27)
        replace ba := ba.alloc (.cells #[.bool false, .slice none 0 0, .slice none 0 0, .int .u64 0] 27)
        replace bb := bb.alloc (.cells #[.bool false, .slice none 0 0, .slice none 0 0, .int .u64 0] 27)
        replace hb := hb.alloc hb.size (.cells #[.bool false, .slice none 0 0, .slice none 0 0, .int .u64 0] 27)
        have m_bx := fun i => bx.cell i
        have m_ba := fun i => ba.cell i
        have m_bb := fun i => bb.cell i
        have m_bw := fun i => bw.cell i
        have z_bx := fun i => bx.frozen i
        have z_ba := fun i => ba.frozen i
        have z_bb := fun i => bb.frozen i
        have z_bw := fun i => bw.frozen i
        go_wp2_with fail
        generalize wj.alloc (.cells #[.bool false, .slice none 0 0, .slice none 0 0, .int .u64 0] 27) = wk0 at *
        generalize wj.heap.size = gw at *
        refine (Ra.out _ hb).mono ?_
        rintro e wk ⟨⟨u, rfl, Nw⟩, hb1⟩
        clear m_bx z_bx m_ba z_ba m_bb z_bb m_bw z_bw
        replace bx := bx.below hb1 bx.lt
        replace ba := ba.below hb1 ba.lt
        replace bb := bb.below hb1 bb.lt
        replace bw := bw.below hb1 bw.lt
        replace hb := hb.trans (hb1.mono hb.size)
        clear hb1
        obtain ⟨B1, e1, B2, e2, rfl⟩ := Nw.val
        have zs_ := fun i => bw.frozen i
        have ms_ := fun i => bw.cell i
        replace Nw := Nw.setN bw (.bool true) (.slice B1 x1.length e1) (.slice B2 y1.length e2) (.int .u64 l)
        replace bx := bx.offN HWbx.out (.bool true) (.slice B1 x1.length e1) (.slice B2 y1.length e2) (.int .u64 l)
        replace ba := ba.offN HWba.out (.bool true) (.slice B1 x1.length e1) (.slice B2 y1.length e2) (.int .u64 l)
        replace bb := bb.offN HWbb.out (.bool true) (.slice B1 x1.length e1) (.slice B2 y1.length e2) (.int .u64 l)
        replace bw := bw.setN (.bool true) (.slice B1 x1.length e1) (.slice B2 y1.length e2) (.int .u64 l)
        replace hb := below_setN hb (g := gw) HWg.out (.bool true) (.slice B1 x1.length e1) (.slice B2 y1.length e2) (.int .u64 l)
        have m_bx := fun i => bx.cell i
        have m_ba := fun i => ba.cell i
        have m_bb := fun i => bb.cell i
        have m_bw := fun i => bw.cell i
        have z_bx := fun i => bx.frozen i
        have z_ba := fun i => ba.frozen i
        have z_bb := fun i => bb.frozen i
        have z_bw := fun i => bw.frozen i
        go_wp2_with fail
        generalize ((((wk).setCell ⟨gw, 0, none⟩ (.bool true)).setCell ⟨gw, 1, none⟩ (.slice B1 x1.length e1)).setCell ⟨gw, 2, none⟩ (.slice B2 y1.length e2)).setCell ⟨gw, 3, none⟩ (.int .u64 l) = ws at *
        clear zs_ ms_
        refine (Rw.out _ _ Nw.nd).mono ?_
        rintro e wr ⟨rfl, hb1⟩
        clear m_bx z_bx m_ba z_ba m_bb z_bb m_bw z_bw
        replace bx := bx.below hb1 bx.lt
        replace ba := ba.below hb1 ba.lt
        replace bb := bb.below hb1 bb.lt
        replace bw := bw.below hb1 bw.lt
        replace Nw := Nw.below hb1
        replace hb := hb.trans (hb1.mono hb.size)
        clear hb1
        clear Nw
        have HLbx := hide (Nat.ne_of_lt bx.lt)
        have HLba := hide (Nat.ne_of_lt ba.lt)
        have HLbb := hide (Nat.ne_of_lt bb.lt)
        have HLbw := hide (Nat.ne_of_lt bw.lt)
        have HLg := hide hb.size
        have zs_ := fun i => bw.frozen i
        have ms_ := fun i => bw.cell i
        replace bx := bx.offN HWbx.out (.bool false) (.slice none 0 0) (.slice none 0 0) (.int .u64 0)
        replace ba := ba.offN HWba.out (.bool false) (.slice none 0 0) (.slice none 0 0) (.int .u64 0)
        replace bb := bb.offN HWbb.out (.bool false) (.slice none 0 0) (.slice none 0 0) (.int .u64 0)
        replace bw := bw.setN (.bool false) (.slice none 0 0) (.slice none 0 0) (.int .u64 0)
        replace hb := below_setN hb (g := gw) HWg.out (.bool false) (.slice none 0 0) (.slice none 0 0) (.int .u64 0)
        have bl_ := Blk.new (((((wr).setCell ⟨gw, 0, none⟩ (.bool false)).setCell ⟨gw, 1, none⟩ (.slice none 0 0)).setCell ⟨gw, 2, none⟩ (.slice none 0 0)).setCell ⟨gw, 3, none⟩ (.int .u64 0)) 27 #[.bool false, .slice none 0 0, .slice none 0 0, .int .u64 0]
        replace bx := bx.alloc (.cells #[.bool false, .slice none 0 0, .slice none 0 0, .int .u64 0] 27)
        replace ba := ba.alloc (.cells #[.bool false, .slice none 0 0, .slice none 0 0, .int .u64 0] 27)
        replace bb := bb.alloc (.cells #[.bool false, .slice none 0 0, .slice none 0 0, .int .u64 0] 27)
        replace bw := bw.alloc (.cells #[.bool false, .slice none 0 0, .slice none 0 0, .int .u64 0] 27)
        replace hb := hb.alloc hb.size (.cells #[.bool false, .slice none 0 0, .slice none 0 0, .int .u64 0] 27)
        simp only [size_set] at bl_
        have m_bx := fun i => bx.cell i
        have m_ba := fun i => ba.cell i
        have m_bb := fun i => bb.cell i
        have m_bw := fun i => bw.cell i
        have m_bl_ := fun i => bl_.cell i
        have z_bx := fun i => bx.frozen i
        have z_ba := fun i => ba.frozen i
        have z_bb := fun i => bb.frozen i
        have z_bw := fun i => bw.frozen i
        have z_bl_ := fun i => bl_.frozen i
        go_wp2_with fail
        generalize (((((wr).setCell ⟨gw, 0, none⟩ (.bool false)).setCell ⟨gw, 1, none⟩ (.slice none 0 0)).setCell ⟨gw, 2, none⟩ (.slice none 0 0)).setCell ⟨gw, 3, none⟩ (.int .u64 0)).alloc (.cells #[.bool false, .slice none 0 0, .slice none 0 0, .int .u64 0] 27) = wk1 at *
        clear zs_ ms_
        generalize wr.heap.size = gl at *
        refine (same_any _ _ false false [] [] [] [] 0 0 _ (by simp) (by simp) (by simp) (by simp) (Nd.zero _ _) (Nd.zero _ _)).mono ?_
        rw [same_yes]
        rintro e wk ⟨rfl, hb1⟩
        clear m_bx z_bx m_ba z_ba m_bb z_bb m_bw z_bw m_bl_ z_bl_
        replace bx := bx.below hb1 bx.lt
        replace ba := ba.below hb1 ba.lt
        replace bb := bb.below hb1 bb.lt
        replace bw := bw.below hb1 bw.lt
        replace bl_ := bl_.below hb1 bl_.lt
        replace hb := hb.trans (hb1.mono hb.size)
        clear hb1
        have m_bx := fun i => bx.cell i
        have m_ba := fun i => ba.cell i
        have m_bb := fun i => bb.cell i
        have m_bw := fun i => bw.cell i
        have m_bl_ := fun i => bl_.cell i
        have z_bx := fun i => bx.frozen i
        have z_ba := fun i => ba.frozen i
        have z_bb := fun i => bb.frozen i
        have z_bw := fun i => bw.frozen i
        have z_bl_ := fun i => bl_.frozen i
        go_wp2_with fail
        refine (none_any _ false [] [] 0 _ (by simp) (by simp) (Nd.zero _ _)).mono ?_
        rw [show sameB false [] [] 0 false [] [] 0 = true by decide]
        rintro e wk ⟨rfl, hb1⟩
        clear m_bx z_bx m_ba z_ba m_bb z_bb m_bw z_bw m_bl_ z_bl_
        replace bx := bx.below hb1 bx.lt
        replace ba := ba.below hb1 ba.lt
        replace bb := bb.below hb1 bb.lt
        replace bw := bw.below hb1 bw.lt
        replace bl_ := bl_.below hb1 bl_.lt
        replace hb := hb.trans (hb1.mono hb.size)
        clear hb1
        have m_bx := fun i => bx.cell i
        have m_ba := fun i => ba.cell i
        have m_bb := fun i => bb.cell i
        have m_bw := fun i => bw.cell i
        have m_bl_ := fun i => bl_.cell i
        have z_bx := fun i => bx.frozen i
        have z_ba := fun i => ba.frozen i
        have z_bb := fun i => bb.frozen i
        have z_bw := fun i => bw.frozen i
        have z_bl_ := fun i => bl_.frozen i
        go_wp2_with fail
        refine (same_any _ _ false false [] [] [] [] 0 0 _ (by simp) (by simp) (by simp) (by simp) (Nd.zero _ _) (Nd.zero _ _)).mono ?_
        rw [same_yes]
        rintro e wk ⟨rfl, hb1⟩
        clear m_bx z_bx m_ba z_ba m_bb z_bb m_bw z_bw m_bl_ z_bl_
        replace bx := bx.below hb1 bx.lt
        replace ba := ba.below hb1 ba.lt
        replace bb := bb.below hb1 bb.lt
        replace bw := bw.below hb1 bw.lt
        replace bl_ := bl_.below hb1 bl_.lt
        replace hb := hb.trans (hb1.mono hb.size)
        clear hb1
        have m_bx := fun i => bx.cell i
        have m_ba := fun i => ba.cell i
        have m_bb := fun i => bb.cell i
        have m_bw := fun i => bw.cell i
        have m_bl_ := fun i => bl_.cell i
        have z_bx := fun i => bx.frozen i
        have z_ba := fun i => ba.frozen i
        have z_bb := fun i => bb.frozen i
        have z_bw := fun i => bw.frozen i
        have z_bl_ := fun i => bl_.frozen i
        go_wp2_with fail
        refine (none_any _ false [] [] 0 _ (by simp) (by simp) (Nd.zero _ _)).mono ?_
        rw [show sameB false [] [] 0 false [] [] 0 = true by decide]
        rintro e wk ⟨rfl, hb1⟩
        clear m_bx z_bx m_ba z_ba m_bb z_bb m_bw z_bw m_bl_ z_bl_
        replace bx := bx.below hb1 bx.lt
        replace ba := ba.below hb1 ba.lt
        replace bb := bb.below hb1 bb.lt
        replace bw := bw.below hb1 bw.lt
        replace bl_ := bl_.below hb1 bl_.lt
        replace hb := hb.trans (hb1.mono hb.size)
        clear hb1
        have m_bx := fun i => bx.cell i
        have m_ba := fun i => ba.cell i
        have m_bb := fun i => bb.cell i
        have m_bw := fun i => bw.cell i
        have m_bl_ := fun i => bl_.cell i
        have z_bx := fun i => bx.frozen i
        have z_ba := fun i => ba.frozen i
        have z_bb := fun i => bb.frozen i
        have z_bw := fun i => bw.frozen i
        have z_bl_ := fun i => bl_.frozen i
        go_wp2_with fail
        refine (awake13 _).mono ?_
        rintro e wk ⟨rfl, hb1⟩
        replace hb := hb.trans (hb1.mono hb.size)
        go_wp2_with fail
        go_ret
        exact ⟨rfl, hb⟩
      exact AllReadyZ.nil
    exact AllReadyZ.nil
  exact AllReadyZ.nil
set_option maxRecDepth 100000 in
set_option maxHeartbeats 4000000 in
theorem t_endY (v : Value) (ks vs : List Int) (l i key child : Int) (w : World) (h : Nd w w.heap.size v true ks vs l) (hk : ks.length ≤ 80) (hv : vs.length ≤ 80) (hr : rightI true ks vs = true) (x1 y1 : List Int) (hx1 : x1.length ≤ 1000) (hy1 : y1.length ≤ 1000) (Ad0 : ∀ w2, Below w.heap.size w w2 → Calls Try.prog 17 #[v, .int .i64 i, .int .u64 key, .int .u64 child] w2 fun e w' => (∃ u, e = .returned (.tuple #[u, .bool true]) ∧ NdO w' w2.heap.size u true x1 y1 l) ∧ Below w2.heap.size w2 w') (Dr0 : ∀ w2, Below w.heap.size w w2 → Calls Try.prog 18 #[v, .int .i64 i] w2 fun e w' => e = .returned (.tuple #[.agg #[.bool false, .slice none 0 0, .slice none 0 0, .int .u64 0], .bool false]) ∧ Below w2.heap.size w2 w') (Ra0 : ∀ w2, Below w.heap.size w w2 → Calls Try.prog 22 #[v, .int .i64 i, .int .u64 key, .int .u64 child] w2 fun e w' => (∃ u, e = .returned u ∧ NdO w' w2.heap.size u true x1 y1 l) ∧ Below w2.heap.size w2 w') (h3 : rightI true x1 y1 = true) (q0 : decide ((1 : Int) ≤ i) = true) (q1 : decide (i ≤ (vs.length : Int)) = true) (q2 : decide ((0 : Int) ≤ i) = true) (q3 : decide (i < (vs.length : Int)) = false) :
    Calls Try.prog 5 #[v, .int .i64 i, .int .u64 key, .int .u64 child] w fun e w' => e = .returned (.bool true) ∧ Below w.heap.size w w' := by
  have Ad := hide Ad0
  have Dr := hide Dr0
  have Ra := hide Ra0
  have Hx1 := hide (show x1.length ≤ 1000000 by omega)
  have Hy1 := hide (show y1.length ≤ 1000000 by omega)
  have Rw := hide (fun (u : Value) w2 (hN : Nd w2 w2.heap.size u true x1 y1 l) => irright_any u true x1 y1 l w2 (by omega) hN)
  rw [h3] at Rw
  clear Ad0 Dr0 Ra0 h3 hx1 hy1
  have Rr := hide (fun w2 (hB : Below w.heap.size w w2) => irright_any v true ks vs l w2 (by omega) ((h.below hB).more hB.size))
  have Rt := hide (fun w2 (hB : Below w.heap.size w w2) => iright_any v true ks vs l w2 (by omega) ((h.below hB).more hB.size))
  have Ch := hide (fun w2 (hB : Below w.heap.size w w2) => child_any v true ks vs l key w2 (by omega) ((h.below hB).more hB.size))
  have Rc := hide (fun w2 (hB : Below w.heap.size w w2) => rchild_any v true ks vs l key w2 (by omega) ((h.below hB).more hB.size))
  rw [child_right hr] at Ch
  rw [hr] at Rr Rt
  obtain ⟨A, c, A', c', rfl⟩ := ValN w true ks vs l v h
  have Sm := hide (fun w2 => small_any true A A' ks.length c vs.length c' l w2)
  rw [show (decide (ks.length ≤ 80) && decide (vs.length ≤ 80)) = true by simp; omega] at Sm
  clear h hk hv hr
  generalize upN key ks = kc at *
  generalize ks.length = n at *
  generalize vs.length = m at *
  have hb := (Below.refl w.heap.size w).alloc (Nat.le_refl _) (.cells #[.bool true, .slice A n c, .slice A' m c', .int .u64 l] 27)
  have bx := Blk.new w 27 #[.bool true, .slice A n c, .slice A' m c', .int .u64 l]
  have m_bx := fun i => bx.cell i
  have z_bx := fun i => bx.frozen i
  go_enter Try.func5, Try.ntmps5
  go_wp2_with fail
  refine (Sm.out _).mono ?_
  rintro e wk ⟨rfl, hb1⟩
  clear m_bx z_bx
  replace bx := bx.below hb1 bx.lt
  replace hb := hb.trans (hb1.mono hb.size)
  clear hb1
  have m_bx := fun i => bx.cell i
  have z_bx := fun i => bx.frozen i
  go_wp2_with fail
  refine (Ad.out _ hb).mono ?_
  rintro e wk ⟨⟨u, rfl, Na⟩, hb1⟩
  clear m_bx z_bx
  replace bx := bx.below hb1 bx.lt
  replace hb := hb.trans (hb1.mono hb.size)
  clear hb1
  obtain ⟨A1, d1, A2, d2, rfl⟩ := Na.val
  have ba := Blk.new wk 27 #[.bool true, .slice A1 x1.length d1, .slice A2 y1.length d2, .int .u64 l]
  replace Na := Na.below ((Below.refl wk.heap.size wk).alloc (Nat.le_refl _) (.cells #[.bool true, .slice A1 x1.length d1, .slice A2 y1.length d2, .int .u64 l] 27))
  replace bx := bx.alloc (.cells #[.bool true, .slice A1 x1.length d1, .slice A2 y1.length d2, .int .u64 l] 27)
  replace hb := hb.alloc hb.size (.cells #[.bool true, .slice A1 x1.length d1, .slice A2 y1.length d2, .int .u64 l] 27)
  have m_bx := fun i => bx.cell i
  have m_ba := fun i => ba.cell i
  have z_bx := fun i => bx.frozen i
  have z_ba := fun i => ba.frozen i
  go_wp2_with fail
  generalize wk.alloc (.cells #[.bool true, .slice A1 x1.length d1, .slice A2 y1.length d2, .int .u64 l] 27) = wk1 at *
  generalize wk.heap.size = gba at *
  refine (Dr.out _ hb).mono ?_
  rintro e wk ⟨rfl, hb1⟩
  clear m_bx z_bx m_ba z_ba
  replace bx := bx.below hb1 bx.lt
  replace ba := ba.below hb1 ba.lt
  replace Na := Na.below hb1
  replace hb := hb.trans (hb1.mono hb.size)
  clear hb1
  have bb := Blk.new wk 27 #[.bool false, .slice none 0 0, .slice none 0 0, .int .u64 0]
  replace Na := Na.below ((Below.refl wk.heap.size wk).alloc (Nat.le_refl _) (.cells #[.bool false, .slice none 0 0, .slice none 0 0, .int .u64 0] 27))
  replace bx := bx.alloc (.cells #[.bool false, .slice none 0 0, .slice none 0 0, .int .u64 0] 27)
  replace ba := ba.alloc (.cells #[.bool false, .slice none 0 0, .slice none 0 0, .int .u64 0] 27)
  replace hb := hb.alloc hb.size (.cells #[.bool false, .slice none 0 0, .slice none 0 0, .int .u64 0] 27)
  have m_bx := fun i => bx.cell i
  have m_ba := fun i => ba.cell i
  have m_bb := fun i => bb.cell i
  have z_bx := fun i => bx.frozen i
  have z_ba := fun i => ba.frozen i
  have z_bb := fun i => bb.frozen i
  go_wp2_with fail
  generalize wk.alloc (.cells #[.bool false, .slice none 0 0, .slice none 0 0, .int .u64 0] 27) = wk1 at *
  generalize wk.heap.size = gbb at *
  refine (Rr.out _ hb).mono ?_
  rintro e wk ⟨rfl, hb1⟩
  clear m_bx z_bx m_ba z_ba m_bb z_bb
  replace bx := bx.below hb1 bx.lt
  replace ba := ba.below hb1 ba.lt
  replace bb := bb.below hb1 bb.lt
  replace Na := Na.below hb1
  replace hb := hb.trans (hb1.mono hb.size)
  clear hb1
  have m_bx := fun i => bx.cell i
  have m_ba := fun i => ba.cell i
  have m_bb := fun i => bb.cell i
  have z_bx := fun i => bx.frozen i
  have z_ba := fun i => ba.frozen i
  have z_bb := fun i => bb.frozen i
  go_wp2_with fail
  clear m_bx z_bx m_ba z_ba m_bb z_bb
  refine wp_region_heldZ [] (fun w' => w'.cell? ⟨w.heap.size, 0, none⟩ = some (.bool true) ∧ w'.cell? ⟨w.heap.size, 1, none⟩ = some (.slice A n c) ∧ w'.cell? ⟨w.heap.size, 2, none⟩ = some (.slice A' m c') ∧ w'.cell? ⟨w.heap.size, 3, none⟩ = some (.int .u64 l)) (by kernel_rfl) (by exact cellsN bx) (fun hHeld => ?_)
  replace bx := bx.drew
  replace ba := ba.drew
  replace bb := bb.drew
  replace hb := hb.drew
  replace Na := (show NdO wk.drew _ _ _ _ _ _ from Na)
  generalize wk.drew = wj0 at *
  refine' wpAnyZ_takeA (i := 0) (v := ?_) (opAt rfl) (by kernel_rfl) (by kernel_rfl) (by kernel_rfl) (by kernel_rfl) (fun _ _ _ h => h) (by assumption) (by rfl) (fun w hSw => ?_) ?_
  rotate_left
  · (try dsimp only at hSw); go_simp; (try with_reducible rfl)
  try simp only [Act.put, List.setIfInBounds_toArray, List.set_cons_zero, List.set_cons_succ]
  refine wpAnyZ_ready (rs := [1]) (by kernel_rfl) (by simp) ?_
  refine AllReadyZ.cons (opAt rfl) (fun K hK => ?_) ?_
  · skip
    go_simp
    refine (Rt.out _ hb).mono ?_
    rintro e wj ⟨rfl, hb1⟩
    replace bx := bx.below hb1 bx.lt
    replace ba := ba.below hb1 ba.lt
    replace bb := bb.below hb1 bb.lt
    replace Na := Na.below hb1
    replace hb := hb.trans (hb1.mono hb.size)
    clear hb1
    try go_wp2_with fail
    refine hK.out _ _ (by exact cellsN bx) (fun hHeld => ?_)
    clear hK K
    try simp only [Act.put, List.setIfInBounds_toArray, List.set_cons_zero, List.set_cons_succ]
    refine' wpAnyZ_takeA (i := 2) (v := ?_) (opAt rfl) (by kernel_rfl) (by kernel_rfl) (by kernel_rfl) (by kernel_rfl) (fun _ _ _ h => h) (by assumption) (by rfl) (fun w hSw => ?_) ?_
    rotate_left
    · (try dsimp only at hSw); go_simp; (try with_reducible rfl)
    try simp only [Act.put, List.setIfInBounds_toArray, List.set_cons_zero, List.set_cons_succ]
    refine' wpAnyZ_takeA (i := 3) (v := ?_) (opAt rfl) (by kernel_rfl) (by kernel_rfl) (by kernel_rfl) (by kernel_rfl) (fun _ _ _ h => h) (by assumption) (by rfl) (fun w hSw => ?_) ?_
    rotate_left
    · (try dsimp only at hSw); go_simp; (try with_reducible rfl)
    try simp only [Act.put, List.setIfInBounds_toArray, List.set_cons_zero, List.set_cons_succ]
    refine' wpAnyZ_takeA (i := 4) (v := ?_) (opAt rfl) (by kernel_rfl) (by kernel_rfl) (by kernel_rfl) (by kernel_rfl) (fun _ _ _ h => h) (by assumption) (by rfl) (fun w hSw => ?_) ?_
    rotate_left
    · (try dsimp only at hSw); go_simp; (try with_reducible rfl)
    try simp only [Act.put, List.setIfInBounds_toArray, List.set_cons_zero, List.set_cons_succ]
    refine' wpAnyZ_takeA (i := 5) (v := ?_) (opAt rfl) (by kernel_rfl) (by kernel_rfl) (by kernel_rfl) (by kernel_rfl) (fun _ _ _ h => h) (by assumption) (by rfl) (fun w hSw => ?_) ?_
    rotate_left
    · (try dsimp only at hSw); go_simp; (try with_reducible rfl)
    try simp only [Act.put, List.setIfInBounds_toArray, List.set_cons_zero, List.set_cons_succ]
    refine' wpAnyZ_takeA (i := 7) (v := ?_) (opAt rfl) (by kernel_rfl) (by kernel_rfl) (by kernel_rfl) (by kernel_rfl) (fun _ _ _ h => h) (by assumption) (by rfl) (fun w hSw => ?_) ?_
    rotate_left
    · (try dsimp only at hSw); go_simp; (try with_reducible rfl)
    try simp only [Act.put, List.setIfInBounds_toArray, List.set_cons_zero, List.set_cons_succ]
    refine' wpAnyZ_takeA (i := 8) (v := ?_) (opAt rfl) (by kernel_rfl) (by kernel_rfl) (by kernel_rfl) (by kernel_rfl) (fun _ _ _ h => h) (by assumption) (by rfl) (fun w hSw => ?_) ?_
    rotate_left
    · (try dsimp only at hSw); go_simp; (try with_reducible rfl)
    try simp only [Act.put, List.setIfInBounds_toArray, List.set_cons_zero, List.set_cons_succ]
    refine wpAnyZ_ready (rs := [6]) (by kernel_rfl) (by simp) ?_
    refine AllReadyZ.cons (opAt rfl) (fun K hK => ?_) ?_
    · skip
      go_simp
      refine (Ch.out _ hb).mono ?_
      rintro e wj ⟨rfl, hb1⟩
      replace bx := bx.below hb1 bx.lt
      replace ba := ba.below hb1 ba.lt
      replace bb := bb.below hb1 bb.lt
      replace Na := Na.below hb1
      replace hb := hb.trans (hb1.mono hb.size)
      clear hb1
      try go_wp2_with fail
      refine hK.out _ _ (by exact cellsN bx) (fun hHeld => ?_)
      clear hK K
      try simp only [Act.put, List.setIfInBounds_toArray, List.set_cons_zero, List.set_cons_succ]
      refine wpAnyZ_ready (rs := [9]) (by kernel_rfl) (by simp) ?_
      refine AllReadyZ.cons (opAt rfl) (fun K hK => ?_) ?_
      · skip
        go_simp
        refine (Rc.out _ hb).mono ?_
        rintro e wj ⟨rfl, hb1⟩
        replace bx := bx.below hb1 bx.lt
        replace ba := ba.below hb1 ba.lt
        replace bb := bb.below hb1 bb.lt
        replace Na := Na.below hb1
        replace hb := hb.trans (hb1.mono hb.size)
        clear hb1
        try go_wp2_with fail
        refine hK.out _ _ (by exact cellsN bx) (fun hHeld => ?_)
        clear hK K
        try simp only [Act.put, List.setIfInBounds_toArray, List.set_cons_zero, List.set_cons_succ]
        refine' wpAnyZ_takeA (i := 10) (v := ?_) (opAt rfl) (by kernel_rfl) (by kernel_rfl) (by kernel_rfl) (by kernel_rfl) (fun _ _ _ h => h) (by assumption) (by rfl) (fun w hSw => ?_) ?_
        rotate_left
        · (try dsimp only at hSw); go_simp; (try with_reducible rfl)
        try simp only [Act.put, List.setIfInBounds_toArray, List.set_cons_zero, List.set_cons_succ]
        refine' wpAnyZ_takeA (i := 11) (v := ?_) (opAt rfl) (by kernel_rfl) (by kernel_rfl) (by kernel_rfl) (by kernel_rfl) (fun _ _ _ h => h) (by assumption) (by rfl) (fun w hSw => ?_) ?_
        rotate_left
        · (try dsimp only at hSw); go_simp; (try with_reducible rfl)
        try simp only [Act.put, List.setIfInBounds_toArray, List.set_cons_zero, List.set_cons_succ]
        refine wpAnyZ_done (by kernel_rfl) ?_ _
        have HWbx := hide (Nat.ne_of_lt bx.lt)
        have HWba := hide (Nat.ne_of_lt ba.lt)
        have HWbb := hide (Nat.ne_of_lt bb.lt)
        have HWg := hide hb.size
        have bw := Blk.new wj 27 #[.bool false, .slice none 0 0, .slice none 0 0, .int .u64 0]
        replace Na := Na.below ((Below.refl _ _).alloc (Nat.le_refl _) (.cells #[.bool false, .slice none 0 0, .slice none 0 0, .int .u64 0] 27))
        replace bx := bx.alloc (.cells #[.bool false, .slice none 0 0, .slice none 0 0, .int .u64 0] 27)
        replace ba := ba.alloc (.cells #[.bool false, .slice none 0 0, .slice none 0 0, .int .u64 0] 27)
        replace bb := bb.alloc (.cells #[.bool false, .slice none 0 0, .slice none 0 0, .int .u64 0] 27)
        replace hb := hb.alloc hb.size (.cells #[.bool false, .slice none 0 0, .slice none 0 0, .int .u64 0] 27)
        have m_bx := fun i => bx.cell i
        have m_ba := fun i => ba.cell i
        have m_bb := fun i => bb.cell i
        have m_bw := fun i => bw.cell i
        have z_bx := fun i => bx.frozen i
        have z_ba := fun i => ba.frozen i
        have z_bb := fun i => bb.frozen i
        have z_bw := fun i => bw.frozen i
        go_wp2_with fail
        generalize wj.alloc (.cells #[.bool false, .slice none 0 0, .slice none 0 0, .int .u64 0] 27) = wk0 at *
        generalize wj.heap.size = gw at *
        refine (Ra.out _ hb).mono ?_
        rintro e wk ⟨⟨u, rfl, Nw⟩, hb1⟩
        clear m_bx z_bx m_ba z_ba m_bb z_bb m_bw z_bw
        replace bx := bx.below hb1 bx.lt
        replace ba := ba.below hb1 ba.lt
        replace bb := bb.below hb1 bb.lt
        replace bw := bw.below hb1 bw.lt
        replace Na := Na.below hb1
        replace hb := hb.trans (hb1.mono hb.size)
        clear hb1
        obtain ⟨B1, e1, B2, e2, rfl⟩ := Nw.val
        have zs_ := fun i => bw.frozen i
        have ms_ := fun i => bw.cell i
        replace Na := Na.setN bw (.bool true) (.slice B1 x1.length e1) (.slice B2 y1.length e2) (.int .u64 l)
        replace Nw := Nw.setN bw (.bool true) (.slice B1 x1.length e1) (.slice B2 y1.length e2) (.int .u64 l)
        replace bx := bx.offN HWbx.out (.bool true) (.slice B1 x1.length e1) (.slice B2 y1.length e2) (.int .u64 l)
        replace ba := ba.offN HWba.out (.bool true) (.slice B1 x1.length e1) (.slice B2 y1.length e2) (.int .u64 l)
        replace bb := bb.offN HWbb.out (.bool true) (.slice B1 x1.length e1) (.slice B2 y1.length e2) (.int .u64 l)
        replace bw := bw.setN (.bool true) (.slice B1 x1.length e1) (.slice B2 y1.length e2) (.int .u64 l)
        replace hb := below_setN hb (g := gw) HWg.out (.bool true) (.slice B1 x1.length e1) (.slice B2 y1.length e2) (.int .u64 l)
        have m_bx := fun i => bx.cell i
        have m_ba := fun i => ba.cell i
        have m_bb := fun i => bb.cell i
        have m_bw := fun i => bw.cell i
        have z_bx := fun i => bx.frozen i
        have z_ba := fun i => ba.frozen i
        have z_bb := fun i => bb.frozen i
        have z_bw := fun i => bw.frozen i
        go_wp2_with fail
        generalize ((((wk).setCell ⟨gw, 0, none⟩ (.bool true)).setCell ⟨gw, 1, none⟩ (.slice B1 x1.length e1)).setCell ⟨gw, 2, none⟩ (.slice B2 y1.length e2)).setCell ⟨gw, 3, none⟩ (.int .u64 l) = ws at *
        clear zs_ ms_
        refine (Rw.out _ _ Nw.nd).mono ?_
        rintro e wr ⟨rfl, hb1⟩
        clear m_bx z_bx m_ba z_ba m_bb z_bb m_bw z_bw
        replace bx := bx.below hb1 bx.lt
        replace ba := ba.below hb1 ba.lt
        replace bb := bb.below hb1 bb.lt
        replace bw := bw.below hb1 bw.lt
        replace Na := Na.below hb1
        replace Nw := Nw.below hb1
        replace hb := hb.trans (hb1.mono hb.size)
        clear hb1
        have HLbx := hide (Nat.ne_of_lt bx.lt)
        have HLba := hide (Nat.ne_of_lt ba.lt)
        have HLbb := hide (Nat.ne_of_lt bb.lt)
        have HLbw := hide (Nat.ne_of_lt bw.lt)
        have HLg := hide hb.size
        have bl_ := Blk.new wr 27 #[.bool false, .slice none 0 0, .slice none 0 0, .int .u64 0]
        replace Na := Na.below ((Below.refl _ _).alloc (Nat.le_refl _) (.cells #[.bool false, .slice none 0 0, .slice none 0 0, .int .u64 0] 27))
        replace Nw := Nw.below ((Below.refl _ _).alloc (Nat.le_refl _) (.cells #[.bool false, .slice none 0 0, .slice none 0 0, .int .u64 0] 27))
        replace bx := bx.alloc (.cells #[.bool false, .slice none 0 0, .slice none 0 0, .int .u64 0] 27)
        replace ba := ba.alloc (.cells #[.bool false, .slice none 0 0, .slice none 0 0, .int .u64 0] 27)
        replace bb := bb.alloc (.cells #[.bool false, .slice none 0 0, .slice none 0 0, .int .u64 0] 27)
        replace bw := bw.alloc (.cells #[.bool false, .slice none 0 0, .slice none 0 0, .int .u64 0] 27)
        replace hb := hb.alloc hb.size (.cells #[.bool false, .slice none 0 0, .slice none 0 0, .int .u64 0] 27)
        have m_bx := fun i => bx.cell i
        have m_ba := fun i => ba.cell i
        have m_bb := fun i => bb.cell i
        have m_bw := fun i => bw.cell i
        have m_bl_ := fun i => bl_.cell i
        have z_bx := fun i => bx.frozen i
        have z_ba := fun i => ba.frozen i
        have z_bb := fun i => bb.frozen i
        have z_bw := fun i => bw.frozen i
        have z_bl_ := fun i => bl_.frozen i
        go_wp2_with fail
        generalize wr.alloc (.cells #[.bool false, .slice none 0 0, .slice none 0 0, .int .u64 0] 27) = wk1 at *
        generalize wr.heap.size = gl at *
        refine (same_any _ _ true true x1 y1 x1 y1 l l _ Hx1.out Hy1.out Hx1.out Hy1.out Na.nd Nw.nd).mono ?_
        rw [same_yes]
        rintro e wk ⟨rfl, hb1⟩
        clear m_bx z_bx m_ba z_ba m_bb z_bb m_bw z_bw m_bl_ z_bl_
        replace bx := bx.below hb1 bx.lt
        replace ba := ba.below hb1 ba.lt
        replace bb := bb.below hb1 bb.lt
        replace bw := bw.below hb1 bw.lt
        replace bl_ := bl_.below hb1 bl_.lt
        replace Na := Na.below hb1
        replace Nw := Nw.below hb1
        replace hb := hb.trans (hb1.mono hb.size)
        clear hb1
        have m_bx := fun i => bx.cell i
        have m_ba := fun i => ba.cell i
        have m_bb := fun i => bb.cell i
        have m_bw := fun i => bw.cell i
        have m_bl_ := fun i => bl_.cell i
        have z_bx := fun i => bx.frozen i
        have z_ba := fun i => ba.frozen i
        have z_bb := fun i => bb.frozen i
        have z_bw := fun i => bw.frozen i
        have z_bl_ := fun i => bl_.frozen i
        go_wp2_with fail
        refine (none_any _ true x1 y1 l _ Hx1.out Hy1.out Nw.nd).mono ?_
        rw [show sameB true x1 y1 l false [] [] 0 = false from rfl]
        rintro e wk ⟨rfl, hb1⟩
        clear m_bx z_bx m_ba z_ba m_bb z_bb m_bw z_bw m_bl_ z_bl_
        replace bx := bx.below hb1 bx.lt
        replace ba := ba.below hb1 ba.lt
        replace bb := bb.below hb1 bb.lt
        replace bw := bw.below hb1 bw.lt
        replace bl_ := bl_.below hb1 bl_.lt
        replace Na := Na.below hb1
        replace Nw := Nw.below hb1
        replace hb := hb.trans (hb1.mono hb.size)
        clear hb1
        have m_bx := fun i => bx.cell i
        have m_ba := fun i => ba.cell i
        have m_bb := fun i => bb.cell i
        have m_bw := fun i => bw.cell i
        have m_bl_ := fun i => bl_.cell i
        have z_bx := fun i => bx.frozen i
        have z_ba := fun i => ba.frozen i
        have z_bb := fun i => bb.frozen i
        have z_bw := fun i => bw.frozen i
        have z_bl_ := fun i => bl_.frozen i
        go_wp2_with fail
        refine (same_any _ _ false false [] [] [] [] 0 0 _ (by simp) (by simp) (by simp) (by simp) (Nd.zero _ _) (Nd.zero _ _)).mono ?_
        rw [same_yes]
        rintro e wk ⟨rfl, hb1⟩
        clear m_bx z_bx m_ba z_ba m_bb z_bb m_bw z_bw m_bl_ z_bl_
        replace bx := bx.below hb1 bx.lt
        replace ba := ba.below hb1 ba.lt
        replace bb := bb.below hb1 bb.lt
        replace bw := bw.below hb1 bw.lt
        replace bl_ := bl_.below hb1 bl_.lt
        replace Na := Na.below hb1
        replace Nw := Nw.below hb1
        replace hb := hb.trans (hb1.mono hb.size)
        clear hb1
        have m_bx := fun i => bx.cell i
        have m_ba := fun i => ba.cell i
        have m_bb := fun i => bb.cell i
        have m_bw := fun i => bw.cell i
        have m_bl_ := fun i => bl_.cell i
        have z_bx := fun i => bx.frozen i
        have z_ba := fun i => ba.frozen i
        have z_bb := fun i => bb.frozen i
        have z_bw := fun i => bw.frozen i
        have z_bl_ := fun i => bl_.frozen i
        go_wp2_with fail
        refine (none_any _ false [] [] 0 _ (by simp) (by simp) (Nd.zero _ _)).mono ?_
        rw [show sameB false [] [] 0 false [] [] 0 = true by decide]
        rintro e wk ⟨rfl, hb1⟩
        clear m_bx z_bx m_ba z_ba m_bb z_bb m_bw z_bw m_bl_ z_bl_
        replace bx := bx.below hb1 bx.lt
        replace ba := ba.below hb1 ba.lt
        replace bb := bb.below hb1 bb.lt
        replace bw := bw.below hb1 bw.lt
        replace bl_ := bl_.below hb1 bl_.lt
        replace Na := Na.below hb1
        replace Nw := Nw.below hb1
        replace hb := hb.trans (hb1.mono hb.size)
        clear hb1
        have m_bx := fun i => bx.cell i
        have m_ba := fun i => ba.cell i
        have m_bb := fun i => bb.cell i
        have m_bw := fun i => bw.cell i
        have m_bl_ := fun i => bl_.cell i
        have z_bx := fun i => bx.frozen i
        have z_ba := fun i => ba.frozen i
        have z_bb := fun i => bb.frozen i
        have z_bw := fun i => bw.frozen i
        have z_bl_ := fun i => bl_.frozen i
        go_wp2_with fail
        refine (awake13 _).mono ?_
        rintro e wk ⟨rfl, hb1⟩
        replace hb := hb.trans (hb1.mono hb.size)
        go_wp2_with fail
        go_ret
        exact ⟨rfl, hb⟩
      exact AllReadyZ.nil
    exact AllReadyZ.nil
  exact AllReadyZ.nil
end Go.Proofs.Ytcmoblibjhaegaa
