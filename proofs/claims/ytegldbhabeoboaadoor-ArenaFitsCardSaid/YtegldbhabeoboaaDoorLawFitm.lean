/-
  ArenaFits holds, as a card: wherever the two listed variables start as the program's text lays them, its Go function returns true for every input and leaves its arguments as they were.
-/
import Derived.Test.YtegldbhabeoboaaDoorY1
namespace Go.Proofs.YtegldbhabeoboaaDoor
open Go.ChangeShapes Go.WideShapes Go.ChangeAt Go.RowKit

set_option maxRecDepth 100000 in
set_option maxHeartbeats 2000000 in
theorem fits_big (va_ vb_ : Value) (ba : Bool) (ka va : List Int) (la : Int) (bb : Bool) (kb vb : List Int) (lb fan : Int) (w : World) (hT : Tab w) (ha : Nd w w.heap.size va_ ba ka va la) (hb : Nd w w.heap.size vb_ bb kb vb lb) (hs : smallB ka va = false ∨ smallB kb vb = false) :
    Calls Tryd.prog 7 #[va_, vb_, .int .i64 fan] w fun e w' => e = .returned (.bool true) ∧ Below w.heap.size w w' := by
  obtain ⟨ak, av, rfl, ⟨A1, c1, rfl, a1, a2, a3⟩, ⟨A2, c2, rfl, a4, a5, a6⟩⟩ := ha
  obtain ⟨bk, bv, rfl, ⟨A3, c3, rfl, b1, b2, b3⟩, ⟨A4, c4, rfl, b4, b5, b6⟩⟩ := hb
  have HA := hide (show Nd w w.heap.size (.agg #[.bool ba, .slice A1 ka.length c1, .slice A2 va.length c2, .int .u64 la]) ba ka va la from ⟨_, _, rfl, ⟨A1, c1, rfl, a1, a2, a3⟩, ⟨A2, c2, rfl, a4, a5, a6⟩⟩)
  have HB := hide (show Nd w w.heap.size (.agg #[.bool bb, .slice A3 kb.length c3, .slice A4 vb.length c4, .int .u64 lb]) bb kb vb lb from ⟨_, _, rfl, ⟨A3, c3, rfl, b1, b2, b3⟩, ⟨A4, c4, rfl, b4, b5, b6⟩⟩)
  clear a1 a2 a3 a4 a5 a6 b1 b2 b3 b4 b5 b6
  have B0 := ((Below.refl w.heap.size w).alloc (Nat.le_refl _) (.cells #[.bool ba, .slice A1 ka.length c1, .slice A2 va.length c2, .int .u64 la] 49)).alloc (by simp only [World.size_alloc]; omega) (.cells #[.bool bb, .slice A3 kb.length c3, .slice A4 vb.length c4, .int .u64 lb] 49)
  have xa := (Blk.new w 49 #[.bool ba, .slice A1 ka.length c1, .slice A2 va.length c2, .int .u64 la]).alloc (.cells #[.bool bb, .slice A3 kb.length c3, .slice A4 vb.length c4, .int .u64 lb] 49)
  have xb := Blk.new (w.alloc (.cells #[.bool ba, .slice A1 ka.length c1, .slice A2 va.length c2, .int .u64 la] 49)) 49 #[.bool bb, .slice A3 kb.length c3, .slice A4 vb.length c4, .int .u64 lb]
  simp only [World.size_alloc] at xb
  have AW := hide (fun w2 (h : Below w.heap.size w w2) => awake10 w2 (hT.below h))
  have S1 := hide (fun w2 (h : Below w.heap.size w w2) => small_any _ ba ka va la w2 ((HA.out.below h).more h.size))
  have S2 := hide (fun w2 (h : Below w.heap.size w w2) => small_any _ bb kb vb lb w2 ((HB.out.below h).more h.size))
  have ma := fun i => xa.cell i
  have mb := fun i => xb.cell i
  clear hT
  cases h1 : smallB ka va
  · rw [h1] at S1
    go_enter Tryd.func7, Tryd.ntmps7
    go_wp2_with fail
    generalize (w.alloc (.cells #[.bool ba, .slice A1 ka.length c1, .slice A2 va.length c2, .int .u64 la] 49)).alloc (.cells #[.bool bb, .slice A3 kb.length c3, .slice A4 vb.length c4, .int .u64 lb] 49) = w0 at *
    refine (S1.out _ B0).mono ?_
    rintro e w1 ⟨rfl, hb1⟩
    replace xa := xa.below hb1 xa.lt
    replace xb := xb.below hb1 xb.lt
    replace B0 := B0.trans (hb1.mono B0.size)
    clear hb1 ma mb
    have ma := fun i => xa.cell i
    have mb := fun i => xb.cell i
    go_wp2_with fail
    refine (AW.out _ B0).mono ?_
    rintro e w9 ⟨rfl, hb1⟩
    go_wp2_with fail
    go_ret
    exact ⟨rfl, B0.trans (hb1.mono B0.size)⟩
  · have h2 : smallB kb vb = false := hs.resolve_left (by rw [h1]; simp)
    rw [h1] at S1
    rw [h2] at S2
    go_enter Tryd.func7, Tryd.ntmps7
    go_wp2_with fail
    generalize (w.alloc (.cells #[.bool ba, .slice A1 ka.length c1, .slice A2 va.length c2, .int .u64 la] 49)).alloc (.cells #[.bool bb, .slice A3 kb.length c3, .slice A4 vb.length c4, .int .u64 lb] 49) = w0 at *
    refine (S1.out _ B0).mono ?_
    rintro e w1 ⟨rfl, hb1⟩
    replace xa := xa.below hb1 xa.lt
    replace xb := xb.below hb1 xb.lt
    replace B0 := B0.trans (hb1.mono B0.size)
    clear hb1 ma mb
    have ma := fun i => xa.cell i
    have mb := fun i => xb.cell i
    go_wp2_with fail
    refine (S2.out _ B0).mono ?_
    rintro e w2 ⟨rfl, hb1⟩
    replace xa := xa.below hb1 xa.lt
    replace xb := xb.below hb1 xb.lt
    replace B0 := B0.trans (hb1.mono B0.size)
    clear hb1 ma mb
    have ma := fun i => xa.cell i
    have mb := fun i => xb.cell i
    go_wp2_with fail
    refine (AW.out _ B0).mono ?_
    rintro e w9 ⟨rfl, hb1⟩
    go_wp2_with fail
    go_ret
    exact ⟨rfl, B0.trans (hb1.mono B0.size)⟩
theorem sameB_refl (b : Bool) (ks vs : List Int) (l : Int) : sameB b ks vs l b ks vs l = true := by simp [sameB]
set_option maxRecDepth 100000 in
set_option maxHeartbeats 4000000 in
theorem fits_small (va_ vb_ : Value) (ba : Bool) (ka va : List Int) (la : Int) (bb : Bool) (kb vb : List Int) (lb fan : Int) (w : World) (hT : Tab w) (ha : Nd w w.heap.size va_ ba ka va la) (hb : Nd w w.heap.size vb_ bb kb vb lb) (h1 : smallB ka va = true) (h2 : smallB kb vb = true) :
    Calls Tryd.prog 7 #[va_, vb_, .int .i64 fan] w fun e w' => e = .returned (.bool true) ∧ Below w.heap.size w w' := by
  have l1 : ka.length ≤ 80 ∧ va.length ≤ 80 := by unfold smallB at h1; simpa using h1
  have l2 : kb.length ≤ 80 ∧ vb.length ≤ 80 := by unfold smallB at h2; simpa using h2
  obtain ⟨ak, av, rfl, ⟨A1, c1, rfl, a1, a2, a3⟩, ⟨A2, c2, rfl, a4, a5, a6⟩⟩ := ha
  obtain ⟨bk, bv, rfl, ⟨A3, c3, rfl, b1, b2, b3⟩, ⟨A4, c4, rfl, b4, b5, b6⟩⟩ := hb
  have HA := hide (show Nd w w.heap.size (.agg #[.bool ba, .slice A1 ka.length c1, .slice A2 va.length c2, .int .u64 la]) ba ka va la from ⟨_, _, rfl, ⟨A1, c1, rfl, a1, a2, a3⟩, ⟨A2, c2, rfl, a4, a5, a6⟩⟩)
  have HB := hide (show Nd w w.heap.size (.agg #[.bool bb, .slice A3 kb.length c3, .slice A4 vb.length c4, .int .u64 lb]) bb kb vb lb from ⟨_, _, rfl, ⟨A3, c3, rfl, b1, b2, b3⟩, ⟨A4, c4, rfl, b4, b5, b6⟩⟩)
  clear a1 a2 a3 a4 a5 a6 b1 b2 b3 b4 b5 b6
  have B0 := ((Below.refl w.heap.size w).alloc (Nat.le_refl _) (.cells #[.bool ba, .slice A1 ka.length c1, .slice A2 va.length c2, .int .u64 la] 49)).alloc (by simp only [World.size_alloc]; omega) (.cells #[.bool bb, .slice A3 kb.length c3, .slice A4 vb.length c4, .int .u64 lb] 49)
  have xa := (Blk.new w 49 #[.bool ba, .slice A1 ka.length c1, .slice A2 va.length c2, .int .u64 la]).alloc (.cells #[.bool bb, .slice A3 kb.length c3, .slice A4 vb.length c4, .int .u64 lb] 49)
  have xb := Blk.new (w.alloc (.cells #[.bool ba, .slice A1 ka.length c1, .slice A2 va.length c2, .int .u64 la] 49)) 49 #[.bool bb, .slice A3 kb.length c3, .slice A4 vb.length c4, .int .u64 lb]
  simp only [World.size_alloc] at xb
  have AW := hide (fun w2 (h : Below w.heap.size w w2) => awake10 w2 (hT.below h))
  have S1 := hide (fun w2 (h : Below w.heap.size w w2) => small_any _ ba ka va la w2 ((HA.out.below h).more h.size))
  have S2 := hide (fun w2 (h : Below w.heap.size w w2) => small_any _ bb kb vb lb w2 ((HB.out.below h).more h.size))
  have ma := fun i => xa.cell i
  have mb := fun i => xb.cell i
  clear hT
  rw [h1] at S1
  rw [h2] at S2
  have F1 := hide (fun w2 (h : Below w.heap.size w w2) => afits_any _ ba ka va la fan w2 (by omega) (by omega) ((HA.out.below h).more h.size))
  have F2 := hide (fun w2 (h : Below w.heap.size w w2) => rfits_any _ ba ka va la fan w2 (by omega) (by omega) ((HA.out.below h).more h.size))
  have M1 := hide (fun w2 (h : Below w.heap.size w w2) => asame_any _ _ ba bb ka va kb vb la lb w2 (by omega) (by omega) (by omega) (by omega) ((HA.out.below h).more h.size) ((HB.out.below h).more h.size))
  have M2 := hide (fun w2 (h : Below w.heap.size w w2) => same_any _ _ ba bb ka va kb vb la lb w2 (by omega) (by omega) (by omega) (by omega) ((HA.out.below h).more h.size) ((HB.out.below h).more h.size))
  have M3 := hide (fun w2 (h : Below w.heap.size w w2) => asame_any _ _ ba ba ka va ka va la la w2 (by omega) (by omega) (by omega) (by omega) ((HA.out.below h).more h.size) ((HA.out.below h).more h.size))
  rw [sameB_refl] at M3
  generalize fitsB ba ka va fan = fb at *
  generalize sameB ba ka va la bb kb vb lb = sb at *
  clear h1 h2 l1 l2
  go_enter Tryd.func7, Tryd.ntmps7
  go_wp2_with fail
  generalize (w.alloc (.cells #[.bool ba, .slice A1 ka.length c1, .slice A2 va.length c2, .int .u64 la] 49)).alloc (.cells #[.bool bb, .slice A3 kb.length c3, .slice A4 vb.length c4, .int .u64 lb] 49) = w0 at *
  refine (S1.out _ B0).mono ?_
  rintro e w1 ⟨rfl, hb1⟩
  replace xa := xa.below hb1 xa.lt
  replace xb := xb.below hb1 xb.lt
  replace B0 := B0.trans (hb1.mono B0.size)
  clear hb1 ma mb
  have ma := fun i => xa.cell i
  have mb := fun i => xb.cell i
  go_wp2_with fail
  refine (S2.out _ B0).mono ?_
  rintro e w2 ⟨rfl, hb1⟩
  replace xa := xa.below hb1 xa.lt
  replace xb := xb.below hb1 xb.lt
  replace B0 := B0.trans (hb1.mono B0.size)
  clear hb1 ma mb
  have ma := fun i => xa.cell i
  have mb := fun i => xb.cell i
  go_wp2_with fail
  clear ma mb
  have hff : (fb == fb) = true := by cases fb <;> rfl
  have hss : (sb == sb) = true := by cases sb <;> rfl
  refine wp_region_heldZ [] (fun w' => w'.cell? ⟨w.heap.size, 0, none⟩ = some (.bool ba) ∧ w'.cell? ⟨w.heap.size, 1, none⟩ = some (.slice A1 ka.length c1) ∧ w'.cell? ⟨w.heap.size, 2, none⟩ = some (.slice A2 va.length c2) ∧ w'.cell? ⟨w.heap.size, 3, none⟩ = some (.int .u64 la) ∧ w'.cell? ⟨w.heap.size + 1, 0, none⟩ = some (.bool bb) ∧ w'.cell? ⟨w.heap.size + 1, 1, none⟩ = some (.slice A3 kb.length c3) ∧ w'.cell? ⟨w.heap.size + 1, 2, none⟩ = some (.slice A4 vb.length c4) ∧ w'.cell? ⟨w.heap.size + 1, 3, none⟩ = some (.int .u64 lb)) (by kernel_rfl) (by exact ⟨xa.cell 0, xa.cell 1, xa.cell 2, xa.cell 3, xb.cell 0, xb.cell 1, xb.cell 2, xb.cell 3⟩) (fun hHeld => ?_)
  replace xa := xa.drew
  replace xb := xb.drew
  replace B0 := B0.drew
  generalize w2.drew = w2x at *
  refine' wpAnyZ_takeA (i := 0) (v := ?_) (opAt rfl) (by kernel_rfl) (by kernel_rfl) (by kernel_rfl) (by kernel_rfl) (fun _ _ _ h => h) (by assumption) (by rfl) (fun w hSw => ?_) ?_
  rotate_left
  · (try dsimp only at hSw); go_simp; (try with_reducible rfl)
  try simp only [Act.put, List.setIfInBounds_toArray, List.set_cons_zero, List.set_cons_succ]
  refine' wpAnyZ_takeA (i := 1) (v := ?_) (opAt rfl) (by kernel_rfl) (by kernel_rfl) (by kernel_rfl) (by kernel_rfl) (fun _ _ _ h => h) (by assumption) (by rfl) (fun w hSw => ?_) ?_
  rotate_left
  · (try dsimp only at hSw); go_simp; (try with_reducible rfl)
  try simp only [Act.put, List.setIfInBounds_toArray, List.set_cons_zero, List.set_cons_succ]
  refine' wpAnyZ_takeA (i := 3) (v := ?_) (opAt rfl) (by kernel_rfl) (by kernel_rfl) (by kernel_rfl) (by kernel_rfl) (fun _ _ _ h => h) (by assumption) (by rfl) (fun w hSw => ?_) ?_
  rotate_left
  · (try dsimp only at hSw); go_simp; (try with_reducible rfl)
  try simp only [Act.put, List.setIfInBounds_toArray, List.set_cons_zero, List.set_cons_succ]
  refine' wpAnyZ_takeA (i := 4) (v := ?_) (opAt rfl) (by kernel_rfl) (by kernel_rfl) (by kernel_rfl) (by kernel_rfl) (fun _ _ _ h => h) (by assumption) (by rfl) (fun w hSw => ?_) ?_
  rotate_left
  · (try dsimp only at hSw); go_simp; (try with_reducible rfl)
  try simp only [Act.put, List.setIfInBounds_toArray, List.set_cons_zero, List.set_cons_succ]
  refine wpAnyZ_ready (rs := [2]) (by kernel_rfl) (by simp) ?_
  refine AllReadyZ.cons (opAt rfl) (fun K hK => ?_) ?_
  · skip
    go_simp
    refine (F1.out _ B0).mono ?_
    rintro e w3 ⟨rfl, hb1⟩
    replace xa := xa.below hb1 xa.lt
    replace xb := xb.below hb1 xb.lt
    replace B0 := B0.trans (hb1.mono B0.size)
    clear hb1
    try go_wp2_with fail
    refine hK.out _ _ (by exact ⟨xa.cell 0, xa.cell 1, xa.cell 2, xa.cell 3, xb.cell 0, xb.cell 1, xb.cell 2, xb.cell 3⟩) (fun hHeld => ?_)
    clear hK K
    try simp only [Act.put, List.setIfInBounds_toArray, List.set_cons_zero, List.set_cons_succ]
    refine wpAnyZ_ready (rs := [5]) (by kernel_rfl) (by simp) ?_
    refine AllReadyZ.cons (opAt rfl) (fun K hK => ?_) ?_
    · skip
      go_simp
      refine (F2.out _ B0).mono ?_
      rintro e w4 ⟨rfl, hb1⟩
      replace xa := xa.below hb1 xa.lt
      replace xb := xb.below hb1 xb.lt
      replace B0 := B0.trans (hb1.mono B0.size)
      clear hb1
      try go_wp2_with fail
      refine hK.out _ _ (by exact ⟨xa.cell 0, xa.cell 1, xa.cell 2, xa.cell 3, xb.cell 0, xb.cell 1, xb.cell 2, xb.cell 3⟩) (fun hHeld => ?_)
      clear hK K
      try simp only [Act.put, List.setIfInBounds_toArray, List.set_cons_zero, List.set_cons_succ]
      refine' wpAnyZ_takeA (i := 6) (v := ?_) (opAt rfl) (by kernel_rfl) (by kernel_rfl) (by kernel_rfl) (by kernel_rfl) (fun _ _ _ h => h) (by assumption) (by rfl) (fun w hSw => ?_) ?_
      rotate_left
      · (try dsimp only at hSw); go_simp; (try with_reducible rfl)
      try simp only [Act.put, List.setIfInBounds_toArray, List.set_cons_zero, List.set_cons_succ]
      refine' wpAnyZ_takeA (i := 7) (v := ?_) (opAt rfl) (by kernel_rfl) (by kernel_rfl) (by kernel_rfl) (by kernel_rfl) (fun _ _ _ h => h) (by assumption) (by rfl) (fun w hSw => ?_) ?_
      rotate_left
      · (try dsimp only at hSw); go_simp; (try with_reducible rfl)
      try simp only [Act.put, List.setIfInBounds_toArray, List.set_cons_zero, List.set_cons_succ]
      refine' wpAnyZ_takeA (i := 8) (v := ?_) (opAt rfl) (by kernel_rfl) (by kernel_rfl) (by kernel_rfl) (by kernel_rfl) (fun _ _ _ h => h) (by assumption) (by rfl) (fun w hSw => ?_) ?_
      rotate_left
      · (try dsimp only at hSw); go_simp; (try with_reducible rfl)
      try simp only [Act.put, List.setIfInBounds_toArray, List.set_cons_zero, List.set_cons_succ]
      refine' wpAnyZ_takeA (i := 9) (v := ?_) (opAt rfl) (by kernel_rfl) (by kernel_rfl) (by kernel_rfl) (by kernel_rfl) (fun _ _ _ h => h) (by assumption) (by rfl) (fun w hSw => ?_) ?_
      rotate_left
      · (try dsimp only at hSw); go_simp; (try with_reducible rfl)
      try simp only [Act.put, List.setIfInBounds_toArray, List.set_cons_zero, List.set_cons_succ]
      refine' wpAnyZ_takeA (i := 11) (v := ?_) (opAt rfl) (by kernel_rfl) (by kernel_rfl) (by kernel_rfl) (by kernel_rfl) (fun _ _ _ h => h) (by assumption) (by rfl) (fun w hSw => ?_) ?_
      rotate_left
      · (try dsimp only at hSw); go_simp; (try with_reducible rfl)
      try simp only [Act.put, List.setIfInBounds_toArray, List.set_cons_zero, List.set_cons_succ]
      refine' wpAnyZ_takeA (i := 12) (v := ?_) (opAt rfl) (by kernel_rfl) (by kernel_rfl) (by kernel_rfl) (by kernel_rfl) (fun _ _ _ h => h) (by assumption) (by rfl) (fun w hSw => ?_) ?_
      rotate_left
      · (try dsimp only at hSw); go_simp; (try with_reducible rfl)
      try simp only [Act.put, List.setIfInBounds_toArray, List.set_cons_zero, List.set_cons_succ]
      refine wpAnyZ_ready (rs := [10]) (by kernel_rfl) (by simp) ?_
      refine AllReadyZ.cons (opAt rfl) (fun K hK => ?_) ?_
      · skip
        go_simp
        refine (M1.out _ B0).mono ?_
        rintro e w5 ⟨rfl, hb1⟩
        replace xa := xa.below hb1 xa.lt
        replace xb := xb.below hb1 xb.lt
        replace B0 := B0.trans (hb1.mono B0.size)
        clear hb1
        try go_wp2_with fail
        refine hK.out _ _ (by exact ⟨xa.cell 0, xa.cell 1, xa.cell 2, xa.cell 3, xb.cell 0, xb.cell 1, xb.cell 2, xb.cell 3⟩) (fun hHeld => ?_)
        clear hK K
        try simp only [Act.put, List.setIfInBounds_toArray, List.set_cons_zero, List.set_cons_succ]
        refine wpAnyZ_ready (rs := [13]) (by kernel_rfl) (by simp) ?_
        refine AllReadyZ.cons (opAt rfl) (fun K hK => ?_) ?_
        · skip
          go_simp
          refine (M2.out _ B0).mono ?_
          rintro e w6 ⟨rfl, hb1⟩
          replace xa := xa.below hb1 xa.lt
          replace xb := xb.below hb1 xb.lt
          replace B0 := B0.trans (hb1.mono B0.size)
          clear hb1
          try go_wp2_with fail
          refine hK.out _ _ (by exact ⟨xa.cell 0, xa.cell 1, xa.cell 2, xa.cell 3, xb.cell 0, xb.cell 1, xb.cell 2, xb.cell 3⟩) (fun hHeld => ?_)
          clear hK K
          try simp only [Act.put, List.setIfInBounds_toArray, List.set_cons_zero, List.set_cons_succ]
          refine' wpAnyZ_takeA (i := 14) (v := ?_) (opAt rfl) (by kernel_rfl) (by kernel_rfl) (by kernel_rfl) (by kernel_rfl) (fun _ _ _ h => h) (by assumption) (by rfl) (fun w hSw => ?_) ?_
          rotate_left
          · (try dsimp only at hSw); go_simp; (try with_reducible rfl)
          try simp only [Act.put, List.setIfInBounds_toArray, List.set_cons_zero, List.set_cons_succ]
          refine' wpAnyZ_takeA (i := 15) (v := ?_) (opAt rfl) (by kernel_rfl) (by kernel_rfl) (by kernel_rfl) (by kernel_rfl) (fun _ _ _ h => h) (by assumption) (by rfl) (fun w hSw => ?_) ?_
          rotate_left
          · (try dsimp only at hSw); go_simp; (try with_reducible rfl)
          try simp only [Act.put, List.setIfInBounds_toArray, List.set_cons_zero, List.set_cons_succ]
          refine' wpAnyZ_takeA (i := 16) (v := ?_) (opAt rfl) (by kernel_rfl) (by kernel_rfl) (by kernel_rfl) (by kernel_rfl) (fun _ _ _ h => h) (by assumption) (by rfl) (fun w hSw => ?_) ?_
          rotate_left
          · (try dsimp only at hSw); go_simp; (try with_reducible rfl)
          try simp only [Act.put, List.setIfInBounds_toArray, List.set_cons_zero, List.set_cons_succ]
          refine' wpAnyZ_takeA (i := 17) (v := ?_) (opAt rfl) (by kernel_rfl) (by kernel_rfl) (by kernel_rfl) (by kernel_rfl) (fun _ _ _ h => h) (by assumption) (by rfl) (fun w hSw => ?_) ?_
          rotate_left
          · (try dsimp only at hSw); go_simp; (try with_reducible rfl)
          try simp only [Act.put, List.setIfInBounds_toArray, List.set_cons_zero, List.set_cons_succ]
          refine' wpAnyZ_takeA (i := 18) (v := ?_) (opAt rfl) (by kernel_rfl) (by kernel_rfl) (by kernel_rfl) (by kernel_rfl) (fun _ _ _ h => h) (by assumption) (by rfl) (fun w hSw => ?_) ?_
          rotate_left
          · (try dsimp only at hSw); go_simp; (try with_reducible rfl)
          try simp only [Act.put, List.setIfInBounds_toArray, List.set_cons_zero, List.set_cons_succ]
          refine wpAnyZ_ready (rs := [19]) (by kernel_rfl) (by simp) ?_
          refine AllReadyZ.cons (opAt rfl) (fun K hK => ?_) ?_
          · skip
            go_simp
            refine (M3.out _ B0).mono ?_
            rintro e w7 ⟨rfl, hb1⟩
            replace xa := xa.below hb1 xa.lt
            replace xb := xb.below hb1 xb.lt
            replace B0 := B0.trans (hb1.mono B0.size)
            clear hb1
            try go_wp2_with fail
            refine hK.out _ _ (by exact ⟨xa.cell 0, xa.cell 1, xa.cell 2, xa.cell 3, xb.cell 0, xb.cell 1, xb.cell 2, xb.cell 3⟩) (fun hHeld => ?_)
            clear hK K
            try simp only [Act.put, List.setIfInBounds_toArray, List.set_cons_zero, List.set_cons_succ]
            refine' wpAnyZ_takeA (i := 20) (v := ?_) (opAt rfl) (by kernel_rfl) (by kernel_rfl) (by kernel_rfl) (by kernel_rfl) (fun _ _ _ h => h) (by assumption) (by rfl) (fun w hSw => ?_) ?_
            rotate_left
            · (try dsimp only at hSw); go_simp; (try with_reducible rfl)
            try simp only [Act.put, List.setIfInBounds_toArray, List.set_cons_zero, List.set_cons_succ]
            refine' wpAnyZ_takeA (i := 21) (v := ?_) (opAt rfl) (by kernel_rfl) (by kernel_rfl) (by kernel_rfl) (by kernel_rfl) (fun _ _ _ h => h) (by assumption) (by rfl) (fun w hSw => ?_) ?_
            rotate_left
            · (try dsimp only at hSw); go_simp; (try with_reducible rfl)
            try simp only [Act.put, List.setIfInBounds_toArray, List.set_cons_zero, List.set_cons_succ]
            refine wpAnyZ_ready (rs := [22]) (by kernel_rfl) (by simp) ?_
            refine AllReadyZ.cons (opAt rfl) (fun K hK => ?_) ?_
            · skip
              go_simp
              refine (AW.out _ B0).mono ?_
              rintro e w8 ⟨rfl, hb1⟩
              replace xa := xa.below hb1 xa.lt
              replace xb := xb.below hb1 xb.lt
              replace B0 := B0.trans (hb1.mono B0.size)
              clear hb1
              try go_wp2_with fail
              refine hK.out _ _ (by exact ⟨xa.cell 0, xa.cell 1, xa.cell 2, xa.cell 3, xb.cell 0, xb.cell 1, xb.cell 2, xb.cell 3⟩) (fun hHeld => ?_)
              clear hK K
              try simp only [Act.put, List.setIfInBounds_toArray, List.set_cons_zero, List.set_cons_succ]
              refine' wpAnyZ_takeA (i := 23) (v := ?_) (opAt rfl) (by kernel_rfl) (by kernel_rfl) (by kernel_rfl) (by kernel_rfl) (fun _ _ _ h => h) (by assumption) (by rfl) (fun w hSw => ?_) ?_
              rotate_left
              · (try dsimp only at hSw); go_simp; (try with_reducible rfl)
              try simp only [Act.put, List.setIfInBounds_toArray, List.set_cons_zero, List.set_cons_succ]
              refine' wpAnyZ_takeA (i := 24) (v := ?_) (opAt rfl) (by kernel_rfl) (by kernel_rfl) (by kernel_rfl) (by kernel_rfl) (fun _ _ _ h => h) (by assumption) (by rfl) (fun w hSw => ?_) ?_
              rotate_left
              · (try dsimp only at hSw); go_simp; (try with_reducible rfl)
              try simp only [Act.put, List.setIfInBounds_toArray, List.set_cons_zero, List.set_cons_succ]
              refine wpAnyZ_done (by kernel_rfl) ?_ _
              go_wp2_with fail
              go_ret
              exact ⟨rfl, B0⟩
            exact AllReadyZ.nil
          exact AllReadyZ.nil
        exact AllReadyZ.nil
      exact AllReadyZ.nil
    exact AllReadyZ.nil
  exact AllReadyZ.nil
set_option maxRecDepth 100000 in
theorem arenaFits_lifted (os : Os) (started : os.Started) (H : Type) (enc : TypeId × Value → H) :
    ReturnsInHanded {} Tryd.checked os 7 .any (fun w args => (Rows.arenaFitsSpec.pre enc Tryd.prog Tryd.f7 [] false w args ∧ laidMetH Tryd.prog laid2 w) ∧ sizedMet enc Tryd.prog Tryd.f7 (OpenSpec.ofChange Rows.arenaFitsSpec) false w args) (Rows.arenaFitsSpec.post enc Tryd.prog Tryd.f7 false true false false) := by
  refine lift started 3 (by kernel_rfl) Tryd.func7 rfl rfl (fun ds hl => ?_) (by kernel_rfl) rfl #[.agg #[.bool false, .slice none 0 0, .slice none 0 0, .int .u64 0], .agg #[.bool false, .slice none 0 0, .slice none 0 0, .int .u64 0], .int .i64 0] (by kernel_rfl) (by kernel_rfl) (by kernel_rfl) ?_
  · match ds, hl with
    | [_, _, _], _ => rfl
  intro W base args ds ps hT hval0 hA0 hlt
  have hval : ∀ (j : Nat) t v, Tryd.f7.params[j]? = some t → args[j]? = some v → Value.okWide Tryd.prog W .any base t v := hval0
  have hA : DataW.TrodAll enc Tryd.prog W 0 (fun _ => true) true Tryd.f7.params.toList args.toList ds ps := hA0
  rw [Tryd.params7] at hA hval
  clear hA0 hval0
  obtain ⟨v0, v1, v2, d0, d1, d2, p0, p1, p2, rfl, rfl, rfl, h0, h1, h2⟩ := trodAll_three hA
  obtain ⟨fan, rfl, rfl, rfl, w2⟩ := open_int Tryd.underlying3 (hval 2 _ _ rfl rfl) h2
  obtain ⟨ba, ka, va, la, na, wa⟩ := open_node (B := W.heap.size) (hval 0 _ _ rfl rfl) h0 (fun p hp => hlt p (by simp [hp])) (fun _ => rfl)
  obtain ⟨bb, kb, vb, lb, nb, wb⟩ := open_node (B := W.heap.size) (hval 1 _ _ rfl rfl) h1 (fun p hp => hlt p (by simp [hp])) (fun _ => rfl)
  cases e1 : smallB ka va
  · exact fits_big _ _ ba ka va la bb kb vb lb fan W hT na nb (.inl e1)
  · cases e2 : smallB kb vb
    · exact fits_big _ _ ba ka va la bb kb vb lb fan W hT na nb (.inr e2)
    · exact fits_small _ _ ba ka va la bb kb vb lb fan W hT na nb e1 e2
theorem arenaFits_row : Rows.ArenaFitsSaid :=
  OpenClaim.holds_of_wide 7 Tryd.f7 rfl rfl rfl rfl rfl rfl rfl ⟨rfl, rfl, rfl, rfl, rfl⟩ rfl rfl rfl rfl rfl (by kernel_rfl) Tryd.func7 (by kernel_rfl)
    (of_decide_eq_true (by kernel_rfl)) (by unfold Func.isWrapper; first | (rw [if_pos (by decide +kernel)]; kernel_rfl) | (rw [if_neg (by decide +kernel)]; exact ⟨rfl, rfl⟩))
    (fun os started H enc _ => arenaFits_lifted os started H enc)
theorem arenaFits_holds : Rows.ArenaFitsCardSaid :=
  Claim7.holds_tied_plain_at .later [] [.listed, .data] true Rows.arenaFitsCard.stood.harness false
    arenaFits_row (fun _ h => by cases h) (by kernel_rfl) (fun _ h => by cases h) arenaFits_row_tie rfl ⟨rfl, rfl⟩ (by kernel_rfl) rfl
    (fun f fn hf hfn => by
      obtain rfl : f = 7 := Option.some.inj ((show Tryd.prog.funcNamed "gleaning/gleaninglaw10.ArenaFits" = some 7 by kernel_rfl).symm.trans hf) |>.symm
      obtain rfl : fn = Tryd.f7 := (Option.some.inj (Tryd.func7.symm.trans hfn)).symm
      exact ⟨by kernel_rfl, fun j t ht => by
        rw [Tryd.params7] at ht
        exact no_stand_in (by kernel_rfl) j t ht⟩)
    (by kernel_rfl)
#print axioms arenaFits_holds
end Go.Proofs.YtegldbhabeoboaaDoor
