/-
  inner.both, inner.Merge.
-/
import Derived.Test.YtcmoblibjhaegaaIs
namespace Go.Proofs.Ytcmoblibjhaegaa
open Go.RowKit

theorem sl_one {w : World} {g : Nat} {x : Int} (h : Blk w g 22 #[.int .u64 x]) : Sl w w.heap.size (.slice (some ⟨g, 0, none⟩) 1 1) [x] :=
  ⟨some ⟨g, 0, none⟩, 1, rfl, by simp, by omega, (Reads.blk h 1 1 (by simp)).more h.lt⟩
set_option maxRecDepth 100000 in
set_option maxHeartbeats 4000000 in
theorem both_yes (v v' : Value) (b b' : Bool) (ks vs ks' vs' : List Int) (l l' key : Int) (w : World) (hl : ks.length ≤ 1000) (hl' : ks'.length ≤ 1000) (h : Nd w w.heap.size v b ks vs l) (h' : Nd w w.heap.size v' b' ks' vs' l') (h1 : rightI b ks vs = true) (h2 : rightI b' ks' vs' = true) (h3 : rightI true (ks ++ key :: ks') (vs ++ vs') = true) :
    Calls Try.prog 35 #[v, .int .u64 key, v'] w fun e w' => (∃ u, e = .returned u ∧ NdO w' w.heap.size u true (ks ++ key :: ks') (vs ++ vs') l) ∧ Below w.heap.size w w' := by
  have R1 := hide (fun w2 (hB : Below w.heap.size w w2) => iright_any v b ks vs l w2 (by omega) ((h.below hB).more hB.size))
  have R2 := hide (fun w2 (hB : Below w.heap.size w w2) => iright_any v' b' ks' vs' l' w2 (by omega) ((h'.below hB).more hB.size))
  rw [h1] at R1
  rw [h2] at R2
  have hlv := (rightI_parts h1).2.1
  have hlv' := (rightI_parts h2).2.1
  have HL := hide (show (ks ++ ([key] ++ ks')).length ≤ 1000000 by simp; omega)
  have HV := hide (show (vs ++ vs').length ≤ 1000000 by simp; omega)
  obtain ⟨y1, hy1⟩ : ∃ y, y = ks ++ ([key] ++ ks') := ⟨_, rfl⟩
  rw [show ks ++ key :: ks' = ks ++ ([key] ++ ks') from rfl] at h3
  obtain ⟨y2, hy2⟩ : ∃ y, y = vs ++ vs' := ⟨_, rfl⟩
  rw [← hy1, ← hy2] at h3
  have HLy := hide (show y1.length ≤ 1000000 by rw [hy1]; exact HL.out)
  have HY1 := hide hy1
  have HY2 := hide hy2
  clear hy1 hy2
  have HR := hide h3
  clear h1 h2 h3 hlv hlv' hl hl'
  obtain ⟨k1, u1, rfl, S1, S2⟩ := h
  obtain ⟨k2, u2, rfl, S3, S4⟩ := h'
  have T1 := S1
  have T2 := S2
  have T3 := S3
  have T4 := S4
  obtain ⟨A, c, rfl, _⟩ := T1
  obtain ⟨A', c', rfl, _⟩ := T2
  obtain ⟨E, f, rfl, _⟩ := T3
  obtain ⟨E', f', rfl, _⟩ := T4
  generalize hn : ks.length = n at *
  generalize hm : vs.length = m at *
  generalize hn' : ks'.length = n' at *
  generalize hm' : vs'.length = m' at *
  have bx := ((Blk.new w 27 #[.bool b, .slice A n c, .slice A' m c', .int .u64 l]).alloc (.cells #[.bool b', .slice E n' f, .slice E' m' f', .int .u64 l'] 27)).alloc (.cells #[.bool false, .slice none 0 0, .slice none 0 0, .int .u64 0] 27)
  have by_ := (Blk.new (w.alloc (.cells #[.bool b, .slice A n c, .slice A' m c', .int .u64 l] 27)) 27 #[.bool b', .slice E n' f, .slice E' m' f', .int .u64 l']).alloc (.cells #[.bool false, .slice none 0 0, .slice none 0 0, .int .u64 0] 27)
  have br := Blk.new ((w.alloc (.cells #[.bool b, .slice A n c, .slice A' m c', .int .u64 l] 27)).alloc (.cells #[.bool b', .slice E n' f, .slice E' m' f', .int .u64 l'] 27)) 27 #[.bool false, .slice none 0 0, .slice none 0 0, .int .u64 0]
  have hb := (((Below.refl w.heap.size w).alloc (Nat.le_refl _) (.cells #[.bool b, .slice A n c, .slice A' m c', .int .u64 l] 27)).alloc (by simp only [World.size_alloc]; omega) (.cells #[.bool b', .slice E n' f, .slice E' m' f', .int .u64 l'] 27)).alloc (by simp only [World.size_alloc]; omega) (.cells #[.bool false, .slice none 0 0, .slice none 0 0, .int .u64 0] 27)
  simp only [World.size_alloc] at by_ br
  replace hn := hide hn
  replace hm := hide hm
  replace hn' := hide hn'
  replace hm' := hide hm'
  go_enter Try.func35, Try.ntmps35
  go_wp2_with fail
  generalize ((w.alloc (.cells #[.bool b, .slice A n c, .slice A' m c', .int .u64 l] 27)).alloc (.cells #[.bool b', .slice E n' f, .slice E' m' f', .int .u64 l'] 27)).alloc (.cells #[.bool false, .slice none 0 0, .slice none 0 0, .int .u64 0] 27) = wa at *
  obtain ⟨gx, ex⟩ : ∃ g, g = w.heap.size := ⟨_, rfl⟩
  obtain ⟨gy, ey⟩ : ∃ g, g = w.heap.size + 1 := ⟨_, rfl⟩
  obtain ⟨gr, er⟩ : ∃ g, g = w.heap.size + 1 + 1 := ⟨_, rfl⟩
  have HXR := hide (show gx ≠ gr by omega)
  have HYR := hide (show gy ≠ gr by omega)
  have HGR := hide (show w.heap.size ≤ gr by omega)
  rw [← er] at br ⊢
  rw [← ey] at by_ ⊢
  rw [← ex] at bx
  rw [← ex]
  clear ex ey er
  refine (R1.out _ hb).mono ?_
  rintro e wb ⟨rfl, hb1⟩
  replace bx := bx.below hb1 bx.lt
  replace by_ := by_.below hb1 by_.lt
  replace br := br.below hb1 br.lt
  replace hb := hb.trans (hb1.mono hb.size)
  clear hb1
  have my := fun i => by_.cell i
  go_wp2_with fail
  refine (R2.out _ hb).mono ?_
  rintro e wc ⟨rfl, hb1⟩
  replace bx := bx.below hb1 bx.lt
  replace by_ := by_.below hb1 by_.lt
  replace br := br.below hb1 br.lt
  replace hb := hb.trans (hb1.mono hb.size)
  clear hb1 my
  go_wp2_with fail
  refine (must_yes _).mono ?_
  rintro e wd ⟨rfl, rfl⟩
  go_wp2_with fail
  refine wp_region_heldZ [] (fun w' => w'.cell? ⟨gx, 1, none⟩ = some (.slice A n c) ∧ w'.cell? ⟨gx, 2, none⟩ = some (.slice A' m c') ∧ w'.cell? ⟨gx, 3, none⟩ = some (.int .u64 l) ∧ w'.cell? ⟨gy, 1, none⟩ = some (.slice E n' f) ∧ w'.cell? ⟨gy, 2, none⟩ = some (.slice E' m' f')) (by kernel_rfl) (by exact ⟨bx.cell 1, bx.cell 2, bx.cell 3, by_.cell 1, by_.cell 2⟩) (fun hHeld => ?_)
  replace bx := bx.drew
  replace by_ := by_.drew
  replace br := br.drew
  replace hb := hb.drew
  generalize wd.drew = w0x at *
  refine' wpAnyZ_takeA (i := 0) (v := ?_) (opAt rfl) (by kernel_rfl) (by kernel_rfl) (by kernel_rfl) (by kernel_rfl) (fun _ _ _ h => h) (by assumption) (by rfl) (fun w hSw => ?_) ?_
  rotate_left
  · (try dsimp only at hSw); go_simp; (try with_reducible rfl)
  try simp only [Act.put, List.setIfInBounds_toArray, List.set_cons_zero, List.set_cons_succ]
  refine' wpAnyZ_takeA (i := 1) (v := ?_) (opAt rfl) (by kernel_rfl) (by kernel_rfl) (by kernel_rfl) (by kernel_rfl) (fun _ _ _ h => h) (by assumption) (by rfl) (fun w hSw => ?_) ?_
  rotate_left
  · (try dsimp only at hSw); go_simp; (try with_reducible rfl)
  try simp only [Act.put, List.setIfInBounds_toArray, List.set_cons_zero, List.set_cons_succ]
  refine' wpAnyZ_takeA (i := 2) (v := ?_) (opAt rfl) (by kernel_rfl) (by kernel_rfl) (by kernel_rfl) (by kernel_rfl) (fun _ _ _ h => h) (by assumption) (by rfl) (fun w hSw => ?_) ?_
  rotate_left
  · (try dsimp only at hSw); go_simp; (try with_reducible rfl)
  try simp only [Act.put, List.setIfInBounds_toArray, List.set_cons_zero, List.set_cons_succ]
  refine' wpAnyZ_takeA (i := 4) (v := ?_) (opAt rfl) (by kernel_rfl) (by kernel_rfl) (by kernel_rfl) (by kernel_rfl) (fun _ _ _ h => h) (by assumption) (by rfl) (fun w hSw => ?_) ?_
  rotate_left
  · (try dsimp only at hSw); go_simp; (try with_reducible rfl)
  try simp only [Act.put, List.setIfInBounds_toArray, List.set_cons_zero, List.set_cons_succ]
  refine' wpAnyZ_takeA (i := 5) (v := ?_) (opAt rfl) (by kernel_rfl) (by kernel_rfl) (by kernel_rfl) (by kernel_rfl) (fun _ _ _ h => h) (by assumption) (by rfl) (fun w hSw => ?_) ?_
  rotate_left
  · (try dsimp only at hSw); go_simp; (try with_reducible rfl)
  try simp only [Act.put, List.setIfInBounds_toArray, List.set_cons_zero, List.set_cons_succ]
  refine' wpAnyZ_takeA (i := 8) (v := ?_) (opAt rfl) (by kernel_rfl) (by kernel_rfl) (by kernel_rfl) (by kernel_rfl) (fun _ _ _ h => h) (by assumption) (by rfl) (fun w hSw => ?_) ?_
  rotate_left
  · (try dsimp only at hSw); go_simp; (try with_reducible rfl)
  try simp only [Act.put, List.setIfInBounds_toArray, List.set_cons_zero, List.set_cons_succ]
  refine' wpAnyZ_takeA (i := 9) (v := ?_) (opAt rfl) (by kernel_rfl) (by kernel_rfl) (by kernel_rfl) (by kernel_rfl) (fun _ _ _ h => h) (by assumption) (by rfl) (fun w hSw => ?_) ?_
  rotate_left
  · (try dsimp only at hSw); go_simp; (try with_reducible rfl)
  try simp only [Act.put, List.setIfInBounds_toArray, List.set_cons_zero, List.set_cons_succ]
  refine' wpAnyZ_takeA (i := 10) (v := ?_) (opAt rfl) (by kernel_rfl) (by kernel_rfl) (by kernel_rfl) (by kernel_rfl) (fun _ _ _ h => h) (by assumption) (by rfl) (fun w hSw => ?_) ?_
  rotate_left
  · (try dsimp only at hSw); go_simp; (try with_reducible rfl)
  try simp only [Act.put, List.setIfInBounds_toArray, List.set_cons_zero, List.set_cons_succ]
  refine' wpAnyZ_takeA (i := 11) (v := ?_) (opAt rfl) (by kernel_rfl) (by kernel_rfl) (by kernel_rfl) (by kernel_rfl) (fun _ _ _ h => h) (by assumption) (by rfl) (fun w hSw => ?_) ?_
  rotate_left
  · (try dsimp only at hSw); go_simp; (try with_reducible rfl)
  try simp only [Act.put, List.setIfInBounds_toArray, List.set_cons_zero, List.set_cons_succ]
  refine' wpAnyZ_takeA (i := 14) (v := ?_) (opAt rfl) (by kernel_rfl) (by kernel_rfl) (by kernel_rfl) (by kernel_rfl) (fun _ _ _ h => h) (by assumption) (by rfl) (fun w hSw => ?_) ?_
  rotate_left
  · (try dsimp only at hSw); go_simp; (try with_reducible rfl)
  try simp only [Act.put, List.setIfInBounds_toArray, List.set_cons_zero, List.set_cons_succ]
  refine' wpAnyZ_takeA (i := 15) (v := ?_) (opAt rfl) (by kernel_rfl) (by kernel_rfl) (by kernel_rfl) (by kernel_rfl) (fun _ _ _ h => h) (by assumption) (by rfl) (fun w hSw => ?_) ?_
  rotate_left
  · (try dsimp only at hSw); go_simp; (try with_reducible rfl)
  try simp only [Act.put, List.setIfInBounds_toArray, List.set_cons_zero, List.set_cons_succ]
  refine wpAnyZ_ready (rs := [3, 12]) (by kernel_rfl) (by simp) ?_
  refine AllReadyZ.cons (opAt rfl) (fun K hK => ?_) ?_
  · skip
    go_simp
    replace bx := bx.alloc (.cells #[.int .u64 key] 22)
    replace by_ := by_.alloc (.cells #[.int .u64 key] 22)
    replace br := br.alloc (.cells #[.int .u64 key] 22)
    replace hb := hb.alloc hb.size (.cells #[.int .u64 key] 22)
    have b3 := Blk.new w0x 22 #[.int .u64 key]
    generalize w0x.alloc (.cells #[.int .u64 key] 22) = w1x at *
    generalize w0x.heap.size = g3 at *
    refine hK.out _ _ (by exact ⟨bx.cell 1, bx.cell 2, bx.cell 3, by_.cell 1, by_.cell 2⟩) (fun hHeld => ?_)
    clear hK K
    try simp only [Act.put, List.setIfInBounds_toArray, List.set_cons_zero, List.set_cons_succ]
    refine wpAnyZ_ready (rs := [6, 12]) (by kernel_rfl) (by simp) ?_
    refine AllReadyZ.cons (opAt rfl) (fun K hK => ?_) ?_
    · skip
      go_simp
      replace bx := bx.alloc (.cells #[.slice A n c, .slice (some ⟨g3, 0, none⟩) 1 1, .slice E n' f] 25)
      replace by_ := by_.alloc (.cells #[.slice A n c, .slice (some ⟨g3, 0, none⟩) 1 1, .slice E n' f] 25)
      replace br := br.alloc (.cells #[.slice A n c, .slice (some ⟨g3, 0, none⟩) 1 1, .slice E n' f] 25)
      replace b3 := b3.alloc (.cells #[.slice A n c, .slice (some ⟨g3, 0, none⟩) 1 1, .slice E n' f] 25)
      replace hb := hb.alloc hb.size (.cells #[.slice A n c, .slice (some ⟨g3, 0, none⟩) 1 1, .slice E n' f] 25)
      have b6 := Blk.new w1x 25 #[.slice A n c, .slice (some ⟨g3, 0, none⟩) 1 1, .slice E n' f]
      generalize w1x.alloc (.cells #[.slice A n c, .slice (some ⟨g3, 0, none⟩) 1 1, .slice E n' f] 25) = w2x at *
      generalize w1x.heap.size = g6 at *
      refine hK.out _ _ (by exact ⟨bx.cell 1, bx.cell 2, bx.cell 3, by_.cell 1, by_.cell 2⟩) (fun hHeld => ?_)
      clear hK K
      try simp only [Act.put, List.setIfInBounds_toArray, List.set_cons_zero, List.set_cons_succ]
      refine wpAnyZ_ready (rs := [7, 12]) (by kernel_rfl) (by simp) ?_
      refine AllReadyZ.cons (opAt rfl) (fun K hK => ?_) ?_
      · skip
        go_simp
        refine (concat_any [(.slice A n c, ks), (.slice (some ⟨g3, 0, none⟩) 1 1, [key]), (.slice E n' f, ks')] (some ⟨g6, 0, none⟩) 3 3 _ rfl (by omega) ((reads3 b6 rfl).more b6.lt) ?_ ?_).mono ?_
        · intro p hp
          simp only [List.mem_cons, List.not_mem_nil, or_false] at hp
          rcases hp with rfl | rfl | rfl
          · exact (S1.below hb).more hb.size
          · exact sl_one b3
          · exact (S3.below hb).more hb.size
        · have h8 := HL.out
          have h9 := HV.out
          simp only [List.flatMap_cons, List.flatMap_nil, List.append_nil, List.length_append, List.length_cons, List.length_nil] at h8 h9 ⊢
          omega
        rintro e w3x ⟨⟨u, rfl, r7⟩, hb1⟩
        replace r7 := r7.mono (lo' := w.heap.size) hb.size
        replace bx := bx.below hb1 bx.lt
        replace by_ := by_.below hb1 by_.lt
        replace br := br.below hb1 br.lt
        replace b3 := b3.below hb1 b3.lt
        replace b6 := b6.below hb1 b6.lt
        replace hb := hb.trans (hb1.mono hb.size)
        clear hb1
        simp only [List.flatMap_cons, List.flatMap_nil, List.append_nil] at r7
        rw [← HY1.out] at r7
        obtain ⟨Cr7, kr7, rfl⟩ := r7.val
        try go_wp2_with fail
        refine hK.out _ _ (by exact ⟨bx.cell 1, bx.cell 2, bx.cell 3, by_.cell 1, by_.cell 2⟩) (fun hHeld => ?_)
        clear hK K
        try simp only [Act.put, List.setIfInBounds_toArray, List.set_cons_zero, List.set_cons_succ]
        refine wpAnyZ_ready (rs := [12]) (by kernel_rfl) (by simp) ?_
        refine AllReadyZ.cons (opAt rfl) (fun K hK => ?_) ?_
        · skip
          go_simp
          replace bx := bx.alloc (.cells #[.slice A' m c', .slice E' m' f'] 25)
          replace by_ := by_.alloc (.cells #[.slice A' m c', .slice E' m' f'] 25)
          replace br := br.alloc (.cells #[.slice A' m c', .slice E' m' f'] 25)
          replace b3 := b3.alloc (.cells #[.slice A' m c', .slice E' m' f'] 25)
          replace b6 := b6.alloc (.cells #[.slice A' m c', .slice E' m' f'] 25)
          replace r7 := r7.alloc (.cells #[.slice A' m c', .slice E' m' f'] 25)
          replace hb := hb.alloc hb.size (.cells #[.slice A' m c', .slice E' m' f'] 25)
          have b12 := Blk.new w3x 25 #[.slice A' m c', .slice E' m' f']
          generalize w3x.alloc (.cells #[.slice A' m c', .slice E' m' f'] 25) = w4x at *
          generalize w3x.heap.size = g12 at *
          refine hK.out _ _ (by exact ⟨bx.cell 1, bx.cell 2, bx.cell 3, by_.cell 1, by_.cell 2⟩) (fun hHeld => ?_)
          clear hK K
          try simp only [Act.put, List.setIfInBounds_toArray, List.set_cons_zero, List.set_cons_succ]
          refine wpAnyZ_ready (rs := [13]) (by kernel_rfl) (by simp) ?_
          refine AllReadyZ.cons (opAt rfl) (fun K hK => ?_) ?_
          · skip
            go_simp
            refine (concat_any [(.slice A' m c', vs), (.slice E' m' f', vs')] (some ⟨g12, 0, none⟩) 2 2 _ rfl (by omega) ((reads3 b12 rfl).more b12.lt) ?_ ?_).mono ?_
            · intro p hp
              simp only [List.mem_cons, List.not_mem_nil, or_false] at hp
              rcases hp with rfl | rfl
              · exact (S2.below hb).more hb.size
              · exact (S4.below hb).more hb.size
            · have h8 := HL.out
              have h9 := HV.out
              simp only [List.flatMap_cons, List.flatMap_nil, List.append_nil, List.length_append, List.length_cons, List.length_nil] at h8 h9 ⊢
              omega
            rintro e w5x ⟨⟨u, rfl, r13⟩, hb1⟩
            replace r13 := r13.mono (lo' := w.heap.size) hb.size
            replace bx := bx.below hb1 bx.lt
            replace by_ := by_.below hb1 by_.lt
            replace br := br.below hb1 br.lt
            replace b3 := b3.below hb1 b3.lt
            replace b6 := b6.below hb1 b6.lt
            replace b12 := b12.below hb1 b12.lt
            replace r7 := r7.below hb1
            replace hb := hb.trans (hb1.mono hb.size)
            clear hb1
            simp only [List.flatMap_cons, List.flatMap_nil, List.append_nil] at r13
            rw [← HY2.out] at r13
            obtain ⟨Cr13, kr13, rfl⟩ := r13.val
            try go_wp2_with fail
            refine hK.out _ _ (by exact ⟨bx.cell 1, bx.cell 2, bx.cell 3, by_.cell 1, by_.cell 2⟩) (fun hHeld => ?_)
            clear hK K
            try simp only [Act.put, List.setIfInBounds_toArray, List.set_cons_zero, List.set_cons_succ]
            refine wpAnyZ_ready (rs := [16]) (by kernel_rfl) (by simp) ?_
            refine AllReadyZ.cons (opAt rfl) (fun K hK => ?_) ?_
            · skip
              go_simp
              refine (node_yes _ _ _ _ l _ HLy.out r7.sl r13.sl HR.out).mono ?_
              rintro e w6x ⟨rfl, hb1⟩
              replace bx := bx.below hb1 bx.lt
              replace by_ := by_.below hb1 by_.lt
              replace br := br.below hb1 br.lt
              replace b3 := b3.below hb1 b3.lt
              replace b6 := b6.below hb1 b6.lt
              replace b12 := b12.below hb1 b12.lt
              replace r7 := r7.below hb1
              replace r13 := r13.below hb1
              replace hb := hb.trans (hb1.mono hb.size)
              clear hb1
              try go_wp2_with fail
              refine hK.out _ _ (by exact ⟨bx.cell 1, bx.cell 2, bx.cell 3, by_.cell 1, by_.cell 2⟩) (fun hHeld => ?_)
              clear hK K
              try simp only [Act.put, List.setIfInBounds_toArray, List.set_cons_zero, List.set_cons_succ]
              refine wpAnyZ_ready (rs := [17]) (by kernel_rfl) (by simp) ?_
              refine AllReadyZ.cons (opAt rfl) (fun K hK => ?_) ?_
              · skip
                have zo := fun i => br.frozen i
                have mo := fun i => br.cell i
                go_simp
                replace bx := bx.offN HXR.out (.bool true) (.slice Cr7 y1.length kr7) (.slice Cr13 y2.length kr13) (.int .u64 l)
                replace by_ := by_.offN HYR.out (.bool true) (.slice Cr7 y1.length kr7) (.slice Cr13 y2.length kr13) (.int .u64 l)
                replace r7 := own_setN_blk r7 br (by decide) (.bool true) (.slice Cr7 y1.length kr7) (.slice Cr13 y2.length kr13) (.int .u64 l)
                replace r13 := own_setN_blk r13 br (by decide) (.bool true) (.slice Cr7 y1.length kr7) (.slice Cr13 y2.length kr13) (.int .u64 l)
                replace br := br.setN (.bool true) (.slice Cr7 y1.length kr7) (.slice Cr13 y2.length kr13) (.int .u64 l)
                replace hb := below_setN hb (g := gr) HGR.out (.bool true) (.slice Cr7 y1.length kr7) (.slice Cr13 y2.length kr13) (.int .u64 l)
                clear zo mo
                generalize ((((w6x).setCell ⟨gr, 0, none⟩ (.bool true)).setCell ⟨gr, 1, none⟩ (.slice Cr7 y1.length kr7)).setCell ⟨gr, 2, none⟩ (.slice Cr13 y2.length kr13)).setCell ⟨gr, 3, none⟩ (.int .u64 l) = w7x at *
                refine hK.out _ _ (by exact ⟨bx.cell 1, bx.cell 2, bx.cell 3, by_.cell 1, by_.cell 2⟩) (fun hHeld => ?_)
                clear hK K
                try simp only [Act.put, List.setIfInBounds_toArray, List.set_cons_zero, List.set_cons_succ]
                refine wpAnyZ_done (by kernel_rfl) ?_ _
                go_wp2_with fail
                have ck := fun i => br.cell i
                refine bodyPost_ret (v := .agg #[(.bool true), (.slice Cr7 y1.length kr7), (.slice Cr13 y2.length kr13), (.int .u64 l)]) (by simp [results, Try.results35, go_sem, ck]) rfl ⟨⟨_, rfl, by have e1 := HY1.out; have e2 := HY2.out; simp only [List.cons_append, List.nil_append] at e1; rw [← e1, ← e2]; exact ⟨_, _, rfl, r7, r13⟩⟩, hb⟩
              exact AllReadyZ.nil
            exact AllReadyZ.nil
          exact AllReadyZ.nil
        exact AllReadyZ.nil
      refine AllReadyZ.cons (opAt rfl) (fun K hK => ?_) ?_
      · skip
        go_simp
        replace bx := bx.alloc (.cells #[.slice A' m c', .slice E' m' f'] 25)
        replace by_ := by_.alloc (.cells #[.slice A' m c', .slice E' m' f'] 25)
        replace br := br.alloc (.cells #[.slice A' m c', .slice E' m' f'] 25)
        replace b3 := b3.alloc (.cells #[.slice A' m c', .slice E' m' f'] 25)
        replace b6 := b6.alloc (.cells #[.slice A' m c', .slice E' m' f'] 25)
        replace hb := hb.alloc hb.size (.cells #[.slice A' m c', .slice E' m' f'] 25)
        have b12 := Blk.new w2x 25 #[.slice A' m c', .slice E' m' f']
        generalize w2x.alloc (.cells #[.slice A' m c', .slice E' m' f'] 25) = w3x at *
        generalize w2x.heap.size = g12 at *
        refine hK.out _ _ (by exact ⟨bx.cell 1, bx.cell 2, bx.cell 3, by_.cell 1, by_.cell 2⟩) (fun hHeld => ?_)
        clear hK K
        try simp only [Act.put, List.setIfInBounds_toArray, List.set_cons_zero, List.set_cons_succ]
        refine wpAnyZ_ready (rs := [7]) (by kernel_rfl) (by simp) ?_
        refine AllReadyZ.cons (opAt rfl) (fun K hK => ?_) ?_
        · skip
          go_simp
          refine (concat_any [(.slice A n c, ks), (.slice (some ⟨g3, 0, none⟩) 1 1, [key]), (.slice E n' f, ks')] (some ⟨g6, 0, none⟩) 3 3 _ rfl (by omega) ((reads3 b6 rfl).more b6.lt) ?_ ?_).mono ?_
          · intro p hp
            simp only [List.mem_cons, List.not_mem_nil, or_false] at hp
            rcases hp with rfl | rfl | rfl
            · exact (S1.below hb).more hb.size
            · exact sl_one b3
            · exact (S3.below hb).more hb.size
          · have h8 := HL.out
            have h9 := HV.out
            simp only [List.flatMap_cons, List.flatMap_nil, List.append_nil, List.length_append, List.length_cons, List.length_nil] at h8 h9 ⊢
            omega
          rintro e w4x ⟨⟨u, rfl, r7⟩, hb1⟩
          replace r7 := r7.mono (lo' := w.heap.size) hb.size
          replace bx := bx.below hb1 bx.lt
          replace by_ := by_.below hb1 by_.lt
          replace br := br.below hb1 br.lt
          replace b3 := b3.below hb1 b3.lt
          replace b6 := b6.below hb1 b6.lt
          replace b12 := b12.below hb1 b12.lt
          replace hb := hb.trans (hb1.mono hb.size)
          clear hb1
          simp only [List.flatMap_cons, List.flatMap_nil, List.append_nil] at r7
          rw [← HY1.out] at r7
          obtain ⟨Cr7, kr7, rfl⟩ := r7.val
          try go_wp2_with fail
          refine hK.out _ _ (by exact ⟨bx.cell 1, bx.cell 2, bx.cell 3, by_.cell 1, by_.cell 2⟩) (fun hHeld => ?_)
          clear hK K
          try simp only [Act.put, List.setIfInBounds_toArray, List.set_cons_zero, List.set_cons_succ]
          refine wpAnyZ_ready (rs := [13]) (by kernel_rfl) (by simp) ?_
          refine AllReadyZ.cons (opAt rfl) (fun K hK => ?_) ?_
          · skip
            go_simp
            refine (concat_any [(.slice A' m c', vs), (.slice E' m' f', vs')] (some ⟨g12, 0, none⟩) 2 2 _ rfl (by omega) ((reads3 b12 rfl).more b12.lt) ?_ ?_).mono ?_
            · intro p hp
              simp only [List.mem_cons, List.not_mem_nil, or_false] at hp
              rcases hp with rfl | rfl
              · exact (S2.below hb).more hb.size
              · exact (S4.below hb).more hb.size
            · have h8 := HL.out
              have h9 := HV.out
              simp only [List.flatMap_cons, List.flatMap_nil, List.append_nil, List.length_append, List.length_cons, List.length_nil] at h8 h9 ⊢
              omega
            rintro e w5x ⟨⟨u, rfl, r13⟩, hb1⟩
            replace r13 := r13.mono (lo' := w.heap.size) hb.size
            replace bx := bx.below hb1 bx.lt
            replace by_ := by_.below hb1 by_.lt
            replace br := br.below hb1 br.lt
            replace b3 := b3.below hb1 b3.lt
            replace b6 := b6.below hb1 b6.lt
            replace b12 := b12.below hb1 b12.lt
            replace r7 := r7.below hb1
            replace hb := hb.trans (hb1.mono hb.size)
            clear hb1
            simp only [List.flatMap_cons, List.flatMap_nil, List.append_nil] at r13
            rw [← HY2.out] at r13
            obtain ⟨Cr13, kr13, rfl⟩ := r13.val
            try go_wp2_with fail
            refine hK.out _ _ (by exact ⟨bx.cell 1, bx.cell 2, bx.cell 3, by_.cell 1, by_.cell 2⟩) (fun hHeld => ?_)
            clear hK K
            try simp only [Act.put, List.setIfInBounds_toArray, List.set_cons_zero, List.set_cons_succ]
            refine wpAnyZ_ready (rs := [16]) (by kernel_rfl) (by simp) ?_
            refine AllReadyZ.cons (opAt rfl) (fun K hK => ?_) ?_
            · skip
              go_simp
              refine (node_yes _ _ _ _ l _ HLy.out r7.sl r13.sl HR.out).mono ?_
              rintro e w6x ⟨rfl, hb1⟩
              replace bx := bx.below hb1 bx.lt
              replace by_ := by_.below hb1 by_.lt
              replace br := br.below hb1 br.lt
              replace b3 := b3.below hb1 b3.lt
              replace b6 := b6.below hb1 b6.lt
              replace b12 := b12.below hb1 b12.lt
              replace r7 := r7.below hb1
              replace r13 := r13.below hb1
              replace hb := hb.trans (hb1.mono hb.size)
              clear hb1
              try go_wp2_with fail
              refine hK.out _ _ (by exact ⟨bx.cell 1, bx.cell 2, bx.cell 3, by_.cell 1, by_.cell 2⟩) (fun hHeld => ?_)
              clear hK K
              try simp only [Act.put, List.setIfInBounds_toArray, List.set_cons_zero, List.set_cons_succ]
              refine wpAnyZ_ready (rs := [17]) (by kernel_rfl) (by simp) ?_
              refine AllReadyZ.cons (opAt rfl) (fun K hK => ?_) ?_
              · skip
                have zo := fun i => br.frozen i
                have mo := fun i => br.cell i
                go_simp
                replace bx := bx.offN HXR.out (.bool true) (.slice Cr7 y1.length kr7) (.slice Cr13 y2.length kr13) (.int .u64 l)
                replace by_ := by_.offN HYR.out (.bool true) (.slice Cr7 y1.length kr7) (.slice Cr13 y2.length kr13) (.int .u64 l)
                replace r7 := own_setN_blk r7 br (by decide) (.bool true) (.slice Cr7 y1.length kr7) (.slice Cr13 y2.length kr13) (.int .u64 l)
                replace r13 := own_setN_blk r13 br (by decide) (.bool true) (.slice Cr7 y1.length kr7) (.slice Cr13 y2.length kr13) (.int .u64 l)
                replace br := br.setN (.bool true) (.slice Cr7 y1.length kr7) (.slice Cr13 y2.length kr13) (.int .u64 l)
                replace hb := below_setN hb (g := gr) HGR.out (.bool true) (.slice Cr7 y1.length kr7) (.slice Cr13 y2.length kr13) (.int .u64 l)
                clear zo mo
                generalize ((((w6x).setCell ⟨gr, 0, none⟩ (.bool true)).setCell ⟨gr, 1, none⟩ (.slice Cr7 y1.length kr7)).setCell ⟨gr, 2, none⟩ (.slice Cr13 y2.length kr13)).setCell ⟨gr, 3, none⟩ (.int .u64 l) = w7x at *
                refine hK.out _ _ (by exact ⟨bx.cell 1, bx.cell 2, bx.cell 3, by_.cell 1, by_.cell 2⟩) (fun hHeld => ?_)
                clear hK K
                try simp only [Act.put, List.setIfInBounds_toArray, List.set_cons_zero, List.set_cons_succ]
                refine wpAnyZ_done (by kernel_rfl) ?_ _
                go_wp2_with fail
                have ck := fun i => br.cell i
                refine bodyPost_ret (v := .agg #[(.bool true), (.slice Cr7 y1.length kr7), (.slice Cr13 y2.length kr13), (.int .u64 l)]) (by simp [results, Try.results35, go_sem, ck]) rfl ⟨⟨_, rfl, by have e1 := HY1.out; have e2 := HY2.out; simp only [List.cons_append, List.nil_append] at e1; rw [← e1, ← e2]; exact ⟨_, _, rfl, r7, r13⟩⟩, hb⟩
              exact AllReadyZ.nil
            exact AllReadyZ.nil
          exact AllReadyZ.nil
        exact AllReadyZ.nil
      exact AllReadyZ.nil
    refine AllReadyZ.cons (opAt rfl) (fun K hK => ?_) ?_
    · skip
      go_simp
      replace bx := bx.alloc (.cells #[.slice A' m c', .slice E' m' f'] 25)
      replace by_ := by_.alloc (.cells #[.slice A' m c', .slice E' m' f'] 25)
      replace br := br.alloc (.cells #[.slice A' m c', .slice E' m' f'] 25)
      replace b3 := b3.alloc (.cells #[.slice A' m c', .slice E' m' f'] 25)
      replace hb := hb.alloc hb.size (.cells #[.slice A' m c', .slice E' m' f'] 25)
      have b12 := Blk.new w1x 25 #[.slice A' m c', .slice E' m' f']
      generalize w1x.alloc (.cells #[.slice A' m c', .slice E' m' f'] 25) = w2x at *
      generalize w1x.heap.size = g12 at *
      refine hK.out _ _ (by exact ⟨bx.cell 1, bx.cell 2, bx.cell 3, by_.cell 1, by_.cell 2⟩) (fun hHeld => ?_)
      clear hK K
      try simp only [Act.put, List.setIfInBounds_toArray, List.set_cons_zero, List.set_cons_succ]
      refine wpAnyZ_ready (rs := [6]) (by kernel_rfl) (by simp) ?_
      refine AllReadyZ.cons (opAt rfl) (fun K hK => ?_) ?_
      · skip
        go_simp
        replace bx := bx.alloc (.cells #[.slice A n c, .slice (some ⟨g3, 0, none⟩) 1 1, .slice E n' f] 25)
        replace by_ := by_.alloc (.cells #[.slice A n c, .slice (some ⟨g3, 0, none⟩) 1 1, .slice E n' f] 25)
        replace br := br.alloc (.cells #[.slice A n c, .slice (some ⟨g3, 0, none⟩) 1 1, .slice E n' f] 25)
        replace b3 := b3.alloc (.cells #[.slice A n c, .slice (some ⟨g3, 0, none⟩) 1 1, .slice E n' f] 25)
        replace b12 := b12.alloc (.cells #[.slice A n c, .slice (some ⟨g3, 0, none⟩) 1 1, .slice E n' f] 25)
        replace hb := hb.alloc hb.size (.cells #[.slice A n c, .slice (some ⟨g3, 0, none⟩) 1 1, .slice E n' f] 25)
        have b6 := Blk.new w2x 25 #[.slice A n c, .slice (some ⟨g3, 0, none⟩) 1 1, .slice E n' f]
        generalize w2x.alloc (.cells #[.slice A n c, .slice (some ⟨g3, 0, none⟩) 1 1, .slice E n' f] 25) = w3x at *
        generalize w2x.heap.size = g6 at *
        refine hK.out _ _ (by exact ⟨bx.cell 1, bx.cell 2, bx.cell 3, by_.cell 1, by_.cell 2⟩) (fun hHeld => ?_)
        clear hK K
        try simp only [Act.put, List.setIfInBounds_toArray, List.set_cons_zero, List.set_cons_succ]
        refine wpAnyZ_ready (rs := [7]) (by kernel_rfl) (by simp) ?_
        refine AllReadyZ.cons (opAt rfl) (fun K hK => ?_) ?_
        · skip
          go_simp
          refine (concat_any [(.slice A n c, ks), (.slice (some ⟨g3, 0, none⟩) 1 1, [key]), (.slice E n' f, ks')] (some ⟨g6, 0, none⟩) 3 3 _ rfl (by omega) ((reads3 b6 rfl).more b6.lt) ?_ ?_).mono ?_
          · intro p hp
            simp only [List.mem_cons, List.not_mem_nil, or_false] at hp
            rcases hp with rfl | rfl | rfl
            · exact (S1.below hb).more hb.size
            · exact sl_one b3
            · exact (S3.below hb).more hb.size
          · have h8 := HL.out
            have h9 := HV.out
            simp only [List.flatMap_cons, List.flatMap_nil, List.append_nil, List.length_append, List.length_cons, List.length_nil] at h8 h9 ⊢
            omega
          rintro e w4x ⟨⟨u, rfl, r7⟩, hb1⟩
          replace r7 := r7.mono (lo' := w.heap.size) hb.size
          replace bx := bx.below hb1 bx.lt
          replace by_ := by_.below hb1 by_.lt
          replace br := br.below hb1 br.lt
          replace b3 := b3.below hb1 b3.lt
          replace b12 := b12.below hb1 b12.lt
          replace b6 := b6.below hb1 b6.lt
          replace hb := hb.trans (hb1.mono hb.size)
          clear hb1
          simp only [List.flatMap_cons, List.flatMap_nil, List.append_nil] at r7
          rw [← HY1.out] at r7
          obtain ⟨Cr7, kr7, rfl⟩ := r7.val
          try go_wp2_with fail
          refine hK.out _ _ (by exact ⟨bx.cell 1, bx.cell 2, bx.cell 3, by_.cell 1, by_.cell 2⟩) (fun hHeld => ?_)
          clear hK K
          try simp only [Act.put, List.setIfInBounds_toArray, List.set_cons_zero, List.set_cons_succ]
          refine wpAnyZ_ready (rs := [13]) (by kernel_rfl) (by simp) ?_
          refine AllReadyZ.cons (opAt rfl) (fun K hK => ?_) ?_
          · skip
            go_simp
            refine (concat_any [(.slice A' m c', vs), (.slice E' m' f', vs')] (some ⟨g12, 0, none⟩) 2 2 _ rfl (by omega) ((reads3 b12 rfl).more b12.lt) ?_ ?_).mono ?_
            · intro p hp
              simp only [List.mem_cons, List.not_mem_nil, or_false] at hp
              rcases hp with rfl | rfl
              · exact (S2.below hb).more hb.size
              · exact (S4.below hb).more hb.size
            · have h8 := HL.out
              have h9 := HV.out
              simp only [List.flatMap_cons, List.flatMap_nil, List.append_nil, List.length_append, List.length_cons, List.length_nil] at h8 h9 ⊢
              omega
            rintro e w5x ⟨⟨u, rfl, r13⟩, hb1⟩
            replace r13 := r13.mono (lo' := w.heap.size) hb.size
            replace bx := bx.below hb1 bx.lt
            replace by_ := by_.below hb1 by_.lt
            replace br := br.below hb1 br.lt
            replace b3 := b3.below hb1 b3.lt
            replace b12 := b12.below hb1 b12.lt
            replace b6 := b6.below hb1 b6.lt
            replace r7 := r7.below hb1
            replace hb := hb.trans (hb1.mono hb.size)
            clear hb1
            simp only [List.flatMap_cons, List.flatMap_nil, List.append_nil] at r13
            rw [← HY2.out] at r13
            obtain ⟨Cr13, kr13, rfl⟩ := r13.val
            try go_wp2_with fail
            refine hK.out _ _ (by exact ⟨bx.cell 1, bx.cell 2, bx.cell 3, by_.cell 1, by_.cell 2⟩) (fun hHeld => ?_)
            clear hK K
            try simp only [Act.put, List.setIfInBounds_toArray, List.set_cons_zero, List.set_cons_succ]
            refine wpAnyZ_ready (rs := [16]) (by kernel_rfl) (by simp) ?_
            refine AllReadyZ.cons (opAt rfl) (fun K hK => ?_) ?_
            · skip
              go_simp
              refine (node_yes _ _ _ _ l _ HLy.out r7.sl r13.sl HR.out).mono ?_
              rintro e w6x ⟨rfl, hb1⟩
              replace bx := bx.below hb1 bx.lt
              replace by_ := by_.below hb1 by_.lt
              replace br := br.below hb1 br.lt
              replace b3 := b3.below hb1 b3.lt
              replace b12 := b12.below hb1 b12.lt
              replace b6 := b6.below hb1 b6.lt
              replace r7 := r7.below hb1
              replace r13 := r13.below hb1
              replace hb := hb.trans (hb1.mono hb.size)
              clear hb1
              try go_wp2_with fail
              refine hK.out _ _ (by exact ⟨bx.cell 1, bx.cell 2, bx.cell 3, by_.cell 1, by_.cell 2⟩) (fun hHeld => ?_)
              clear hK K
              try simp only [Act.put, List.setIfInBounds_toArray, List.set_cons_zero, List.set_cons_succ]
              refine wpAnyZ_ready (rs := [17]) (by kernel_rfl) (by simp) ?_
              refine AllReadyZ.cons (opAt rfl) (fun K hK => ?_) ?_
              · skip
                have zo := fun i => br.frozen i
                have mo := fun i => br.cell i
                go_simp
                replace bx := bx.offN HXR.out (.bool true) (.slice Cr7 y1.length kr7) (.slice Cr13 y2.length kr13) (.int .u64 l)
                replace by_ := by_.offN HYR.out (.bool true) (.slice Cr7 y1.length kr7) (.slice Cr13 y2.length kr13) (.int .u64 l)
                replace r7 := own_setN_blk r7 br (by decide) (.bool true) (.slice Cr7 y1.length kr7) (.slice Cr13 y2.length kr13) (.int .u64 l)
                replace r13 := own_setN_blk r13 br (by decide) (.bool true) (.slice Cr7 y1.length kr7) (.slice Cr13 y2.length kr13) (.int .u64 l)
                replace br := br.setN (.bool true) (.slice Cr7 y1.length kr7) (.slice Cr13 y2.length kr13) (.int .u64 l)
                replace hb := below_setN hb (g := gr) HGR.out (.bool true) (.slice Cr7 y1.length kr7) (.slice Cr13 y2.length kr13) (.int .u64 l)
                clear zo mo
                generalize ((((w6x).setCell ⟨gr, 0, none⟩ (.bool true)).setCell ⟨gr, 1, none⟩ (.slice Cr7 y1.length kr7)).setCell ⟨gr, 2, none⟩ (.slice Cr13 y2.length kr13)).setCell ⟨gr, 3, none⟩ (.int .u64 l) = w7x at *
                refine hK.out _ _ (by exact ⟨bx.cell 1, bx.cell 2, bx.cell 3, by_.cell 1, by_.cell 2⟩) (fun hHeld => ?_)
                clear hK K
                try simp only [Act.put, List.setIfInBounds_toArray, List.set_cons_zero, List.set_cons_succ]
                refine wpAnyZ_done (by kernel_rfl) ?_ _
                go_wp2_with fail
                have ck := fun i => br.cell i
                refine bodyPost_ret (v := .agg #[(.bool true), (.slice Cr7 y1.length kr7), (.slice Cr13 y2.length kr13), (.int .u64 l)]) (by simp [results, Try.results35, go_sem, ck]) rfl ⟨⟨_, rfl, by have e1 := HY1.out; have e2 := HY2.out; simp only [List.cons_append, List.nil_append] at e1; rw [← e1, ← e2]; exact ⟨_, _, rfl, r7, r13⟩⟩, hb⟩
              exact AllReadyZ.nil
            exact AllReadyZ.nil
          exact AllReadyZ.nil
        exact AllReadyZ.nil
      exact AllReadyZ.nil
    exact AllReadyZ.nil
  refine AllReadyZ.cons (opAt rfl) (fun K hK => ?_) ?_
  · skip
    go_simp
    replace bx := bx.alloc (.cells #[.slice A' m c', .slice E' m' f'] 25)
    replace by_ := by_.alloc (.cells #[.slice A' m c', .slice E' m' f'] 25)
    replace br := br.alloc (.cells #[.slice A' m c', .slice E' m' f'] 25)
    replace hb := hb.alloc hb.size (.cells #[.slice A' m c', .slice E' m' f'] 25)
    have b12 := Blk.new w0x 25 #[.slice A' m c', .slice E' m' f']
    generalize w0x.alloc (.cells #[.slice A' m c', .slice E' m' f'] 25) = w1x at *
    generalize w0x.heap.size = g12 at *
    refine hK.out _ _ (by exact ⟨bx.cell 1, bx.cell 2, bx.cell 3, by_.cell 1, by_.cell 2⟩) (fun hHeld => ?_)
    clear hK K
    try simp only [Act.put, List.setIfInBounds_toArray, List.set_cons_zero, List.set_cons_succ]
    refine wpAnyZ_ready (rs := [3]) (by kernel_rfl) (by simp) ?_
    refine AllReadyZ.cons (opAt rfl) (fun K hK => ?_) ?_
    · skip
      go_simp
      replace bx := bx.alloc (.cells #[.int .u64 key] 22)
      replace by_ := by_.alloc (.cells #[.int .u64 key] 22)
      replace br := br.alloc (.cells #[.int .u64 key] 22)
      replace b12 := b12.alloc (.cells #[.int .u64 key] 22)
      replace hb := hb.alloc hb.size (.cells #[.int .u64 key] 22)
      have b3 := Blk.new w1x 22 #[.int .u64 key]
      generalize w1x.alloc (.cells #[.int .u64 key] 22) = w2x at *
      generalize w1x.heap.size = g3 at *
      refine hK.out _ _ (by exact ⟨bx.cell 1, bx.cell 2, bx.cell 3, by_.cell 1, by_.cell 2⟩) (fun hHeld => ?_)
      clear hK K
      try simp only [Act.put, List.setIfInBounds_toArray, List.set_cons_zero, List.set_cons_succ]
      refine wpAnyZ_ready (rs := [6]) (by kernel_rfl) (by simp) ?_
      refine AllReadyZ.cons (opAt rfl) (fun K hK => ?_) ?_
      · skip
        go_simp
        replace bx := bx.alloc (.cells #[.slice A n c, .slice (some ⟨g3, 0, none⟩) 1 1, .slice E n' f] 25)
        replace by_ := by_.alloc (.cells #[.slice A n c, .slice (some ⟨g3, 0, none⟩) 1 1, .slice E n' f] 25)
        replace br := br.alloc (.cells #[.slice A n c, .slice (some ⟨g3, 0, none⟩) 1 1, .slice E n' f] 25)
        replace b12 := b12.alloc (.cells #[.slice A n c, .slice (some ⟨g3, 0, none⟩) 1 1, .slice E n' f] 25)
        replace b3 := b3.alloc (.cells #[.slice A n c, .slice (some ⟨g3, 0, none⟩) 1 1, .slice E n' f] 25)
        replace hb := hb.alloc hb.size (.cells #[.slice A n c, .slice (some ⟨g3, 0, none⟩) 1 1, .slice E n' f] 25)
        have b6 := Blk.new w2x 25 #[.slice A n c, .slice (some ⟨g3, 0, none⟩) 1 1, .slice E n' f]
        generalize w2x.alloc (.cells #[.slice A n c, .slice (some ⟨g3, 0, none⟩) 1 1, .slice E n' f] 25) = w3x at *
        generalize w2x.heap.size = g6 at *
        refine hK.out _ _ (by exact ⟨bx.cell 1, bx.cell 2, bx.cell 3, by_.cell 1, by_.cell 2⟩) (fun hHeld => ?_)
        clear hK K
        try simp only [Act.put, List.setIfInBounds_toArray, List.set_cons_zero, List.set_cons_succ]
        refine wpAnyZ_ready (rs := [7]) (by kernel_rfl) (by simp) ?_
        refine AllReadyZ.cons (opAt rfl) (fun K hK => ?_) ?_
        · skip
          go_simp
          refine (concat_any [(.slice A n c, ks), (.slice (some ⟨g3, 0, none⟩) 1 1, [key]), (.slice E n' f, ks')] (some ⟨g6, 0, none⟩) 3 3 _ rfl (by omega) ((reads3 b6 rfl).more b6.lt) ?_ ?_).mono ?_
          · intro p hp
            simp only [List.mem_cons, List.not_mem_nil, or_false] at hp
            rcases hp with rfl | rfl | rfl
            · exact (S1.below hb).more hb.size
            · exact sl_one b3
            · exact (S3.below hb).more hb.size
          · have h8 := HL.out
            have h9 := HV.out
            simp only [List.flatMap_cons, List.flatMap_nil, List.append_nil, List.length_append, List.length_cons, List.length_nil] at h8 h9 ⊢
            omega
          rintro e w4x ⟨⟨u, rfl, r7⟩, hb1⟩
          replace r7 := r7.mono (lo' := w.heap.size) hb.size
          replace bx := bx.below hb1 bx.lt
          replace by_ := by_.below hb1 by_.lt
          replace br := br.below hb1 br.lt
          replace b12 := b12.below hb1 b12.lt
          replace b3 := b3.below hb1 b3.lt
          replace b6 := b6.below hb1 b6.lt
          replace hb := hb.trans (hb1.mono hb.size)
          clear hb1
          simp only [List.flatMap_cons, List.flatMap_nil, List.append_nil] at r7
          rw [← HY1.out] at r7
          obtain ⟨Cr7, kr7, rfl⟩ := r7.val
          try go_wp2_with fail
          refine hK.out _ _ (by exact ⟨bx.cell 1, bx.cell 2, bx.cell 3, by_.cell 1, by_.cell 2⟩) (fun hHeld => ?_)
          clear hK K
          try simp only [Act.put, List.setIfInBounds_toArray, List.set_cons_zero, List.set_cons_succ]
          refine wpAnyZ_ready (rs := [13]) (by kernel_rfl) (by simp) ?_
          refine AllReadyZ.cons (opAt rfl) (fun K hK => ?_) ?_
          · skip
            go_simp
            refine (concat_any [(.slice A' m c', vs), (.slice E' m' f', vs')] (some ⟨g12, 0, none⟩) 2 2 _ rfl (by omega) ((reads3 b12 rfl).more b12.lt) ?_ ?_).mono ?_
            · intro p hp
              simp only [List.mem_cons, List.not_mem_nil, or_false] at hp
              rcases hp with rfl | rfl
              · exact (S2.below hb).more hb.size
              · exact (S4.below hb).more hb.size
            · have h8 := HL.out
              have h9 := HV.out
              simp only [List.flatMap_cons, List.flatMap_nil, List.append_nil, List.length_append, List.length_cons, List.length_nil] at h8 h9 ⊢
              omega
            rintro e w5x ⟨⟨u, rfl, r13⟩, hb1⟩
            replace r13 := r13.mono (lo' := w.heap.size) hb.size
            replace bx := bx.below hb1 bx.lt
            replace by_ := by_.below hb1 by_.lt
            replace br := br.below hb1 br.lt
            replace b12 := b12.below hb1 b12.lt
            replace b3 := b3.below hb1 b3.lt
            replace b6 := b6.below hb1 b6.lt
            replace r7 := r7.below hb1
            replace hb := hb.trans (hb1.mono hb.size)
            clear hb1
            simp only [List.flatMap_cons, List.flatMap_nil, List.append_nil] at r13
            rw [← HY2.out] at r13
            obtain ⟨Cr13, kr13, rfl⟩ := r13.val
            try go_wp2_with fail
            refine hK.out _ _ (by exact ⟨bx.cell 1, bx.cell 2, bx.cell 3, by_.cell 1, by_.cell 2⟩) (fun hHeld => ?_)
            clear hK K
            try simp only [Act.put, List.setIfInBounds_toArray, List.set_cons_zero, List.set_cons_succ]
            refine wpAnyZ_ready (rs := [16]) (by kernel_rfl) (by simp) ?_
            refine AllReadyZ.cons (opAt rfl) (fun K hK => ?_) ?_
            · skip
              go_simp
              refine (node_yes _ _ _ _ l _ HLy.out r7.sl r13.sl HR.out).mono ?_
              rintro e w6x ⟨rfl, hb1⟩
              replace bx := bx.below hb1 bx.lt
              replace by_ := by_.below hb1 by_.lt
              replace br := br.below hb1 br.lt
              replace b12 := b12.below hb1 b12.lt
              replace b3 := b3.below hb1 b3.lt
              replace b6 := b6.below hb1 b6.lt
              replace r7 := r7.below hb1
              replace r13 := r13.below hb1
              replace hb := hb.trans (hb1.mono hb.size)
              clear hb1
              try go_wp2_with fail
              refine hK.out _ _ (by exact ⟨bx.cell 1, bx.cell 2, bx.cell 3, by_.cell 1, by_.cell 2⟩) (fun hHeld => ?_)
              clear hK K
              try simp only [Act.put, List.setIfInBounds_toArray, List.set_cons_zero, List.set_cons_succ]
              refine wpAnyZ_ready (rs := [17]) (by kernel_rfl) (by simp) ?_
              refine AllReadyZ.cons (opAt rfl) (fun K hK => ?_) ?_
              · skip
                have zo := fun i => br.frozen i
                have mo := fun i => br.cell i
                go_simp
                replace bx := bx.offN HXR.out (.bool true) (.slice Cr7 y1.length kr7) (.slice Cr13 y2.length kr13) (.int .u64 l)
                replace by_ := by_.offN HYR.out (.bool true) (.slice Cr7 y1.length kr7) (.slice Cr13 y2.length kr13) (.int .u64 l)
                replace r7 := own_setN_blk r7 br (by decide) (.bool true) (.slice Cr7 y1.length kr7) (.slice Cr13 y2.length kr13) (.int .u64 l)
                replace r13 := own_setN_blk r13 br (by decide) (.bool true) (.slice Cr7 y1.length kr7) (.slice Cr13 y2.length kr13) (.int .u64 l)
                replace br := br.setN (.bool true) (.slice Cr7 y1.length kr7) (.slice Cr13 y2.length kr13) (.int .u64 l)
                replace hb := below_setN hb (g := gr) HGR.out (.bool true) (.slice Cr7 y1.length kr7) (.slice Cr13 y2.length kr13) (.int .u64 l)
                clear zo mo
                generalize ((((w6x).setCell ⟨gr, 0, none⟩ (.bool true)).setCell ⟨gr, 1, none⟩ (.slice Cr7 y1.length kr7)).setCell ⟨gr, 2, none⟩ (.slice Cr13 y2.length kr13)).setCell ⟨gr, 3, none⟩ (.int .u64 l) = w7x at *
                refine hK.out _ _ (by exact ⟨bx.cell 1, bx.cell 2, bx.cell 3, by_.cell 1, by_.cell 2⟩) (fun hHeld => ?_)
                clear hK K
                try simp only [Act.put, List.setIfInBounds_toArray, List.set_cons_zero, List.set_cons_succ]
                refine wpAnyZ_done (by kernel_rfl) ?_ _
                go_wp2_with fail
                have ck := fun i => br.cell i
                refine bodyPost_ret (v := .agg #[(.bool true), (.slice Cr7 y1.length kr7), (.slice Cr13 y2.length kr13), (.int .u64 l)]) (by simp [results, Try.results35, go_sem, ck]) rfl ⟨⟨_, rfl, by have e1 := HY1.out; have e2 := HY2.out; simp only [List.cons_append, List.nil_append] at e1; rw [← e1, ← e2]; exact ⟨_, _, rfl, r7, r13⟩⟩, hb⟩
              exact AllReadyZ.nil
            exact AllReadyZ.nil
          exact AllReadyZ.nil
        exact AllReadyZ.nil
      exact AllReadyZ.nil
    exact AllReadyZ.nil
  exact AllReadyZ.nil
set_option maxRecDepth 100000 in
set_option maxHeartbeats 4000000 in
theorem both_no (v v' : Value) (b b' : Bool) (ks vs ks' vs' : List Int) (l l' key : Int) (w : World) (hl : ks.length ≤ 1000) (hl' : ks'.length ≤ 1000) (h : Nd w w.heap.size v b ks vs l) (h' : Nd w w.heap.size v' b' ks' vs' l') (h1 : rightI b ks vs = true) (h2 : rightI b' ks' vs' = true) (h3 : rightI true (ks ++ key :: ks') (vs ++ vs') = false) :
    Calls Try.prog 35 #[v, .int .u64 key, v'] w fun e w' => e = .panicked wrongP ∧ Below w.heap.size w w' := by
  have R1 := hide (fun w2 (hB : Below w.heap.size w w2) => iright_any v b ks vs l w2 (by omega) ((h.below hB).more hB.size))
  have R2 := hide (fun w2 (hB : Below w.heap.size w w2) => iright_any v' b' ks' vs' l' w2 (by omega) ((h'.below hB).more hB.size))
  rw [h1] at R1
  rw [h2] at R2
  have hlv := (rightI_parts h1).2.1
  have hlv' := (rightI_parts h2).2.1
  have HL := hide (show (ks ++ ([key] ++ ks')).length ≤ 1000000 by simp; omega)
  have HV := hide (show (vs ++ vs').length ≤ 1000000 by simp; omega)
  obtain ⟨y1, hy1⟩ : ∃ y, y = ks ++ ([key] ++ ks') := ⟨_, rfl⟩
  rw [show ks ++ key :: ks' = ks ++ ([key] ++ ks') from rfl] at h3
  obtain ⟨y2, hy2⟩ : ∃ y, y = vs ++ vs' := ⟨_, rfl⟩
  rw [← hy1, ← hy2] at h3
  have HLy := hide (show y1.length ≤ 1000000 by rw [hy1]; exact HL.out)
  have HY1 := hide hy1
  have HY2 := hide hy2
  clear hy1 hy2
  have HR := hide h3
  clear h1 h2 h3 hlv hlv' hl hl'
  obtain ⟨k1, u1, rfl, S1, S2⟩ := h
  obtain ⟨k2, u2, rfl, S3, S4⟩ := h'
  have T1 := S1
  have T2 := S2
  have T3 := S3
  have T4 := S4
  obtain ⟨A, c, rfl, _⟩ := T1
  obtain ⟨A', c', rfl, _⟩ := T2
  obtain ⟨E, f, rfl, _⟩ := T3
  obtain ⟨E', f', rfl, _⟩ := T4
  generalize hn : ks.length = n at *
  generalize hm : vs.length = m at *
  generalize hn' : ks'.length = n' at *
  generalize hm' : vs'.length = m' at *
  have bx := ((Blk.new w 27 #[.bool b, .slice A n c, .slice A' m c', .int .u64 l]).alloc (.cells #[.bool b', .slice E n' f, .slice E' m' f', .int .u64 l'] 27)).alloc (.cells #[.bool false, .slice none 0 0, .slice none 0 0, .int .u64 0] 27)
  have by_ := (Blk.new (w.alloc (.cells #[.bool b, .slice A n c, .slice A' m c', .int .u64 l] 27)) 27 #[.bool b', .slice E n' f, .slice E' m' f', .int .u64 l']).alloc (.cells #[.bool false, .slice none 0 0, .slice none 0 0, .int .u64 0] 27)
  have br := Blk.new ((w.alloc (.cells #[.bool b, .slice A n c, .slice A' m c', .int .u64 l] 27)).alloc (.cells #[.bool b', .slice E n' f, .slice E' m' f', .int .u64 l'] 27)) 27 #[.bool false, .slice none 0 0, .slice none 0 0, .int .u64 0]
  have hb := (((Below.refl w.heap.size w).alloc (Nat.le_refl _) (.cells #[.bool b, .slice A n c, .slice A' m c', .int .u64 l] 27)).alloc (by simp only [World.size_alloc]; omega) (.cells #[.bool b', .slice E n' f, .slice E' m' f', .int .u64 l'] 27)).alloc (by simp only [World.size_alloc]; omega) (.cells #[.bool false, .slice none 0 0, .slice none 0 0, .int .u64 0] 27)
  simp only [World.size_alloc] at by_ br
  replace hn := hide hn
  replace hm := hide hm
  replace hn' := hide hn'
  replace hm' := hide hm'
  go_enter Try.func35, Try.ntmps35
  go_wp2_with fail
  generalize ((w.alloc (.cells #[.bool b, .slice A n c, .slice A' m c', .int .u64 l] 27)).alloc (.cells #[.bool b', .slice E n' f, .slice E' m' f', .int .u64 l'] 27)).alloc (.cells #[.bool false, .slice none 0 0, .slice none 0 0, .int .u64 0] 27) = wa at *
  obtain ⟨gx, ex⟩ : ∃ g, g = w.heap.size := ⟨_, rfl⟩
  obtain ⟨gy, ey⟩ : ∃ g, g = w.heap.size + 1 := ⟨_, rfl⟩
  obtain ⟨gr, er⟩ : ∃ g, g = w.heap.size + 1 + 1 := ⟨_, rfl⟩
  have HXR := hide (show gx ≠ gr by omega)
  have HYR := hide (show gy ≠ gr by omega)
  have HGR := hide (show w.heap.size ≤ gr by omega)
  rw [← er] at br ⊢
  rw [← ey] at by_ ⊢
  rw [← ex] at bx
  rw [← ex]
  clear ex ey er
  refine (R1.out _ hb).mono ?_
  rintro e wb ⟨rfl, hb1⟩
  replace bx := bx.below hb1 bx.lt
  replace by_ := by_.below hb1 by_.lt
  replace br := br.below hb1 br.lt
  replace hb := hb.trans (hb1.mono hb.size)
  clear hb1
  have my := fun i => by_.cell i
  go_wp2_with fail
  refine (R2.out _ hb).mono ?_
  rintro e wc ⟨rfl, hb1⟩
  replace bx := bx.below hb1 bx.lt
  replace by_ := by_.below hb1 by_.lt
  replace br := br.below hb1 br.lt
  replace hb := hb.trans (hb1.mono hb.size)
  clear hb1 my
  go_wp2_with fail
  refine (must_yes _).mono ?_
  rintro e wd ⟨rfl, rfl⟩
  go_wp2_with fail
  refine wp_region_heldZ [] (fun w' => w'.cell? ⟨gx, 1, none⟩ = some (.slice A n c) ∧ w'.cell? ⟨gx, 2, none⟩ = some (.slice A' m c') ∧ w'.cell? ⟨gx, 3, none⟩ = some (.int .u64 l) ∧ w'.cell? ⟨gy, 1, none⟩ = some (.slice E n' f) ∧ w'.cell? ⟨gy, 2, none⟩ = some (.slice E' m' f')) (by kernel_rfl) (by exact ⟨bx.cell 1, bx.cell 2, bx.cell 3, by_.cell 1, by_.cell 2⟩) (fun hHeld => ?_)
  replace bx := bx.drew
  replace by_ := by_.drew
  replace br := br.drew
  replace hb := hb.drew
  generalize wd.drew = w0x at *
  refine' wpAnyZ_takeA (i := 0) (v := ?_) (opAt rfl) (by kernel_rfl) (by kernel_rfl) (by kernel_rfl) (by kernel_rfl) (fun _ _ _ h => h) (by assumption) (by rfl) (fun w hSw => ?_) ?_
  rotate_left
  · (try dsimp only at hSw); go_simp; (try with_reducible rfl)
  try simp only [Act.put, List.setIfInBounds_toArray, List.set_cons_zero, List.set_cons_succ]
  refine' wpAnyZ_takeA (i := 1) (v := ?_) (opAt rfl) (by kernel_rfl) (by kernel_rfl) (by kernel_rfl) (by kernel_rfl) (fun _ _ _ h => h) (by assumption) (by rfl) (fun w hSw => ?_) ?_
  rotate_left
  · (try dsimp only at hSw); go_simp; (try with_reducible rfl)
  try simp only [Act.put, List.setIfInBounds_toArray, List.set_cons_zero, List.set_cons_succ]
  refine' wpAnyZ_takeA (i := 2) (v := ?_) (opAt rfl) (by kernel_rfl) (by kernel_rfl) (by kernel_rfl) (by kernel_rfl) (fun _ _ _ h => h) (by assumption) (by rfl) (fun w hSw => ?_) ?_
  rotate_left
  · (try dsimp only at hSw); go_simp; (try with_reducible rfl)
  try simp only [Act.put, List.setIfInBounds_toArray, List.set_cons_zero, List.set_cons_succ]
  refine' wpAnyZ_takeA (i := 4) (v := ?_) (opAt rfl) (by kernel_rfl) (by kernel_rfl) (by kernel_rfl) (by kernel_rfl) (fun _ _ _ h => h) (by assumption) (by rfl) (fun w hSw => ?_) ?_
  rotate_left
  · (try dsimp only at hSw); go_simp; (try with_reducible rfl)
  try simp only [Act.put, List.setIfInBounds_toArray, List.set_cons_zero, List.set_cons_succ]
  refine' wpAnyZ_takeA (i := 5) (v := ?_) (opAt rfl) (by kernel_rfl) (by kernel_rfl) (by kernel_rfl) (by kernel_rfl) (fun _ _ _ h => h) (by assumption) (by rfl) (fun w hSw => ?_) ?_
  rotate_left
  · (try dsimp only at hSw); go_simp; (try with_reducible rfl)
  try simp only [Act.put, List.setIfInBounds_toArray, List.set_cons_zero, List.set_cons_succ]
  refine' wpAnyZ_takeA (i := 8) (v := ?_) (opAt rfl) (by kernel_rfl) (by kernel_rfl) (by kernel_rfl) (by kernel_rfl) (fun _ _ _ h => h) (by assumption) (by rfl) (fun w hSw => ?_) ?_
  rotate_left
  · (try dsimp only at hSw); go_simp; (try with_reducible rfl)
  try simp only [Act.put, List.setIfInBounds_toArray, List.set_cons_zero, List.set_cons_succ]
  refine' wpAnyZ_takeA (i := 9) (v := ?_) (opAt rfl) (by kernel_rfl) (by kernel_rfl) (by kernel_rfl) (by kernel_rfl) (fun _ _ _ h => h) (by assumption) (by rfl) (fun w hSw => ?_) ?_
  rotate_left
  · (try dsimp only at hSw); go_simp; (try with_reducible rfl)
  try simp only [Act.put, List.setIfInBounds_toArray, List.set_cons_zero, List.set_cons_succ]
  refine' wpAnyZ_takeA (i := 10) (v := ?_) (opAt rfl) (by kernel_rfl) (by kernel_rfl) (by kernel_rfl) (by kernel_rfl) (fun _ _ _ h => h) (by assumption) (by rfl) (fun w hSw => ?_) ?_
  rotate_left
  · (try dsimp only at hSw); go_simp; (try with_reducible rfl)
  try simp only [Act.put, List.setIfInBounds_toArray, List.set_cons_zero, List.set_cons_succ]
  refine' wpAnyZ_takeA (i := 11) (v := ?_) (opAt rfl) (by kernel_rfl) (by kernel_rfl) (by kernel_rfl) (by kernel_rfl) (fun _ _ _ h => h) (by assumption) (by rfl) (fun w hSw => ?_) ?_
  rotate_left
  · (try dsimp only at hSw); go_simp; (try with_reducible rfl)
  try simp only [Act.put, List.setIfInBounds_toArray, List.set_cons_zero, List.set_cons_succ]
  refine' wpAnyZ_takeA (i := 14) (v := ?_) (opAt rfl) (by kernel_rfl) (by kernel_rfl) (by kernel_rfl) (by kernel_rfl) (fun _ _ _ h => h) (by assumption) (by rfl) (fun w hSw => ?_) ?_
  rotate_left
  · (try dsimp only at hSw); go_simp; (try with_reducible rfl)
  try simp only [Act.put, List.setIfInBounds_toArray, List.set_cons_zero, List.set_cons_succ]
  refine' wpAnyZ_takeA (i := 15) (v := ?_) (opAt rfl) (by kernel_rfl) (by kernel_rfl) (by kernel_rfl) (by kernel_rfl) (fun _ _ _ h => h) (by assumption) (by rfl) (fun w hSw => ?_) ?_
  rotate_left
  · (try dsimp only at hSw); go_simp; (try with_reducible rfl)
  try simp only [Act.put, List.setIfInBounds_toArray, List.set_cons_zero, List.set_cons_succ]
  refine wpAnyZ_ready (rs := [3, 12]) (by kernel_rfl) (by simp) ?_
  refine AllReadyZ.cons (opAt rfl) (fun K hK => ?_) ?_
  · skip
    go_simp
    replace bx := bx.alloc (.cells #[.int .u64 key] 22)
    replace by_ := by_.alloc (.cells #[.int .u64 key] 22)
    replace br := br.alloc (.cells #[.int .u64 key] 22)
    replace hb := hb.alloc hb.size (.cells #[.int .u64 key] 22)
    have b3 := Blk.new w0x 22 #[.int .u64 key]
    generalize w0x.alloc (.cells #[.int .u64 key] 22) = w1x at *
    generalize w0x.heap.size = g3 at *
    refine hK.out _ _ (by exact ⟨bx.cell 1, bx.cell 2, bx.cell 3, by_.cell 1, by_.cell 2⟩) (fun hHeld => ?_)
    clear hK K
    try simp only [Act.put, List.setIfInBounds_toArray, List.set_cons_zero, List.set_cons_succ]
    refine wpAnyZ_ready (rs := [6, 12]) (by kernel_rfl) (by simp) ?_
    refine AllReadyZ.cons (opAt rfl) (fun K hK => ?_) ?_
    · skip
      go_simp
      replace bx := bx.alloc (.cells #[.slice A n c, .slice (some ⟨g3, 0, none⟩) 1 1, .slice E n' f] 25)
      replace by_ := by_.alloc (.cells #[.slice A n c, .slice (some ⟨g3, 0, none⟩) 1 1, .slice E n' f] 25)
      replace br := br.alloc (.cells #[.slice A n c, .slice (some ⟨g3, 0, none⟩) 1 1, .slice E n' f] 25)
      replace b3 := b3.alloc (.cells #[.slice A n c, .slice (some ⟨g3, 0, none⟩) 1 1, .slice E n' f] 25)
      replace hb := hb.alloc hb.size (.cells #[.slice A n c, .slice (some ⟨g3, 0, none⟩) 1 1, .slice E n' f] 25)
      have b6 := Blk.new w1x 25 #[.slice A n c, .slice (some ⟨g3, 0, none⟩) 1 1, .slice E n' f]
      generalize w1x.alloc (.cells #[.slice A n c, .slice (some ⟨g3, 0, none⟩) 1 1, .slice E n' f] 25) = w2x at *
      generalize w1x.heap.size = g6 at *
      refine hK.out _ _ (by exact ⟨bx.cell 1, bx.cell 2, bx.cell 3, by_.cell 1, by_.cell 2⟩) (fun hHeld => ?_)
      clear hK K
      try simp only [Act.put, List.setIfInBounds_toArray, List.set_cons_zero, List.set_cons_succ]
      refine wpAnyZ_ready (rs := [7, 12]) (by kernel_rfl) (by simp) ?_
      refine AllReadyZ.cons (opAt rfl) (fun K hK => ?_) ?_
      · skip
        go_simp
        refine (concat_any [(.slice A n c, ks), (.slice (some ⟨g3, 0, none⟩) 1 1, [key]), (.slice E n' f, ks')] (some ⟨g6, 0, none⟩) 3 3 _ rfl (by omega) ((reads3 b6 rfl).more b6.lt) ?_ ?_).mono ?_
        · intro p hp
          simp only [List.mem_cons, List.not_mem_nil, or_false] at hp
          rcases hp with rfl | rfl | rfl
          · exact (S1.below hb).more hb.size
          · exact sl_one b3
          · exact (S3.below hb).more hb.size
        · have h8 := HL.out
          have h9 := HV.out
          simp only [List.flatMap_cons, List.flatMap_nil, List.append_nil, List.length_append, List.length_cons, List.length_nil] at h8 h9 ⊢
          omega
        rintro e w3x ⟨⟨u, rfl, r7⟩, hb1⟩
        replace r7 := r7.mono (lo' := w.heap.size) hb.size
        replace bx := bx.below hb1 bx.lt
        replace by_ := by_.below hb1 by_.lt
        replace br := br.below hb1 br.lt
        replace b3 := b3.below hb1 b3.lt
        replace b6 := b6.below hb1 b6.lt
        replace hb := hb.trans (hb1.mono hb.size)
        clear hb1
        simp only [List.flatMap_cons, List.flatMap_nil, List.append_nil] at r7
        rw [← HY1.out] at r7
        obtain ⟨Cr7, kr7, rfl⟩ := r7.val
        try go_wp2_with fail
        refine hK.out _ _ (by exact ⟨bx.cell 1, bx.cell 2, bx.cell 3, by_.cell 1, by_.cell 2⟩) (fun hHeld => ?_)
        clear hK K
        try simp only [Act.put, List.setIfInBounds_toArray, List.set_cons_zero, List.set_cons_succ]
        refine wpAnyZ_ready (rs := [12]) (by kernel_rfl) (by simp) ?_
        refine AllReadyZ.cons (opAt rfl) (fun K hK => ?_) ?_
        · skip
          go_simp
          replace bx := bx.alloc (.cells #[.slice A' m c', .slice E' m' f'] 25)
          replace by_ := by_.alloc (.cells #[.slice A' m c', .slice E' m' f'] 25)
          replace br := br.alloc (.cells #[.slice A' m c', .slice E' m' f'] 25)
          replace b3 := b3.alloc (.cells #[.slice A' m c', .slice E' m' f'] 25)
          replace b6 := b6.alloc (.cells #[.slice A' m c', .slice E' m' f'] 25)
          replace r7 := r7.alloc (.cells #[.slice A' m c', .slice E' m' f'] 25)
          replace hb := hb.alloc hb.size (.cells #[.slice A' m c', .slice E' m' f'] 25)
          have b12 := Blk.new w3x 25 #[.slice A' m c', .slice E' m' f']
          generalize w3x.alloc (.cells #[.slice A' m c', .slice E' m' f'] 25) = w4x at *
          generalize w3x.heap.size = g12 at *
          refine hK.out _ _ (by exact ⟨bx.cell 1, bx.cell 2, bx.cell 3, by_.cell 1, by_.cell 2⟩) (fun hHeld => ?_)
          clear hK K
          try simp only [Act.put, List.setIfInBounds_toArray, List.set_cons_zero, List.set_cons_succ]
          refine wpAnyZ_ready (rs := [13]) (by kernel_rfl) (by simp) ?_
          refine AllReadyZ.cons (opAt rfl) (fun K hK => ?_) ?_
          · skip
            go_simp
            refine (concat_any [(.slice A' m c', vs), (.slice E' m' f', vs')] (some ⟨g12, 0, none⟩) 2 2 _ rfl (by omega) ((reads3 b12 rfl).more b12.lt) ?_ ?_).mono ?_
            · intro p hp
              simp only [List.mem_cons, List.not_mem_nil, or_false] at hp
              rcases hp with rfl | rfl
              · exact (S2.below hb).more hb.size
              · exact (S4.below hb).more hb.size
            · have h8 := HL.out
              have h9 := HV.out
              simp only [List.flatMap_cons, List.flatMap_nil, List.append_nil, List.length_append, List.length_cons, List.length_nil] at h8 h9 ⊢
              omega
            rintro e w5x ⟨⟨u, rfl, r13⟩, hb1⟩
            replace r13 := r13.mono (lo' := w.heap.size) hb.size
            replace bx := bx.below hb1 bx.lt
            replace by_ := by_.below hb1 by_.lt
            replace br := br.below hb1 br.lt
            replace b3 := b3.below hb1 b3.lt
            replace b6 := b6.below hb1 b6.lt
            replace b12 := b12.below hb1 b12.lt
            replace r7 := r7.below hb1
            replace hb := hb.trans (hb1.mono hb.size)
            clear hb1
            simp only [List.flatMap_cons, List.flatMap_nil, List.append_nil] at r13
            rw [← HY2.out] at r13
            obtain ⟨Cr13, kr13, rfl⟩ := r13.val
            try go_wp2_with fail
            refine hK.out _ _ (by exact ⟨bx.cell 1, bx.cell 2, bx.cell 3, by_.cell 1, by_.cell 2⟩) (fun hHeld => ?_)
            clear hK K
            try simp only [Act.put, List.setIfInBounds_toArray, List.set_cons_zero, List.set_cons_succ]
            refine wpAnyZ_ready (rs := [16]) (by kernel_rfl) (by simp) ?_
            refine AllReadyZ.cons (opAt rfl) (fun K hK => ?_) ?_
            · skip
              go_simp
              refine (node_no _ _ _ _ l _ HLy.out r7.sl r13.sl HR.out).mono ?_
              rintro e w6x ⟨rfl, hb1⟩
              replace hb := hb.trans (hb1.mono hb.size)
              go_wp2_with fail
              exact ⟨rfl, rfl, hb⟩
            exact AllReadyZ.nil
          exact AllReadyZ.nil
        exact AllReadyZ.nil
      refine AllReadyZ.cons (opAt rfl) (fun K hK => ?_) ?_
      · skip
        go_simp
        replace bx := bx.alloc (.cells #[.slice A' m c', .slice E' m' f'] 25)
        replace by_ := by_.alloc (.cells #[.slice A' m c', .slice E' m' f'] 25)
        replace br := br.alloc (.cells #[.slice A' m c', .slice E' m' f'] 25)
        replace b3 := b3.alloc (.cells #[.slice A' m c', .slice E' m' f'] 25)
        replace b6 := b6.alloc (.cells #[.slice A' m c', .slice E' m' f'] 25)
        replace hb := hb.alloc hb.size (.cells #[.slice A' m c', .slice E' m' f'] 25)
        have b12 := Blk.new w2x 25 #[.slice A' m c', .slice E' m' f']
        generalize w2x.alloc (.cells #[.slice A' m c', .slice E' m' f'] 25) = w3x at *
        generalize w2x.heap.size = g12 at *
        refine hK.out _ _ (by exact ⟨bx.cell 1, bx.cell 2, bx.cell 3, by_.cell 1, by_.cell 2⟩) (fun hHeld => ?_)
        clear hK K
        try simp only [Act.put, List.setIfInBounds_toArray, List.set_cons_zero, List.set_cons_succ]
        refine wpAnyZ_ready (rs := [7]) (by kernel_rfl) (by simp) ?_
        refine AllReadyZ.cons (opAt rfl) (fun K hK => ?_) ?_
        · skip
          go_simp
          refine (concat_any [(.slice A n c, ks), (.slice (some ⟨g3, 0, none⟩) 1 1, [key]), (.slice E n' f, ks')] (some ⟨g6, 0, none⟩) 3 3 _ rfl (by omega) ((reads3 b6 rfl).more b6.lt) ?_ ?_).mono ?_
          · intro p hp
            simp only [List.mem_cons, List.not_mem_nil, or_false] at hp
            rcases hp with rfl | rfl | rfl
            · exact (S1.below hb).more hb.size
            · exact sl_one b3
            · exact (S3.below hb).more hb.size
          · have h8 := HL.out
            have h9 := HV.out
            simp only [List.flatMap_cons, List.flatMap_nil, List.append_nil, List.length_append, List.length_cons, List.length_nil] at h8 h9 ⊢
            omega
          rintro e w4x ⟨⟨u, rfl, r7⟩, hb1⟩
          replace r7 := r7.mono (lo' := w.heap.size) hb.size
          replace bx := bx.below hb1 bx.lt
          replace by_ := by_.below hb1 by_.lt
          replace br := br.below hb1 br.lt
          replace b3 := b3.below hb1 b3.lt
          replace b6 := b6.below hb1 b6.lt
          replace b12 := b12.below hb1 b12.lt
          replace hb := hb.trans (hb1.mono hb.size)
          clear hb1
          simp only [List.flatMap_cons, List.flatMap_nil, List.append_nil] at r7
          rw [← HY1.out] at r7
          obtain ⟨Cr7, kr7, rfl⟩ := r7.val
          try go_wp2_with fail
          refine hK.out _ _ (by exact ⟨bx.cell 1, bx.cell 2, bx.cell 3, by_.cell 1, by_.cell 2⟩) (fun hHeld => ?_)
          clear hK K
          try simp only [Act.put, List.setIfInBounds_toArray, List.set_cons_zero, List.set_cons_succ]
          refine wpAnyZ_ready (rs := [13]) (by kernel_rfl) (by simp) ?_
          refine AllReadyZ.cons (opAt rfl) (fun K hK => ?_) ?_
          · skip
            go_simp
            refine (concat_any [(.slice A' m c', vs), (.slice E' m' f', vs')] (some ⟨g12, 0, none⟩) 2 2 _ rfl (by omega) ((reads3 b12 rfl).more b12.lt) ?_ ?_).mono ?_
            · intro p hp
              simp only [List.mem_cons, List.not_mem_nil, or_false] at hp
              rcases hp with rfl | rfl
              · exact (S2.below hb).more hb.size
              · exact (S4.below hb).more hb.size
            · have h8 := HL.out
              have h9 := HV.out
              simp only [List.flatMap_cons, List.flatMap_nil, List.append_nil, List.length_append, List.length_cons, List.length_nil] at h8 h9 ⊢
              omega
            rintro e w5x ⟨⟨u, rfl, r13⟩, hb1⟩
            replace r13 := r13.mono (lo' := w.heap.size) hb.size
            replace bx := bx.below hb1 bx.lt
            replace by_ := by_.below hb1 by_.lt
            replace br := br.below hb1 br.lt
            replace b3 := b3.below hb1 b3.lt
            replace b6 := b6.below hb1 b6.lt
            replace b12 := b12.below hb1 b12.lt
            replace r7 := r7.below hb1
            replace hb := hb.trans (hb1.mono hb.size)
            clear hb1
            simp only [List.flatMap_cons, List.flatMap_nil, List.append_nil] at r13
            rw [← HY2.out] at r13
            obtain ⟨Cr13, kr13, rfl⟩ := r13.val
            try go_wp2_with fail
            refine hK.out _ _ (by exact ⟨bx.cell 1, bx.cell 2, bx.cell 3, by_.cell 1, by_.cell 2⟩) (fun hHeld => ?_)
            clear hK K
            try simp only [Act.put, List.setIfInBounds_toArray, List.set_cons_zero, List.set_cons_succ]
            refine wpAnyZ_ready (rs := [16]) (by kernel_rfl) (by simp) ?_
            refine AllReadyZ.cons (opAt rfl) (fun K hK => ?_) ?_
            · skip
              go_simp
              refine (node_no _ _ _ _ l _ HLy.out r7.sl r13.sl HR.out).mono ?_
              rintro e w6x ⟨rfl, hb1⟩
              replace hb := hb.trans (hb1.mono hb.size)
              go_wp2_with fail
              exact ⟨rfl, rfl, hb⟩
            exact AllReadyZ.nil
          exact AllReadyZ.nil
        exact AllReadyZ.nil
      exact AllReadyZ.nil
    refine AllReadyZ.cons (opAt rfl) (fun K hK => ?_) ?_
    · skip
      go_simp
      replace bx := bx.alloc (.cells #[.slice A' m c', .slice E' m' f'] 25)
      replace by_ := by_.alloc (.cells #[.slice A' m c', .slice E' m' f'] 25)
      replace br := br.alloc (.cells #[.slice A' m c', .slice E' m' f'] 25)
      replace b3 := b3.alloc (.cells #[.slice A' m c', .slice E' m' f'] 25)
      replace hb := hb.alloc hb.size (.cells #[.slice A' m c', .slice E' m' f'] 25)
      have b12 := Blk.new w1x 25 #[.slice A' m c', .slice E' m' f']
      generalize w1x.alloc (.cells #[.slice A' m c', .slice E' m' f'] 25) = w2x at *
      generalize w1x.heap.size = g12 at *
      refine hK.out _ _ (by exact ⟨bx.cell 1, bx.cell 2, bx.cell 3, by_.cell 1, by_.cell 2⟩) (fun hHeld => ?_)
      clear hK K
      try simp only [Act.put, List.setIfInBounds_toArray, List.set_cons_zero, List.set_cons_succ]
      refine wpAnyZ_ready (rs := [6]) (by kernel_rfl) (by simp) ?_
      refine AllReadyZ.cons (opAt rfl) (fun K hK => ?_) ?_
      · skip
        go_simp
        replace bx := bx.alloc (.cells #[.slice A n c, .slice (some ⟨g3, 0, none⟩) 1 1, .slice E n' f] 25)
        replace by_ := by_.alloc (.cells #[.slice A n c, .slice (some ⟨g3, 0, none⟩) 1 1, .slice E n' f] 25)
        replace br := br.alloc (.cells #[.slice A n c, .slice (some ⟨g3, 0, none⟩) 1 1, .slice E n' f] 25)
        replace b3 := b3.alloc (.cells #[.slice A n c, .slice (some ⟨g3, 0, none⟩) 1 1, .slice E n' f] 25)
        replace b12 := b12.alloc (.cells #[.slice A n c, .slice (some ⟨g3, 0, none⟩) 1 1, .slice E n' f] 25)
        replace hb := hb.alloc hb.size (.cells #[.slice A n c, .slice (some ⟨g3, 0, none⟩) 1 1, .slice E n' f] 25)
        have b6 := Blk.new w2x 25 #[.slice A n c, .slice (some ⟨g3, 0, none⟩) 1 1, .slice E n' f]
        generalize w2x.alloc (.cells #[.slice A n c, .slice (some ⟨g3, 0, none⟩) 1 1, .slice E n' f] 25) = w3x at *
        generalize w2x.heap.size = g6 at *
        refine hK.out _ _ (by exact ⟨bx.cell 1, bx.cell 2, bx.cell 3, by_.cell 1, by_.cell 2⟩) (fun hHeld => ?_)
        clear hK K
        try simp only [Act.put, List.setIfInBounds_toArray, List.set_cons_zero, List.set_cons_succ]
        refine wpAnyZ_ready (rs := [7]) (by kernel_rfl) (by simp) ?_
        refine AllReadyZ.cons (opAt rfl) (fun K hK => ?_) ?_
        · skip
          go_simp
          refine (concat_any [(.slice A n c, ks), (.slice (some ⟨g3, 0, none⟩) 1 1, [key]), (.slice E n' f, ks')] (some ⟨g6, 0, none⟩) 3 3 _ rfl (by omega) ((reads3 b6 rfl).more b6.lt) ?_ ?_).mono ?_
          · intro p hp
            simp only [List.mem_cons, List.not_mem_nil, or_false] at hp
            rcases hp with rfl | rfl | rfl
            · exact (S1.below hb).more hb.size
            · exact sl_one b3
            · exact (S3.below hb).more hb.size
          · have h8 := HL.out
            have h9 := HV.out
            simp only [List.flatMap_cons, List.flatMap_nil, List.append_nil, List.length_append, List.length_cons, List.length_nil] at h8 h9 ⊢
            omega
          rintro e w4x ⟨⟨u, rfl, r7⟩, hb1⟩
          replace r7 := r7.mono (lo' := w.heap.size) hb.size
          replace bx := bx.below hb1 bx.lt
          replace by_ := by_.below hb1 by_.lt
          replace br := br.below hb1 br.lt
          replace b3 := b3.below hb1 b3.lt
          replace b12 := b12.below hb1 b12.lt
          replace b6 := b6.below hb1 b6.lt
          replace hb := hb.trans (hb1.mono hb.size)
          clear hb1
          simp only [List.flatMap_cons, List.flatMap_nil, List.append_nil] at r7
          rw [← HY1.out] at r7
          obtain ⟨Cr7, kr7, rfl⟩ := r7.val
          try go_wp2_with fail
          refine hK.out _ _ (by exact ⟨bx.cell 1, bx.cell 2, bx.cell 3, by_.cell 1, by_.cell 2⟩) (fun hHeld => ?_)
          clear hK K
          try simp only [Act.put, List.setIfInBounds_toArray, List.set_cons_zero, List.set_cons_succ]
          refine wpAnyZ_ready (rs := [13]) (by kernel_rfl) (by simp) ?_
          refine AllReadyZ.cons (opAt rfl) (fun K hK => ?_) ?_
          · skip
            go_simp
            refine (concat_any [(.slice A' m c', vs), (.slice E' m' f', vs')] (some ⟨g12, 0, none⟩) 2 2 _ rfl (by omega) ((reads3 b12 rfl).more b12.lt) ?_ ?_).mono ?_
            · intro p hp
              simp only [List.mem_cons, List.not_mem_nil, or_false] at hp
              rcases hp with rfl | rfl
              · exact (S2.below hb).more hb.size
              · exact (S4.below hb).more hb.size
            · have h8 := HL.out
              have h9 := HV.out
              simp only [List.flatMap_cons, List.flatMap_nil, List.append_nil, List.length_append, List.length_cons, List.length_nil] at h8 h9 ⊢
              omega
            rintro e w5x ⟨⟨u, rfl, r13⟩, hb1⟩
            replace r13 := r13.mono (lo' := w.heap.size) hb.size
            replace bx := bx.below hb1 bx.lt
            replace by_ := by_.below hb1 by_.lt
            replace br := br.below hb1 br.lt
            replace b3 := b3.below hb1 b3.lt
            replace b12 := b12.below hb1 b12.lt
            replace b6 := b6.below hb1 b6.lt
            replace r7 := r7.below hb1
            replace hb := hb.trans (hb1.mono hb.size)
            clear hb1
            simp only [List.flatMap_cons, List.flatMap_nil, List.append_nil] at r13
            rw [← HY2.out] at r13
            obtain ⟨Cr13, kr13, rfl⟩ := r13.val
            try go_wp2_with fail
            refine hK.out _ _ (by exact ⟨bx.cell 1, bx.cell 2, bx.cell 3, by_.cell 1, by_.cell 2⟩) (fun hHeld => ?_)
            clear hK K
            try simp only [Act.put, List.setIfInBounds_toArray, List.set_cons_zero, List.set_cons_succ]
            refine wpAnyZ_ready (rs := [16]) (by kernel_rfl) (by simp) ?_
            refine AllReadyZ.cons (opAt rfl) (fun K hK => ?_) ?_
            · skip
              go_simp
              refine (node_no _ _ _ _ l _ HLy.out r7.sl r13.sl HR.out).mono ?_
              rintro e w6x ⟨rfl, hb1⟩
              replace hb := hb.trans (hb1.mono hb.size)
              go_wp2_with fail
              exact ⟨rfl, rfl, hb⟩
            exact AllReadyZ.nil
          exact AllReadyZ.nil
        exact AllReadyZ.nil
      exact AllReadyZ.nil
    exact AllReadyZ.nil
  refine AllReadyZ.cons (opAt rfl) (fun K hK => ?_) ?_
  · skip
    go_simp
    replace bx := bx.alloc (.cells #[.slice A' m c', .slice E' m' f'] 25)
    replace by_ := by_.alloc (.cells #[.slice A' m c', .slice E' m' f'] 25)
    replace br := br.alloc (.cells #[.slice A' m c', .slice E' m' f'] 25)
    replace hb := hb.alloc hb.size (.cells #[.slice A' m c', .slice E' m' f'] 25)
    have b12 := Blk.new w0x 25 #[.slice A' m c', .slice E' m' f']
    generalize w0x.alloc (.cells #[.slice A' m c', .slice E' m' f'] 25) = w1x at *
    generalize w0x.heap.size = g12 at *
    refine hK.out _ _ (by exact ⟨bx.cell 1, bx.cell 2, bx.cell 3, by_.cell 1, by_.cell 2⟩) (fun hHeld => ?_)
    clear hK K
    try simp only [Act.put, List.setIfInBounds_toArray, List.set_cons_zero, List.set_cons_succ]
    refine wpAnyZ_ready (rs := [3]) (by kernel_rfl) (by simp) ?_
    refine AllReadyZ.cons (opAt rfl) (fun K hK => ?_) ?_
    · skip
      go_simp
      replace bx := bx.alloc (.cells #[.int .u64 key] 22)
      replace by_ := by_.alloc (.cells #[.int .u64 key] 22)
      replace br := br.alloc (.cells #[.int .u64 key] 22)
      replace b12 := b12.alloc (.cells #[.int .u64 key] 22)
      replace hb := hb.alloc hb.size (.cells #[.int .u64 key] 22)
      have b3 := Blk.new w1x 22 #[.int .u64 key]
      generalize w1x.alloc (.cells #[.int .u64 key] 22) = w2x at *
      generalize w1x.heap.size = g3 at *
      refine hK.out _ _ (by exact ⟨bx.cell 1, bx.cell 2, bx.cell 3, by_.cell 1, by_.cell 2⟩) (fun hHeld => ?_)
      clear hK K
      try simp only [Act.put, List.setIfInBounds_toArray, List.set_cons_zero, List.set_cons_succ]
      refine wpAnyZ_ready (rs := [6]) (by kernel_rfl) (by simp) ?_
      refine AllReadyZ.cons (opAt rfl) (fun K hK => ?_) ?_
      · skip
        go_simp
        replace bx := bx.alloc (.cells #[.slice A n c, .slice (some ⟨g3, 0, none⟩) 1 1, .slice E n' f] 25)
        replace by_ := by_.alloc (.cells #[.slice A n c, .slice (some ⟨g3, 0, none⟩) 1 1, .slice E n' f] 25)
        replace br := br.alloc (.cells #[.slice A n c, .slice (some ⟨g3, 0, none⟩) 1 1, .slice E n' f] 25)
        replace b12 := b12.alloc (.cells #[.slice A n c, .slice (some ⟨g3, 0, none⟩) 1 1, .slice E n' f] 25)
        replace b3 := b3.alloc (.cells #[.slice A n c, .slice (some ⟨g3, 0, none⟩) 1 1, .slice E n' f] 25)
        replace hb := hb.alloc hb.size (.cells #[.slice A n c, .slice (some ⟨g3, 0, none⟩) 1 1, .slice E n' f] 25)
        have b6 := Blk.new w2x 25 #[.slice A n c, .slice (some ⟨g3, 0, none⟩) 1 1, .slice E n' f]
        generalize w2x.alloc (.cells #[.slice A n c, .slice (some ⟨g3, 0, none⟩) 1 1, .slice E n' f] 25) = w3x at *
        generalize w2x.heap.size = g6 at *
        refine hK.out _ _ (by exact ⟨bx.cell 1, bx.cell 2, bx.cell 3, by_.cell 1, by_.cell 2⟩) (fun hHeld => ?_)
        clear hK K
        try simp only [Act.put, List.setIfInBounds_toArray, List.set_cons_zero, List.set_cons_succ]
        refine wpAnyZ_ready (rs := [7]) (by kernel_rfl) (by simp) ?_
        refine AllReadyZ.cons (opAt rfl) (fun K hK => ?_) ?_
        · skip
          go_simp
          refine (concat_any [(.slice A n c, ks), (.slice (some ⟨g3, 0, none⟩) 1 1, [key]), (.slice E n' f, ks')] (some ⟨g6, 0, none⟩) 3 3 _ rfl (by omega) ((reads3 b6 rfl).more b6.lt) ?_ ?_).mono ?_
          · intro p hp
            simp only [List.mem_cons, List.not_mem_nil, or_false] at hp
            rcases hp with rfl | rfl | rfl
            · exact (S1.below hb).more hb.size
            · exact sl_one b3
            · exact (S3.below hb).more hb.size
          · have h8 := HL.out
            have h9 := HV.out
            simp only [List.flatMap_cons, List.flatMap_nil, List.append_nil, List.length_append, List.length_cons, List.length_nil] at h8 h9 ⊢
            omega
          rintro e w4x ⟨⟨u, rfl, r7⟩, hb1⟩
          replace r7 := r7.mono (lo' := w.heap.size) hb.size
          replace bx := bx.below hb1 bx.lt
          replace by_ := by_.below hb1 by_.lt
          replace br := br.below hb1 br.lt
          replace b12 := b12.below hb1 b12.lt
          replace b3 := b3.below hb1 b3.lt
          replace b6 := b6.below hb1 b6.lt
          replace hb := hb.trans (hb1.mono hb.size)
          clear hb1
          simp only [List.flatMap_cons, List.flatMap_nil, List.append_nil] at r7
          rw [← HY1.out] at r7
          obtain ⟨Cr7, kr7, rfl⟩ := r7.val
          try go_wp2_with fail
          refine hK.out _ _ (by exact ⟨bx.cell 1, bx.cell 2, bx.cell 3, by_.cell 1, by_.cell 2⟩) (fun hHeld => ?_)
          clear hK K
          try simp only [Act.put, List.setIfInBounds_toArray, List.set_cons_zero, List.set_cons_succ]
          refine wpAnyZ_ready (rs := [13]) (by kernel_rfl) (by simp) ?_
          refine AllReadyZ.cons (opAt rfl) (fun K hK => ?_) ?_
          · skip
            go_simp
            refine (concat_any [(.slice A' m c', vs), (.slice E' m' f', vs')] (some ⟨g12, 0, none⟩) 2 2 _ rfl (by omega) ((reads3 b12 rfl).more b12.lt) ?_ ?_).mono ?_
            · intro p hp
              simp only [List.mem_cons, List.not_mem_nil, or_false] at hp
              rcases hp with rfl | rfl
              · exact (S2.below hb).more hb.size
              · exact (S4.below hb).more hb.size
            · have h8 := HL.out
              have h9 := HV.out
              simp only [List.flatMap_cons, List.flatMap_nil, List.append_nil, List.length_append, List.length_cons, List.length_nil] at h8 h9 ⊢
              omega
            rintro e w5x ⟨⟨u, rfl, r13⟩, hb1⟩
            replace r13 := r13.mono (lo' := w.heap.size) hb.size
            replace bx := bx.below hb1 bx.lt
            replace by_ := by_.below hb1 by_.lt
            replace br := br.below hb1 br.lt
            replace b12 := b12.below hb1 b12.lt
            replace b3 := b3.below hb1 b3.lt
            replace b6 := b6.below hb1 b6.lt
            replace r7 := r7.below hb1
            replace hb := hb.trans (hb1.mono hb.size)
            clear hb1
            simp only [List.flatMap_cons, List.flatMap_nil, List.append_nil] at r13
            rw [← HY2.out] at r13
            obtain ⟨Cr13, kr13, rfl⟩ := r13.val
            try go_wp2_with fail
            refine hK.out _ _ (by exact ⟨bx.cell 1, bx.cell 2, bx.cell 3, by_.cell 1, by_.cell 2⟩) (fun hHeld => ?_)
            clear hK K
            try simp only [Act.put, List.setIfInBounds_toArray, List.set_cons_zero, List.set_cons_succ]
            refine wpAnyZ_ready (rs := [16]) (by kernel_rfl) (by simp) ?_
            refine AllReadyZ.cons (opAt rfl) (fun K hK => ?_) ?_
            · skip
              go_simp
              refine (node_no _ _ _ _ l _ HLy.out r7.sl r13.sl HR.out).mono ?_
              rintro e w6x ⟨rfl, hb1⟩
              replace hb := hb.trans (hb1.mono hb.size)
              go_wp2_with fail
              exact ⟨rfl, rfl, hb⟩
            exact AllReadyZ.nil
          exact AllReadyZ.nil
        exact AllReadyZ.nil
      exact AllReadyZ.nil
    exact AllReadyZ.nil
  exact AllReadyZ.nil
set_option maxRecDepth 100000 in
set_option maxHeartbeats 4000000 in
theorem both_no1 (v v' : Value) (b b' : Bool) (ks vs ks' vs' : List Int) (l l' key : Int) (w : World) (hl : ks.length ≤ 1000) (hl' : ks'.length ≤ 1000) (h : Nd w w.heap.size v b ks vs l) (h' : Nd w w.heap.size v' b' ks' vs' l') (h1 : rightI b ks vs = false) :
    Calls Try.prog 35 #[v, .int .u64 key, v'] w fun e w' => e = .panicked wrongP ∧ Below w.heap.size w w' := by
  have R1 := hide (fun w2 (hB : Below w.heap.size w w2) => iright_any v b ks vs l w2 (by omega) ((h.below hB).more hB.size))
  have R2 := hide (fun w2 (hB : Below w.heap.size w w2) => iright_any v' b' ks' vs' l' w2 (by omega) ((h'.below hB).more hB.size))
  rw [h1] at R1
  clear h1
  obtain ⟨k1, u1, rfl, S1, S2⟩ := h
  obtain ⟨k2, u2, rfl, S3, S4⟩ := h'
  have T1 := S1
  have T2 := S2
  have T3 := S3
  have T4 := S4
  obtain ⟨A, c, rfl, _⟩ := T1
  obtain ⟨A', c', rfl, _⟩ := T2
  obtain ⟨E, f, rfl, _⟩ := T3
  obtain ⟨E', f', rfl, _⟩ := T4
  generalize hn : ks.length = n at *
  generalize hm : vs.length = m at *
  generalize hn' : ks'.length = n' at *
  generalize hm' : vs'.length = m' at *
  have bx := ((Blk.new w 27 #[.bool b, .slice A n c, .slice A' m c', .int .u64 l]).alloc (.cells #[.bool b', .slice E n' f, .slice E' m' f', .int .u64 l'] 27)).alloc (.cells #[.bool false, .slice none 0 0, .slice none 0 0, .int .u64 0] 27)
  have by_ := (Blk.new (w.alloc (.cells #[.bool b, .slice A n c, .slice A' m c', .int .u64 l] 27)) 27 #[.bool b', .slice E n' f, .slice E' m' f', .int .u64 l']).alloc (.cells #[.bool false, .slice none 0 0, .slice none 0 0, .int .u64 0] 27)
  have br := Blk.new ((w.alloc (.cells #[.bool b, .slice A n c, .slice A' m c', .int .u64 l] 27)).alloc (.cells #[.bool b', .slice E n' f, .slice E' m' f', .int .u64 l'] 27)) 27 #[.bool false, .slice none 0 0, .slice none 0 0, .int .u64 0]
  have hb := (((Below.refl w.heap.size w).alloc (Nat.le_refl _) (.cells #[.bool b, .slice A n c, .slice A' m c', .int .u64 l] 27)).alloc (by simp only [World.size_alloc]; omega) (.cells #[.bool b', .slice E n' f, .slice E' m' f', .int .u64 l'] 27)).alloc (by simp only [World.size_alloc]; omega) (.cells #[.bool false, .slice none 0 0, .slice none 0 0, .int .u64 0] 27)
  simp only [World.size_alloc] at by_ br
  replace hn := hide hn
  replace hm := hide hm
  replace hn' := hide hn'
  replace hm' := hide hm'
  go_enter Try.func35, Try.ntmps35
  go_wp2_with fail
  generalize ((w.alloc (.cells #[.bool b, .slice A n c, .slice A' m c', .int .u64 l] 27)).alloc (.cells #[.bool b', .slice E n' f, .slice E' m' f', .int .u64 l'] 27)).alloc (.cells #[.bool false, .slice none 0 0, .slice none 0 0, .int .u64 0] 27) = wa at *
  obtain ⟨gx, ex⟩ : ∃ g, g = w.heap.size := ⟨_, rfl⟩
  obtain ⟨gy, ey⟩ : ∃ g, g = w.heap.size + 1 := ⟨_, rfl⟩
  obtain ⟨gr, er⟩ : ∃ g, g = w.heap.size + 1 + 1 := ⟨_, rfl⟩
  have HXR := hide (show gx ≠ gr by omega)
  have HYR := hide (show gy ≠ gr by omega)
  have HGR := hide (show w.heap.size ≤ gr by omega)
  rw [← er] at br ⊢
  rw [← ey] at by_ ⊢
  rw [← ex] at bx
  rw [← ex]
  clear ex ey er
  refine (R1.out _ hb).mono ?_
  rintro e wb ⟨rfl, hb1⟩
  replace bx := bx.below hb1 bx.lt
  replace by_ := by_.below hb1 by_.lt
  replace br := br.below hb1 br.lt
  replace hb := hb.trans (hb1.mono hb.size)
  clear hb1
  have my := fun i => by_.cell i
  go_wp2_with fail
  refine (must_no _).mono ?_
  rintro e wc ⟨rfl, rfl⟩
  go_wp2_with fail
  exact ⟨rfl, rfl, hb⟩
set_option maxRecDepth 100000 in
set_option maxHeartbeats 4000000 in
theorem both_no2 (v v' : Value) (b b' : Bool) (ks vs ks' vs' : List Int) (l l' key : Int) (w : World) (hl : ks.length ≤ 1000) (hl' : ks'.length ≤ 1000) (h : Nd w w.heap.size v b ks vs l) (h' : Nd w w.heap.size v' b' ks' vs' l') (h1 : rightI b ks vs = true) (h2 : rightI b' ks' vs' = false) :
    Calls Try.prog 35 #[v, .int .u64 key, v'] w fun e w' => e = .panicked wrongP ∧ Below w.heap.size w w' := by
  have R1 := hide (fun w2 (hB : Below w.heap.size w w2) => iright_any v b ks vs l w2 (by omega) ((h.below hB).more hB.size))
  have R2 := hide (fun w2 (hB : Below w.heap.size w w2) => iright_any v' b' ks' vs' l' w2 (by omega) ((h'.below hB).more hB.size))
  rw [h1] at R1
  rw [h2] at R2
  clear h1 h2
  obtain ⟨k1, u1, rfl, S1, S2⟩ := h
  obtain ⟨k2, u2, rfl, S3, S4⟩ := h'
  have T1 := S1
  have T2 := S2
  have T3 := S3
  have T4 := S4
  obtain ⟨A, c, rfl, _⟩ := T1
  obtain ⟨A', c', rfl, _⟩ := T2
  obtain ⟨E, f, rfl, _⟩ := T3
  obtain ⟨E', f', rfl, _⟩ := T4
  generalize hn : ks.length = n at *
  generalize hm : vs.length = m at *
  generalize hn' : ks'.length = n' at *
  generalize hm' : vs'.length = m' at *
  have bx := ((Blk.new w 27 #[.bool b, .slice A n c, .slice A' m c', .int .u64 l]).alloc (.cells #[.bool b', .slice E n' f, .slice E' m' f', .int .u64 l'] 27)).alloc (.cells #[.bool false, .slice none 0 0, .slice none 0 0, .int .u64 0] 27)
  have by_ := (Blk.new (w.alloc (.cells #[.bool b, .slice A n c, .slice A' m c', .int .u64 l] 27)) 27 #[.bool b', .slice E n' f, .slice E' m' f', .int .u64 l']).alloc (.cells #[.bool false, .slice none 0 0, .slice none 0 0, .int .u64 0] 27)
  have br := Blk.new ((w.alloc (.cells #[.bool b, .slice A n c, .slice A' m c', .int .u64 l] 27)).alloc (.cells #[.bool b', .slice E n' f, .slice E' m' f', .int .u64 l'] 27)) 27 #[.bool false, .slice none 0 0, .slice none 0 0, .int .u64 0]
  have hb := (((Below.refl w.heap.size w).alloc (Nat.le_refl _) (.cells #[.bool b, .slice A n c, .slice A' m c', .int .u64 l] 27)).alloc (by simp only [World.size_alloc]; omega) (.cells #[.bool b', .slice E n' f, .slice E' m' f', .int .u64 l'] 27)).alloc (by simp only [World.size_alloc]; omega) (.cells #[.bool false, .slice none 0 0, .slice none 0 0, .int .u64 0] 27)
  simp only [World.size_alloc] at by_ br
  replace hn := hide hn
  replace hm := hide hm
  replace hn' := hide hn'
  replace hm' := hide hm'
  go_enter Try.func35, Try.ntmps35
  go_wp2_with fail
  generalize ((w.alloc (.cells #[.bool b, .slice A n c, .slice A' m c', .int .u64 l] 27)).alloc (.cells #[.bool b', .slice E n' f, .slice E' m' f', .int .u64 l'] 27)).alloc (.cells #[.bool false, .slice none 0 0, .slice none 0 0, .int .u64 0] 27) = wa at *
  obtain ⟨gx, ex⟩ : ∃ g, g = w.heap.size := ⟨_, rfl⟩
  obtain ⟨gy, ey⟩ : ∃ g, g = w.heap.size + 1 := ⟨_, rfl⟩
  obtain ⟨gr, er⟩ : ∃ g, g = w.heap.size + 1 + 1 := ⟨_, rfl⟩
  have HXR := hide (show gx ≠ gr by omega)
  have HYR := hide (show gy ≠ gr by omega)
  have HGR := hide (show w.heap.size ≤ gr by omega)
  rw [← er] at br ⊢
  rw [← ey] at by_ ⊢
  rw [← ex] at bx
  rw [← ex]
  clear ex ey er
  refine (R1.out _ hb).mono ?_
  rintro e wb ⟨rfl, hb1⟩
  replace bx := bx.below hb1 bx.lt
  replace by_ := by_.below hb1 by_.lt
  replace br := br.below hb1 br.lt
  replace hb := hb.trans (hb1.mono hb.size)
  clear hb1
  have my := fun i => by_.cell i
  go_wp2_with fail
  refine (R2.out _ hb).mono ?_
  rintro e wc ⟨rfl, hb1⟩
  replace bx := bx.below hb1 bx.lt
  replace by_ := by_.below hb1 by_.lt
  replace br := br.below hb1 br.lt
  replace hb := hb.trans (hb1.mono hb.size)
  clear hb1 my
  go_wp2_with fail
  refine (must_no _).mono ?_
  rintro e wd ⟨rfl, rfl⟩
  go_wp2_with fail
  exact ⟨rfl, rfl, hb⟩
end Go.Proofs.Ytcmoblibjhaegaa
