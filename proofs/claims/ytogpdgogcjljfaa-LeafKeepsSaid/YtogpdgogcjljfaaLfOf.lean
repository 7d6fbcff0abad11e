/-
  leaf.Of: the leaf of any entries.
-/
import Derived.Test.YtogpdgogcjljfaaNdg
import Derived.Deep.RegionHeld3
namespace Go.Proofs.Ytogpdgogcjljfaa
open Go.RowKit

theorem infoU : (Try.prog.info? 22).map (fun i => (i.zero, i.size, i.bytes)) = some (some (.int .u64 0), 1, 8) := by kernel_rfl
def OfIn (g lo : Nat) (link : Int) (l : List (Int × Int)) (w : World) (i : Value) (wr : World) : Prop :=
  ∃ (k : Nat) (A1 : Option Addr) (c1 : Nat) (A2 : Option Addr) (c2 : Nat), i = .int .i64 k ∧ k ≤ l.length ∧ Blk wr g 27 #[.bool false, .slice A1 k c1, .slice A2 k c2, .int .u64 link] ∧ wr.ownsRow lo 22 1 (.slice A1 k c1) k (ints .u64 (fstL (l.take k))) ∧ wr.ownsRow lo 22 1 (.slice A2 k c2) k (ints .u64 (sndL (l.take k))) ∧ Apart (.slice A1 k c1) (.slice A2 k c2) ∧ lo ≤ wr.heap.size ∧ Below w.heap.size w wr
theorem size_set (w : World) (p : Addr) (v : Value) : (w.setCell p v).heap.size = w.heap.size := by simp
set_option maxRecDepth 100000 in
set_option maxHeartbeats 4000000 in
theorem lof_any (link : Int) (A : Option Addr) (n c : Nat) (l : List (Int × Int)) (w : World) (hn : n ≤ 1000) (hr : Reads w w.heap.size 2 A n (rec2 l)) :
    Calls Try.prog 11 #[.int .u64 link, .slice A n c] w fun e w' => (∃ u, e = .returned u ∧ NdO w' w.heap.size u false (if riseB (fstL l) = true then fstL l else []) (if riseB (fstL l) = true then sndL l else []) (if riseB (fstL l) = true then link else 0)) ∧ Below w.heap.size w w' := by
  obtain ⟨i0, hi0, hz0, hs0, hb0⟩ := info_parts infoU
  have hln := hr.lenPair
  have HR := hide hr
  have HLN := hide hln
  clear hr hln
  have br := Blk.new w 27 #[.bool false, .slice none 0 0, .slice none 0 0, .int .u64 0]
  have hb := (Below.refl w.heap.size w).alloc (Nat.le_refl _) (.cells #[.bool false, .slice none 0 0, .slice none 0 0, .int .u64 0] 27)
  have bo := Blk.new (w.alloc (.cells #[.bool false, .slice none 0 0, .slice none 0 0, .int .u64 0] 27)) 27 #[.bool false, .slice none 0 0, .slice none 0 0, .int .u64 link]
  rw [World.size_alloc] at bo
  replace br := br.alloc (.cells #[.bool false, .slice none 0 0, .slice none 0 0, .int .u64 link] 27)
  replace hb := hb.alloc hb.size (.cells #[.bool false, .slice none 0 0, .slice none 0 0, .int .u64 link] 27)
  go_enter Try.func11, Try.ntmps11
  go_wp2_with fail
  generalize (w.alloc (.cells #[.bool false, .slice none 0 0, .slice none 0 0, .int .u64 0] 27)).alloc (.cells #[.bool false, .slice none 0 0, .slice none 0 0, .int .u64 link] 27) = w2 at *
  obtain ⟨g, hg⟩ : ∃ g, g = w.heap.size + 1 := ⟨_, rfl⟩
  obtain ⟨lo, hlo⟩ : ∃ lo, lo = w.heap.size + 1 + 1 := ⟨_, rfl⟩
  have HGB := hide (show w.heap.size ≤ g by omega)
  have HG := hide (show g < lo by omega)
  have HLB := hide (show w.heap.size ≤ lo by omega)
  have HRL := hide (show w.heap.size < lo by omega)
  have HL := hide (show lo ≤ w2.heap.size by have := bo.lt; omega)
  have HRG := hide (show w.heap.size ≠ g by omega)
  rw [← hg] at bo ⊢
  clear hg hlo
  go_loopw [12] (fun i wr => OfIn g lo link l w i wr ∧ Blk wr w.heap.size 27 #[.bool false, .slice none 0 0, .slice none 0 0, .int .u64 0]) (fun i _ => n - (intOf i).toNat)
  case atStart => exact ⟨⟨0, none, 0, none, 0, rfl, by omega, bo, World.ownsRow_nil _ _ _ _, World.ownsRow_nil _ _ _ _, Apart.nil _, HL.out, hb⟩, br⟩
  case round =>
    clear bo hb HL
    obtain ⟨⟨k, A1, c1, A2, c2, rfl, hk, bo, h1, h2, ha, hL, hb⟩, br⟩ := hrel
    by_cases hlt : k < n
    · obtain ⟨a, rfl, hkl, z1, z2⟩ := (HR.out.below hb).pair hlt
      have HL := hide hL
      have HK := hide hkl
      have HX := hide (fstL_take l k hkl)
      have HY := hide (sndL_take l k hkl)
      generalize (l[k]).1 = x at *
      generalize (l[k]).2 = y at *
      have hkz : (k : Int) < (n : Int) := by omega
      have HN := hide (show k ≤ 4294967296 by omega)
      clear hL
      have bp := Blk.new wr 29 #[.int .u64 x, .int .u64 y]
      replace bo := bo.alloc (.cells #[.int .u64 x, .int .u64 y] 29)
      replace br := br.alloc (.cells #[.int .u64 x, .int .u64 y] 29)
      replace h1 := h1.alloc (.cells #[.int .u64 x, .int .u64 y] 29)
      replace h2 := h2.alloc (.cells #[.int .u64 x, .int .u64 y] 29)
      replace hb := hb.alloc hb.size (.cells #[.int .u64 x, .int .u64 y] 29)
      replace HL := hide (Nat.le_trans HL.out (show wr.heap.size ≤ (wr.alloc (.cells #[.int .u64 x, .int .u64 y] 29)).heap.size by rw [World.size_alloc]; exact Nat.le_succ _))
      go_wp2_with fail
      generalize wr.alloc (.cells #[.int .u64 x, .int .u64 y] 29) = wa at *
      generalize wr.heap.size = gp at *
      clear z1 z2
      replace bo := bo.drew
      replace bp := bp.drew
      replace br := br.drew
      replace h1 := h1.drew
      replace h2 := h2.drew
      replace hb := hb.drew
      replace HL := hide (show lo ≤ wa.drew.heap.size from HL.out)
      refine wp_region_heldZ [13, 15] (fun w' => (w'.cell? ⟨g, 1, none⟩ = some (.slice A1 k c1) ∧ w'.cell? ⟨g, 2, none⟩ = some (.slice A2 k c2)) ∧ (w'.cell? ⟨gp, 0, none⟩ = some (.int .u64 x) ∧ w'.cell? ⟨gp, 1, none⟩ = some (.int .u64 y))) (by kernel_rfl) (by exact ⟨⟨bo.cell 1, bo.cell 2⟩, cellsP bp⟩) (fun hHeld => ?_)
      generalize wa.drew = wb at *
      refine' wpAnyZ_takeA (i := 0) (v := ?_) (opAt rfl) (by kernel_rfl) (by kernel_rfl) (by kernel_rfl) (by kernel_rfl) (fun _ _ _ h => h) (by assumption) (by rfl) (fun w hSw => ?_) ?_
      rotate_left
      · (try dsimp only at hSw); go_simp; (try with_reducible rfl)
      try simp only [Act.put, List.setIfInBounds_toArray, List.set_cons_zero, List.set_cons_succ]
      refine' wpAnyZ_takeA (i := 1) (v := ?_) (opAt rfl) (by kernel_rfl) (by kernel_rfl) (by kernel_rfl) (by kernel_rfl) (fun _ _ _ h => h) (by assumption) (by rfl) (fun w hSw => ?_) ?_
      rotate_left
      · (try dsimp only at hSw); go_simp; (try with_reducible rfl)
      try simp only [Act.put, List.setIfInBounds_toArray, List.set_cons_zero, List.set_cons_succ]
      refine' wpAnyZ_takeA (i := 2) (v := ?_) (opAt rfl) (by kernel_rfl) (by kernel_rfl) (by kernel_rfl) (by kernel_rfl) (fun _ _ _ h => h) (by assumption) (by rfl) (fun w hSw => ?_) ?_
      rotate_left
      · (try dsimp only at hSw); go_simp; (try with_reducible rfl)
      try simp only [Act.put, List.setIfInBounds_toArray, List.set_cons_zero, List.set_cons_succ]
      refine' wpAnyZ_takeA (i := 3) (v := ?_) (opAt rfl) (by kernel_rfl) (by kernel_rfl) (by kernel_rfl) (by kernel_rfl) (fun _ _ _ h => h) (by assumption) (by rfl) (fun w hSw => ?_) ?_
      rotate_left
      · (try dsimp only at hSw); go_simp; (try with_reducible rfl)
      try simp only [Act.put, List.setIfInBounds_toArray, List.set_cons_zero, List.set_cons_succ]
      refine' wpAnyZ_takeA (i := 6) (v := ?_) (opAt rfl) (by kernel_rfl) (by kernel_rfl) (by kernel_rfl) (by kernel_rfl) (fun _ _ _ h => h) (by assumption) (by rfl) (fun w hSw => ?_) ?_
      rotate_left
      · (try dsimp only at hSw); go_simp; (try with_reducible rfl)
      try simp only [Act.put, List.setIfInBounds_toArray, List.set_cons_zero, List.set_cons_succ]
      refine' wpAnyZ_takeA (i := 7) (v := ?_) (opAt rfl) (by kernel_rfl) (by kernel_rfl) (by kernel_rfl) (by kernel_rfl) (fun _ _ _ h => h) (by assumption) (by rfl) (fun w hSw => ?_) ?_
      rotate_left
      · (try dsimp only at hSw); go_simp; (try with_reducible rfl)
      try simp only [Act.put, List.setIfInBounds_toArray, List.set_cons_zero, List.set_cons_succ]
      refine' wpAnyZ_takeA (i := 8) (v := ?_) (opAt rfl) (by kernel_rfl) (by kernel_rfl) (by kernel_rfl) (by kernel_rfl) (fun _ _ _ h => h) (by assumption) (by rfl) (fun w hSw => ?_) ?_
      rotate_left
      · (try dsimp only at hSw); go_simp; (try with_reducible rfl)
      try simp only [Act.put, List.setIfInBounds_toArray, List.set_cons_zero, List.set_cons_succ]
      refine' wpAnyZ_takeA (i := 9) (v := ?_) (opAt rfl) (by kernel_rfl) (by kernel_rfl) (by kernel_rfl) (by kernel_rfl) (fun _ _ _ h => h) (by assumption) (by rfl) (fun w hSw => ?_) ?_
      rotate_left
      · (try dsimp only at hSw); go_simp; (try with_reducible rfl)
      try simp only [Act.put, List.setIfInBounds_toArray, List.set_cons_zero, List.set_cons_succ]
      refine wpAnyZ_ready (rs := [4, 10]) (by kernel_rfl) (by simp) ?_
      refine AllReadyZ.cons (opAt rfl) (fun K hK => ?_) ?_
      · skip
        go_simp
        replace bo := bo.alloc (.cells #[.int .u64 x] 22)
        replace bp := bp.alloc (.cells #[.int .u64 x] 22)
        replace br := br.alloc (.cells #[.int .u64 x] 22)
        replace h1 := h1.alloc (.cells #[.int .u64 x] 22)
        replace h2 := h2.alloc (.cells #[.int .u64 x] 22)
        replace hb := hb.alloc hb.size (.cells #[.int .u64 x] 22)
        have bk := Blk.new wb 22 #[.int .u64 x]
        replace HL := hide (Nat.le_trans HL.out (show wb.heap.size ≤ (wb.alloc (.cells #[.int .u64 x] 22)).heap.size by rw [World.size_alloc]; exact Nat.le_succ _))
        generalize wb.alloc (.cells #[.int .u64 x] 22) = w3 at *
        refine hK.out _ _ (by exact ⟨⟨bo.cell 1, bo.cell 2⟩, cellsP bp⟩) (fun hHeld => ?_)
        clear hK K
        try simp only [Act.put, List.setIfInBounds_toArray, List.set_cons_zero, List.set_cons_succ]
        refine wpAnyZ_ready (rs := [5, 10]) (by kernel_rfl) (by simp) ?_
        refine AllReadyZ.cons (opAt rfl) (fun K hK => ?_) ?_
        · skip
          refine step_append_one (by rfl) (.tmp 17) (.tmp 20) _ (by rfl) lo 22 i0 _ 1 8 Try.underlying25 hi0 hz0 hs0 hb0 rfl (by decide) (by decide) _ k _ (by rfl) h1 _ #[.int .u64 x] (by rfl) bk rfl rfl HN.out HL.out ?_
          intro A3 c3 w4 h3 hg_ hat_
          replace bp := bp.grown hg_ (own_blk_ne h1 bp (by decide)).symm
          replace bo := blk_appended bo h1 hg_ HG.out
          replace br := blk_appended br h1 hg_ HRL.out
          replace hb := below_appended hb h1 hg_ HLB.out (Nat.le_trans HLB.out HL.out)
          obtain ⟨h2', ha'⟩ := push_row (v' := .slice A3 (k + 1) c3) h2 ha hg_ hat_
          replace h2 := h2'
          replace ha := ha'
          clear h2' ha'
          replace HL := hide (Nat.le_trans HL.out hg_.size)
          clear h1 hg_ hat_ bk
          refine hK.out _ _ (by exact ⟨⟨bo.cell 1, bo.cell 2⟩, cellsP bp⟩) (fun hHeld => ?_)
          clear hK K
          try simp only [Act.put, List.setIfInBounds_toArray, List.set_cons_zero, List.set_cons_succ]
          refine' wpAnyZ_takeA (i := 12) (v := ?_) (opAt rfl) (by kernel_rfl) (by kernel_rfl) (by kernel_rfl) (by kernel_rfl) (fun _ _ _ h => h) (by assumption) (by rfl) (fun w hSw => ?_) ?_
          rotate_left
          · (try dsimp only at hSw); go_simp; (try with_reducible rfl)
          try simp only [Act.put, List.setIfInBounds_toArray, List.set_cons_zero, List.set_cons_succ]
          refine wpAnyZ_ready (rs := [10]) (by kernel_rfl) (by simp) ?_
          refine AllReadyZ.cons (opAt rfl) (fun K hK => ?_) ?_
          · skip
            go_simp
            replace bo := bo.alloc (.cells #[.int .u64 y] 22)
            replace bp := bp.alloc (.cells #[.int .u64 y] 22)
            replace br := br.alloc (.cells #[.int .u64 y] 22)
            replace h3 := h3.alloc (.cells #[.int .u64 y] 22)
            replace h2 := h2.alloc (.cells #[.int .u64 y] 22)
            replace hb := hb.alloc hb.size (.cells #[.int .u64 y] 22)
            have bv := Blk.new w4 22 #[.int .u64 y]
            replace HL := hide (Nat.le_trans HL.out (show w4.heap.size ≤ (w4.alloc (.cells #[.int .u64 y] 22)).heap.size by rw [World.size_alloc]; exact Nat.le_succ _))
            generalize w4.alloc (.cells #[.int .u64 y] 22) = w5 at *
            refine hK.out _ _ (by exact ⟨⟨bo.cell 1, bo.cell 2⟩, cellsP bp⟩) (fun hHeld => ?_)
            clear hK K
            try simp only [Act.put, List.setIfInBounds_toArray, List.set_cons_zero, List.set_cons_succ]
            refine wpAnyZ_ready (rs := [11]) (by kernel_rfl) (by simp) ?_
            refine AllReadyZ.cons (opAt rfl) (fun K hK => ?_) ?_
            · skip
              refine step_append_one (by rfl) (.tmp 23) (.tmp 26) _ (by rfl) lo 22 i0 _ 1 8 Try.underlying25 hi0 hz0 hs0 hb0 rfl (by decide) (by decide) _ k _ (by rfl) h2 _ #[.int .u64 y] (by rfl) bv rfl rfl HN.out HL.out ?_
              intro A4 c4 w7 h4 hg_ hat_
              replace bp := bp.grown hg_ (own_blk_ne h2 bp (by decide)).symm
              replace bo := blk_appended bo h2 hg_ HG.out
              replace br := blk_appended br h2 hg_ HRL.out
              replace hb := below_appended hb h2 hg_ HLB.out (Nat.le_trans HLB.out HL.out)
              obtain ⟨h3', ha'⟩ := push_row (v' := .slice A4 (k + 1) c4) h3 ha.symm hg_ hat_
              replace h3 := h3'
              replace ha := ha'.symm
              clear h3' ha'
              replace HL := hide (Nat.le_trans HL.out hg_.size)
              clear h2 hg_ hat_ bv
              refine hK.out _ _ (by exact ⟨⟨bo.cell 1, bo.cell 2⟩, cellsP bp⟩) (fun hHeld => ?_)
              clear hK K
              try simp only [Act.put, List.setIfInBounds_toArray, List.set_cons_zero, List.set_cons_succ]
              have zo := fun i => bo.frozen i
              refine wpAnyZ_ready (rs := [13]) (by kernel_rfl) (by simp) ?_
              refine AllReadyZ.last (opAt rfl) (by kernel_rfl) (fun K hK => ?_) ?_
              · skip
                go_simp
                refine hK.out _ _ ?_
                clear hK K
                try simp only [Act.put, List.setIfInBounds_toArray, List.set_cons_zero, List.set_cons_succ]
                refine wpAnyZ_ready (rs := [14]) (by kernel_rfl) (by simp) ?_
                refine AllReadyZ.last (opAt rfl) (by kernel_rfl) (fun K hK => ?_) ?_
                · skip
                  go_simp
                  refine hK.out _ _ ?_
                  clear hK K
                  try simp only [Act.put, List.setIfInBounds_toArray, List.set_cons_zero, List.set_cons_succ]
                  refine wpAnyZ_ready (rs := [15]) (by kernel_rfl) (by simp) ?_
                  refine AllReadyZ.last (opAt rfl) (by kernel_rfl) (fun K hK => ?_) ?_
                  · skip
                    go_simp
                    refine hK.out _ _ ?_
                    clear hK K
                    try simp only [Act.put, List.setIfInBounds_toArray, List.set_cons_zero, List.set_cons_succ]
                    refine wpAnyZ_done (by kernel_rfl) ?_ _
                    replace bo := (bo.setK (.slice A3 (k + 1) c3)).setV (.slice A4 (k + 1) c4)
                    replace br := (br.far (p := ⟨g, 1, none⟩) HRG.out (.slice A3 (k + 1) c3)).far (p := ⟨g, 2, none⟩) HRG.out (.slice A4 (k + 1) c4)
                    replace h3 := own_setCell_far (own_setCell_far h3 (p := ⟨g, 1, none⟩) HG.out (.slice A3 (k + 1) c3)) (p := ⟨g, 2, none⟩) HG.out (.slice A4 (k + 1) c4)
                    replace h4 := own_setCell_far (own_setCell_far h4 (p := ⟨g, 1, none⟩) HG.out (.slice A3 (k + 1) c3)) (p := ⟨g, 2, none⟩) HG.out (.slice A4 (k + 1) c4)
                    replace hb := (hb.setCell (p := ⟨g, 1, none⟩) HGB.out (.slice A3 (k + 1) c3)).setCell (p := ⟨g, 2, none⟩) HGB.out (.slice A4 (k + 1) c4)
                    replace HL := hide (show lo ≤ ((w7.setCell ⟨g, 1, none⟩ (.slice A3 (k + 1) c3)).setCell ⟨g, 2, none⟩ (.slice A4 (k + 1) c4)).heap.size by rw [size_set, size_set]; exact HL.out)
                    generalize (w7.setCell ⟨g, 1, none⟩ (.slice A3 (k + 1) c3)).setCell ⟨g, 2, none⟩ (.slice A4 (k + 1) c4) = w9 at *
                    clear zo bp
                    go_wp2_with fail
                    go_roundw
                    case measure => simp [intOf]; omega
                    case rel => exact ⟨⟨k + 1, A3, c3, A4, c4, by go_num, by omega, bo, by rw [HX.out, ints_append]; exact h3, by rw [HY.out, ints_append]; exact h4, ha, HL.out, hb⟩, br⟩
                  exact AllReadyZ.nil
                exact AllReadyZ.nil
              exact AllReadyZ.nil
            exact AllReadyZ.nil
          exact AllReadyZ.nil
        refine AllReadyZ.cons (opAt rfl) (fun K hK => ?_) ?_
        · skip
          go_simp
          replace bo := bo.alloc (.cells #[.int .u64 y] 22)
          replace bp := bp.alloc (.cells #[.int .u64 y] 22)
          replace br := br.alloc (.cells #[.int .u64 y] 22)
          replace bk := bk.alloc (.cells #[.int .u64 y] 22)
          have HBL := hide (own_old h1 (Nat.le_refl w3.heap.size))
          replace h1 := h1.alloc (.cells #[.int .u64 y] 22)
          replace h2 := h2.alloc (.cells #[.int .u64 y] 22)
          replace hb := hb.alloc hb.size (.cells #[.int .u64 y] 22)
          have bv := Blk.new w3 22 #[.int .u64 y]
          replace HL := hide (Nat.le_trans HL.out (show w3.heap.size ≤ (w3.alloc (.cells #[.int .u64 y] 22)).heap.size by rw [World.size_alloc]; exact Nat.le_succ _))
          generalize w3.alloc (.cells #[.int .u64 y] 22) = w4 at *
          refine hK.out _ _ (by exact ⟨⟨bo.cell 1, bo.cell 2⟩, cellsP bp⟩) (fun hHeld => ?_)
          clear hK K
          try simp only [Act.put, List.setIfInBounds_toArray, List.set_cons_zero, List.set_cons_succ]
          refine wpAnyZ_ready (rs := [5]) (by kernel_rfl) (by simp) ?_
          refine AllReadyZ.cons (opAt rfl) (fun K hK => ?_) ?_
          · skip
            refine step_append_one (by rfl) (.tmp 17) (.tmp 20) _ (by rfl) lo 22 i0 _ 1 8 Try.underlying25 hi0 hz0 hs0 hb0 rfl (by decide) (by decide) _ k _ (by rfl) h1 _ #[.int .u64 x] (by rfl) bk rfl rfl HN.out HL.out ?_
            intro A3 c3 w5 h3 hg_ hat_
            replace bp := bp.grown hg_ (own_blk_ne h1 bp (by decide)).symm
            replace bo := blk_appended bo h1 hg_ HG.out
            replace br := blk_appended br h1 hg_ HRL.out
            replace hb := below_appended hb h1 hg_ HLB.out (Nat.le_trans HLB.out HL.out)
            obtain ⟨h2', ha'⟩ := push_row (v' := .slice A3 (k + 1) c3) h2 ha hg_ hat_
            replace h2 := h2'
            replace ha := ha'
            clear h2' ha'
            replace bv := bv.grown hg_ HBL.out
            replace HL := hide (Nat.le_trans HL.out hg_.size)
            clear h1 hg_ hat_ bk
            refine hK.out _ _ (by exact ⟨⟨bo.cell 1, bo.cell 2⟩, cellsP bp⟩) (fun hHeld => ?_)
            clear hK K
            try simp only [Act.put, List.setIfInBounds_toArray, List.set_cons_zero, List.set_cons_succ]
            refine' wpAnyZ_takeA (i := 12) (v := ?_) (opAt rfl) (by kernel_rfl) (by kernel_rfl) (by kernel_rfl) (by kernel_rfl) (fun _ _ _ h => h) (by assumption) (by rfl) (fun w hSw => ?_) ?_
            rotate_left
            · (try dsimp only at hSw); go_simp; (try with_reducible rfl)
            try simp only [Act.put, List.setIfInBounds_toArray, List.set_cons_zero, List.set_cons_succ]
            refine wpAnyZ_ready (rs := [11]) (by kernel_rfl) (by simp) ?_
            refine AllReadyZ.cons (opAt rfl) (fun K hK => ?_) ?_
            · skip
              refine step_append_one (by rfl) (.tmp 23) (.tmp 26) _ (by rfl) lo 22 i0 _ 1 8 Try.underlying25 hi0 hz0 hs0 hb0 rfl (by decide) (by decide) _ k _ (by rfl) h2 _ #[.int .u64 y] (by rfl) bv rfl rfl HN.out HL.out ?_
              intro A4 c4 w7 h4 hg_ hat_
              replace bp := bp.grown hg_ (own_blk_ne h2 bp (by decide)).symm
              replace bo := blk_appended bo h2 hg_ HG.out
              replace br := blk_appended br h2 hg_ HRL.out
              replace hb := below_appended hb h2 hg_ HLB.out (Nat.le_trans HLB.out HL.out)
              obtain ⟨h3', ha'⟩ := push_row (v' := .slice A4 (k + 1) c4) h3 ha.symm hg_ hat_
              replace h3 := h3'
              replace ha := ha'.symm
              clear h3' ha'
              replace HL := hide (Nat.le_trans HL.out hg_.size)
              clear h2 hg_ hat_ bv
              refine hK.out _ _ (by exact ⟨⟨bo.cell 1, bo.cell 2⟩, cellsP bp⟩) (fun hHeld => ?_)
              clear hK K
              try simp only [Act.put, List.setIfInBounds_toArray, List.set_cons_zero, List.set_cons_succ]
              have zo := fun i => bo.frozen i
              refine wpAnyZ_ready (rs := [13]) (by kernel_rfl) (by simp) ?_
              refine AllReadyZ.last (opAt rfl) (by kernel_rfl) (fun K hK => ?_) ?_
              · skip
                go_simp
                refine hK.out _ _ ?_
                clear hK K
                try simp only [Act.put, List.setIfInBounds_toArray, List.set_cons_zero, List.set_cons_succ]
                refine wpAnyZ_ready (rs := [14]) (by kernel_rfl) (by simp) ?_
                refine AllReadyZ.last (opAt rfl) (by kernel_rfl) (fun K hK => ?_) ?_
                · skip
                  go_simp
                  refine hK.out _ _ ?_
                  clear hK K
                  try simp only [Act.put, List.setIfInBounds_toArray, List.set_cons_zero, List.set_cons_succ]
                  refine wpAnyZ_ready (rs := [15]) (by kernel_rfl) (by simp) ?_
                  refine AllReadyZ.last (opAt rfl) (by kernel_rfl) (fun K hK => ?_) ?_
                  · skip
                    go_simp
                    refine hK.out _ _ ?_
                    clear hK K
                    try simp only [Act.put, List.setIfInBounds_toArray, List.set_cons_zero, List.set_cons_succ]
                    refine wpAnyZ_done (by kernel_rfl) ?_ _
                    replace bo := (bo.setK (.slice A3 (k + 1) c3)).setV (.slice A4 (k + 1) c4)
                    replace br := (br.far (p := ⟨g, 1, none⟩) HRG.out (.slice A3 (k + 1) c3)).far (p := ⟨g, 2, none⟩) HRG.out (.slice A4 (k + 1) c4)
                    replace h3 := own_setCell_far (own_setCell_far h3 (p := ⟨g, 1, none⟩) HG.out (.slice A3 (k + 1) c3)) (p := ⟨g, 2, none⟩) HG.out (.slice A4 (k + 1) c4)
                    replace h4 := own_setCell_far (own_setCell_far h4 (p := ⟨g, 1, none⟩) HG.out (.slice A3 (k + 1) c3)) (p := ⟨g, 2, none⟩) HG.out (.slice A4 (k + 1) c4)
                    replace hb := (hb.setCell (p := ⟨g, 1, none⟩) HGB.out (.slice A3 (k + 1) c3)).setCell (p := ⟨g, 2, none⟩) HGB.out (.slice A4 (k + 1) c4)
                    replace HL := hide (show lo ≤ ((w7.setCell ⟨g, 1, none⟩ (.slice A3 (k + 1) c3)).setCell ⟨g, 2, none⟩ (.slice A4 (k + 1) c4)).heap.size by rw [size_set, size_set]; exact HL.out)
                    generalize (w7.setCell ⟨g, 1, none⟩ (.slice A3 (k + 1) c3)).setCell ⟨g, 2, none⟩ (.slice A4 (k + 1) c4) = w9 at *
                    clear zo bp
                    go_wp2_with fail
                    go_roundw
                    case measure => simp [intOf]; omega
                    case rel => exact ⟨⟨k + 1, A3, c3, A4, c4, by go_num, by omega, bo, by rw [HX.out, ints_append]; exact h3, by rw [HY.out, ints_append]; exact h4, ha, HL.out, hb⟩, br⟩
                  exact AllReadyZ.nil
                exact AllReadyZ.nil
              exact AllReadyZ.nil
            exact AllReadyZ.nil
          exact AllReadyZ.nil
        exact AllReadyZ.nil
      refine AllReadyZ.cons (opAt rfl) (fun K hK => ?_) ?_
      · skip
        go_simp
        replace bo := bo.alloc (.cells #[.int .u64 y] 22)
        replace bp := bp.alloc (.cells #[.int .u64 y] 22)
        replace br := br.alloc (.cells #[.int .u64 y] 22)
        have HBL := hide (own_old h1 (Nat.le_refl wb.heap.size))
        replace h1 := h1.alloc (.cells #[.int .u64 y] 22)
        replace h2 := h2.alloc (.cells #[.int .u64 y] 22)
        replace hb := hb.alloc hb.size (.cells #[.int .u64 y] 22)
        have bv := Blk.new wb 22 #[.int .u64 y]
        replace HL := hide (Nat.le_trans HL.out (show wb.heap.size ≤ (wb.alloc (.cells #[.int .u64 y] 22)).heap.size by rw [World.size_alloc]; exact Nat.le_succ _))
        generalize wb.alloc (.cells #[.int .u64 y] 22) = w3 at *
        refine hK.out _ _ (by exact ⟨⟨bo.cell 1, bo.cell 2⟩, cellsP bp⟩) (fun hHeld => ?_)
        clear hK K
        try simp only [Act.put, List.setIfInBounds_toArray, List.set_cons_zero, List.set_cons_succ]
        refine wpAnyZ_ready (rs := [4]) (by kernel_rfl) (by simp) ?_
        refine AllReadyZ.cons (opAt rfl) (fun K hK => ?_) ?_
        · skip
          go_simp
          replace bo := bo.alloc (.cells #[.int .u64 x] 22)
          replace bp := bp.alloc (.cells #[.int .u64 x] 22)
          replace br := br.alloc (.cells #[.int .u64 x] 22)
          replace bv := bv.alloc (.cells #[.int .u64 x] 22)
          replace h1 := h1.alloc (.cells #[.int .u64 x] 22)
          replace h2 := h2.alloc (.cells #[.int .u64 x] 22)
          replace hb := hb.alloc hb.size (.cells #[.int .u64 x] 22)
          have bk := Blk.new w3 22 #[.int .u64 x]
          replace HL := hide (Nat.le_trans HL.out (show w3.heap.size ≤ (w3.alloc (.cells #[.int .u64 x] 22)).heap.size by rw [World.size_alloc]; exact Nat.le_succ _))
          generalize w3.alloc (.cells #[.int .u64 x] 22) = w4 at *
          refine hK.out _ _ (by exact ⟨⟨bo.cell 1, bo.cell 2⟩, cellsP bp⟩) (fun hHeld => ?_)
          clear hK K
          try simp only [Act.put, List.setIfInBounds_toArray, List.set_cons_zero, List.set_cons_succ]
          refine wpAnyZ_ready (rs := [5]) (by kernel_rfl) (by simp) ?_
          refine AllReadyZ.cons (opAt rfl) (fun K hK => ?_) ?_
          · skip
            refine step_append_one (by rfl) (.tmp 17) (.tmp 20) _ (by rfl) lo 22 i0 _ 1 8 Try.underlying25 hi0 hz0 hs0 hb0 rfl (by decide) (by decide) _ k _ (by rfl) h1 _ #[.int .u64 x] (by rfl) bk rfl rfl HN.out HL.out ?_
            intro A3 c3 w5 h3 hg_ hat_
            replace bp := bp.grown hg_ (own_blk_ne h1 bp (by decide)).symm
            replace bo := blk_appended bo h1 hg_ HG.out
            replace br := blk_appended br h1 hg_ HRL.out
            replace hb := below_appended hb h1 hg_ HLB.out (Nat.le_trans HLB.out HL.out)
            obtain ⟨h2', ha'⟩ := push_row (v' := .slice A3 (k + 1) c3) h2 ha hg_ hat_
            replace h2 := h2'
            replace ha := ha'
            clear h2' ha'
            replace bv := bv.grown hg_ HBL.out
            replace HL := hide (Nat.le_trans HL.out hg_.size)
            clear h1 hg_ hat_ bk
            refine hK.out _ _ (by exact ⟨⟨bo.cell 1, bo.cell 2⟩, cellsP bp⟩) (fun hHeld => ?_)
            clear hK K
            try simp only [Act.put, List.setIfInBounds_toArray, List.set_cons_zero, List.set_cons_succ]
            refine' wpAnyZ_takeA (i := 12) (v := ?_) (opAt rfl) (by kernel_rfl) (by kernel_rfl) (by kernel_rfl) (by kernel_rfl) (fun _ _ _ h => h) (by assumption) (by rfl) (fun w hSw => ?_) ?_
            rotate_left
            · (try dsimp only at hSw); go_simp; (try with_reducible rfl)
            try simp only [Act.put, List.setIfInBounds_toArray, List.set_cons_zero, List.set_cons_succ]
            refine wpAnyZ_ready (rs := [11]) (by kernel_rfl) (by simp) ?_
            refine AllReadyZ.cons (opAt rfl) (fun K hK => ?_) ?_
            · skip
              refine step_append_one (by rfl) (.tmp 23) (.tmp 26) _ (by rfl) lo 22 i0 _ 1 8 Try.underlying25 hi0 hz0 hs0 hb0 rfl (by decide) (by decide) _ k _ (by rfl) h2 _ #[.int .u64 y] (by rfl) bv rfl rfl HN.out HL.out ?_
              intro A4 c4 w7 h4 hg_ hat_
              replace bp := bp.grown hg_ (own_blk_ne h2 bp (by decide)).symm
              replace bo := blk_appended bo h2 hg_ HG.out
              replace br := blk_appended br h2 hg_ HRL.out
              replace hb := below_appended hb h2 hg_ HLB.out (Nat.le_trans HLB.out HL.out)
              obtain ⟨h3', ha'⟩ := push_row (v' := .slice A4 (k + 1) c4) h3 ha.symm hg_ hat_
              replace h3 := h3'
              replace ha := ha'.symm
              clear h3' ha'
              replace HL := hide (Nat.le_trans HL.out hg_.size)
              clear h2 hg_ hat_ bv
              refine hK.out _ _ (by exact ⟨⟨bo.cell 1, bo.cell 2⟩, cellsP bp⟩) (fun hHeld => ?_)
              clear hK K
              try simp only [Act.put, List.setIfInBounds_toArray, List.set_cons_zero, List.set_cons_succ]
              have zo := fun i => bo.frozen i
              refine wpAnyZ_ready (rs := [13]) (by kernel_rfl) (by simp) ?_
              refine AllReadyZ.last (opAt rfl) (by kernel_rfl) (fun K hK => ?_) ?_
              · skip
                go_simp
                refine hK.out _ _ ?_
                clear hK K
                try simp only [Act.put, List.setIfInBounds_toArray, List.set_cons_zero, List.set_cons_succ]
                refine wpAnyZ_ready (rs := [14]) (by kernel_rfl) (by simp) ?_
                refine AllReadyZ.last (opAt rfl) (by kernel_rfl) (fun K hK => ?_) ?_
                · skip
                  go_simp
                  refine hK.out _ _ ?_
                  clear hK K
                  try simp only [Act.put, List.setIfInBounds_toArray, List.set_cons_zero, List.set_cons_succ]
                  refine wpAnyZ_ready (rs := [15]) (by kernel_rfl) (by simp) ?_
                  refine AllReadyZ.last (opAt rfl) (by kernel_rfl) (fun K hK => ?_) ?_
                  · skip
                    go_simp
                    refine hK.out _ _ ?_
                    clear hK K
                    try simp only [Act.put, List.setIfInBounds_toArray, List.set_cons_zero, List.set_cons_succ]
                    refine wpAnyZ_done (by kernel_rfl) ?_ _
                    replace bo := (bo.setK (.slice A3 (k + 1) c3)).setV (.slice A4 (k + 1) c4)
                    replace br := (br.far (p := ⟨g, 1, none⟩) HRG.out (.slice A3 (k + 1) c3)).far (p := ⟨g, 2, none⟩) HRG.out (.slice A4 (k + 1) c4)
                    replace h3 := own_setCell_far (own_setCell_far h3 (p := ⟨g, 1, none⟩) HG.out (.slice A3 (k + 1) c3)) (p := ⟨g, 2, none⟩) HG.out (.slice A4 (k + 1) c4)
                    replace h4 := own_setCell_far (own_setCell_far h4 (p := ⟨g, 1, none⟩) HG.out (.slice A3 (k + 1) c3)) (p := ⟨g, 2, none⟩) HG.out (.slice A4 (k + 1) c4)
                    replace hb := (hb.setCell (p := ⟨g, 1, none⟩) HGB.out (.slice A3 (k + 1) c3)).setCell (p := ⟨g, 2, none⟩) HGB.out (.slice A4 (k + 1) c4)
                    replace HL := hide (show lo ≤ ((w7.setCell ⟨g, 1, none⟩ (.slice A3 (k + 1) c3)).setCell ⟨g, 2, none⟩ (.slice A4 (k + 1) c4)).heap.size by rw [size_set, size_set]; exact HL.out)
                    generalize (w7.setCell ⟨g, 1, none⟩ (.slice A3 (k + 1) c3)).setCell ⟨g, 2, none⟩ (.slice A4 (k + 1) c4) = w9 at *
                    clear zo bp
                    go_wp2_with fail
                    go_roundw
                    case measure => simp [intOf]; omega
                    case rel => exact ⟨⟨k + 1, A3, c3, A4, c4, by go_num, by omega, bo, by rw [HX.out, ints_append]; exact h3, by rw [HY.out, ints_append]; exact h4, ha, HL.out, hb⟩, br⟩
                  exact AllReadyZ.nil
                exact AllReadyZ.nil
              exact AllReadyZ.nil
            exact AllReadyZ.nil
          exact AllReadyZ.nil
        exact AllReadyZ.nil
      exact AllReadyZ.nil
    · have hlen := HLN.out
      obtain rfl : k = n := by omega
      have hkk : ¬ (k : Int) < (k : Int) := by omega
      rw [List.take_of_length_le (by omega)] at h1 h2
      have hf : (fstL l).length = k := by rw [fstL_len]; exact hlen
      have hs : (sndL l).length = k := by rw [sndL_len]; exact hlen
      have HN0 := hide (show NdO wr lo (.agg #[.bool false, .slice A1 k c1, .slice A2 k c2, .int .u64 link]) false (fstL l) (sndL l) link from ⟨_, _, rfl, by unfold Own; rw [hf]; exact h1, by unfold Own; rw [hs]; exact h2⟩)
      have Rt := hide (fun w2 (hB : Below wr.heap.size wr w2) => right_any (.agg #[.bool false, .slice A1 k c1, .slice A2 k c2, .int .u64 link]) false (fstL l) (sndL l) link w2 (by omega) ((HN0.out.nd.below hB).more hB.size))
      rw [right_pairs] at Rt
      clear h1 h2 ha hlen hf hs hlt hk
      have mo := fun i => bo.cell i
      have lo_ := bo.lt
      cases hri : riseB (fstL l) with
      | true =>
        rw [hri] at Rt
        go_wp2_with fail
        refine (Rt.out _ (Below.refl _ _)).mono ?_
        rintro e w8 ⟨rfl, hb8⟩
        replace bo := bo.below hb8 bo.lt
        replace br := br.below hb8 br.lt
        have N8 := HN0.out.below hb8
        replace hb := hb.trans (hb8.mono hb.size)
        clear hb8 mo lo_ Rt
        have mo := fun i => bo.cell i
        have zr := fun i => br.frozen i
        have mr := fun i => br.cell i
        have lr := br.lt
        go_wp2_with fail
        have b9 := br.setN (.bool false) (.slice A1 k c1) (.slice A2 k c2) (.int .u64 link)
        have B9 := below_setN hb (g := w.heap.size) (Nat.le_refl _) (.bool false) (.slice A1 k c1) (.slice A2 k c2) (.int .u64 link)
        have N9 := (N8.farN HRL.out (.bool false) (.slice A1 k c1) (.slice A2 k c2) (.int .u64 link)).mono HLB.out
        have m9 := fun i => b9.cell i
        refine bodyPost_ret (v := .agg #[.bool false, .slice A1 k c1, .slice A2 k c2, .int .u64 link]) (by simp [results, Try.results11, go_sem, m9]) rfl ⟨⟨_, rfl, ?_⟩, B9⟩
        exact N9
      | false =>
        rw [hri] at Rt
        go_wp2_with fail
        refine (Rt.out _ (Below.refl _ _)).mono ?_
        rintro e w8 ⟨rfl, hb8⟩
        replace br := br.below hb8 br.lt
        replace hb := hb.trans (hb8.mono hb.size)
        clear hb8 mo lo_ Rt
        have zr := fun i => br.frozen i
        have mr := fun i => br.cell i
        have lr := br.lt
        go_wp2_with fail
        all_goals
          have b9 := br.setN (.bool false) (.slice none 0 0) (.slice none 0 0) (.int .u64 0)
          have B9 := below_setN hb (g := w.heap.size) (Nat.le_refl _) (.bool false) (.slice none 0 0) (.slice none 0 0) (.int .u64 0)
          have m9 := fun i => b9.cell i
          refine bodyPost_ret (v := .agg #[.bool false, .slice none 0 0, .slice none 0 0, .int .u64 0]) (by simp [results, Try.results11, go_sem, m9]) rfl ⟨⟨_, rfl, ?_⟩, B9⟩
          exact ⟨_, _, rfl, Own.nil _ _, Own.nil _ _⟩
end Go.Proofs.Ytogpdgogcjljfaa
