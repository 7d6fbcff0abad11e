/-
  The document's epoch that goes on: a thread that was evicted is written behind the others.
-/
import Derived.Test.YtglbgddjahenjaaDoorAdvR
import Derived.Test.YtglbgddjahenjaaDoorHeldZ
import Derived.Test.YtglbgddjahenjaaDoorWords
import Derived.Test.YtglbgddjahenjaaDoorLayH
import Derived.Deep.RegionHeld3
import Derived.Deep.RegionWith
namespace Go.Proofs.YtglbgddjahenjaaDoor
open Go.RowKit
attribute [local go_sem] past_cell past_cell_add

theorem infoI : (Tryd.prog.info? 3).map (fun i => (i.zero, i.size, i.bytes)) = some (some (.int .i64 0), 1, 8) := by kernel_rfl
theorem ints_one (κ : IntKind) (l : List Int) : ∀ u ∈ ints κ l, u.oneCell' = true := by
  intro u hu
  unfold ints at hu
  obtain ⟨x, _, rfl⟩ := List.mem_map.1 hu
  rfl
theorem own_put8 {w : World} {B g : Nat} {e : TypeId} {s n : Nat} {xs : List Value} {v : Value} (r : w.ownsRow B e s v n xs) (hg : g < B) (v0 v1 v2 v3 v4 v5 v6 v7 : Value) : ((((((((w.setCell ⟨g, 0, none⟩ v0).setCell ⟨g, 1, none⟩ v1).setCell ⟨g, 2, none⟩ v2).setCell ⟨g, 3, none⟩ v3).setCell ⟨g, 4, none⟩ v4).setCell ⟨g, 5, none⟩ v5).setCell ⟨g, 6, none⟩ v6).setCell ⟨g, 7, none⟩ v7).ownsRow B e s v n xs := (own_setCell_far (own_setCell_far (own_setCell_far (own_setCell_far (own_setCell_far (own_setCell_far (own_setCell_far (own_setCell_far r (p := ⟨g, 0, none⟩) hg v0) (p := ⟨g, 1, none⟩) hg v1) (p := ⟨g, 2, none⟩) hg v2) (p := ⟨g, 3, none⟩) hg v3) (p := ⟨g, 4, none⟩) hg v4) (p := ⟨g, 5, none⟩) hg v5) (p := ⟨g, 6, none⟩) hg v6) (p := ⟨g, 7, none⟩) hg v7)
set_option maxRecDepth 100000 in
set_option maxHeartbeats 2000000 in
theorem artook_4y (s t f l p own oc ep th wd jr : Int) (A : Option Addr) (n c base : Nat) (L : List Int) (w : World) (ht : 0 ≤ th ∧ th < 64) (hn : n ≤ 64) (ho : w.ownsRow base 3 1 (.slice A n c) n (ints .i64 L)) :
    Calls Tryd.prog 17 #[.agg #[.int .i64 s, .int .i64 t, .int .i64 f, .int .i64 l, .int .i64 p], .agg #[.int .i64 own, .int .i64 4, .int .i64 oc, .int .u64 ep, .int .i64 th, .int .u64 wd, .slice A n c, .int .i64 jr], .int .u64 1] w fun e w' => (∃ A' c', e = .returned (.agg #[.int .i64 own, .int .i64 (aStep t (aThr own (th + 1))), .int .i64 oc, .int .u64 ep, .int .i64 (aThr own (th + 1)), .int .u64 wd, .slice A' (n + 1) c', .int .i64 th]) ∧ w'.ownsRow w.heap.size 3 1 (.slice A' (n + 1) c') (n + 1) (ints .i64 (L ++ [th]))) ∧ Below w.heap.size w w' := by
  have C := hide (fun A n c w2 => arnext_any s t f l p own oc ep th wd th 4 (th + 1) A n c w2 ⟨by omega, by omega⟩)
  have h1 := ht.1
  have h2 := ht.2
  clear ht
  generalize aStep t (aThr own (th + 1)) = k2 at *
  generalize aThr own (th + 1) = q2 at *
  obtain ⟨A0, c0, e0, hr0⟩ := own_reads ho
  injection e0 with e0 _ e1
  subst e0 e1
  have HR := hide hr0
  clear hr0 ho
  obtain ⟨i0, hi0, hz0, hs0, hb0⟩ := info_parts infoI
  have bx := Blk.new w 23 #[.int .i64 s, .int .i64 t, .int .i64 f, .int .i64 l, .int .i64 p]
  have B0 := (Below.refl w.heap.size w).alloc (Nat.le_refl _) (.cells #[.int .i64 s, .int .i64 t, .int .i64 f, .int .i64 l, .int .i64 p] 23)
  have by_ := Blk.new (w.alloc (.cells #[.int .i64 s, .int .i64 t, .int .i64 f, .int .i64 l, .int .i64 p] 23)) 43 #[.int .i64 own, .int .i64 4, .int .i64 oc, .int .u64 ep, .int .i64 th, .int .u64 wd, .slice A n c, .int .i64 (-1)]
  replace B0 := B0.alloc B0.size (.cells #[.int .i64 own, .int .i64 4, .int .i64 oc, .int .u64 ep, .int .i64 th, .int .u64 wd, .slice A n c, .int .i64 (-1)] 43)
  replace bx := bx.alloc (.cells #[.int .i64 own, .int .i64 4, .int .i64 oc, .int .u64 ep, .int .i64 th, .int .u64 wd, .slice A n c, .int .i64 (-1)] 43)
  have bo := Blk.new ((w.alloc (.cells #[.int .i64 s, .int .i64 t, .int .i64 f, .int .i64 l, .int .i64 p] 23)).alloc (.cells #[.int .i64 own, .int .i64 4, .int .i64 oc, .int .u64 ep, .int .i64 th, .int .u64 wd, .slice A n c, .int .i64 (-1)] 43)) 43 #[.int .i64 0, .int .i64 0, .int .i64 0, .int .u64 0, .int .i64 0, .int .u64 0, .slice none 0 0, .int .i64 0]
  replace B0 := B0.alloc B0.size (.cells #[.int .i64 0, .int .i64 0, .int .i64 0, .int .u64 0, .int .i64 0, .int .u64 0, .slice none 0 0, .int .i64 0] 43)
  replace bx := bx.alloc (.cells #[.int .i64 0, .int .i64 0, .int .i64 0, .int .u64 0, .int .i64 0, .int .u64 0, .slice none 0 0, .int .i64 0] 43)
  replace by_ := by_.alloc (.cells #[.int .i64 0, .int .i64 0, .int .i64 0, .int .u64 0, .int .i64 0, .int .u64 0, .slice none 0 0, .int .i64 0] 43)
  rw [World.size_alloc] at by_ bo
  rw [World.size_alloc] at bo
  go_enter Tryd.func17, Tryd.ntmps17
  go_wp2_with fail
  generalize ((w.alloc (.cells #[.int .i64 s, .int .i64 t, .int .i64 f, .int .i64 l, .int .i64 p] 23)).alloc (.cells #[.int .i64 own, .int .i64 4, .int .i64 oc, .int .u64 ep, .int .i64 th, .int .u64 wd, .slice A n c, .int .i64 (-1)] 43)).alloc (.cells #[.int .i64 0, .int .i64 0, .int .i64 0, .int .u64 0, .int .i64 0, .int .u64 0, .slice none 0 0, .int .i64 0] 43) = w0 at *
  replace bx := bx.drew
  replace by_ := by_.drew
  replace bo := bo.drew
  replace B0 := B0.drew
  try clear mx lx
  try clear mo lo zo
  try clear my ly zy
  try have mx := fun i => bx.cell i
  try have lx := bx.lt
  try have mo := fun i => bo.cell i
  try have lo := bo.lt
  try have zo := fun i => bo.frozen i
  try have my := fun i => by_.cell i
  try have ly := by_.lt
  try have zy := fun i => by_.frozen i
  refine wp_region_heldZ [9] (fun w' => w'.cell? ⟨w.heap.size + 1, 6, none⟩ = some (.slice A n c) ∧ w'.cell? ⟨w.heap.size + 1, 4, none⟩ = some (.int .i64 th)) (by kernel_rfl) (by exact ⟨by_.cell 6, by_.cell 4⟩) (fun hHeld => ?_)
  generalize w0.drew = wb at *
  have HB := hide (Nat.le_refl wb.heap.size)
  have HL := hide B0.size
  have HX := hide bx.lt
  have HY := hide by_.lt
  have HO := hide bo.lt
  clear mx lx my ly zy mo lo zo
  have HN1 := hide (show 0 + n ≤ maxLen from Nat.le_trans (show 0 + n ≤ 64 by omega) (by decide))
  have HN2 := hide (show (0 + n) * 8 ≤ 140737488355328 by omega)
  have HN3 := hide (show 0 + n ≤ 4294967296 by omega)
  refine' wpAnyZ_take (i := 1) (v := ?_) [2, 3, 7, 8, 9] (opAt rfl) (by kernel_rfl) (by kernel_rfl) (by kernel_rfl) (by kernel_rfl) (fun _ _ _ h => h) (by assumption) (by rfl) (fun w hSw => ?_) ?_
  rotate_left
  · (try dsimp only at hSw); go_simp; (try with_reducible rfl)
  try simp only [Act.put, List.setIfInBounds_toArray, List.set_cons_zero, List.set_cons_succ]
  refine' wpAnyZ_take (i := 2) (v := ?_) [3, 7, 8, 9] (opAt rfl) (by kernel_rfl) (by kernel_rfl) (by kernel_rfl) (by kernel_rfl) (fun _ _ _ h => h) (by assumption) (by rfl) (fun w hSw => ?_) ?_
  rotate_left
  · (try dsimp only at hSw); go_simp; (try with_reducible rfl)
  try simp only [Act.put, List.setIfInBounds_toArray, List.set_cons_zero, List.set_cons_succ]
  refine' wpAnyZ_take (i := 4) (v := ?_) [5, 6, 7, 8, 9] (opAt rfl) (by kernel_rfl) (by kernel_rfl) (by kernel_rfl) (by kernel_rfl) (fun _ _ _ h => h) (by assumption) (by rfl) (fun w hSw => ?_) ?_
  rotate_left
  · (try dsimp only at hSw); go_simp; (try with_reducible rfl)
  try simp only [Act.put, List.setIfInBounds_toArray, List.set_cons_zero, List.set_cons_succ]
  refine' wpAnyZ_take (i := 5) (v := ?_) [6, 7, 8, 9] (opAt rfl) (by kernel_rfl) (by kernel_rfl) (by kernel_rfl) (by kernel_rfl) (fun _ _ _ h => h) (by assumption) (by rfl) (fun w hSw => ?_) ?_
  rotate_left
  · (try dsimp only at hSw); go_simp; (try with_reducible rfl)
  try simp only [Act.put, List.setIfInBounds_toArray, List.set_cons_zero, List.set_cons_succ]
  refine wpAnyZ_ready (rs := [0, 6]) (by kernel_rfl) (by simp) ?_
  refine AllReadyZ.cons (opAt rfl) (fun K hK => ?_) ?_
  · skip
    go_simp
    replace bx := bx.alloc (.cells #[] 3)
    replace by_ := by_.alloc (.cells #[] 3)
    replace bo := bo.alloc (.cells #[] 3)
    replace B0 := B0.alloc B0.size (.cells #[] 3)
    have hown := World.ownsRow_lit (e := 3) (size := 1) wb #[] 0 HB.out (by decide) rfl
    have HZ := hide (show wb.heap.size ≤ (wb.alloc (.cells #[] 3)).heap.size by rw [World.size_alloc]; exact Nat.le_succ_of_le HB.out)
    have HG := hide (show wb.heap.size < (wb.alloc (.cells #[] 3)).heap.size by rw [World.size_alloc]; exact Nat.lt_succ_self _)
    generalize wb.alloc (.cells #[] 3) = w2 at *
    refine hK.out _ _ (by exact ⟨by_.cell 6, by_.cell 4⟩) (fun hHeld => ?_)
    clear hK K
    try simp only [Act.put, List.setIfInBounds_toArray, List.set_cons_zero, List.set_cons_succ]
    refine wpAnyZ_ready (rs := [3, 6]) (by kernel_rfl) (by simp) ?_
    refine AllReadyZ.cons (opAt rfl) (fun K hK => ?_) ?_
    · skip
      refine step_append_any _ (by rfl) (.tmp 59) (.tmp 61) _ (by rfl) wb.heap.size 3 i0 _ 1 8 Tryd.underlying41 hi0 hz0 hs0 hb0 rfl (by decide) _ 0 _ (by rfl) hown w.heap.size A n c (ints .i64 L) (by rfl) (HR.out.below B0) (ints_one _ _) (HN1.out) (HN2.out) HZ.out ?_
      intro v3 w3 hown3 hg3 hat3
      replace B0 := below_appended B0 hown hg3 HL.out (Nat.le_trans HL.out HZ.out)
      replace bx := blk_appended bx hown hg3 HX.out
      replace by_ := blk_appended by_ hown hg3 HY.out
      replace bo := blk_appended bo hown hg3 HO.out
      replace HZ := hide (Nat.le_trans HZ.out hg3.size)
      clear hown hg3 hat3
      refine hK.out _ _ (by exact ⟨by_.cell 6, by_.cell 4⟩) (fun hHeld => ?_)
      clear hK K
      try simp only [Act.put, List.setIfInBounds_toArray, List.set_cons_zero, List.set_cons_succ]
      refine wpAnyZ_ready (rs := [6]) (by kernel_rfl) (by simp) ?_
      refine AllReadyZ.cons (opAt rfl) (fun K hK => ?_) ?_
      · skip
        go_simp
        replace bx := bx.alloc (.cells #[.int .i64 th] 3)
        replace by_ := by_.alloc (.cells #[.int .i64 th] 3)
        replace bo := bo.alloc (.cells #[.int .i64 th] 3)
        replace B0 := B0.alloc B0.size (.cells #[.int .i64 th] 3)
        replace hown3 := hown3.alloc (.cells #[.int .i64 th] 3)
        have bl := Blk.new w3 3 #[.int .i64 th]
        replace HZ := hide (show wb.heap.size ≤ (w3.alloc (.cells #[.int .i64 th] 3)).heap.size by rw [World.size_alloc]; exact Nat.le_succ_of_le HZ.out)
        generalize w3.alloc (.cells #[.int .i64 th] 3) = w5 at *
        refine hK.out _ _ (by exact ⟨by_.cell 6, by_.cell 4⟩) (fun hHeld => ?_)
        clear hK K
        try simp only [Act.put, List.setIfInBounds_toArray, List.set_cons_zero, List.set_cons_succ]
        refine wpAnyZ_ready (rs := [7]) (by kernel_rfl) (by simp) ?_
        refine AllReadyZ.cons (opAt rfl) (fun K hK => ?_) ?_
        · skip
          refine step_append_one (by rfl) (.tmp 62) (.tmp 65) _ (by rfl) wb.heap.size 3 i0 _ 1 8 Tryd.underlying41 hi0 hz0 hs0 hb0 rfl (by decide) (by decide) _ (0 + n) _ (by rfl) hown3 _ #[.int .i64 th] (by rfl) bl rfl rfl (HN3.out) HZ.out ?_
          intro A7 c7 w7 hown7 hg7 hat7
          replace B0 := below_appended B0 hown3 hg7 HL.out (Nat.le_trans HL.out HZ.out)
          replace bx := blk_appended bx hown3 hg7 HX.out
          replace by_ := blk_appended by_ hown3 hg7 HY.out
          replace bo := blk_appended bo hown3 hg7 HO.out
          clear hown3 hg7 hat7 bl
          refine hK.out _ _ (by exact ⟨by_.cell 6, by_.cell 4⟩) (fun hHeld => ?_)
          clear hK K
          try simp only [Act.put, List.setIfInBounds_toArray, List.set_cons_zero, List.set_cons_succ]
          refine' wpAnyZ_take (i := 8) (v := ?_) [9] (opAt rfl) (by kernel_rfl) (by kernel_rfl) (by kernel_rfl) (by kernel_rfl) (fun _ _ _ h => h) (by assumption) (by rfl) (fun w hSw => ?_) ?_
          rotate_left
          · (try dsimp only at hSw); go_simp; (try with_reducible rfl)
          try simp only [Act.put, List.setIfInBounds_toArray, List.set_cons_zero, List.set_cons_succ]
          refine wpAnyZ_ready (rs := [9]) (by kernel_rfl) (by simp) ?_
          refine AllReadyZ.last (opAt rfl) (by kernel_rfl) (fun K hK => ?_) ?_
          · skip
            have zy := fun i => by_.frozen i
            go_simp
            refine hK.out _ _ ?_
            clear hK K
            try simp only [Act.put, List.setIfInBounds_toArray, List.set_cons_zero, List.set_cons_succ]
            refine wpAnyZ_done (by kernel_rfl) ?_ _
            rw [Nat.zero_add] at hown7
            have h9 := (by_.set_ 6 (.slice A7 (n + 1) c7))
            simp only [List.setIfInBounds_toArray, List.set_cons_zero, List.set_cons_succ] at h9
            have x9 := bx.far (p := ⟨w.heap.size + 1, 6, none⟩) (Nat.ne_of_lt (Nat.lt_succ_self _)) (.slice A7 (n + 1) c7)
            have o9 := bo.far (p := ⟨w.heap.size + 1, 6, none⟩) (Nat.ne_of_gt (Nat.lt_succ_self _)) (.slice A7 (n + 1) c7)
            have C9 := B0.setCell (p := ⟨w.heap.size + 1, 6, none⟩) (Nat.le_succ _) (.slice A7 (n + 1) c7)
            have r9 := own_setCell_far hown7 (p := ⟨w.heap.size + 1, 6, none⟩) HY.out (.slice A7 (n + 1) c7)
            clear bx by_ bo B0 hown7 zy
            generalize w7.setCell ⟨w.heap.size + 1, 6, none⟩ (.slice A7 (n + 1) c7) = w9 at *
            have bx := x9
            have by_ := h9
            have bo := o9
            have B0 := C9
            clear x9 h9 o9 C9
            try clear mx lx
            try clear mo lo zo
            try clear my ly zy
            try have mx := fun i => bx.cell i
            try have lx := bx.lt
            try have mo := fun i => bo.cell i
            try have lo := bo.lt
            try have zo := fun i => bo.frozen i
            try have my := fun i => by_.cell i
            try have ly := by_.lt
            try have zy := fun i => by_.frozen i
            go_wp2_with fail
            have h9 := (by_.set_ 7 (.int .i64 th))
            simp only [List.setIfInBounds_toArray, List.set_cons_zero, List.set_cons_succ] at h9
            have o9 := bo.far (p := ⟨w.heap.size + 1, 7, none⟩) (Nat.ne_of_gt (Nat.lt_succ_self _)) (.int .i64 th)
            have C9 := B0.setCell (p := ⟨w.heap.size + 1, 7, none⟩) (Nat.le_succ _) (.int .i64 th)
            replace r9 := own_setCell_far r9 (p := ⟨w.heap.size + 1, 7, none⟩) HY.out (.int .i64 th)
            generalize w9.setCell ⟨w.heap.size + 1, 7, none⟩ (.int .i64 th) = wa at *
            refine (C.out _ _ _ _).mono ?_
            rintro e wc ⟨rfl, hb1⟩
            have bo := o9.below hb1 o9.lt
            have B0 := C9.trans (hb1.mono C9.size)
            replace r9 := own_below r9 hb1
            clear hb1 h9 o9 C9 mx lx my ly zy mo lo zo
            have mo := fun i => bo.cell i
            have zo := fun i => bo.frozen i
            go_wp2_with fail
            have b9 := bo.put8 (.int .i64 own) (.int .i64 k2) (.int .i64 oc) (.int .u64 ep) (.int .i64 q2) (.int .u64 wd) (.slice A7 (n + 1) c7) (.int .i64 th)
            have B9 := below_put8 B0 (g := w.heap.size + 1 + 1) (Nat.le_trans (Nat.le_succ _) (Nat.le_succ _)) (.int .i64 own) (.int .i64 k2) (.int .i64 oc) (.int .u64 ep) (.int .i64 q2) (.int .u64 wd) (.slice A7 (n + 1) c7) (.int .i64 th)
            have m9 := fun i => b9.cell i
            have r10 := own_put8 r9 HO.out (.int .i64 own) (.int .i64 k2) (.int .i64 oc) (.int .u64 ep) (.int .i64 q2) (.int .u64 wd) (.slice A7 (n + 1) c7) (.int .i64 th)
            refine bodyPost_ret (v := .agg #[.int .i64 own, .int .i64 k2, .int .i64 oc, .int .u64 ep, .int .i64 q2, .int .u64 wd, .slice A7 (n + 1) c7, .int .i64 th]) (by simp [results, Tryd.results17, go_sem, m9]) rfl ⟨⟨A7, c7, rfl, ?_⟩, B9⟩
            rw [ints_append]
            exact own_mono r10 HL.out
          exact AllReadyZ.nil
        exact AllReadyZ.nil
      exact AllReadyZ.nil
    refine AllReadyZ.cons (opAt rfl) (fun K hK => ?_) ?_
    · skip
      go_simp
      replace bx := bx.alloc (.cells #[.int .i64 th] 3)
      replace by_ := by_.alloc (.cells #[.int .i64 th] 3)
      replace bo := bo.alloc (.cells #[.int .i64 th] 3)
      replace B0 := B0.alloc B0.size (.cells #[.int .i64 th] 3)
      replace hown := hown.alloc (.cells #[.int .i64 th] 3)
      have bl := Blk.new w2 3 #[.int .i64 th]
      have HBL := hide (show some w2.heap.size ≠ (Value.slice (some ⟨wb.heap.size, 0, none⟩) 0 0).ownBlock by have := HG.out; simp only [Value.ownBlock, ne_eq, Option.some.injEq]; omega)
      replace HZ := hide (show wb.heap.size ≤ (w2.alloc (.cells #[.int .i64 th] 3)).heap.size by rw [World.size_alloc]; exact Nat.le_succ_of_le HZ.out)
      generalize w2.alloc (.cells #[.int .i64 th] 3) = w3 at *
      refine hK.out _ _ (by exact ⟨by_.cell 6, by_.cell 4⟩) (fun hHeld => ?_)
      clear hK K
      try simp only [Act.put, List.setIfInBounds_toArray, List.set_cons_zero, List.set_cons_succ]
      refine wpAnyZ_ready (rs := [3]) (by kernel_rfl) (by simp) ?_
      refine AllReadyZ.cons (opAt rfl) (fun K hK => ?_) ?_
      · skip
        refine step_append_any _ (by rfl) (.tmp 59) (.tmp 61) _ (by rfl) wb.heap.size 3 i0 _ 1 8 Tryd.underlying41 hi0 hz0 hs0 hb0 rfl (by decide) _ 0 _ (by rfl) hown w.heap.size A n c (ints .i64 L) (by rfl) (HR.out.below B0) (ints_one _ _) (HN1.out) (HN2.out) HZ.out ?_
        intro v3 w5 hown3 hg3 hat3
        replace bl := bl.grown hg3 (HBL.out)
        replace B0 := below_appended B0 hown hg3 HL.out (Nat.le_trans HL.out HZ.out)
        replace bx := blk_appended bx hown hg3 HX.out
        replace by_ := blk_appended by_ hown hg3 HY.out
        replace bo := blk_appended bo hown hg3 HO.out
        replace HZ := hide (Nat.le_trans HZ.out hg3.size)
        clear hown hg3 hat3
        refine hK.out _ _ (by exact ⟨by_.cell 6, by_.cell 4⟩) (fun hHeld => ?_)
        clear hK K
        try simp only [Act.put, List.setIfInBounds_toArray, List.set_cons_zero, List.set_cons_succ]
        refine wpAnyZ_ready (rs := [7]) (by kernel_rfl) (by simp) ?_
        refine AllReadyZ.cons (opAt rfl) (fun K hK => ?_) ?_
        · skip
          refine step_append_one (by rfl) (.tmp 62) (.tmp 65) _ (by rfl) wb.heap.size 3 i0 _ 1 8 Tryd.underlying41 hi0 hz0 hs0 hb0 rfl (by decide) (by decide) _ (0 + n) _ (by rfl) hown3 _ #[.int .i64 th] (by rfl) bl rfl rfl (HN3.out) HZ.out ?_
          intro A7 c7 w7 hown7 hg7 hat7
          replace B0 := below_appended B0 hown3 hg7 HL.out (Nat.le_trans HL.out HZ.out)
          replace bx := blk_appended bx hown3 hg7 HX.out
          replace by_ := blk_appended by_ hown3 hg7 HY.out
          replace bo := blk_appended bo hown3 hg7 HO.out
          clear hown3 hg7 hat7 bl
          refine hK.out _ _ (by exact ⟨by_.cell 6, by_.cell 4⟩) (fun hHeld => ?_)
          clear hK K
          try simp only [Act.put, List.setIfInBounds_toArray, List.set_cons_zero, List.set_cons_succ]
          refine' wpAnyZ_take (i := 8) (v := ?_) [9] (opAt rfl) (by kernel_rfl) (by kernel_rfl) (by kernel_rfl) (by kernel_rfl) (fun _ _ _ h => h) (by assumption) (by rfl) (fun w hSw => ?_) ?_
          rotate_left
          · (try dsimp only at hSw); go_simp; (try with_reducible rfl)
          try simp only [Act.put, List.setIfInBounds_toArray, List.set_cons_zero, List.set_cons_succ]
          refine wpAnyZ_ready (rs := [9]) (by kernel_rfl) (by simp) ?_
          refine AllReadyZ.last (opAt rfl) (by kernel_rfl) (fun K hK => ?_) ?_
          · skip
            have zy := fun i => by_.frozen i
            go_simp
            refine hK.out _ _ ?_
            clear hK K
            try simp only [Act.put, List.setIfInBounds_toArray, List.set_cons_zero, List.set_cons_succ]
            refine wpAnyZ_done (by kernel_rfl) ?_ _
            rw [Nat.zero_add] at hown7
            have h9 := (by_.set_ 6 (.slice A7 (n + 1) c7))
            simp only [List.setIfInBounds_toArray, List.set_cons_zero, List.set_cons_succ] at h9
            have x9 := bx.far (p := ⟨w.heap.size + 1, 6, none⟩) (Nat.ne_of_lt (Nat.lt_succ_self _)) (.slice A7 (n + 1) c7)
            have o9 := bo.far (p := ⟨w.heap.size + 1, 6, none⟩) (Nat.ne_of_gt (Nat.lt_succ_self _)) (.slice A7 (n + 1) c7)
            have C9 := B0.setCell (p := ⟨w.heap.size + 1, 6, none⟩) (Nat.le_succ _) (.slice A7 (n + 1) c7)
            have r9 := own_setCell_far hown7 (p := ⟨w.heap.size + 1, 6, none⟩) HY.out (.slice A7 (n + 1) c7)
            clear bx by_ bo B0 hown7 zy
            generalize w7.setCell ⟨w.heap.size + 1, 6, none⟩ (.slice A7 (n + 1) c7) = w9 at *
            have bx := x9
            have by_ := h9
            have bo := o9
            have B0 := C9
            clear x9 h9 o9 C9
            try clear mx lx
            try clear mo lo zo
            try clear my ly zy
            try have mx := fun i => bx.cell i
            try have lx := bx.lt
            try have mo := fun i => bo.cell i
            try have lo := bo.lt
            try have zo := fun i => bo.frozen i
            try have my := fun i => by_.cell i
            try have ly := by_.lt
            try have zy := fun i => by_.frozen i
            go_wp2_with fail
            have h9 := (by_.set_ 7 (.int .i64 th))
            simp only [List.setIfInBounds_toArray, List.set_cons_zero, List.set_cons_succ] at h9
            have o9 := bo.far (p := ⟨w.heap.size + 1, 7, none⟩) (Nat.ne_of_gt (Nat.lt_succ_self _)) (.int .i64 th)
            have C9 := B0.setCell (p := ⟨w.heap.size + 1, 7, none⟩) (Nat.le_succ _) (.int .i64 th)
            replace r9 := own_setCell_far r9 (p := ⟨w.heap.size + 1, 7, none⟩) HY.out (.int .i64 th)
            generalize w9.setCell ⟨w.heap.size + 1, 7, none⟩ (.int .i64 th) = wa at *
            refine (C.out _ _ _ _).mono ?_
            rintro e wc ⟨rfl, hb1⟩
            have bo := o9.below hb1 o9.lt
            have B0 := C9.trans (hb1.mono C9.size)
            replace r9 := own_below r9 hb1
            clear hb1 h9 o9 C9 mx lx my ly zy mo lo zo
            have mo := fun i => bo.cell i
            have zo := fun i => bo.frozen i
            go_wp2_with fail
            have b9 := bo.put8 (.int .i64 own) (.int .i64 k2) (.int .i64 oc) (.int .u64 ep) (.int .i64 q2) (.int .u64 wd) (.slice A7 (n + 1) c7) (.int .i64 th)
            have B9 := below_put8 B0 (g := w.heap.size + 1 + 1) (Nat.le_trans (Nat.le_succ _) (Nat.le_succ _)) (.int .i64 own) (.int .i64 k2) (.int .i64 oc) (.int .u64 ep) (.int .i64 q2) (.int .u64 wd) (.slice A7 (n + 1) c7) (.int .i64 th)
            have m9 := fun i => b9.cell i
            have r10 := own_put8 r9 HO.out (.int .i64 own) (.int .i64 k2) (.int .i64 oc) (.int .u64 ep) (.int .i64 q2) (.int .u64 wd) (.slice A7 (n + 1) c7) (.int .i64 th)
            refine bodyPost_ret (v := .agg #[.int .i64 own, .int .i64 k2, .int .i64 oc, .int .u64 ep, .int .i64 q2, .int .u64 wd, .slice A7 (n + 1) c7, .int .i64 th]) (by simp [results, Tryd.results17, go_sem, m9]) rfl ⟨⟨A7, c7, rfl, ?_⟩, B9⟩
            rw [ints_append]
            exact own_mono r10 HL.out
          exact AllReadyZ.nil
        exact AllReadyZ.nil
      exact AllReadyZ.nil
    exact AllReadyZ.nil
  refine AllReadyZ.cons (opAt rfl) (fun K hK => ?_) ?_
  · skip
    go_simp
    replace bx := bx.alloc (.cells #[.int .i64 th] 3)
    replace by_ := by_.alloc (.cells #[.int .i64 th] 3)
    replace bo := bo.alloc (.cells #[.int .i64 th] 3)
    replace B0 := B0.alloc B0.size (.cells #[.int .i64 th] 3)
    have bl := Blk.new wb 3 #[.int .i64 th]
    have HG1 := hide (show wb.heap.size < (wb.alloc (.cells #[.int .i64 th] 3)).heap.size by rw [World.size_alloc]; exact Nat.lt_succ_self _)
    replace HB := hide (show wb.heap.size ≤ (wb.alloc (.cells #[.int .i64 th] 3)).heap.size by rw [World.size_alloc]; exact Nat.le_succ_of_le HB.out)
    generalize wb.alloc (.cells #[.int .i64 th] 3) = w2 at *
    refine hK.out _ _ (by exact ⟨by_.cell 6, by_.cell 4⟩) (fun hHeld => ?_)
    clear hK K
    try simp only [Act.put, List.setIfInBounds_toArray, List.set_cons_zero, List.set_cons_succ]
    refine wpAnyZ_ready (rs := [0]) (by kernel_rfl) (by simp) ?_
    refine AllReadyZ.cons (opAt rfl) (fun K hK => ?_) ?_
    · skip
      go_simp
      replace bx := bx.alloc (.cells #[] 3)
      replace by_ := by_.alloc (.cells #[] 3)
      replace bo := bo.alloc (.cells #[] 3)
      replace bl := bl.alloc (.cells #[] 3)
      replace B0 := B0.alloc B0.size (.cells #[] 3)
      have hown := World.ownsRow_lit (e := 3) (size := 1) w2 #[] 0 HB.out (by decide) rfl
      have HZ := hide (show wb.heap.size ≤ (w2.alloc (.cells #[] 3)).heap.size by rw [World.size_alloc]; exact Nat.le_succ_of_le HB.out)
      have HG := hide (show w2.heap.size < (w2.alloc (.cells #[] 3)).heap.size by rw [World.size_alloc]; exact Nat.lt_succ_self _)
      have HBL := hide (show some wb.heap.size ≠ (Value.slice (some ⟨w2.heap.size, 0, none⟩) 0 0).ownBlock by have := HG1.out; simp only [Value.ownBlock, ne_eq, Option.some.injEq]; omega)
      generalize w2.alloc (.cells #[] 3) = w3 at *
      refine hK.out _ _ (by exact ⟨by_.cell 6, by_.cell 4⟩) (fun hHeld => ?_)
      clear hK K
      try simp only [Act.put, List.setIfInBounds_toArray, List.set_cons_zero, List.set_cons_succ]
      refine wpAnyZ_ready (rs := [3]) (by kernel_rfl) (by simp) ?_
      refine AllReadyZ.cons (opAt rfl) (fun K hK => ?_) ?_
      · skip
        refine step_append_any _ (by rfl) (.tmp 59) (.tmp 61) _ (by rfl) wb.heap.size 3 i0 _ 1 8 Tryd.underlying41 hi0 hz0 hs0 hb0 rfl (by decide) _ 0 _ (by rfl) hown w.heap.size A n c (ints .i64 L) (by rfl) (HR.out.below B0) (ints_one _ _) (HN1.out) (HN2.out) HZ.out ?_
        intro v3 w5 hown3 hg3 hat3
        replace bl := bl.grown hg3 (HBL.out)
        replace B0 := below_appended B0 hown hg3 HL.out (Nat.le_trans HL.out HZ.out)
        replace bx := blk_appended bx hown hg3 HX.out
        replace by_ := blk_appended by_ hown hg3 HY.out
        replace bo := blk_appended bo hown hg3 HO.out
        replace HZ := hide (Nat.le_trans HZ.out hg3.size)
        clear hown hg3 hat3
        refine hK.out _ _ (by exact ⟨by_.cell 6, by_.cell 4⟩) (fun hHeld => ?_)
        clear hK K
        try simp only [Act.put, List.setIfInBounds_toArray, List.set_cons_zero, List.set_cons_succ]
        refine wpAnyZ_ready (rs := [7]) (by kernel_rfl) (by simp) ?_
        refine AllReadyZ.cons (opAt rfl) (fun K hK => ?_) ?_
        · skip
          refine step_append_one (by rfl) (.tmp 62) (.tmp 65) _ (by rfl) wb.heap.size 3 i0 _ 1 8 Tryd.underlying41 hi0 hz0 hs0 hb0 rfl (by decide) (by decide) _ (0 + n) _ (by rfl) hown3 _ #[.int .i64 th] (by rfl) bl rfl rfl (HN3.out) HZ.out ?_
          intro A7 c7 w7 hown7 hg7 hat7
          replace B0 := below_appended B0 hown3 hg7 HL.out (Nat.le_trans HL.out HZ.out)
          replace bx := blk_appended bx hown3 hg7 HX.out
          replace by_ := blk_appended by_ hown3 hg7 HY.out
          replace bo := blk_appended bo hown3 hg7 HO.out
          clear hown3 hg7 hat7 bl
          refine hK.out _ _ (by exact ⟨by_.cell 6, by_.cell 4⟩) (fun hHeld => ?_)
          clear hK K
          try simp only [Act.put, List.setIfInBounds_toArray, List.set_cons_zero, List.set_cons_succ]
          refine' wpAnyZ_take (i := 8) (v := ?_) [9] (opAt rfl) (by kernel_rfl) (by kernel_rfl) (by kernel_rfl) (by kernel_rfl) (fun _ _ _ h => h) (by assumption) (by rfl) (fun w hSw => ?_) ?_
          rotate_left
          · (try dsimp only at hSw); go_simp; (try with_reducible rfl)
          try simp only [Act.put, List.setIfInBounds_toArray, List.set_cons_zero, List.set_cons_succ]
          refine wpAnyZ_ready (rs := [9]) (by kernel_rfl) (by simp) ?_
          refine AllReadyZ.last (opAt rfl) (by kernel_rfl) (fun K hK => ?_) ?_
          · skip
            have zy := fun i => by_.frozen i
            go_simp
            refine hK.out _ _ ?_
            clear hK K
            try simp only [Act.put, List.setIfInBounds_toArray, List.set_cons_zero, List.set_cons_succ]
            refine wpAnyZ_done (by kernel_rfl) ?_ _
            rw [Nat.zero_add] at hown7
            have h9 := (by_.set_ 6 (.slice A7 (n + 1) c7))
            simp only [List.setIfInBounds_toArray, List.set_cons_zero, List.set_cons_succ] at h9
            have x9 := bx.far (p := ⟨w.heap.size + 1, 6, none⟩) (Nat.ne_of_lt (Nat.lt_succ_self _)) (.slice A7 (n + 1) c7)
            have o9 := bo.far (p := ⟨w.heap.size + 1, 6, none⟩) (Nat.ne_of_gt (Nat.lt_succ_self _)) (.slice A7 (n + 1) c7)
            have C9 := B0.setCell (p := ⟨w.heap.size + 1, 6, none⟩) (Nat.le_succ _) (.slice A7 (n + 1) c7)
            have r9 := own_setCell_far hown7 (p := ⟨w.heap.size + 1, 6, none⟩) HY.out (.slice A7 (n + 1) c7)
            clear bx by_ bo B0 hown7 zy
            generalize w7.setCell ⟨w.heap.size + 1, 6, none⟩ (.slice A7 (n + 1) c7) = w9 at *
            have bx := x9
            have by_ := h9
            have bo := o9
            have B0 := C9
            clear x9 h9 o9 C9
            try clear mx lx
            try clear mo lo zo
            try clear my ly zy
            try have mx := fun i => bx.cell i
            try have lx := bx.lt
            try have mo := fun i => bo.cell i
            try have lo := bo.lt
            try have zo := fun i => bo.frozen i
            try have my := fun i => by_.cell i
            try have ly := by_.lt
            try have zy := fun i => by_.frozen i
            go_wp2_with fail
            have h9 := (by_.set_ 7 (.int .i64 th))
            simp only [List.setIfInBounds_toArray, List.set_cons_zero, List.set_cons_succ] at h9
            have o9 := bo.far (p := ⟨w.heap.size + 1, 7, none⟩) (Nat.ne_of_gt (Nat.lt_succ_self _)) (.int .i64 th)
            have C9 := B0.setCell (p := ⟨w.heap.size + 1, 7, none⟩) (Nat.le_succ _) (.int .i64 th)
            replace r9 := own_setCell_far r9 (p := ⟨w.heap.size + 1, 7, none⟩) HY.out (.int .i64 th)
            generalize w9.setCell ⟨w.heap.size + 1, 7, none⟩ (.int .i64 th) = wa at *
            refine (C.out _ _ _ _).mono ?_
            rintro e wc ⟨rfl, hb1⟩
            have bo := o9.below hb1 o9.lt
            have B0 := C9.trans (hb1.mono C9.size)
            replace r9 := own_below r9 hb1
            clear hb1 h9 o9 C9 mx lx my ly zy mo lo zo
            have mo := fun i => bo.cell i
            have zo := fun i => bo.frozen i
            go_wp2_with fail
            have b9 := bo.put8 (.int .i64 own) (.int .i64 k2) (.int .i64 oc) (.int .u64 ep) (.int .i64 q2) (.int .u64 wd) (.slice A7 (n + 1) c7) (.int .i64 th)
            have B9 := below_put8 B0 (g := w.heap.size + 1 + 1) (Nat.le_trans (Nat.le_succ _) (Nat.le_succ _)) (.int .i64 own) (.int .i64 k2) (.int .i64 oc) (.int .u64 ep) (.int .i64 q2) (.int .u64 wd) (.slice A7 (n + 1) c7) (.int .i64 th)
            have m9 := fun i => b9.cell i
            have r10 := own_put8 r9 HO.out (.int .i64 own) (.int .i64 k2) (.int .i64 oc) (.int .u64 ep) (.int .i64 q2) (.int .u64 wd) (.slice A7 (n + 1) c7) (.int .i64 th)
            refine bodyPost_ret (v := .agg #[.int .i64 own, .int .i64 k2, .int .i64 oc, .int .u64 ep, .int .i64 q2, .int .u64 wd, .slice A7 (n + 1) c7, .int .i64 th]) (by simp [results, Tryd.results17, go_sem, m9]) rfl ⟨⟨A7, c7, rfl, ?_⟩, B9⟩
            rw [ints_append]
            exact own_mono r10 HL.out
          exact AllReadyZ.nil
        exact AllReadyZ.nil
      exact AllReadyZ.nil
    exact AllReadyZ.nil
  exact AllReadyZ.nil
end Go.Proofs.YtglbgddjahenjaaDoor
