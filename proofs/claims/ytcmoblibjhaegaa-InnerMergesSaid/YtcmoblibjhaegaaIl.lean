/-
  The Go function InnerOf.
-/
import Derived.Test.YtcmoblibjhaegaaIk
namespace Go.Proofs.Ytcmoblibjhaegaa
open Go.RowKit

theorem same_yes (b : Bool) (ks vs : List Int) (l : Int) : sameB b ks vs l b ks vs l = true := by simp [sameB]
def LofIn (g lo : Nat) (first : Int) (l : List (Int × Int)) (w : World) (i : Value) (wr : World) : Prop :=
  ∃ (k m : Nat) (A1 : Option Addr) (c1 : Nat) (A2 : Option Addr) (c2 : Nat), m = k + 1 ∧ i = .int .i64 k ∧ k ≤ l.length ∧ Blk wr g 27 #[.bool true, .slice A1 k c1, .slice A2 m c2, .int .u64 0] ∧ wr.ownsRow lo 22 1 (.slice A1 k c1) k (ints .u64 (fstL (l.take k))) ∧ wr.ownsRow lo 22 1 (.slice A2 m c2) m (ints .u64 (first :: sndL (l.take k))) ∧ Apart (.slice A1 k c1) (.slice A2 m c2) ∧ lo ≤ wr.heap.size ∧ Below w.heap.size w wr

set_option maxRecDepth 100000 in
set_option maxHeartbeats 4000000 in
theorem InnerOf_small (first : Int) (A : Option Addr) (n c : Nat) (l : List (Int × Int)) (w : World) (hn : n ≤ 60) (hr : Reads w w.heap.size 2 A n (rec2 l)) :
    Calls Try.prog 3 #[.int .u64 first, .slice A n c] w fun e w' => e = .returned (.bool true) ∧ Below w.heap.size w w' := by
  obtain ⟨i0, hi0, hz0, hs0, hb0⟩ := info_parts infoU
  have hln := hr.lenPair
  have HR := hide hr
  have HLN := hide hln
  have HF := hide (show (fstL l).length ≤ 1000000 by rw [fstL_len]; omega)
  have HS := hide (show (first :: sndL l).length ≤ 1000000 by rw [List.length_cons, sndL_len]; omega)
  have Of1 := hide (fun w2 (hB : Below w.heap.size w w2) => iof_any first A n c l w2 (by omega) ((hr.below hB).more hB.size))
  clear hr hln
  have hb := ((Below.refl w.heap.size w).alloc (Nat.le_refl _) (.cells #[.int .u64 first] 22)).alloc (by simp only [World.size_alloc]; omega) (.cells #[.bool true, .slice none 0 0, .slice (some ⟨w.heap.size, 0, none⟩) 1 1, .int .u64 0] 27)
  have h2 := (World.ownsRow_lit (e := 22) (base := w.heap.size) (size := 1) w #[.int .u64 first] 1 (Nat.le_refl _) (by decide) rfl).alloc (.cells #[.bool true, .slice none 0 0, .slice (some ⟨w.heap.size, 0, none⟩) 1 1, .int .u64 0] 27)
  have bo := Blk.new (w.alloc (.cells #[.int .u64 first] 22)) 27 #[.bool true, .slice none 0 0, .slice (some ⟨w.heap.size, 0, none⟩) 1 1, .int .u64 0]
  rw [World.size_alloc] at bo
  have hN60 : ¬ (60 : Int) < n := by omega
  go_enter Try.func3, Try.ntmps3
  go_wp2_with fail
  generalize (w.alloc (.cells #[.int .u64 first] 22)).alloc (.cells #[.bool true, .slice none 0 0, .slice (some ⟨w.heap.size, 0, none⟩) 1 1, .int .u64 0] 27) = w2 at *
  obtain ⟨g, hg⟩ : ∃ g, g = w.heap.size + 1 := ⟨_, rfl⟩
  obtain ⟨lo, hlo⟩ : ∃ lo, lo = w.heap.size := ⟨_, rfl⟩
  have HGB := hide (show w.heap.size ≤ g by omega)
  have HLB := hide (show w.heap.size ≤ lo by omega)
  have HL := hide (show lo ≤ w2.heap.size by have := bo.lt; omega)
  rw [← hg]
  rw [← hg] at bo
  have hone : (Value.slice (some ⟨w.heap.size, 0, none⟩) 1 1) = .slice (some ⟨lo, 0, none⟩) 1 1 := by rw [hlo]
  rw [hone] at bo h2
  rw [hone]
  clear hone
  rw [← hlo] at h2
  clear hg hlo
  go_loopw [6] (LofIn g lo first l w) (fun i _ => n - (intOf i).toNat)
  case atStart => exact ⟨0, 1, none, 0, _, 1, rfl, rfl, by omega, bo, World.ownsRow_nil _ _ _ _, h2, Apart.nil _, HL.out, hb⟩
  case round =>
    clear bo h2 hb HL
    obtain ⟨k, m, A1, c1, A2, c2, hmk, rfl, hk, bo, h1, h2, ha, hL, hb⟩ := hrel
    have HMK := hide hmk
    have HL := hide hL
    by_cases hlt : k < n
    · obtain ⟨a, rfl, hkl, z1, z2⟩ := (HR.out.below hb).pair hlt
      have HX := hide (fstL_take l k hkl)
      have HY := hide (sndL_take l k hkl)
      have ZX := hide (show ∀ w2, Below w.heap.size w w2 → w2.cell? (a.add (k * 2)) = some (.int .u64 (l[k]).1) from fun w2 hB => by
        obtain ⟨a', ea, _, zz, _⟩ := (HR.out.below hB).pair hlt
        injection ea with ea
        subst ea
        exact zz)
      have ZY := hide (show ∀ w2, Below w.heap.size w w2 → w2.cell? ⟨(a.add (k * 2)).block, (a.add (k * 2)).off + 1, none⟩ = some (.int .u64 (l[k]).2) from fun w2 hB => by
        obtain ⟨a', ea, _, _, zz⟩ := (HR.out.below hB).pair hlt
        injection ea with ea
        subst ea
        exact zz)
      generalize (l[k]).1 = x at *
      generalize (l[k]).2 = y at *
      have hkz : (k : Int) < (n : Int) := by omega
      have HK1 := hide (show k + 1 ≤ l.length by have := HLN.out; omega)
      have HN := hide (show k ≤ 4294967296 by omega)
      have HM := hide (show m ≤ 4294967296 by omega)
      clear hL z1 z2 hkl hmk
      go_wp2_with fail
      replace bo := bo.drew
      replace h1 := h1.drew
      replace h2 := h2.drew
      replace hb := hb.drew
      refine wp_region_heldZ [10] (fun w' => w'.cell? ⟨g, 1, none⟩ = some (.slice A1 k c1) ∧ w'.cell? (a.add (k * 2)) = some (.int .u64 x)) (by kernel_rfl) (by exact ⟨bo.cell 1, ZX.out _ hb⟩) (fun hHeld => ?_)
      replace HL := hide (show lo ≤ wr.drew.heap.size from HL.out)
      generalize wr.drew = wb at *
      refine' wpAnyZ_takeA (i := 0) (v := ?_) (opAt rfl) (by kernel_rfl) (by kernel_rfl) (by kernel_rfl) (by kernel_rfl) (fun _ _ _ h => h) (by assumption) (by rfl) (fun w hSw => ?_) ?_
      rotate_left
      · (try dsimp only at hSw); go_simp; (try with_reducible rfl)
      try simp only [Act.put, List.setIfInBounds_toArray, List.set_cons_zero, List.set_cons_succ]
      refine' wpAnyZ_takeA (i := 1) (v := ?_) (opAt rfl) (by kernel_rfl) (by kernel_rfl) (by kernel_rfl) (by kernel_rfl) (fun _ _ _ h => h) (by assumption) (by rfl) (fun w hSw => ?_) ?_
      rotate_left
      · (try dsimp only at hSw); go_simp; (try with_reducible rfl)
      try simp only [Act.put, List.setIfInBounds_toArray, List.set_cons_zero, List.set_cons_succ]
      refine' wpAnyZ_takeA (i := 2) (v := ?_) (opAt rfl) (by kernel_rfl) (by kernel_rfl) (by kernel_rfl) (by kernel_rfl) (fun _ _ _ h => h) (by assumption) (by rfl) (fun w hSw => ?_) ?_
      rotate_left
      · (try dsimp only at hSw); go_simp; (try with_reducible rfl)
      try simp only [Act.put, List.setIfInBounds_toArray, List.set_cons_zero, List.set_cons_succ]
      refine' wpAnyZ_takeA (i := 3) (v := ?_) (opAt rfl) (by kernel_rfl) (by kernel_rfl) (by kernel_rfl) (by kernel_rfl) (fun _ _ _ h => h) (by assumption) (by rfl) (fun w hSw => ?_) ?_
      rotate_left
      · (try dsimp only at hSw); go_simp; (try with_reducible rfl)
      try simp only [Act.put, List.setIfInBounds_toArray, List.set_cons_zero, List.set_cons_succ]
      refine' wpAnyZ_takeA (i := 4) (v := ?_) (opAt rfl) (by kernel_rfl) (by kernel_rfl) (by kernel_rfl) (by kernel_rfl) (fun _ _ _ h => h) (by assumption) (by rfl) (fun w hSw => ?_) ?_
      rotate_left
      · (try dsimp only at hSw); go_simp; (try with_reducible rfl)
      try simp only [Act.put, List.setIfInBounds_toArray, List.set_cons_zero, List.set_cons_succ]
      refine' wpAnyZ_takeA (i := 5) (v := ?_) (opAt rfl) (by kernel_rfl) (by kernel_rfl) (by kernel_rfl) (by kernel_rfl) (fun _ _ _ h => h) (by assumption) (by rfl) (fun w hSw => ?_) ?_
      rotate_left
      · (try dsimp only at hSw); go_simp; (try with_reducible rfl)
      try simp only [Act.put, List.setIfInBounds_toArray, List.set_cons_zero, List.set_cons_succ]
      refine' wpAnyZ_takeA (i := 6) (v := ?_) (opAt rfl) (by kernel_rfl) (by kernel_rfl) (by kernel_rfl) (by kernel_rfl) (fun _ _ _ h => h) (by assumption) (by rfl) (fun w hSw => ?_) ?_
      rotate_left
      · (try dsimp only at hSw); go_simp; (try with_reducible rfl)
      try simp only [Act.put, List.setIfInBounds_toArray, List.set_cons_zero, List.set_cons_succ]
      refine wpAnyZ_ready (rs := [7]) (by kernel_rfl) (by simp) ?_
      refine AllReadyZ.cons (opAt rfl) (fun K hK => ?_) ?_
      · skip
        go_simp
        replace bo := bo.alloc (.cells #[.int .u64 x] 22)
        replace h1 := h1.alloc (.cells #[.int .u64 x] 22)
        replace h2 := h2.alloc (.cells #[.int .u64 x] 22)
        replace hb := hb.alloc hb.size (.cells #[.int .u64 x] 22)
        have bk := Blk.new wb 22 #[.int .u64 x]
        replace HL := hide (Nat.le_trans HL.out (show wb.heap.size ≤ (wb.alloc (.cells #[.int .u64 x] 22)).heap.size by rw [World.size_alloc]; exact Nat.le_succ _))
        generalize wb.alloc (.cells #[.int .u64 x] 22) = w3 at *
        refine hK.out _ _ (by exact ⟨bo.cell 1, ZX.out _ hb⟩) (fun hHeld => ?_)
        clear hK K
        try simp only [Act.put, List.setIfInBounds_toArray, List.set_cons_zero, List.set_cons_succ]
        refine wpAnyZ_ready (rs := [8]) (by kernel_rfl) (by simp) ?_
        refine AllReadyZ.cons (opAt rfl) (fun K hK => ?_) ?_
        · skip
          refine step_append_one (by rfl) (.tmp 21) (.tmp 27) _ (by rfl) lo 22 i0 _ 1 8 Try.underlying25 hi0 hz0 hs0 hb0 rfl (by decide) (by decide) _ k _ (by rfl) h1 _ #[.int .u64 x] (by rfl) bk rfl rfl HN.out HL.out ?_
          intro A3 c3 w7 h3 hg_ hat_
          replace bo := bo.grown hg_ (own_blk_ne h1 bo (by decide)).symm
          replace hb := below_appended hb h1 hg_ HLB.out (Nat.le_trans HLB.out HL.out)
          obtain ⟨ho', ha'⟩ := push_row (v' := .slice A3 (k + 1) c3) h2 ha hg_ hat_
          replace h2 := ho'
          replace ha := ha'
          clear ho' ha'
          replace HL := hide (Nat.le_trans HL.out hg_.size)
          clear h1 hg_ hat_ bk
          refine hK.out _ _ (by exact ⟨bo.cell 1, ZX.out _ hb⟩) (fun hHeld => ?_)
          clear hK K
          try simp only [Act.put, List.setIfInBounds_toArray, List.set_cons_zero, List.set_cons_succ]
          refine' wpAnyZ_takeA (i := 9) (v := ?_) (opAt rfl) (by kernel_rfl) (by kernel_rfl) (by kernel_rfl) (by kernel_rfl) (fun _ _ _ h => h) (by assumption) (by rfl) (fun w hSw => ?_) ?_
          rotate_left
          · (try dsimp only at hSw); go_simp; (try with_reducible rfl)
          try simp only [Act.put, List.setIfInBounds_toArray, List.set_cons_zero, List.set_cons_succ]
          refine wpAnyZ_ready (rs := [10]) (by kernel_rfl) (by simp) ?_
          refine AllReadyZ.last (opAt rfl) (by kernel_rfl) (fun K hK => ?_) ?_
          · skip
            have zo := fun i => bo.frozen i
            go_simp
            refine hK.out _ _ ?_
            clear hK K
            try simp only [Act.put, List.setIfInBounds_toArray, List.set_cons_zero, List.set_cons_succ]
            refine wpAnyZ_done (by kernel_rfl) ?_ _
            replace h3 := own_set_blk h3 bo (by decide) 1 (.slice A3 (k + 1) c3)
            replace h2 := own_set_blk h2 bo (by decide) 1 (.slice A3 (k + 1) c3)
            replace bo := bo.setK (.slice A3 (k + 1) c3)
            replace hb := hb.setCell (p := ⟨g, 1, none⟩) HGB.out (.slice A3 (k + 1) c3)
            replace HL := hide (show lo ≤ (w7.setCell ⟨g, 1, none⟩ (.slice A3 (k + 1) c3)).heap.size by rw [size_set]; exact HL.out)
            generalize w7.setCell ⟨g, 1, none⟩ (.slice A3 (k + 1) c3) = w9 at *
            clear zo
            replace ha := ha.symm
            go_wp2_with fail
            replace bo := bo.drew
            replace h2 := h2.drew
            replace h3 := h3.drew
            replace hb := hb.drew
            refine wp_region_heldZ [10] (fun w' => w'.cell? ⟨g, 2, none⟩ = some (.slice A2 m c2) ∧ w'.cell? ⟨(a.add (k * 2)).block, (a.add (k * 2)).off + 1, none⟩ = some (.int .u64 y)) (by kernel_rfl) (by exact ⟨bo.cell 2, ZY.out _ hb⟩) (fun hHeld => ?_)
            replace HL := hide (show lo ≤ w9.drew.heap.size from HL.out)
            generalize w9.drew = wb at *
            refine' wpAnyZ_takeA (i := 0) (v := ?_) (opAt rfl) (by kernel_rfl) (by kernel_rfl) (by kernel_rfl) (by kernel_rfl) (fun _ _ _ h => h) (by assumption) (by rfl) (fun w hSw => ?_) ?_
            rotate_left
            · (try dsimp only at hSw); go_simp; (try with_reducible rfl)
            try simp only [Act.put, List.setIfInBounds_toArray, List.set_cons_zero, List.set_cons_succ]
            refine' wpAnyZ_takeA (i := 1) (v := ?_) (opAt rfl) (by kernel_rfl) (by kernel_rfl) (by kernel_rfl) (by kernel_rfl) (fun _ _ _ h => h) (by assumption) (by rfl) (fun w hSw => ?_) ?_
            rotate_left
            · (try dsimp only at hSw); go_simp; (try with_reducible rfl)
            try simp only [Act.put, List.setIfInBounds_toArray, List.set_cons_zero, List.set_cons_succ]
            refine' wpAnyZ_takeA (i := 2) (v := ?_) (opAt rfl) (by kernel_rfl) (by kernel_rfl) (by kernel_rfl) (by kernel_rfl) (fun _ _ _ h => h) (by assumption) (by rfl) (fun w hSw => ?_) ?_
            rotate_left
            · (try dsimp only at hSw); go_simp; (try with_reducible rfl)
            try simp only [Act.put, List.setIfInBounds_toArray, List.set_cons_zero, List.set_cons_succ]
            refine' wpAnyZ_takeA (i := 3) (v := ?_) (opAt rfl) (by kernel_rfl) (by kernel_rfl) (by kernel_rfl) (by kernel_rfl) (fun _ _ _ h => h) (by assumption) (by rfl) (fun w hSw => ?_) ?_
            rotate_left
            · (try dsimp only at hSw); go_simp; (try with_reducible rfl)
            try simp only [Act.put, List.setIfInBounds_toArray, List.set_cons_zero, List.set_cons_succ]
            refine' wpAnyZ_takeA (i := 4) (v := ?_) (opAt rfl) (by kernel_rfl) (by kernel_rfl) (by kernel_rfl) (by kernel_rfl) (fun _ _ _ h => h) (by assumption) (by rfl) (fun w hSw => ?_) ?_
            rotate_left
            · (try dsimp only at hSw); go_simp; (try with_reducible rfl)
            try simp only [Act.put, List.setIfInBounds_toArray, List.set_cons_zero, List.set_cons_succ]
            refine' wpAnyZ_takeA (i := 5) (v := ?_) (opAt rfl) (by kernel_rfl) (by kernel_rfl) (by kernel_rfl) (by kernel_rfl) (fun _ _ _ h => h) (by assumption) (by rfl) (fun w hSw => ?_) ?_
            rotate_left
            · (try dsimp only at hSw); go_simp; (try with_reducible rfl)
            try simp only [Act.put, List.setIfInBounds_toArray, List.set_cons_zero, List.set_cons_succ]
            refine' wpAnyZ_takeA (i := 6) (v := ?_) (opAt rfl) (by kernel_rfl) (by kernel_rfl) (by kernel_rfl) (by kernel_rfl) (fun _ _ _ h => h) (by assumption) (by rfl) (fun w hSw => ?_) ?_
            rotate_left
            · (try dsimp only at hSw); go_simp; (try with_reducible rfl)
            try simp only [Act.put, List.setIfInBounds_toArray, List.set_cons_zero, List.set_cons_succ]
            refine wpAnyZ_ready (rs := [7]) (by kernel_rfl) (by simp) ?_
            refine AllReadyZ.cons (opAt rfl) (fun K hK => ?_) ?_
            · skip
              go_simp
              replace bo := bo.alloc (.cells #[.int .u64 y] 22)
              replace h2 := h2.alloc (.cells #[.int .u64 y] 22)
              replace h3 := h3.alloc (.cells #[.int .u64 y] 22)
              replace hb := hb.alloc hb.size (.cells #[.int .u64 y] 22)
              have bk := Blk.new wb 22 #[.int .u64 y]
              replace HL := hide (Nat.le_trans HL.out (show wb.heap.size ≤ (wb.alloc (.cells #[.int .u64 y] 22)).heap.size by rw [World.size_alloc]; exact Nat.le_succ _))
              generalize wb.alloc (.cells #[.int .u64 y] 22) = w3 at *
              refine hK.out _ _ (by exact ⟨bo.cell 2, ZY.out _ hb⟩) (fun hHeld => ?_)
              clear hK K
              try simp only [Act.put, List.setIfInBounds_toArray, List.set_cons_zero, List.set_cons_succ]
              refine wpAnyZ_ready (rs := [8]) (by kernel_rfl) (by simp) ?_
              refine AllReadyZ.cons (opAt rfl) (fun K hK => ?_) ?_
              · skip
                refine step_append_one (by rfl) (.tmp 31) (.tmp 37) _ (by rfl) lo 22 i0 _ 1 8 Try.underlying25 hi0 hz0 hs0 hb0 rfl (by decide) (by decide) _ m _ (by rfl) h2 _ #[.int .u64 y] (by rfl) bk rfl rfl HM.out HL.out ?_
                intro A4 c4 w7 h4 hg_ hat_
                replace bo := bo.grown hg_ (own_blk_ne h2 bo (by decide)).symm
                replace hb := below_appended hb h2 hg_ HLB.out (Nat.le_trans HLB.out HL.out)
                obtain ⟨ho', ha'⟩ := push_row (v' := .slice A4 (m + 1) c4) h3 ha hg_ hat_
                replace h3 := ho'
                replace ha := ha'
                clear ho' ha'
                replace HL := hide (Nat.le_trans HL.out hg_.size)
                clear h2 hg_ hat_ bk
                refine hK.out _ _ (by exact ⟨bo.cell 2, ZY.out _ hb⟩) (fun hHeld => ?_)
                clear hK K
                try simp only [Act.put, List.setIfInBounds_toArray, List.set_cons_zero, List.set_cons_succ]
                refine' wpAnyZ_takeA (i := 9) (v := ?_) (opAt rfl) (by kernel_rfl) (by kernel_rfl) (by kernel_rfl) (by kernel_rfl) (fun _ _ _ h => h) (by assumption) (by rfl) (fun w hSw => ?_) ?_
                rotate_left
                · (try dsimp only at hSw); go_simp; (try with_reducible rfl)
                try simp only [Act.put, List.setIfInBounds_toArray, List.set_cons_zero, List.set_cons_succ]
                refine wpAnyZ_ready (rs := [10]) (by kernel_rfl) (by simp) ?_
                refine AllReadyZ.last (opAt rfl) (by kernel_rfl) (fun K hK => ?_) ?_
                · skip
                  have zo := fun i => bo.frozen i
                  go_simp
                  refine hK.out _ _ ?_
                  clear hK K
                  try simp only [Act.put, List.setIfInBounds_toArray, List.set_cons_zero, List.set_cons_succ]
                  refine wpAnyZ_done (by kernel_rfl) ?_ _
                  replace h4 := own_set_blk h4 bo (by decide) 2 (.slice A4 (m + 1) c4)
                  replace h3 := own_set_blk h3 bo (by decide) 2 (.slice A4 (m + 1) c4)
                  replace bo := bo.setV (.slice A4 (m + 1) c4)
                  replace hb := hb.setCell (p := ⟨g, 2, none⟩) HGB.out (.slice A4 (m + 1) c4)
                  replace HL := hide (show lo ≤ (w7.setCell ⟨g, 2, none⟩ (.slice A4 (m + 1) c4)).heap.size by rw [size_set]; exact HL.out)
                  generalize w7.setCell ⟨g, 2, none⟩ (.slice A4 (m + 1) c4) = w9 at *
                  clear zo
                  go_wp2_with fail
                  go_roundw
                  case measure => (simp [intOf]; omega)
                  case rel => exact ⟨k + 1, m + 1, A3, c3, A4, c4, by rw [HMK.out], by go_num, HK1.out, bo, by rw [HX.out, ints_append]; exact h3, by rw [HY.out, ← List.cons_append, ints_append]; exact h4, ha.symm, HL.out, hb⟩
                exact AllReadyZ.nil
              exact AllReadyZ.nil
            exact AllReadyZ.nil
          exact AllReadyZ.nil
        exact AllReadyZ.nil
      exact AllReadyZ.nil
    · have hlen := HLN.out
      obtain rfl : k = n := by omega
      have hkk : ¬ (k : Int) < (k : Int) := by omega
      rw [List.take_of_length_le (by omega)] at h1 h2
      have hf : (fstL l).length = k := by rw [fstL_len]; exact hlen
      have hs : (first :: sndL l).length = m := by rw [List.length_cons, sndL_len]; omega
      have N8 : NdO wr lo (.agg #[.bool true, .slice A1 k c1, .slice A2 m c2, .int .u64 0]) true (fstL l) (first :: sndL l) 0 := ⟨_, _, rfl, by unfold Own; rw [hf]; exact h1, by unfold Own; rw [hs]; exact h2⟩
      have key : rightI true (fstL l) (first :: sndL l) = riseB (fstL l) := by
        unfold rightI
        rw [hf, hs]
        simp
        omega
      have Rt := hide (irright_any (.agg #[.bool true, .slice A1 k c1, .slice A2 m c2, .int .u64 0]) true (fstL l) (first :: sndL l) 0 wr (by omega) N8.nd)
      rw [key] at Rt
      clear h1 h2 ha hf hs hlt hk key hmk
      have mo := fun i => bo.cell i
      have lo_ := bo.lt
      cases hri : riseB (fstL l) with
      | true =>
        rw [hri] at Rt Of1
        simp only [if_true] at Of1
        clear hri
        go_wp2_with fail
        refine (Rt.out).mono ?_
        rintro e w8 ⟨rfl, hb8⟩
        replace bo := bo.below hb8 bo.lt
        replace N8 := N8.below hb8
        replace hb := hb.trans (hb8.mono hb.size)
        clear hb8 mo lo_ Rt HR hL
        go_wp2_with fail
        replace bo := bo.drew
        replace hb := hb.drew
        replace N8 := (show NdO w8.drew lo (.agg #[.bool true, .slice A1 k c1, .slice A2 m c2, .int .u64 0]) true (fstL l) (first :: sndL l) 0 from N8)
        refine wp_region_heldZ [] (fun w' => w'.cell? ⟨g, 0, none⟩ = some (.bool true) ∧ w'.cell? ⟨g, 1, none⟩ = some (.slice A1 k c1) ∧ w'.cell? ⟨g, 2, none⟩ = some (.slice A2 m c2) ∧ w'.cell? ⟨g, 3, none⟩ = some (.int .u64 0)) (by kernel_rfl) (by exact cellsN bo) (fun hHeld => ?_)
        refine' wpAnyZ_takeA (i := 0) (v := ?_) (opAt rfl) (by kernel_rfl) (by kernel_rfl) (by kernel_rfl) (by kernel_rfl) (fun _ _ _ h => h) (by assumption) (by rfl) (fun w hSw => ?_) ?_
        rotate_left
        · (try dsimp only at hSw); go_simp; (try with_reducible rfl)
        try simp only [Act.put, List.setIfInBounds_toArray, List.set_cons_zero, List.set_cons_succ]
        refine' wpAnyZ_takeA (i := 1) (v := ?_) (opAt rfl) (by kernel_rfl) (by kernel_rfl) (by kernel_rfl) (by kernel_rfl) (fun _ _ _ h => h) (by assumption) (by rfl) (fun w hSw => ?_) ?_
        rotate_left
        · (try dsimp only at hSw); go_simp; (try with_reducible rfl)
        try simp only [Act.put, List.setIfInBounds_toArray, List.set_cons_zero, List.set_cons_succ]
        refine' wpAnyZ_takeA (i := 3) (v := ?_) (opAt rfl) (by kernel_rfl) (by kernel_rfl) (by kernel_rfl) (by kernel_rfl) (fun _ _ _ h => h) (by assumption) (by rfl) (fun w hSw => ?_) ?_
        rotate_left
        · (try dsimp only at hSw); go_simp; (try with_reducible rfl)
        try simp only [Act.put, List.setIfInBounds_toArray, List.set_cons_zero, List.set_cons_succ]
        refine wpAnyZ_ready (rs := [2]) (by kernel_rfl) (by simp) ?_
        refine AllReadyZ.cons (opAt rfl) (fun K hK => ?_) ?_
        · skip
          go_simp
          refine (Of1.out _ hb).mono ?_
          rintro e wc ⟨⟨u, rfl, hu⟩, hb1⟩
          replace bo := bo.below hb1 bo.lt
          replace N8 := N8.below hb1
          replace hb := hb.trans (hb1.mono hb.size)
          clear hb1
          have hu' := hu.nd
          obtain ⟨Au, cu, Av, cv, rfl⟩ := hu.val
          clear hu
          try go_wp2_with fail
          refine hK.out _ _ (by exact cellsN bo) (fun hHeld => ?_)
          clear hK K
          try simp only [Act.put, List.setIfInBounds_toArray, List.set_cons_zero, List.set_cons_succ]
          refine wpAnyZ_ready (rs := [4]) (by kernel_rfl) (by simp) ?_
          refine AllReadyZ.cons (opAt rfl) (fun K hK => ?_) ?_
          · skip
            go_simp
            refine (same_any _ _ true true (fstL l) (first :: sndL l) (fstL l) (first :: sndL l) 0 0 _ HF.out HS.out HF.out HS.out hu' N8.nd).mono ?_
            rw [same_yes]
            rintro e wd ⟨rfl, hb1⟩
            replace bo := bo.below hb1 bo.lt
            replace hb := hb.trans (hb1.mono hb.size)
            clear hb1 hu' N8
            try go_wp2_with fail
            refine hK.out _ _ (by exact cellsN bo) (fun hHeld => ?_)
            clear hK K
            try simp only [Act.put, List.setIfInBounds_toArray, List.set_cons_zero, List.set_cons_succ]
            refine' wpAnyZ_takeA (i := 5) (v := ?_) (opAt rfl) (by kernel_rfl) (by kernel_rfl) (by kernel_rfl) (by kernel_rfl) (fun _ _ _ h => h) (by assumption) (by rfl) (fun w hSw => ?_) ?_
            rotate_left
            · (try dsimp only at hSw); go_simp; (try with_reducible rfl)
            try simp only [Act.put, List.setIfInBounds_toArray, List.set_cons_zero, List.set_cons_succ]
            refine wpAnyZ_ready (rs := [6]) (by kernel_rfl) (by simp) ?_
            refine AllReadyZ.cons (opAt rfl) (fun K hK => ?_) ?_
            · skip
              go_simp
              refine (awake13 _).mono ?_
              rintro e we ⟨rfl, hb1⟩
              replace bo := bo.below hb1 bo.lt
              replace hb := hb.trans (hb1.mono hb.size)
              clear hb1
              try go_wp2_with fail
              refine hK.out _ _ (by exact cellsN bo) (fun hHeld => ?_)
              clear hK K
              try simp only [Act.put, List.setIfInBounds_toArray, List.set_cons_zero, List.set_cons_succ]
              refine' wpAnyZ_takeA (i := 7) (v := ?_) (opAt rfl) (by kernel_rfl) (by kernel_rfl) (by kernel_rfl) (by kernel_rfl) (fun _ _ _ h => h) (by assumption) (by rfl) (fun w hSw => ?_) ?_
              rotate_left
              · (try dsimp only at hSw); go_simp; (try with_reducible rfl)
              try simp only [Act.put, List.setIfInBounds_toArray, List.set_cons_zero, List.set_cons_succ]
              refine' wpAnyZ_takeA (i := 8) (v := ?_) (opAt rfl) (by kernel_rfl) (by kernel_rfl) (by kernel_rfl) (by kernel_rfl) (fun _ _ _ h => h) (by assumption) (by rfl) (fun w hSw => ?_) ?_
              rotate_left
              · (try dsimp only at hSw); go_simp; (try with_reducible rfl)
              try simp only [Act.put, List.setIfInBounds_toArray, List.set_cons_zero, List.set_cons_succ]
              refine wpAnyZ_done (by kernel_rfl) ?_ _
              go_wp2_with fail
              go_ret
              exact ⟨rfl, hb⟩
            exact AllReadyZ.nil
          exact AllReadyZ.nil
        exact AllReadyZ.nil
      | false =>
        rw [hri] at Rt Of1
        simp only [Bool.false_eq_true, if_false] at Of1
        clear hri
        go_wp2_with fail
        refine (Rt.out).mono ?_
        rintro e w8 ⟨rfl, hb8⟩
        replace bo := bo.below hb8 bo.lt
        replace hb := hb.trans (hb8.mono hb.size)
        clear hb8 mo lo_ Rt HR hL N8
        have mo := fun i => bo.cell i
        have zo := fun i => bo.frozen i
        have lo_ := bo.lt
        go_wp2_with fail
        replace bo := bo.setN (.bool false) (.slice none 0 0) (.slice none 0 0) (.int .u64 0)
        replace hb := below_setN hb (g := g) HGB.out (.bool false) (.slice none 0 0) (.slice none 0 0) (.int .u64 0)
        clear mo zo lo_
        generalize (((w8.setCell ⟨g, 0, none⟩ (.bool false)).setCell ⟨g, 1, none⟩ (.slice none 0 0)).setCell ⟨g, 2, none⟩ (.slice none 0 0)).setCell ⟨g, 3, none⟩ (.int .u64 0) = wz at *
        replace bo := bo.drew
        replace hb := hb.drew
        have N8 : NdO wz.drew lo (.agg #[.bool false, .slice none 0 0, .slice none 0 0, .int .u64 0]) false [] [] 0 := ⟨_, _, rfl, Own.nil _ _, Own.nil _ _⟩
        refine wp_region_heldZ [] (fun w' => w'.cell? ⟨g, 0, none⟩ = some (.bool false) ∧ w'.cell? ⟨g, 1, none⟩ = some (.slice none 0 0) ∧ w'.cell? ⟨g, 2, none⟩ = some (.slice none 0 0) ∧ w'.cell? ⟨g, 3, none⟩ = some (.int .u64 0)) (by kernel_rfl) (by exact cellsN bo) (fun hHeld => ?_)
        refine' wpAnyZ_takeA (i := 0) (v := ?_) (opAt rfl) (by kernel_rfl) (by kernel_rfl) (by kernel_rfl) (by kernel_rfl) (fun _ _ _ h => h) (by assumption) (by rfl) (fun w hSw => ?_) ?_
        rotate_left
        · (try dsimp only at hSw); go_simp; (try with_reducible rfl)
        try simp only [Act.put, List.setIfInBounds_toArray, List.set_cons_zero, List.set_cons_succ]
        refine' wpAnyZ_takeA (i := 1) (v := ?_) (opAt rfl) (by kernel_rfl) (by kernel_rfl) (by kernel_rfl) (by kernel_rfl) (fun _ _ _ h => h) (by assumption) (by rfl) (fun w hSw => ?_) ?_
        rotate_left
        · (try dsimp only at hSw); go_simp; (try with_reducible rfl)
        try simp only [Act.put, List.setIfInBounds_toArray, List.set_cons_zero, List.set_cons_succ]
        refine' wpAnyZ_takeA (i := 3) (v := ?_) (opAt rfl) (by kernel_rfl) (by kernel_rfl) (by kernel_rfl) (by kernel_rfl) (fun _ _ _ h => h) (by assumption) (by rfl) (fun w hSw => ?_) ?_
        rotate_left
        · (try dsimp only at hSw); go_simp; (try with_reducible rfl)
        try simp only [Act.put, List.setIfInBounds_toArray, List.set_cons_zero, List.set_cons_succ]
        refine wpAnyZ_ready (rs := [2]) (by kernel_rfl) (by simp) ?_
        refine AllReadyZ.cons (opAt rfl) (fun K hK => ?_) ?_
        · skip
          go_simp
          refine (Of1.out _ hb).mono ?_
          rintro e wc ⟨⟨u, rfl, hu⟩, hb1⟩
          replace bo := bo.below hb1 bo.lt
          replace N8 := N8.below hb1
          replace hb := hb.trans (hb1.mono hb.size)
          clear hb1
          have hu' := hu.nd
          obtain ⟨Au, cu, Av, cv, rfl⟩ := hu.val
          clear hu
          try go_wp2_with fail
          refine hK.out _ _ (by exact cellsN bo) (fun hHeld => ?_)
          clear hK K
          try simp only [Act.put, List.setIfInBounds_toArray, List.set_cons_zero, List.set_cons_succ]
          refine wpAnyZ_ready (rs := [4]) (by kernel_rfl) (by simp) ?_
          refine AllReadyZ.cons (opAt rfl) (fun K hK => ?_) ?_
          · skip
            go_simp
            refine (same_any _ _ false false [] [] [] [] 0 0 _ (by simp) (by simp) (by simp) (by simp) hu' N8.nd).mono ?_
            rw [same_yes]
            rintro e wd ⟨rfl, hb1⟩
            replace bo := bo.below hb1 bo.lt
            replace hb := hb.trans (hb1.mono hb.size)
            clear hb1 hu' N8
            try go_wp2_with fail
            refine hK.out _ _ (by exact cellsN bo) (fun hHeld => ?_)
            clear hK K
            try simp only [Act.put, List.setIfInBounds_toArray, List.set_cons_zero, List.set_cons_succ]
            refine' wpAnyZ_takeA (i := 5) (v := ?_) (opAt rfl) (by kernel_rfl) (by kernel_rfl) (by kernel_rfl) (by kernel_rfl) (fun _ _ _ h => h) (by assumption) (by rfl) (fun w hSw => ?_) ?_
            rotate_left
            · (try dsimp only at hSw); go_simp; (try with_reducible rfl)
            try simp only [Act.put, List.setIfInBounds_toArray, List.set_cons_zero, List.set_cons_succ]
            refine wpAnyZ_ready (rs := [6]) (by kernel_rfl) (by simp) ?_
            refine AllReadyZ.cons (opAt rfl) (fun K hK => ?_) ?_
            · skip
              go_simp
              refine (awake13 _).mono ?_
              rintro e we ⟨rfl, hb1⟩
              replace bo := bo.below hb1 bo.lt
              replace hb := hb.trans (hb1.mono hb.size)
              clear hb1
              try go_wp2_with fail
              refine hK.out _ _ (by exact cellsN bo) (fun hHeld => ?_)
              clear hK K
              try simp only [Act.put, List.setIfInBounds_toArray, List.set_cons_zero, List.set_cons_succ]
              refine' wpAnyZ_takeA (i := 7) (v := ?_) (opAt rfl) (by kernel_rfl) (by kernel_rfl) (by kernel_rfl) (by kernel_rfl) (fun _ _ _ h => h) (by assumption) (by rfl) (fun w hSw => ?_) ?_
              rotate_left
              · (try dsimp only at hSw); go_simp; (try with_reducible rfl)
              try simp only [Act.put, List.setIfInBounds_toArray, List.set_cons_zero, List.set_cons_succ]
              refine' wpAnyZ_takeA (i := 8) (v := ?_) (opAt rfl) (by kernel_rfl) (by kernel_rfl) (by kernel_rfl) (by kernel_rfl) (fun _ _ _ h => h) (by assumption) (by rfl) (fun w hSw => ?_) ?_
              rotate_left
              · (try dsimp only at hSw); go_simp; (try with_reducible rfl)
              try simp only [Act.put, List.setIfInBounds_toArray, List.set_cons_zero, List.set_cons_succ]
              refine wpAnyZ_done (by kernel_rfl) ?_ _
              go_wp2_with fail
              go_ret
              exact ⟨rfl, hb⟩
            exact AllReadyZ.nil
          exact AllReadyZ.nil
        exact AllReadyZ.nil
end Go.Proofs.Ytcmoblibjhaegaa
