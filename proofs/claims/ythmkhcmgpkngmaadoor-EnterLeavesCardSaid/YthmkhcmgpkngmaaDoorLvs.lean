/-
  gleaningref17.Leaves of three; what a leaving thread's automaton answers.
-/
import Derived.Test.YthmkhcmgpkngmaaDoorLvr
import Derived.Test.YthmkhcmgpkngmaaDoorLvb
namespace Go.Proofs.YthmkhcmgpkngmaaDoor
open Go.RowKit

set_option maxRecDepth 100000 in
set_option maxHeartbeats 4000000 in
theorem rleaves_three (s t f l p th : Int) (w : World) (hc : cfgOk s t f l p = true) (hth : 0 ≤ th ∧ th < t) :
    Calls Tryd.prog 29 #[.agg #[.int .i64 s, .int .i64 t, .int .i64 f, .int .i64 l, .int .i64 p], .int .i64 th, .bool true] w fun e w' => (∃ v, e = .returned v ∧ w'.ownsRow w.heap.size 39 4 v 3 (recA [3 + th, 3 + t + 2 * th + 0, 3 + t + 2 * th + 1])) ∧ Below w.heap.size w w' := by
  obtain ⟨i0, hi0, hz0, hs0, hb0⟩ := info_parts infoA
  have hb := cfgOk_iff.1 hc
  have H := hide (fun w2 => has_yes s t f l p th w2 hc hth.1 hth.2)
  have R := hide (fun w2 => rann_any s t f l p th w2 (by omega))
  have Z0 := hide (fun w2 => rhaz_any s t f l p th 0 w2 (by omega) (by omega) (by omega))
  have Z1 := hide (fun w2 => rhaz_any s t f l p th 1 w2 (by omega) (by omega) (by omega))
  clear hc hb hth
  generalize 3 + th = q at *
  generalize 3 + t + 2 * th + 0 = q0 at *
  generalize 3 + t + 2 * th + 1 = q1 at *
  have B0 := (Below.refl w.heap.size w).alloc (Nat.le_refl _) (.cells #[.int .i64 s, .int .i64 t, .int .i64 f, .int .i64 l, .int .i64 p] 23)
  have bx := Blk.new w 23 #[.int .i64 s, .int .i64 t, .int .i64 f, .int .i64 l, .int .i64 p]
  have mx := fun i => bx.cell i
  have lx := bx.lt
  go_enter Tryd.func29, Tryd.ntmps29
  go_wp2_with fail
  refine (H.out _).mono ?_
  rintro e w1 ⟨rfl, hb1⟩
  try replace bx := bx.below hb1 bx.lt
  try replace bo := bo.below hb1 bo.lt
  try replace by_ := by_.below hb1 by_.lt
  replace B0 := B0.trans (hb1.mono B0.size)
  clear hb1
  try clear mx lx
  try clear mo lo zo
  try clear my ly zy
  try have mx := fun i => bx.cell i
  try have lx := bx.lt
  try have mo := fun i => bo.cell i
  try have lo := bo.lt
  try have zo := fun i => bo.frozen i
  try have my := fun i => by_.cell i
  try have ly := by_.lt
  try have zy := fun i => by_.frozen i
  go_wp2_with fail
  refine (R.out _).mono ?_
  rintro e w2 ⟨rfl, hb1⟩
  replace bx := bx.below hb1 bx.lt
  replace B0 := B0.trans (hb1.mono B0.size)
  clear hb1 mx lx
  have row := World.ownsRow_lit (base := w.heap.size) (e := 39) (size := 4) w2 #[.int .i64 2, .int .i64 q, .int .u64 0, .int .u64 0] 1 B0.size (by decide) rfl
  go_wp2_with fail
  replace bx := bx.alloc (.cells #[.int .i64 2, .int .i64 q, .int .u64 0, .int .u64 0] 39)
  replace B0 := B0.alloc B0.size (.cells #[.int .i64 2, .int .i64 q, .int .u64 0, .int .u64 0] 39)
  generalize w2.heap.size = g2 at *
  generalize w2.alloc (.cells #[.int .i64 2, .int .i64 q, .int .u64 0, .int .u64 0] 39) = wR at *
  refine wp_region_heldZ [] (fun w' => w'.cell? ⟨w.heap.size, 0, none⟩ = some (.int .i64 s) ∧ w'.cell? ⟨w.heap.size, 1, none⟩ = some (.int .i64 t) ∧ w'.cell? ⟨w.heap.size, 2, none⟩ = some (.int .i64 f) ∧ w'.cell? ⟨w.heap.size, 3, none⟩ = some (.int .i64 l) ∧ w'.cell? ⟨w.heap.size, 4, none⟩ = some (.int .i64 p)) (by kernel_rfl) (by exact ⟨bx.cell 0, bx.cell 1, bx.cell 2, bx.cell 3, bx.cell 4⟩) (fun hHeld => ?_)
  replace bx := bx.drew
  replace row := (show wR.drew.ownsRow _ _ _ _ _ _ from row)
  replace B0 := B0.drew
  generalize wR.drew = w1b at *
  refine' wpAnyZ_takeA (i := 0) (v := ?_) (opAt rfl) (by kernel_rfl) (by kernel_rfl) (by kernel_rfl) (by kernel_rfl) (fun _ _ _ h => h) (by assumption) (by rfl) (fun w hSw => ?_) ?_
  rotate_left
  · (try dsimp only at hSw); go_simp; (try with_reducible rfl)
  try simp only [Act.put, List.setIfInBounds_toArray, List.set_cons_zero, List.set_cons_succ]
  refine' wpAnyZ_takeA (i := 1) (v := ?_) (opAt rfl) (by kernel_rfl) (by kernel_rfl) (by kernel_rfl) (by kernel_rfl) (fun _ _ _ h => h) (by assumption) (by rfl) (fun w hSw => ?_) ?_
  rotate_left
  · (try dsimp only at hSw); go_simp; (try with_reducible rfl)
  try simp only [Act.put, List.setIfInBounds_toArray, List.set_cons_zero, List.set_cons_succ]
  refine' wpAnyZ_takeA (i := 2) (v := ?_) (opAt rfl) (by kernel_rfl) (by kernel_rfl) (by kernel_rfl) (by kernel_rfl) (fun _ _ _ h => h) (by assumption) (by rfl) (fun w hSw => ?_) ?_
  rotate_left
  · (try dsimp only at hSw); go_simp; (try with_reducible rfl)
  try simp only [Act.put, List.setIfInBounds_toArray, List.set_cons_zero, List.set_cons_succ]
  refine' wpAnyZ_takeA (i := 5) (v := ?_) (opAt rfl) (by kernel_rfl) (by kernel_rfl) (by kernel_rfl) (by kernel_rfl) (fun _ _ _ h => h) (by assumption) (by rfl) (fun w hSw => ?_) ?_
  rotate_left
  · (try dsimp only at hSw); go_simp; (try with_reducible rfl)
  try simp only [Act.put, List.setIfInBounds_toArray, List.set_cons_zero, List.set_cons_succ]
  refine' wpAnyZ_takeA (i := 6) (v := ?_) (opAt rfl) (by kernel_rfl) (by kernel_rfl) (by kernel_rfl) (by kernel_rfl) (fun _ _ _ h => h) (by assumption) (by rfl) (fun w hSw => ?_) ?_
  rotate_left
  · (try dsimp only at hSw); go_simp; (try with_reducible rfl)
  try simp only [Act.put, List.setIfInBounds_toArray, List.set_cons_zero, List.set_cons_succ]
  refine wpAnyZ_ready (rs := [3]) (by kernel_rfl) (by simp) ?_
  refine AllReadyZ.cons (opAt rfl) (fun K hK => ?_) ?_
  · skip
    go_simp
    refine (Z0.out _).mono ?_
    rintro e w2b ⟨rfl, hb1⟩
    replace bx := bx.below hb1 bx.lt
    replace row := own_below row hb1
    replace B0 := B0.trans (hb1.mono B0.size)
    clear hb1
    try go_wp2_with fail
    refine hK.out _ _ (by exact ⟨bx.cell 0, bx.cell 1, bx.cell 2, bx.cell 3, bx.cell 4⟩) (fun hHeld => ?_)
    clear hK K
    try simp only [Act.put, List.setIfInBounds_toArray, List.set_cons_zero, List.set_cons_succ]
    refine' wpAnyZ_takeA (i := 4) (v := ?_) (opAt rfl) (by kernel_rfl) (by kernel_rfl) (by kernel_rfl) (by kernel_rfl) (fun _ _ _ h => h) (by assumption) (by rfl) (fun w hSw => ?_) ?_
    rotate_left
    · (try dsimp only at hSw); go_simp; (try with_reducible rfl)
    try simp only [Act.put, List.setIfInBounds_toArray, List.set_cons_zero, List.set_cons_succ]
    refine wpAnyZ_ready (rs := [7]) (by kernel_rfl) (by simp) ?_
    refine AllReadyZ.cons (opAt rfl) (fun K hK => ?_) ?_
    · skip
      go_simp
      refine (Z1.out _).mono ?_
      rintro e w3 ⟨rfl, hb1⟩
      replace bx := bx.below hb1 bx.lt
      replace row := own_below row hb1
      replace B0 := B0.trans (hb1.mono B0.size)
      clear hb1
      try go_wp2_with fail
      refine hK.out _ _ (by exact ⟨bx.cell 0, bx.cell 1, bx.cell 2, bx.cell 3, bx.cell 4⟩) (fun hHeld => ?_)
      clear hK K
      try simp only [Act.put, List.setIfInBounds_toArray, List.set_cons_zero, List.set_cons_succ]
      refine' wpAnyZ_takeA (i := 8) (v := ?_) (opAt rfl) (by kernel_rfl) (by kernel_rfl) (by kernel_rfl) (by kernel_rfl) (fun _ _ _ h => h) (by assumption) (by rfl) (fun w hSw => ?_) ?_
      rotate_left
      · (try dsimp only at hSw); go_simp; (try with_reducible rfl)
      try simp only [Act.put, List.setIfInBounds_toArray, List.set_cons_zero, List.set_cons_succ]
      refine wpAnyZ_ready (rs := [9]) (by kernel_rfl) (by simp) ?_
      refine AllReadyZ.cons (opAt rfl) (fun K hK => ?_) ?_
      · skip
        go_simp
        have hrd := Reads.new w3 [.int .i64 2, .int .i64 q0, .int .u64 0, .int .u64 0, .int .i64 2, .int .i64 q1, .int .u64 0, .int .u64 0] 39 2 4 rfl
        replace bx := bx.alloc (.cells #[.int .i64 2, .int .i64 q0, .int .u64 0, .int .u64 0, .int .i64 2, .int .i64 q1, .int .u64 0, .int .u64 0] 39)
        replace row := row.alloc (.cells #[.int .i64 2, .int .i64 q0, .int .u64 0, .int .u64 0, .int .i64 2, .int .i64 q1, .int .u64 0, .int .u64 0] 39)
        replace B0 := B0.alloc B0.size (.cells #[.int .i64 2, .int .i64 q0, .int .u64 0, .int .u64 0, .int .i64 2, .int .i64 q1, .int .u64 0, .int .u64 0] 39)
        have hbs := B0.size
        generalize w3.heap.size = g9 at *
        generalize w3.alloc (.cells #[.int .i64 2, .int .i64 q0, .int .u64 0, .int .u64 0, .int .i64 2, .int .i64 q1, .int .u64 0, .int .u64 0] 39) = w4 at *
        refine hK.out _ _ (by exact ⟨bx.cell 0, bx.cell 1, bx.cell 2, bx.cell 3, bx.cell 4⟩) (fun hHeld => ?_)
        clear hK K
        try simp only [Act.put, List.setIfInBounds_toArray, List.set_cons_zero, List.set_cons_succ]
        refine wpAnyZ_ready (rs := [10]) (by kernel_rfl) (by simp) ?_
        refine AllReadyZ.cons (opAt rfl) (fun K hK => ?_) ?_
        · skip
          refine step_append_any _ (by rfl) (.tmp 18) (.tmp 27) _ (by rfl) w.heap.size 39 i0 _ 4 32 Tryd.underlying62 hi0 hz0 hs0 hb0 rfl (by decide) _ 1 _ (by rfl) row (g9 + 1) (some ⟨g9, 0, none⟩) 2 2 _ (by rfl) hrd (by intro u hu; simp at hu; rcases hu with rfl | rfl | rfl | rfl | rfl | rfl | rfl | rfl <;> rfl) (by decide) (by decide) hbs ?_
          intro v9 w5 row5 hg5 _
          replace bx := bx.grown hg5 (own_blk_ne row bx (by decide)).symm
          replace B0 := below_appended B0 row hg5 (Nat.le_refl _) hbs
          clear row hrd
          refine hK.out _ _ (by exact ⟨bx.cell 0, bx.cell 1, bx.cell 2, bx.cell 3, bx.cell 4⟩) (fun hHeld => ?_)
          clear hK K
          try simp only [Act.put, List.setIfInBounds_toArray, List.set_cons_zero, List.set_cons_succ]
          refine' wpAnyZ_takeA (i := 11) (v := ?_) (opAt rfl) (by kernel_rfl) (by kernel_rfl) (by kernel_rfl) (by kernel_rfl) (fun _ _ _ h => h) (by assumption) (by rfl) (fun w hSw => ?_) ?_
          rotate_left
          · (try dsimp only at hSw); go_simp; (try with_reducible rfl)
          try simp only [Act.put, List.setIfInBounds_toArray, List.set_cons_zero, List.set_cons_succ]
          refine wpAnyZ_done (by kernel_rfl) ?_ _
          go_wp2_with fail
          go_ret
          exact ⟨⟨_, rfl, row5⟩, B0⟩
        exact AllReadyZ.nil
      exact AllReadyZ.nil
    exact AllReadyZ.nil
  exact AllReadyZ.nil
def aAt (t th : Int) : Nat → Int
  | 0 => 3 + th
  | 1 => 3 + t + 2 * th + 0
  | _ => 3 + t + 2 * th + 1
theorem done_all (s t f l p th mo : Int) (j : Nat) (w : World) : Calls Tryd.prog 18 #[.agg (lvA s t f l p th (j : Int) mo)] w fun e w' => e = .returned (.bool (decide (j = 0))) ∧ Below w.heap.size w w' := by
  by_cases h : j = 0
  · subst h
    exact ldone_0 s t f l p th mo w
  · rw [show decide (j = 0) = false by rw [decide_eq_false_iff_not]; exact h]
    exact ldone_n s t f l p th mo j w (by simp; omega)
theorem spec_zero (s' t' f' l' p' th : Int) (sl : Bool) (h : ∀ w2, Calls Tryd.prog 31 #[.agg #[.int .i64 s', .int .i64 t', .int .i64 f', .int .i64 l', .int .i64 p'], .int .i64 th, .bool sl] w2 fun e w' => e = .returned (.agg #[.int .i64 0, .int .i64 0, .int .i64 0, .int .i64 0, .int .i64 0, .int .i64 0, .int .i64 0, .int .i64 0]) ∧ Below w2.heap.size w2 w') (a : Nat → Int) :
    LvSpec s' t' f' l' p' th 0 0 0 0 0 0 sl 0 a := ⟨by omega, h, fun k hk => absurd hk (by omega), fun k hk => absurd hk (by omega), done_all 0 0 0 0 0 0 _⟩
theorem spec_one (s t f l p th : Int) (hs : 1 ≤ s ∧ s ≤ 1000) (ht : 1 ≤ t ∧ t ≤ 64) (hf : 4 ≤ f ∧ f ≤ 64) (hth : 0 ≤ th ∧ th < t) :
    LvSpec s t f l p th s t f l p th false 1 (aAt t th) := by
  refine ⟨by omega, fun w2 => lvnew_f s t f l p th w2 hs ht hf hth, fun k hk w2 => ?_, fun k hk g w2 => ?_, done_all s t f l p th _⟩
  · obtain rfl : k = 0 := by omega
    exact lwant_f s t f l p th 1 w2 hs ht hf hth rfl
  · obtain rfl : k = 0 := by omega
    exact ltook_1 s t f l p th 1 g w2
theorem spec_three (s t f l p th : Int) (hs : 1 ≤ s ∧ s ≤ 1000) (ht : 1 ≤ t ∧ t ≤ 64) (hf : 4 ≤ f ∧ f ≤ 64) (hth : 0 ≤ th ∧ th < t) :
    LvSpec s t f l p th s t f l p th true 3 (aAt t th) := by
  refine ⟨by omega, fun w2 => lvnew_t s t f l p th w2 hs ht hf hth, fun k hk w2 => ?_, fun k hk g w2 => ?_, done_all s t f l p th _⟩
  · obtain rfl | rfl | rfl : k = 0 ∨ k = 1 ∨ k = 2 := by omega
    · exact lwant_f s t f l p th 3 w2 hs ht hf hth rfl
    · exact lwant_2 s t f l p th w2 hs ht hf hth
    · exact lwant_1 s t f l p th w2 hs ht hf hth
  · obtain rfl | rfl | rfl : k = 0 ∨ k = 1 ∨ k = 2 := by omega
    · exact ltook_3 s t f l p th 3 g w2
    · exact ltook_2 s t f l p th 3 g w2
    · exact ltook_1 s t f l p th 3 g w2
end Go.Proofs.YthmkhcmgpkngmaaDoor
