/-
  inner.without, inner.with.
-/
import Derived.Test.YtcmoblibjhaegaaIq
import Derived.Test.YtcmoblibjhaegaaHeldC
namespace Go.Proofs.Ytcmoblibjhaegaa
open Go.RowKit

theorem sl_pre {w : World} {B c a : Nat} {A : Option Addr} {xs : List Int} (h : Sl w B (.slice A xs.length c) xs) (ha : a ≤ xs.length) : Sl w B (.slice A a c) (xs.take a) := by
  obtain ⟨A', c', e, h1, h2, h3⟩ := h
  simp only [Value.slice.injEq] at e
  obtain ⟨rfl, _, rfl⟩ := e
  have hl : (xs.take a).length = a := by rw [List.length_take]; omega
  exact ⟨A, c, by rw [hl], by omega, h2, by rw [hl]; exact reads_prefix' h3 ha⟩
theorem sl_suf {w : World} {B c b : Nat} {A : Option Addr} {xs : List Int} (h : Sl w B (.slice A xs.length c) xs) (hb : b ≤ xs.length) : Sl w B (.slice (if c = b then A else A.map (fun x => x.add b)) (xs.length - b) (c - b)) (xs.drop b) := by
  obtain ⟨A', c', e, h1, h2, h3⟩ := h
  simp only [Value.slice.injEq] at e
  obtain ⟨rfl, _, rfl⟩ := e
  have hl : (xs.drop b).length = xs.length - b := by rw [List.length_drop]
  have h4 := h3.cut (k := b) (cap := c) hb h1
  simp only [Nat.mul_one] at h4
  refine ⟨_, _, by rw [hl], by omega, by omega, ?_⟩
  rw [hl]
  have e : (ints .u64 xs).drop b = ints .u64 (xs.drop b) := by unfold ints; rw [List.map_drop]
  rw [← e]
  exact h4
set_option maxRecDepth 100000 in
set_option maxHeartbeats 4000000 in
theorem without_any (v : Value) (xs : List Int) (a b : Nat) (w : World) (hab : a ≤ b) (hb : b ≤ xs.length) (hl : xs.length ≤ 1000) (h : Sl w w.heap.size v xs) :
    Calls Try.prog 39 #[v, .int .i64 a, .int .i64 b] w fun e w' => (∃ u, e = .returned u ∧ Own w' w.heap.size u (xs.take a ++ xs.drop b)) ∧ Below w.heap.size w w' := by
  obtain ⟨A, c, rfl, h1, h2, h3⟩ := h
  have hz : (xs.length : Int) ≤ c := by omega
  have hz1 : (a : Int) ≤ c := by omega
  have hz2 : (b : Int) ≤ xs.length := by omega
  have hz3 : (0 : Int) ≤ a := by omega
  have S0 : Sl w w.heap.size (.slice A xs.length c) xs := ⟨A, c, rfl, h1, h2, h3⟩
  have S1 := sl_pre (a := a) S0 (by omega)
  have hS2 := sl_suf (b := b) S0 hb
  have HL2 := hide (show ([(Value.slice A a c, xs.take a), (.slice none 0 0, xs.drop b)].flatMap (·.2)).length ≤ 1000000 by simp; omega)
  clear S0 h3
  generalize hn : xs.length = n at *
  go_enter Try.func39, Try.ntmps39
  go_wp2_with fail
  refine wp_region_heldZ [] (fun w' => True) (by kernel_rfl) (by trivial) (fun hHeld => ?_)
  have B0 : Below w.heap.size w w.drew := (Below.refl _ _).drew
  generalize w.drew = wb at *
  refine' wpAnyZ_takeA (i := 0) (v := ?_) (opAt rfl) (by kernel_rfl) (by kernel_rfl) (by kernel_rfl) (by kernel_rfl) (fun _ _ _ h => h) (by assumption) (by rfl) (fun w hSw => ?_) ?_
  rotate_left
  · (try dsimp only at hSw); go_simp; (try with_reducible rfl)
  try simp only [Act.put, List.setIfInBounds_toArray, List.set_cons_zero, List.set_cons_succ]
  refine' wpAnyZ_takeA (i := 1) (v := ?_) (opAt rfl) (by kernel_rfl) (by kernel_rfl) (by kernel_rfl) (by kernel_rfl) (fun _ _ _ h => h) (by assumption) (by rfl) (fun w hSw => ?_) ?_
  rotate_left
  · (try dsimp only at hSw); go_simp; (try with_reducible rfl)
  try simp only [Act.put, List.setIfInBounds_toArray, List.set_cons_zero, List.set_cons_succ]
  refine' wpAnyZ_takeA (i := 2) (v := ?_) (opAt rfl) (by kernel_rfl) (by kernel_rfl) (by kernel_rfl) (by kernel_rfl) (fun _ _ _ h => h) (by assumption) (by rfl) (fun w hSw => ?_) ?_
  rotate_left
  · (try dsimp only at hSw); go_simp; (try with_reducible rfl)
  try simp only [Act.put, List.setIfInBounds_toArray, List.set_cons_zero, List.set_cons_succ]
  refine' wpAnyZ_takeA (i := 3) (v := ?_) (opAt rfl) (by kernel_rfl) (by kernel_rfl) (by kernel_rfl) (by kernel_rfl) (fun _ _ _ h => h) (by assumption) (by rfl) (fun w hSw => ?_) ?_
  rotate_left
  · (try dsimp only at hSw); go_simp; (try with_reducible rfl)
  try simp only [Act.put, List.setIfInBounds_toArray, List.set_cons_zero, List.set_cons_succ]
  refine' wpAnyZ_takeA (i := 4) (v := ?_) (opAt rfl) (by kernel_rfl) (by kernel_rfl) (by kernel_rfl) (by kernel_rfl) (fun _ _ _ h => h) (by assumption) (by rfl) (fun w hSw => ?_) ?_
  rotate_left
  · (try dsimp only at hSw); go_simp; (try with_reducible rfl)
  try simp only [Act.put, List.setIfInBounds_toArray, List.set_cons_zero, List.set_cons_succ]
  refine' wpAnyZ_takeA (i := 5) (v := ?_) (opAt rfl) (by kernel_rfl) (by kernel_rfl) (by kernel_rfl) (by kernel_rfl) (fun _ _ _ h => h) (by assumption) (by rfl) (fun w hSw => ?_) ?_
  rotate_left
  · (try dsimp only at hSw); go_simp; (try with_reducible rfl)
  try simp only [Act.put, List.setIfInBounds_toArray, List.set_cons_zero, List.set_cons_succ]
  have S2 := hS2
  generalize (if c = b then A else Option.map (fun x => x.add b) A) = A2 at *
  have Cc := hide (concat_any [(.slice A a c, xs.take a), (.slice A2 (n - b) (c - b), xs.drop b)])
  refine wpAnyZ_ready (rs := [6]) (by kernel_rfl) (by simp) ?_
  refine AllReadyZ.cons (opAt rfl) (fun K hK => ?_) ?_
  · skip
    go_simp
    have bl := Blk.new wb 25 #[.slice A a c, .slice A2 (n - b) (c - b)]
    have B3 := B0.alloc B0.size (.cells #[.slice A a c, .slice A2 (n - b) (c - b)] 25)
    have hsz : w.heap.size ≤ (wb.alloc (.cells #[.slice A a c, .slice A2 (n - b) (c - b)] 25)).heap.size := B3.size
    have hbl : wb.heap.size + 1 ≤ (wb.alloc (.cells #[.slice A a c, .slice A2 (n - b) (c - b)] 25)).heap.size := by rw [World.size_alloc]; exact Nat.le_refl _
    generalize wb.alloc (.cells #[.slice A a c, .slice A2 (n - b) (c - b)] 25) = w3 at *
    refine hK.out _ _ (by trivial) (fun hHeld => ?_)
    clear hK K
    try simp only [Act.put, List.setIfInBounds_toArray, List.set_cons_zero, List.set_cons_succ]
    refine wpAnyZ_ready (rs := [7]) (by kernel_rfl) (by simp) ?_
    refine AllReadyZ.cons (opAt rfl) (fun K hK => ?_) ?_
    · skip
      go_simp
      refine (Cc.out _ 2 2 _ rfl (by omega) ((reads3 bl rfl).more hbl) ?_ ?_).mono ?_
      · intro p hp
        simp only [List.mem_cons, List.not_mem_nil, or_false] at hp
        rcases hp with rfl | rfl
        · exact (S1.below B3).more hsz
        · exact (S2.below B3).more hsz
      · exact HL2.out
      rintro e w4 ⟨⟨u4, rfl, r4⟩, hb4⟩
      try go_wp2_with fail
      refine hK.out _ _ (by trivial) (fun hHeld => ?_)
      clear hK K
      try simp only [Act.put, List.setIfInBounds_toArray, List.set_cons_zero, List.set_cons_succ]
      refine' wpAnyZ_takeA (i := 8) (v := ?_) (opAt rfl) (by kernel_rfl) (by kernel_rfl) (by kernel_rfl) (by kernel_rfl) (fun _ _ _ h => h) (by assumption) (by rfl) (fun w hSw => ?_) ?_
      rotate_left
      · (try dsimp only at hSw); go_simp; (try with_reducible rfl)
      try simp only [Act.put, List.setIfInBounds_toArray, List.set_cons_zero, List.set_cons_succ]
      refine wpAnyZ_done (by kernel_rfl) ?_ _
      go_wp2_with fail
      go_ret
      refine ⟨⟨_, rfl, ?_⟩, B3.trans (hb4.mono hsz)⟩
      exact (by simpa using r4.mono hsz)
    exact AllReadyZ.nil
  exact AllReadyZ.nil
set_option maxRecDepth 100000 in
set_option maxHeartbeats 4000000 in
theorem with_any (v vi : Value) (xs ins : List Int) (a : Nat) (w : World) (hb : a ≤ xs.length) (hl : xs.length ≤ 1000) (hi : ins.length ≤ 1000) (h : Sl w w.heap.size v xs) (h' : Sl w w.heap.size vi ins) :
    Calls Try.prog 37 #[v, .int .i64 a, vi] w fun e w' => (∃ u, e = .returned u ∧ Own w' w.heap.size u (xs.take a ++ ins ++ xs.drop a)) ∧ Below w.heap.size w w' := by
  obtain ⟨A, c, rfl, h1, h2, h3⟩ := h
  have hI := h'
  obtain ⟨A1, c1, rfl, _⟩ := hI
  have hz : (xs.length : Int) ≤ c := by omega
  have hz1 : (a : Int) ≤ c := by omega
  have hz2 : (a : Int) ≤ xs.length := by omega
  have hz3 : (0 : Int) ≤ a := by omega
  have S0 : Sl w w.heap.size (.slice A xs.length c) xs := ⟨A, c, rfl, h1, h2, h3⟩
  have S1 := sl_pre (a := a) S0 (by omega)
  have hS2 := sl_suf (b := a) S0 hb
  have HL2 := hide (show ([(Value.slice A a c, xs.take a), (.slice A1 ins.length c1, ins), (.slice none 0 0, xs.drop a)].flatMap (·.2)).length ≤ 1000000 by simp; omega)
  clear S0 h3
  generalize hn : xs.length = n at *
  go_enter Try.func37, Try.ntmps37
  go_wp2_with fail
  refine wp_region_heldZ [] (fun w' => True) (by kernel_rfl) (by trivial) (fun hHeld => ?_)
  have B0 : Below w.heap.size w w.drew := (Below.refl _ _).drew
  generalize w.drew = wb at *
  refine' wpAnyZ_takeA (i := 0) (v := ?_) (opAt rfl) (by kernel_rfl) (by kernel_rfl) (by kernel_rfl) (by kernel_rfl) (fun _ _ _ h => h) (by assumption) (by rfl) (fun w hSw => ?_) ?_
  rotate_left
  · (try dsimp only at hSw); go_simp; (try with_reducible rfl)
  try simp only [Act.put, List.setIfInBounds_toArray, List.set_cons_zero, List.set_cons_succ]
  refine' wpAnyZ_takeA (i := 1) (v := ?_) (opAt rfl) (by kernel_rfl) (by kernel_rfl) (by kernel_rfl) (by kernel_rfl) (fun _ _ _ h => h) (by assumption) (by rfl) (fun w hSw => ?_) ?_
  rotate_left
  · (try dsimp only at hSw); go_simp; (try with_reducible rfl)
  try simp only [Act.put, List.setIfInBounds_toArray, List.set_cons_zero, List.set_cons_succ]
  refine' wpAnyZ_takeA (i := 2) (v := ?_) (opAt rfl) (by kernel_rfl) (by kernel_rfl) (by kernel_rfl) (by kernel_rfl) (fun _ _ _ h => h) (by assumption) (by rfl) (fun w hSw => ?_) ?_
  rotate_left
  · (try dsimp only at hSw); go_simp; (try with_reducible rfl)
  try simp only [Act.put, List.setIfInBounds_toArray, List.set_cons_zero, List.set_cons_succ]
  refine' wpAnyZ_takeA (i := 3) (v := ?_) (opAt rfl) (by kernel_rfl) (by kernel_rfl) (by kernel_rfl) (by kernel_rfl) (fun _ _ _ h => h) (by assumption) (by rfl) (fun w hSw => ?_) ?_
  rotate_left
  · (try dsimp only at hSw); go_simp; (try with_reducible rfl)
  try simp only [Act.put, List.setIfInBounds_toArray, List.set_cons_zero, List.set_cons_succ]
  refine' wpAnyZ_takeA (i := 4) (v := ?_) (opAt rfl) (by kernel_rfl) (by kernel_rfl) (by kernel_rfl) (by kernel_rfl) (fun _ _ _ h => h) (by assumption) (by rfl) (fun w hSw => ?_) ?_
  rotate_left
  · (try dsimp only at hSw); go_simp; (try with_reducible rfl)
  try simp only [Act.put, List.setIfInBounds_toArray, List.set_cons_zero, List.set_cons_succ]
  refine' wpAnyZ_takeA (i := 5) (v := ?_) (opAt rfl) (by kernel_rfl) (by kernel_rfl) (by kernel_rfl) (by kernel_rfl) (fun _ _ _ h => h) (by assumption) (by rfl) (fun w hSw => ?_) ?_
  rotate_left
  · (try dsimp only at hSw); go_simp; (try with_reducible rfl)
  try simp only [Act.put, List.setIfInBounds_toArray, List.set_cons_zero, List.set_cons_succ]
  refine' wpAnyZ_takeA (i := 6) (v := ?_) (opAt rfl) (by kernel_rfl) (by kernel_rfl) (by kernel_rfl) (by kernel_rfl) (fun _ _ _ h => h) (by assumption) (by rfl) (fun w hSw => ?_) ?_
  rotate_left
  · (try dsimp only at hSw); go_simp; (try with_reducible rfl)
  try simp only [Act.put, List.setIfInBounds_toArray, List.set_cons_zero, List.set_cons_succ]
  have S2 := hS2
  generalize (if c = a then A else Option.map (fun x => x.add a) A) = A2 at *
  have Cc := hide (concat_any [(.slice A a c, xs.take a), (.slice A1 ins.length c1, ins), (.slice A2 (n - a) (c - a), xs.drop a)])
  refine wpAnyZ_ready (rs := [7]) (by kernel_rfl) (by simp) ?_
  refine AllReadyZ.cons (opAt rfl) (fun K hK => ?_) ?_
  · skip
    go_simp
    have bl := Blk.new wb 25 #[.slice A a c, .slice A1 ins.length c1, .slice A2 (n - a) (c - a)]
    have B3 := B0.alloc B0.size (.cells #[.slice A a c, .slice A1 ins.length c1, .slice A2 (n - a) (c - a)] 25)
    have hsz : w.heap.size ≤ (wb.alloc (.cells #[.slice A a c, .slice A1 ins.length c1, .slice A2 (n - a) (c - a)] 25)).heap.size := B3.size
    have hbl : wb.heap.size + 1 ≤ (wb.alloc (.cells #[.slice A a c, .slice A1 ins.length c1, .slice A2 (n - a) (c - a)] 25)).heap.size := by rw [World.size_alloc]; exact Nat.le_refl _
    generalize wb.alloc (.cells #[.slice A a c, .slice A1 ins.length c1, .slice A2 (n - a) (c - a)] 25) = w3 at *
    refine hK.out _ _ (by trivial) (fun hHeld => ?_)
    clear hK K
    try simp only [Act.put, List.setIfInBounds_toArray, List.set_cons_zero, List.set_cons_succ]
    refine wpAnyZ_ready (rs := [8]) (by kernel_rfl) (by simp) ?_
    refine AllReadyZ.cons (opAt rfl) (fun K hK => ?_) ?_
    · skip
      go_simp
      refine (Cc.out _ 3 3 _ rfl (by omega) ((reads3 bl rfl).more hbl) ?_ ?_).mono ?_
      · intro p hp
        simp only [List.mem_cons, List.not_mem_nil, or_false] at hp
        rcases hp with rfl | rfl | rfl
        · exact (S1.below B3).more hsz
        · exact (h'.below B3).more hsz
        · exact (S2.below B3).more hsz
      · exact HL2.out
      rintro e w4 ⟨⟨u4, rfl, r4⟩, hb4⟩
      try go_wp2_with fail
      refine hK.out _ _ (by trivial) (fun hHeld => ?_)
      clear hK K
      try simp only [Act.put, List.setIfInBounds_toArray, List.set_cons_zero, List.set_cons_succ]
      refine' wpAnyZ_takeA (i := 9) (v := ?_) (opAt rfl) (by kernel_rfl) (by kernel_rfl) (by kernel_rfl) (by kernel_rfl) (fun _ _ _ h => h) (by assumption) (by rfl) (fun w hSw => ?_) ?_
      rotate_left
      · (try dsimp only at hSw); go_simp; (try with_reducible rfl)
      try simp only [Act.put, List.setIfInBounds_toArray, List.set_cons_zero, List.set_cons_succ]
      refine wpAnyZ_done (by kernel_rfl) ?_ _
      go_wp2_with fail
      go_ret
      refine ⟨⟨_, rfl, ?_⟩, B3.trans (hb4.mono hsz)⟩
      exact (by simpa using r4.mono hsz)
    exact AllReadyZ.nil
  exact AllReadyZ.nil
end Go.Proofs.Ytcmoblibjhaegaa
