/-
  arena.Words: the writes by which a slot's node becomes any one.
-/
import Derived.Test.YtegldbhabeoboaaDoorW1
namespace Go.Proofs.YtegldbhabeoboaaDoor
open Go.RowKit

theorem infoWri : (Tryd.prog.info? 35).map (fun i => (i.zero, i.size, i.bytes)) = some (some (.agg #[.int .i64 0, .int .u64 0]), 2, 16) := by kernel_rfl
/-- So many words, from a place on. -/
def wrK (a0 : Int) (xs : List Int) (k : Nat) : List (Int × Int) := (List.range k).map fun (i : Nat) => (a0 + (i : Int), xs.getD i 0)
theorem wrK_succ (a0 : Int) (xs : List Int) (k : Nat) : wrK a0 xs (k + 1) = wrK a0 xs k ++ [(a0 + k, xs.getD k 0)] := by simp [wrK, List.range_succ]
theorem wrK_len (a0 : Int) (xs : List Int) (k : Nat) : (wrK a0 xs k).length = k := by simp [wrK]
theorem recW_snoc (l : List (Int × Int)) (a x : Int) : recW (l ++ [(a, x)]) = recW l ++ [.int .i64 a, .int .u64 x] := by simp [recW]
/-- The writes, in their order. -/
def wrAll (t f k : Int) (b : Bool) (ks vs : List Int) (lk : Int) : List (Int × Int) := wrK (nB t f k + 3) ks ks.length ++ wrK (nB t f k + 3 + f) vs vs.length ++ [(nB t f k + 2, lk), (nB t f k + 1, pk b vs.length)]
structure WdW (base bl bn : Nat) (s t f lm p : Int) (cn : Array Value) (w : World) (done : List (Int × Int)) (n : Nat) (A : Option Addr) (c : Nat) (wr : World) : Prop where
  ol : wr.ownsRow base 35 2 (.slice A n c) n (recW done)
  xl : Blk wr bl 66 #[.int .i64 s, .int .i64 t, .int .i64 f, .int .i64 lm, .int .i64 p]
  xn : Blk wr bn 49 cn
  hb : Below bl w wr
def WdI (base bl bn : Nat) (s t f lm p : Int) (cn : Array Value) (w : World) (pre : List (Int × Int)) (a0 : Int) (xs : List Int) (o iv : Value) (wr : World) : Prop :=
  ∃ (k n : Nat) (A : Option Addr) (c : Nat), iv = .int .i64 k ∧ k ≤ xs.length ∧ n = pre.length + k ∧ o = .slice A n c ∧ WdW base bl bn s t f lm p cn w (pre ++ wrK a0 xs k) n A c wr
set_option maxRecDepth 100000 in
set_option maxHeartbeats 4000000 in
theorem words_none10 (s t f lm p k : Int) (v : Value) (b : Bool) (ks vs : List Int) (lk : Int) (w : World) (h : Nd w w.heap.size v b ks vs lk) (hk1 : ks.length ≤ 1000) (hv1 : vs.length ≤ 1000)
    (CV : ∀ w2, Calls Tryd.prog 47 #[.agg #[.int .i64 s, .int .i64 t, .int .i64 f, .int .i64 lm, .int .i64 p], .int .i64 k] w2 fun e w' => (∃ x : Int, e = .returned (.int .i64 x) ∧ (decide (x < 0) = true ∨ (decide (x < 0) = false ∧ fitsB b ks vs f = false))) ∧ Below w2.heap.size w2 w') :
    Calls Tryd.prog 32 #[.agg #[.int .i64 s, .int .i64 t, .int .i64 f, .int .i64 lm, .int .i64 p], .int .i64 k, v] w fun e w' => e = .returned (.slice none 0 0) ∧ Below w.heap.size w w' := by
  obtain ⟨kv, uv, rfl, ⟨A, c, rfl, h1, h2, hks⟩, ⟨A', c', rfl, h3, h4, hvs⟩⟩ := h
  have HND := hide (show Nd w w.heap.size (.agg #[.bool b, .slice A ks.length c, .slice A' vs.length c', .int .u64 lk]) b ks vs lk from ⟨_, _, rfl, ⟨A, c, rfl, h1, h2, hks⟩, ⟨A', c', rfl, h3, h4, hvs⟩⟩)
  have B0 := ((Below.refl w.heap.size w).alloc (Nat.le_refl _) (.cells #[.int .i64 s, .int .i64 t, .int .i64 f, .int .i64 lm, .int .i64 p] 66)).alloc (by simp only [World.size_alloc]; omega) (.cells #[.bool b, .slice A ks.length c, .slice A' vs.length c', .int .u64 lk] 49)
  have xl := (Blk.new w 66 #[.int .i64 s, .int .i64 t, .int .i64 f, .int .i64 lm, .int .i64 p]).alloc (.cells #[.bool b, .slice A ks.length c, .slice A' vs.length c', .int .u64 lk] 49)
  have xn := Blk.new (w.alloc (.cells #[.int .i64 s, .int .i64 t, .int .i64 f, .int .i64 lm, .int .i64 p] 66)) 49 #[.bool b, .slice A ks.length c, .slice A' vs.length c', .int .u64 lk]
  simp only [World.size_alloc] at xn
  have CC := hide (fun w2 => lconfig_any s t f lm p w2)
  have FT := hide (fun w2 (hB : Below w.heap.size w w2) => afits_any _ b ks vs lk f w2 hk1 hv1 ((HND.out.below hB).more hB.size))
  have hf2 : ∀ w : World, (Instr.field 23 (.agg #[.int .i64 s, .int .i64 t, .int .i64 f, .int .i64 lm, .int .i64 p]) 2).run Tryd.prog w = .ok (.int .i64 f) w := fun _ => by kernel_rfl
  have HCV := hide CV
  clear CV h1 h2 h3 h4 hks hvs hk1 hv1
  go_enter Tryd.func32, Tryd.ntmps32
  go_wp2_with fail
  generalize (w.alloc (.cells #[.int .i64 s, .int .i64 t, .int .i64 f, .int .i64 lm, .int .i64 p] 66)).alloc (.cells #[.bool b, .slice A ks.length c, .slice A' vs.length c', .int .u64 lk] 49) = w0 at *
  refine wp_region_heldZ [] (fun w' => w'.cell? ⟨w.heap.size, 0, none⟩ = some (.int .i64 s) ∧ w'.cell? ⟨w.heap.size, 1, none⟩ = some (.int .i64 t) ∧ w'.cell? ⟨w.heap.size, 2, none⟩ = some (.int .i64 f) ∧ w'.cell? ⟨w.heap.size, 3, none⟩ = some (.int .i64 lm) ∧ w'.cell? ⟨w.heap.size, 4, none⟩ = some (.int .i64 p) ∧ w'.cell? ⟨w.heap.size + 1, 0, none⟩ = some (.bool b) ∧ w'.cell? ⟨w.heap.size + 1, 1, none⟩ = some (.slice A ks.length c) ∧ w'.cell? ⟨w.heap.size + 1, 2, none⟩ = some (.slice A' vs.length c') ∧ w'.cell? ⟨w.heap.size + 1, 3, none⟩ = some (.int .u64 lk)) (by kernel_rfl) (by exact ⟨xl.cell 0, xl.cell 1, xl.cell 2, xl.cell 3, xl.cell 4, xn.cell 0, xn.cell 1, xn.cell 2, xn.cell 3⟩) (fun hHeld => ?_)
  replace xl := xl.drew
  replace xn := xn.drew
  replace B0 := B0.drew
  generalize w0.drew = w0d at *
  refine' wpAnyZ_takeA (i := 0) (v := ?_) (opAt rfl) (by kernel_rfl) (by kernel_rfl) (by kernel_rfl) (by kernel_rfl) (fun _ _ _ h => h) (by assumption) (by rfl) (fun w hSw => ?_) ?_
  rotate_left
  · (try dsimp only at hSw); go_simp; (try with_reducible rfl)
  try simp only [Act.put, List.setIfInBounds_toArray, List.set_cons_zero, List.set_cons_succ]
  refine' wpAnyZ_takeA (i := 1) (v := ?_) (opAt rfl) (by kernel_rfl) (by kernel_rfl) (by kernel_rfl) (by kernel_rfl) (fun _ _ _ h => h) (by assumption) (by rfl) (fun w hSw => ?_) ?_
  rotate_left
  · (try dsimp only at hSw); go_simp; (try with_reducible rfl)
  try simp only [Act.put, List.setIfInBounds_toArray, List.set_cons_zero, List.set_cons_succ]
  refine wpAnyZ_ready (rs := [2]) (by kernel_rfl) (by simp) ?_
  refine AllReadyZ.cons (opAt rfl) (fun K hK => ?_) ?_
  · skip
    go_simp
    refine (HCV.out _).mono ?_
    rintro e w1 ⟨⟨x, rfl, hx⟩, hb1⟩
    replace xl := xl.below hb1 xl.lt
    replace xn := xn.below hb1 xn.lt
    replace B0 := B0.trans (hb1.mono B0.size)
    clear hb1
    try go_wp2_with fail
    refine hK.out _ _ (by exact ⟨xl.cell 0, xl.cell 1, xl.cell 2, xl.cell 3, xl.cell 4, xn.cell 0, xn.cell 1, xn.cell 2, xn.cell 3⟩) (fun hHeld => ?_)
    clear hK K
    try simp only [Act.put, List.setIfInBounds_toArray, List.set_cons_zero, List.set_cons_succ]
    rcases hx with hx | ⟨hx, hfit⟩
    · skip
      refine' wpAnyZ_takeA (i := 3) (v := ?_) (opAt rfl) (by kernel_rfl) (by kernel_rfl) (by kernel_rfl) (by kernel_rfl) (fun _ _ _ h => h) (by assumption) (by rfl) (fun w hSw => ?_) ?_
      rotate_left
      · (try dsimp only at hSw); go_simp; (try with_reducible rfl)
      try simp only [Act.put, List.setIfInBounds_toArray, List.set_cons_zero, List.set_cons_succ]
      refine' wpAnyZ_takeA (i := 4) (v := ?_) (opAt rfl) (by kernel_rfl) (by kernel_rfl) (by kernel_rfl) (by kernel_rfl) (fun _ _ _ h => h) (by assumption) (by rfl) (fun w hSw => ?_) ?_
      rotate_left
      · (try dsimp only at hSw); go_simp; (try with_reducible rfl)
      try simp only [Act.put, List.setIfInBounds_toArray, List.set_cons_zero, List.set_cons_succ]
      refine' wpAnyZ_skipA (i := 5) _ rfl (opAt rfl) (by kernel_rfl) (by kernel_rfl) (by kernel_rfl) (by kernel_rfl) (fun _ _ _ h => h) (by assumption) (by rfl) ?_
      try simp only [Act.put, List.setIfInBounds_toArray, List.set_cons_zero, List.set_cons_succ]
      refine' wpAnyZ_skipA (i := 6) _ rfl (opAt rfl) (by kernel_rfl) (by kernel_rfl) (by kernel_rfl) (by kernel_rfl) (fun _ _ _ h => h) (by assumption) (by rfl) ?_
      try simp only [Act.put, List.setIfInBounds_toArray, List.set_cons_zero, List.set_cons_succ]
      refine' wpAnyZ_skipA (i := 7) _ rfl (opAt rfl) (by kernel_rfl) (by kernel_rfl) (by kernel_rfl) (by kernel_rfl) (fun _ _ _ h => h) (by assumption) (by rfl) ?_
      try simp only [Act.put, List.setIfInBounds_toArray, List.set_cons_zero, List.set_cons_succ]
      refine' wpAnyZ_skipA (i := 8) _ rfl (opAt rfl) (by kernel_rfl) (by kernel_rfl) (by kernel_rfl) (by kernel_rfl) (fun _ _ _ h => h) (by assumption) (by rfl) ?_
      try simp only [Act.put, List.setIfInBounds_toArray, List.set_cons_zero, List.set_cons_succ]
      refine' wpAnyZ_skipA (i := 9) _ rfl (opAt rfl) (by kernel_rfl) (by kernel_rfl) (by kernel_rfl) (by kernel_rfl) (fun _ _ _ h => h) (by assumption) (by rfl) ?_
      try simp only [Act.put, List.setIfInBounds_toArray, List.set_cons_zero, List.set_cons_succ]
      refine' wpAnyZ_skipA (i := 10) _ rfl (opAt rfl) (by kernel_rfl) (by kernel_rfl) (by kernel_rfl) (by kernel_rfl) (fun _ _ _ h => h) (by assumption) (by rfl) ?_
      try simp only [Act.put, List.setIfInBounds_toArray, List.set_cons_zero, List.set_cons_succ]
      refine' wpAnyZ_takeA (i := 11) (v := ?_) (opAt rfl) (by kernel_rfl) (by kernel_rfl) (by kernel_rfl) (by kernel_rfl) (fun _ _ _ h => h) (by assumption) (by rfl) (fun w hSw => ?_) ?_
      rotate_left
      · (try dsimp only at hSw); go_simp; (try with_reducible rfl)
      try simp only [Act.put, List.setIfInBounds_toArray, List.set_cons_zero, List.set_cons_succ]
      refine wpAnyZ_done (by kernel_rfl) ?_ _
      go_wp2_with fail
      go_ret
      exact ⟨rfl, B0⟩
    · rw [hfit] at FT
      refine' wpAnyZ_takeA (i := 3) (v := ?_) (opAt rfl) (by kernel_rfl) (by kernel_rfl) (by kernel_rfl) (by kernel_rfl) (fun _ _ _ h => h) (by assumption) (by rfl) (fun w hSw => ?_) ?_
      rotate_left
      · (try dsimp only at hSw); go_simp; (try with_reducible rfl)
      try simp only [Act.put, List.setIfInBounds_toArray, List.set_cons_zero, List.set_cons_succ]
      refine' wpAnyZ_takeA (i := 4) (v := ?_) (opAt rfl) (by kernel_rfl) (by kernel_rfl) (by kernel_rfl) (by kernel_rfl) (fun _ _ _ h => h) (by assumption) (by rfl) (fun w hSw => ?_) ?_
      rotate_left
      · (try dsimp only at hSw); go_simp; (try with_reducible rfl)
      try simp only [Act.put, List.setIfInBounds_toArray, List.set_cons_zero, List.set_cons_succ]
      refine' wpAnyZ_takeA (i := 5) (v := ?_) (opAt rfl) (by kernel_rfl) (by kernel_rfl) (by kernel_rfl) (by kernel_rfl) (fun _ _ _ h => h) (by assumption) (by rfl) (fun w hSw => ?_) ?_
      rotate_left
      · (try dsimp only at hSw); go_simp; (try with_reducible rfl)
      try simp only [Act.put, List.setIfInBounds_toArray, List.set_cons_zero, List.set_cons_succ]
      refine' wpAnyZ_takeA (i := 6) (v := ?_) (opAt rfl) (by kernel_rfl) (by kernel_rfl) (by kernel_rfl) (by kernel_rfl) (fun _ _ _ h => h) (by assumption) (by rfl) (fun w hSw => ?_) ?_
      rotate_left
      · (try dsimp only at hSw); go_simp; (try with_reducible rfl)
      try simp only [Act.put, List.setIfInBounds_toArray, List.set_cons_zero, List.set_cons_succ]
      refine wpAnyZ_ready (rs := [7]) (by kernel_rfl) (by simp) ?_
      refine AllReadyZ.cons (opAt rfl) (fun K hK => ?_) ?_
      · skip
        go_simp
        refine (CC.out _).mono ?_
        rintro e w2 ⟨rfl, hb1⟩
        replace xl := xl.below hb1 xl.lt
        replace xn := xn.below hb1 xn.lt
        replace B0 := B0.trans (hb1.mono B0.size)
        clear hb1
        try go_wp2_with fail
        refine hK.out _ _ (by exact ⟨xl.cell 0, xl.cell 1, xl.cell 2, xl.cell 3, xl.cell 4, xn.cell 0, xn.cell 1, xn.cell 2, xn.cell 3⟩) (fun hHeld => ?_)
        clear hK K
        try simp only [Act.put, List.setIfInBounds_toArray, List.set_cons_zero, List.set_cons_succ]
        refine' wpAnyZ_takeA (i := 8) (v := ?_) (opAt rfl) (by kernel_rfl) (by kernel_rfl) (by kernel_rfl) (by kernel_rfl) (fun _ _ _ h => h) (by assumption) (by rfl) (fun w hSw => ?_) ?_
        rotate_left
        · (try dsimp only at hSw); go_simp; (try with_reducible rfl)
        try simp only [Act.put, List.setIfInBounds_toArray, List.set_cons_zero, List.set_cons_succ]
        refine wpAnyZ_ready (rs := [9]) (by kernel_rfl) (by simp) ?_
        refine AllReadyZ.cons (opAt rfl) (fun K hK => ?_) ?_
        · skip
          go_simp
          refine (FT.out _ B0).mono ?_
          rintro e w3 ⟨rfl, hb1⟩
          replace xl := xl.below hb1 xl.lt
          replace xn := xn.below hb1 xn.lt
          replace B0 := B0.trans (hb1.mono B0.size)
          clear hb1
          try go_wp2_with fail
          refine hK.out _ _ (by exact ⟨xl.cell 0, xl.cell 1, xl.cell 2, xl.cell 3, xl.cell 4, xn.cell 0, xn.cell 1, xn.cell 2, xn.cell 3⟩) (fun hHeld => ?_)
          clear hK K
          try simp only [Act.put, List.setIfInBounds_toArray, List.set_cons_zero, List.set_cons_succ]
          refine' wpAnyZ_takeA (i := 10) (v := ?_) (opAt rfl) (by kernel_rfl) (by kernel_rfl) (by kernel_rfl) (by kernel_rfl) (fun _ _ _ h => h) (by assumption) (by rfl) (fun w hSw => ?_) ?_
          rotate_left
          · (try dsimp only at hSw); go_simp; (try with_reducible rfl)
          try simp only [Act.put, List.setIfInBounds_toArray, List.set_cons_zero, List.set_cons_succ]
          refine' wpAnyZ_takeA (i := 11) (v := ?_) (opAt rfl) (by kernel_rfl) (by kernel_rfl) (by kernel_rfl) (by kernel_rfl) (fun _ _ _ h => h) (by assumption) (by rfl) (fun w hSw => ?_) ?_
          rotate_left
          · (try dsimp only at hSw); go_simp; (try with_reducible rfl)
          try simp only [Act.put, List.setIfInBounds_toArray, List.set_cons_zero, List.set_cons_succ]
          refine wpAnyZ_done (by kernel_rfl) ?_ _
          go_wp2_with fail
          go_ret
          exact ⟨rfl, B0⟩
        exact AllReadyZ.nil
      exact AllReadyZ.nil
  exact AllReadyZ.nil
set_option maxRecDepth 100000 in
set_option maxHeartbeats 4000000 in
theorem words_some10 (s t f lm p k : Int) (v : Value) (b : Bool) (ks vs : List Int) (lk : Int) (w : World) (hs : 1 ≤ s ∧ s ≤ 1000) (ht : 1 ≤ t ∧ t ≤ 64) (hf : 4 ≤ f ∧ f ≤ 64) (hk : 0 ≤ k ∧ k ≤ s) (h : Nd w w.heap.size v b ks vs lk) (hfit : fitsB b ks vs f = true) :
    Calls Tryd.prog 32 #[.agg #[.int .i64 s, .int .i64 t, .int .i64 f, .int .i64 lm, .int .i64 p], .int .i64 k, v] w fun e w' => (∃ A c, e = .returned (.slice A (wrAll t f k b ks vs lk).length c) ∧ w'.ownsRow w.heap.size 35 2 (.slice A (wrAll t f k b ks vs lk).length c) (wrAll t f k b ks vs lk).length (recW (wrAll t f k b ks vs lk))) ∧ Below w.heap.size w w' := by
  obtain ⟨i0, hi0, hz0, hs0, hb0⟩ := info_parts infoWri
  obtain ⟨hv1, hm⟩ : (vs.length : Int) ≤ f ∧ ks.length ≤ vs.length := by
    unfold fitsB at hfit
    simp only [Bool.and_eq_true, decide_eq_true_eq] at hfit
    refine ⟨hfit.1.1, ?_⟩
    have h2 := hfit.1.2
    cases b
    · simp at h2; omega
    · simp at h2; omega
  have hbd := nB_bd hs ht hf hk
  obtain ⟨kv, uv, rfl, ⟨A, c, rfl, h1, h2, hks⟩, ⟨A', c', rfl, h3, h4, hvs⟩⟩ := h
  have HND := hide (show Nd w w.heap.size (.agg #[.bool b, .slice A ks.length c, .slice A' vs.length c', .int .u64 lk]) b ks vs lk from ⟨_, _, rfl, ⟨A, c, rfl, h1, h2, hks⟩, ⟨A', c', rfl, h3, h4, hvs⟩⟩)
  have B0 := ((Below.refl w.heap.size w).alloc (Nat.le_refl _) (.cells #[.int .i64 s, .int .i64 t, .int .i64 f, .int .i64 lm, .int .i64 p] 66)).alloc (by simp only [World.size_alloc]; omega) (.cells #[.bool b, .slice A ks.length c, .slice A' vs.length c', .int .u64 lk] 49)
  have xl := (Blk.new w 66 #[.int .i64 s, .int .i64 t, .int .i64 f, .int .i64 lm, .int .i64 p]).alloc (.cells #[.bool b, .slice A ks.length c, .slice A' vs.length c', .int .u64 lk] 49)
  have xn := Blk.new (w.alloc (.cells #[.int .i64 s, .int .i64 t, .int .i64 f, .int .i64 lm, .int .i64 p] 66)) 49 #[.bool b, .slice A ks.length c, .slice A' vs.length c', .int .u64 lk]
  simp only [World.size_alloc] at xn
  have CV := hide (fun w2 => lver_any s t f lm p k w2 hs ht hf)
  rw [atpB_6 hk] at CV
  have CC := hide (fun w2 => lconfig_any s t f lm p w2)
  have FT := hide (fun w2 (hB : Below w.heap.size w w2) => afits_any _ b ks vs lk f w2 (by omega) (by omega) ((HND.out.below hB).more hB.size))
  rw [hfit] at FT
  have CK := hide (fun (i : Nat) (hi : i < ks.length) w2 => by have h := lkey_any s t f lm p k i w2 hs ht hf; rw [atpB_9 hk (by omega)] at h; exact h)
  have CVv := hide (fun (i : Nat) (hi : i < vs.length) w2 => by have h := lval_any s t f lm p k i w2 hs ht hf; rw [atpB_10 hk (by omega)] at h; exact h)
  have CL := hide (fun w2 => llnk_any s t f lm p k w2 hs ht hf)
  rw [atpB_8 hk] at CL
  have CS := hide (fun w2 => lshp_any s t f lm p k w2 hs ht hf)
  rw [atpB_7 hk] at CS
  have PK := hide (fun w2 => pack_any b vs.length w2 ⟨by omega, by omega⟩)
  have hf2 : ∀ w : World, (Instr.field 23 (.agg #[.int .i64 s, .int .i64 t, .int .i64 f, .int .i64 lm, .int .i64 p]) 2).run Tryd.prog w = .ok (.int .i64 f) w := fun _ => by kernel_rfl
  have d1 : decide (nB t f k < 0) = false := by rw [decide_eq_false_iff_not]; omega
  have HKV := hide (show ks.length ≤ 64 ∧ vs.length ≤ 64 by omega)
  have HWA := hide (show wrAll t f k b ks vs lk = wrK (nB t f k + 3) ks ks.length ++ wrK (nB t f k + 3 + f) vs vs.length ++ [(nB t f k + 2, lk), (nB t f k + 1, pk b vs.length)] from rfl)
  generalize wrAll t f k b ks vs lk = wa at *
  generalize nB t f k + 3 + f = av at *
  generalize nB t f k + 3 = ak at *
  generalize nB t f k + 2 = al at *
  generalize nB t f k + 1 = ash at *
  generalize nB t f k = a0 at *
  generalize pk b vs.length = pw at *
  have HKS := hide hks
  have HVS := hide hvs
  clear hfit hv1 hm hbd h1 h2 h3 h4 hs ht hf hk hks hvs
  go_enter Tryd.func32, Tryd.ntmps32
  go_wp2_with fail
  generalize (w.alloc (.cells #[.int .i64 s, .int .i64 t, .int .i64 f, .int .i64 lm, .int .i64 p] 66)).alloc (.cells #[.bool b, .slice A ks.length c, .slice A' vs.length c', .int .u64 lk] 49) = w0 at *
  refine wp_region_heldZ [] (fun w' => w'.cell? ⟨w.heap.size, 0, none⟩ = some (.int .i64 s) ∧ w'.cell? ⟨w.heap.size, 1, none⟩ = some (.int .i64 t) ∧ w'.cell? ⟨w.heap.size, 2, none⟩ = some (.int .i64 f) ∧ w'.cell? ⟨w.heap.size, 3, none⟩ = some (.int .i64 lm) ∧ w'.cell? ⟨w.heap.size, 4, none⟩ = some (.int .i64 p) ∧ w'.cell? ⟨w.heap.size + 1, 0, none⟩ = some (.bool b) ∧ w'.cell? ⟨w.heap.size + 1, 1, none⟩ = some (.slice A ks.length c) ∧ w'.cell? ⟨w.heap.size + 1, 2, none⟩ = some (.slice A' vs.length c') ∧ w'.cell? ⟨w.heap.size + 1, 3, none⟩ = some (.int .u64 lk)) (by kernel_rfl) (by exact ⟨xl.cell 0, xl.cell 1, xl.cell 2, xl.cell 3, xl.cell 4, xn.cell 0, xn.cell 1, xn.cell 2, xn.cell 3⟩) (fun hHeld => ?_)
  replace xl := xl.drew
  replace xn := xn.drew
  replace B0 := B0.drew
  generalize w0.drew = w0d at *
  refine' wpAnyZ_takeA (i := 0) (v := ?_) (opAt rfl) (by kernel_rfl) (by kernel_rfl) (by kernel_rfl) (by kernel_rfl) (fun _ _ _ h => h) (by assumption) (by rfl) (fun w hSw => ?_) ?_
  rotate_left
  · (try dsimp only at hSw); go_simp; (try with_reducible rfl)
  try simp only [Act.put, List.setIfInBounds_toArray, List.set_cons_zero, List.set_cons_succ]
  refine' wpAnyZ_takeA (i := 1) (v := ?_) (opAt rfl) (by kernel_rfl) (by kernel_rfl) (by kernel_rfl) (by kernel_rfl) (fun _ _ _ h => h) (by assumption) (by rfl) (fun w hSw => ?_) ?_
  rotate_left
  · (try dsimp only at hSw); go_simp; (try with_reducible rfl)
  try simp only [Act.put, List.setIfInBounds_toArray, List.set_cons_zero, List.set_cons_succ]
  refine wpAnyZ_ready (rs := [2]) (by kernel_rfl) (by simp) ?_
  refine AllReadyZ.cons (opAt rfl) (fun K hK => ?_) ?_
  · skip
    go_simp
    refine (CV.out _).mono ?_
    rintro e w1 ⟨rfl, hb1⟩
    replace xl := xl.below hb1 xl.lt
    replace xn := xn.below hb1 xn.lt
    replace B0 := B0.trans (hb1.mono B0.size)
    clear hb1
    try go_wp2_with fail
    refine hK.out _ _ (by exact ⟨xl.cell 0, xl.cell 1, xl.cell 2, xl.cell 3, xl.cell 4, xn.cell 0, xn.cell 1, xn.cell 2, xn.cell 3⟩) (fun hHeld => ?_)
    clear hK K
    try simp only [Act.put, List.setIfInBounds_toArray, List.set_cons_zero, List.set_cons_succ]
    refine' wpAnyZ_takeA (i := 3) (v := ?_) (opAt rfl) (by kernel_rfl) (by kernel_rfl) (by kernel_rfl) (by kernel_rfl) (fun _ _ _ h => h) (by assumption) (by rfl) (fun w hSw => ?_) ?_
    rotate_left
    · (try dsimp only at hSw); go_simp; (try with_reducible rfl)
    try simp only [Act.put, List.setIfInBounds_toArray, List.set_cons_zero, List.set_cons_succ]
    refine' wpAnyZ_takeA (i := 4) (v := ?_) (opAt rfl) (by kernel_rfl) (by kernel_rfl) (by kernel_rfl) (by kernel_rfl) (fun _ _ _ h => h) (by assumption) (by rfl) (fun w hSw => ?_) ?_
    rotate_left
    · (try dsimp only at hSw); go_simp; (try with_reducible rfl)
    try simp only [Act.put, List.setIfInBounds_toArray, List.set_cons_zero, List.set_cons_succ]
    refine' wpAnyZ_takeA (i := 5) (v := ?_) (opAt rfl) (by kernel_rfl) (by kernel_rfl) (by kernel_rfl) (by kernel_rfl) (fun _ _ _ h => h) (by assumption) (by rfl) (fun w hSw => ?_) ?_
    rotate_left
    · (try dsimp only at hSw); go_simp; (try with_reducible rfl)
    try simp only [Act.put, List.setIfInBounds_toArray, List.set_cons_zero, List.set_cons_succ]
    refine' wpAnyZ_takeA (i := 6) (v := ?_) (opAt rfl) (by kernel_rfl) (by kernel_rfl) (by kernel_rfl) (by kernel_rfl) (fun _ _ _ h => h) (by assumption) (by rfl) (fun w hSw => ?_) ?_
    rotate_left
    · (try dsimp only at hSw); go_simp; (try with_reducible rfl)
    try simp only [Act.put, List.setIfInBounds_toArray, List.set_cons_zero, List.set_cons_succ]
    refine wpAnyZ_ready (rs := [7]) (by kernel_rfl) (by simp) ?_
    refine AllReadyZ.cons (opAt rfl) (fun K hK => ?_) ?_
    · skip
      go_simp
      refine (CC.out _).mono ?_
      rintro e w2 ⟨rfl, hb1⟩
      replace xl := xl.below hb1 xl.lt
      replace xn := xn.below hb1 xn.lt
      replace B0 := B0.trans (hb1.mono B0.size)
      clear hb1
      try go_wp2_with fail
      refine hK.out _ _ (by exact ⟨xl.cell 0, xl.cell 1, xl.cell 2, xl.cell 3, xl.cell 4, xn.cell 0, xn.cell 1, xn.cell 2, xn.cell 3⟩) (fun hHeld => ?_)
      clear hK K
      try simp only [Act.put, List.setIfInBounds_toArray, List.set_cons_zero, List.set_cons_succ]
      refine' wpAnyZ_takeA (i := 8) (v := ?_) (opAt rfl) (by kernel_rfl) (by kernel_rfl) (by kernel_rfl) (by kernel_rfl) (fun _ _ _ h => h) (by assumption) (by rfl) (fun w hSw => ?_) ?_
      rotate_left
      · (try dsimp only at hSw); go_simp; (try with_reducible rfl)
      try simp only [Act.put, List.setIfInBounds_toArray, List.set_cons_zero, List.set_cons_succ]
      refine wpAnyZ_ready (rs := [9]) (by kernel_rfl) (by simp) ?_
      refine AllReadyZ.cons (opAt rfl) (fun K hK => ?_) ?_
      · skip
        go_simp
        refine (FT.out _ B0).mono ?_
        rintro e w3 ⟨rfl, hb1⟩
        replace xl := xl.below hb1 xl.lt
        replace xn := xn.below hb1 xn.lt
        replace B0 := B0.trans (hb1.mono B0.size)
        clear hb1
        try go_wp2_with fail
        refine hK.out _ _ (by exact ⟨xl.cell 0, xl.cell 1, xl.cell 2, xl.cell 3, xl.cell 4, xn.cell 0, xn.cell 1, xn.cell 2, xn.cell 3⟩) (fun hHeld => ?_)
        clear hK K
        try simp only [Act.put, List.setIfInBounds_toArray, List.set_cons_zero, List.set_cons_succ]
        refine' wpAnyZ_takeA (i := 10) (v := ?_) (opAt rfl) (by kernel_rfl) (by kernel_rfl) (by kernel_rfl) (by kernel_rfl) (fun _ _ _ h => h) (by assumption) (by rfl) (fun w hSw => ?_) ?_
        rotate_left
        · (try dsimp only at hSw); go_simp; (try with_reducible rfl)
        try simp only [Act.put, List.setIfInBounds_toArray, List.set_cons_zero, List.set_cons_succ]
        refine' wpAnyZ_takeA (i := 11) (v := ?_) (opAt rfl) (by kernel_rfl) (by kernel_rfl) (by kernel_rfl) (by kernel_rfl) (fun _ _ _ h => h) (by assumption) (by rfl) (fun w hSw => ?_) ?_
        rotate_left
        · (try dsimp only at hSw); go_simp; (try with_reducible rfl)
        try simp only [Act.put, List.setIfInBounds_toArray, List.set_cons_zero, List.set_cons_succ]
        refine wpAnyZ_done (by kernel_rfl) ?_ _
        clear d1 hf2
        have mn := fun i => xn.cell i
        go_wp2_with fail
        clear mn
        have HPRE := hide (show ([] : List (Int × Int)).length ≤ 64 by simp)
        go_loopw [7, 27] (WdI (w.heap.size + 2) w.heap.size (w.heap.size + 1) s t f lm p #[.bool b, .slice A ks.length c, .slice A' vs.length c', .int .u64 lk] w ([] : List (Int × Int)) (ak) ks) (fun _ i _ => ks.length - (intOf i).toNat)
        case atStart => exact ⟨0, 0, none, 0, rfl, Nat.zero_le _, rfl, rfl, ⟨World.ownsRow_nil _ _ _ _, xl, xn, B0⟩⟩
        case round =>
          clear xl xn B0
          obtain ⟨j, n9, Aj, cj, rfl, hj, hn9, rfl, ⟨ol, xl, xn, B0⟩⟩ := hrel
          by_cases hlt : j < ks.length
          · skip
            obtain ⟨a, ea, hjl, z1⟩ := (HKS.out.below B0).word hlt
            have HW := hide (show wrK (ak) ks (j + 1) = wrK (ak) ks j ++ [(ak + j, ks[j])] by rw [wrK_succ]; simp [List.getD, hjl])
            have CK := hide (CK.out j hlt)
            generalize ks[j] = x at *
            generalize hpl : (([] : List (Int × Int)) ++ wrK (ak) ks j) = done at *
            have hlt2 : (j : Int) < (ks.length : Int) := by omega
            have hj64 : (j : Int) ≤ 64 := by have := HKV.out; omega
            have HPN := hide (show n9 ≤ 4294967296 by have := HKV.out; have := HPRE.out; omega)
            have HN9 := hide hn9
            clear hn9
            have HPL := hide hpl
            clear hpl
            have ml := fun i => xl.cell i
            subst ea
            skip
            have hsz := (show w.heap.size + 2 ≤ wr.heap.size by have := xn.lt; omega)
            have HSZ := hide hsz
            clear hsz
            go_wp2_with fail
            refine (CK.out _).mono ?_
            rintro e w5 ⟨rfl, hb1⟩
            replace ol := own_below ol hb1
            replace HSZ := hide (Nat.le_trans HSZ.out hb1.size)
            replace xl := xl.below hb1 xl.lt
            replace xn := xn.below hb1 xn.lt
            replace B0 := B0.trans (hb1.mono B0.size)
            clear hb1 ml z1
            have hz5 := HSZ.out
            go_wp2_with (at_builtin; refine wpList_append_one rfl (.tmp 32) (.tmp 39) _ rfl (w.heap.size + 2) 35 i0 _ 2 16 Tryd.underlying24 hi0 hz0 hs0 hb0 rfl (by omega) (by omega) _ _ _ rfl (ol.alloc (.cells #[.int .i64 (ak + j), .int .u64 x] 35)) w5.heap.size #[.int .i64 (ak + j), .int .u64 x] rfl (Blk.new _ _ _) rfl rfl HPN.out (by rw [World.size_alloc]; omega) ?_; intro A3 c3 w6 ol6 hg6 hat6; have xl6 := blk_appended (xl.alloc (.cells #[.int .i64 (ak + j), .int .u64 x] 35)) (ol.alloc (.cells #[.int .i64 (ak + j), .int .u64 x] 35)) hg6 (by omega); have xn6 := blk_appended (xn.alloc (.cells #[.int .i64 (ak + j), .int .u64 x] 35)) (ol.alloc (.cells #[.int .i64 (ak + j), .int .u64 x] 35)) hg6 (by omega); have B6 := below_appended (B0.alloc (by omega) (.cells #[.int .i64 (ak + j), .int .u64 x] 35)) (ol.alloc (.cells #[.int .i64 (ak + j), .int .u64 x] 35)) hg6 (by omega) (by rw [World.size_alloc]; omega))
            go_roundw
            case measure => simp [intOf]; omega
            case rel => exact ⟨j + 1, n9 + 1, A3, c3, by go_num, by omega, by rw [HN9.out, Nat.add_assoc], rfl, ⟨by rw [HW.out, ← List.append_assoc, HPL.out, recW_snoc]; exact ol6, xl6, xn6, B6⟩⟩
          · skip
            have hjk : j = ks.length := by omega
            have hlt2 : ¬ (j : Int) < (ks.length : Int) := by omega
            subst hjk
            clear hlt HPRE CK hj
            have HPRE := hide (show (wrK ak ks ks.length).length ≤ 64 by rw [wrK_len]; exact HKV.out.1)
            rw [List.nil_append] at ol
            have HN1 := hide (show n9 = (wrK ak ks ks.length).length + 0 by rw [hn9, wrK_len]; simp)
            clear hn9
            have mn := fun i => xn.cell i
            go_wp2_with fail
            clear mn
            go_loopw [7, 45] (WdI (w.heap.size + 2) w.heap.size (w.heap.size + 1) s t f lm p #[.bool b, .slice A ks.length c, .slice A' vs.length c', .int .u64 lk] w (wrK ak ks ks.length) (av) vs) (fun _ i _ => vs.length - (intOf i).toNat)
            case atStart => exact ⟨0, _, _, _, rfl, Nat.zero_le _, HN1.out, rfl, ⟨by rw [show wrK av vs 0 = [] from rfl, List.append_nil]; exact ol, xl, xn, B0⟩⟩
            case round =>
              clear ol xl xn B0
              obtain ⟨j, n9, Aj, cj, rfl, hj, hn9, rfl, ⟨ol, xl, xn, B0⟩⟩ := hrel
              by_cases hlt : j < vs.length
              · skip
                obtain ⟨a, ea, hjl, z1⟩ := (HVS.out.below B0).word hlt
                have HW := hide (show wrK (av) vs (j + 1) = wrK (av) vs j ++ [(av + j, vs[j])] by rw [wrK_succ]; simp [List.getD, hjl])
                have CK := hide (CVv.out j hlt)
                generalize vs[j] = x at *
                generalize hpl : ((wrK ak ks ks.length) ++ wrK (av) vs j) = done at *
                have hlt2 : (j : Int) < (vs.length : Int) := by omega
                have hj64 : (j : Int) ≤ 64 := by have := HKV.out; omega
                have HPN := hide (show n9 ≤ 4294967296 by have := HKV.out; have := HPRE.out; omega)
                have HN9 := hide hn9
                clear hn9
                have HPL := hide hpl
                clear hpl
                have ml := fun i => xl.cell i
                subst ea
                skip
                have hsz := (show w.heap.size + 2 ≤ wr.heap.size by have := xn.lt; omega)
                have HSZ := hide hsz
                clear hsz
                go_wp2_with fail
                refine (CK.out _).mono ?_
                rintro e w5 ⟨rfl, hb1⟩
                replace ol := own_below ol hb1
                replace HSZ := hide (Nat.le_trans HSZ.out hb1.size)
                replace xl := xl.below hb1 xl.lt
                replace xn := xn.below hb1 xn.lt
                replace B0 := B0.trans (hb1.mono B0.size)
                clear hb1 ml z1
                have hz5 := HSZ.out
                go_wp2_with (at_builtin; refine wpList_append_one rfl (.tmp 50) (.tmp 57) _ rfl (w.heap.size + 2) 35 i0 _ 2 16 Tryd.underlying24 hi0 hz0 hs0 hb0 rfl (by omega) (by omega) _ _ _ rfl (ol.alloc (.cells #[.int .i64 (av + j), .int .u64 x] 35)) w5.heap.size #[.int .i64 (av + j), .int .u64 x] rfl (Blk.new _ _ _) rfl rfl HPN.out (by rw [World.size_alloc]; omega) ?_; intro A3 c3 w6 ol6 hg6 hat6; have xl6 := blk_appended (xl.alloc (.cells #[.int .i64 (av + j), .int .u64 x] 35)) (ol.alloc (.cells #[.int .i64 (av + j), .int .u64 x] 35)) hg6 (by omega); have xn6 := blk_appended (xn.alloc (.cells #[.int .i64 (av + j), .int .u64 x] 35)) (ol.alloc (.cells #[.int .i64 (av + j), .int .u64 x] 35)) hg6 (by omega); have B6 := below_appended (B0.alloc (by omega) (.cells #[.int .i64 (av + j), .int .u64 x] 35)) (ol.alloc (.cells #[.int .i64 (av + j), .int .u64 x] 35)) hg6 (by omega) (by rw [World.size_alloc]; omega))
                go_roundw
                case measure => simp [intOf]; omega
                case rel => exact ⟨j + 1, n9 + 1, A3, c3, by go_num, by omega, by rw [HN9.out, Nat.add_assoc], rfl, ⟨by rw [HW.out, ← List.append_assoc, HPL.out, recW_snoc]; exact ol6, xl6, xn6, B6⟩⟩
              · skip
                have hjk : j = vs.length := by omega
                have hlt2 : ¬ (j : Int) < (vs.length : Int) := by omega
                subst hjk
                clear hlt hj
                have HN2 := hide (show n9 = ks.length + vs.length by rw [hn9, wrK_len])
                have hn9b := (show n9 ≤ 128 by have h1 := HN2.out; have h2 := HKV.out; omega)
                have HNB := hide hn9b
                generalize hdn : wrK ak ks ks.length ++ wrK av vs vs.length = done at *
                have HDN := hide hdn
                clear hdn hn9 hn9b
                have hsz := (show w.heap.size + 2 ≤ wr.heap.size by have := xn.lt; omega)
                have HSZ := hide hsz
                clear hsz
                have mn := fun i => xn.cell i
                go_wp2_with fail
                clear mn
                refine wp_region_heldZ [] (fun w' => w'.cell? ⟨w.heap.size, 0, none⟩ = some (.int .i64 s) ∧ w'.cell? ⟨w.heap.size, 1, none⟩ = some (.int .i64 t) ∧ w'.cell? ⟨w.heap.size, 2, none⟩ = some (.int .i64 f) ∧ w'.cell? ⟨w.heap.size, 3, none⟩ = some (.int .i64 lm) ∧ w'.cell? ⟨w.heap.size, 4, none⟩ = some (.int .i64 p) ∧ w'.cell? ⟨w.heap.size + 1, 0, none⟩ = some (.bool b) ∧ w'.cell? ⟨w.heap.size + 1, 1, none⟩ = some (.slice A ks.length c) ∧ w'.cell? ⟨w.heap.size + 1, 2, none⟩ = some (.slice A' vs.length c') ∧ w'.cell? ⟨w.heap.size + 1, 3, none⟩ = some (.int .u64 lk)) (by kernel_rfl) (by exact ⟨xl.cell 0, xl.cell 1, xl.cell 2, xl.cell 3, xl.cell 4, xn.cell 0, xn.cell 1, xn.cell 2, xn.cell 3⟩) (fun hHeld => ?_)
                replace xl := xl.drew
                replace xn := xn.drew
                replace ol := (show wr.drew.ownsRow _ _ _ _ _ _ from ol)
                replace B0 := B0.drew
                replace HSZ := hide (show w.heap.size + 2 ≤ wr.drew.heap.size from HSZ.out)
                generalize wr.drew = wd at *
                refine' wpAnyZ_takeA (i := 0) (v := ?_) (opAt rfl) (by kernel_rfl) (by kernel_rfl) (by kernel_rfl) (by kernel_rfl) (fun _ _ _ h => h) (by assumption) (by rfl) (fun w hSw => ?_) ?_
                rotate_left
                · (try dsimp only at hSw); go_simp; (try with_reducible rfl)
                try simp only [Act.put, List.setIfInBounds_toArray, List.set_cons_zero, List.set_cons_succ]
                refine' wpAnyZ_takeA (i := 1) (v := ?_) (opAt rfl) (by kernel_rfl) (by kernel_rfl) (by kernel_rfl) (by kernel_rfl) (fun _ _ _ h => h) (by assumption) (by rfl) (fun w hSw => ?_) ?_
                rotate_left
                · (try dsimp only at hSw); go_simp; (try with_reducible rfl)
                try simp only [Act.put, List.setIfInBounds_toArray, List.set_cons_zero, List.set_cons_succ]
                refine' wpAnyZ_takeA (i := 2) (v := ?_) (opAt rfl) (by kernel_rfl) (by kernel_rfl) (by kernel_rfl) (by kernel_rfl) (fun _ _ _ h => h) (by assumption) (by rfl) (fun w hSw => ?_) ?_
                rotate_left
                · (try dsimp only at hSw); go_simp; (try with_reducible rfl)
                try simp only [Act.put, List.setIfInBounds_toArray, List.set_cons_zero, List.set_cons_succ]
                refine' wpAnyZ_takeA (i := 4) (v := ?_) (opAt rfl) (by kernel_rfl) (by kernel_rfl) (by kernel_rfl) (by kernel_rfl) (fun _ _ _ h => h) (by assumption) (by rfl) (fun w hSw => ?_) ?_
                rotate_left
                · (try dsimp only at hSw); go_simp; (try with_reducible rfl)
                try simp only [Act.put, List.setIfInBounds_toArray, List.set_cons_zero, List.set_cons_succ]
                refine' wpAnyZ_takeA (i := 5) (v := ?_) (opAt rfl) (by kernel_rfl) (by kernel_rfl) (by kernel_rfl) (by kernel_rfl) (fun _ _ _ h => h) (by assumption) (by rfl) (fun w hSw => ?_) ?_
                rotate_left
                · (try dsimp only at hSw); go_simp; (try with_reducible rfl)
                try simp only [Act.put, List.setIfInBounds_toArray, List.set_cons_zero, List.set_cons_succ]
                refine' wpAnyZ_takeA (i := 7) (v := ?_) (opAt rfl) (by kernel_rfl) (by kernel_rfl) (by kernel_rfl) (by kernel_rfl) (fun _ _ _ h => h) (by assumption) (by rfl) (fun w hSw => ?_) ?_
                rotate_left
                · (try dsimp only at hSw); go_simp; (try with_reducible rfl)
                try simp only [Act.put, List.setIfInBounds_toArray, List.set_cons_zero, List.set_cons_succ]
                refine' wpAnyZ_takeA (i := 8) (v := ?_) (opAt rfl) (by kernel_rfl) (by kernel_rfl) (by kernel_rfl) (by kernel_rfl) (fun _ _ _ h => h) (by assumption) (by rfl) (fun w hSw => ?_) ?_
                rotate_left
                · (try dsimp only at hSw); go_simp; (try with_reducible rfl)
                try simp only [Act.put, List.setIfInBounds_toArray, List.set_cons_zero, List.set_cons_succ]
                refine' wpAnyZ_takeA (i := 10) (v := ?_) (opAt rfl) (by kernel_rfl) (by kernel_rfl) (by kernel_rfl) (by kernel_rfl) (fun _ _ _ h => h) (by assumption) (by rfl) (fun w hSw => ?_) ?_
                rotate_left
                · (try dsimp only at hSw); go_simp; (try with_reducible rfl)
                try simp only [Act.put, List.setIfInBounds_toArray, List.set_cons_zero, List.set_cons_succ]
                refine' wpAnyZ_takeA (i := 11) (v := ?_) (opAt rfl) (by kernel_rfl) (by kernel_rfl) (by kernel_rfl) (by kernel_rfl) (fun _ _ _ h => h) (by assumption) (by rfl) (fun w hSw => ?_) ?_
                rotate_left
                · (try dsimp only at hSw); go_simp; (try with_reducible rfl)
                try simp only [Act.put, List.setIfInBounds_toArray, List.set_cons_zero, List.set_cons_succ]
                refine' wpAnyZ_takeA (i := 12) (v := ?_) (opAt rfl) (by kernel_rfl) (by kernel_rfl) (by kernel_rfl) (by kernel_rfl) (fun _ _ _ h => h) (by assumption) (by rfl) (fun w hSw => ?_) ?_
                rotate_left
                · (try dsimp only at hSw); go_simp; (try with_reducible rfl)
                try simp only [Act.put, List.setIfInBounds_toArray, List.set_cons_zero, List.set_cons_succ]
                refine' wpAnyZ_takeA (i := 13) (v := ?_) (opAt rfl) (by kernel_rfl) (by kernel_rfl) (by kernel_rfl) (by kernel_rfl) (fun _ _ _ h => h) (by assumption) (by rfl) (fun w hSw => ?_) ?_
                rotate_left
                · (try dsimp only at hSw); go_simp; (try with_reducible rfl)
                try simp only [Act.put, List.setIfInBounds_toArray, List.set_cons_zero, List.set_cons_succ]
                refine' wpAnyZ_takeA (i := 14) (v := ?_) (opAt rfl) (by kernel_rfl) (by kernel_rfl) (by kernel_rfl) (by kernel_rfl) (fun _ _ _ h => h) (by assumption) (by rfl) (fun w hSw => ?_) ?_
                rotate_left
                · (try dsimp only at hSw); go_simp; (try with_reducible rfl)
                try simp only [Act.put, List.setIfInBounds_toArray, List.set_cons_zero, List.set_cons_succ]
                refine wpAnyZ_ready (rs := [3]) (by kernel_rfl) (by simp) ?_
                refine AllReadyZ.cons (opAt rfl) (fun K hK => ?_) ?_
                · skip
                  go_simp
                  refine (CL.out _).mono ?_
                  rintro e w7 ⟨rfl, hb1⟩
                  replace ol := own_below ol hb1
                  replace HSZ := hide (Nat.le_trans HSZ.out hb1.size)
                  replace xl := xl.below hb1 xl.lt
                  replace xn := xn.below hb1 xn.lt
                  replace B0 := B0.trans (hb1.mono B0.size)
                  clear hb1
                  try go_wp2_with fail
                  refine hK.out _ _ (by exact ⟨xl.cell 0, xl.cell 1, xl.cell 2, xl.cell 3, xl.cell 4, xn.cell 0, xn.cell 1, xn.cell 2, xn.cell 3⟩) (fun hHeld => ?_)
                  clear hK K
                  try simp only [Act.put, List.setIfInBounds_toArray, List.set_cons_zero, List.set_cons_succ]
                  refine' wpAnyZ_takeA (i := 6) (v := ?_) (opAt rfl) (by kernel_rfl) (by kernel_rfl) (by kernel_rfl) (by kernel_rfl) (fun _ _ _ h => h) (by assumption) (by rfl) (fun w hSw => ?_) ?_
                  rotate_left
                  · (try dsimp only at hSw); go_simp; (try with_reducible rfl)
                  try simp only [Act.put, List.setIfInBounds_toArray, List.set_cons_zero, List.set_cons_succ]
                  refine wpAnyZ_ready (rs := [9]) (by kernel_rfl) (by simp) ?_
                  refine AllReadyZ.cons (opAt rfl) (fun K hK => ?_) ?_
                  · skip
                    go_simp
                    refine (CS.out _).mono ?_
                    rintro e w8 ⟨rfl, hb1⟩
                    replace ol := own_below ol hb1
                    replace HSZ := hide (Nat.le_trans HSZ.out hb1.size)
                    replace xl := xl.below hb1 xl.lt
                    replace xn := xn.below hb1 xn.lt
                    replace B0 := B0.trans (hb1.mono B0.size)
                    clear hb1
                    try go_wp2_with fail
                    refine hK.out _ _ (by exact ⟨xl.cell 0, xl.cell 1, xl.cell 2, xl.cell 3, xl.cell 4, xn.cell 0, xn.cell 1, xn.cell 2, xn.cell 3⟩) (fun hHeld => ?_)
                    clear hK K
                    try simp only [Act.put, List.setIfInBounds_toArray, List.set_cons_zero, List.set_cons_succ]
                    refine wpAnyZ_ready (rs := [15]) (by kernel_rfl) (by simp) ?_
                    refine AllReadyZ.cons (opAt rfl) (fun K hK => ?_) ?_
                    · skip
                      go_simp
                      refine (PK.out _).mono ?_
                      rintro e w9 ⟨rfl, rfl⟩
                      try go_wp2_with fail
                      refine hK.out _ _ (by exact ⟨xl.cell 0, xl.cell 1, xl.cell 2, xl.cell 3, xl.cell 4, xn.cell 0, xn.cell 1, xn.cell 2, xn.cell 3⟩) (fun hHeld => ?_)
                      clear hK K
                      try simp only [Act.put, List.setIfInBounds_toArray, List.set_cons_zero, List.set_cons_succ]
                      refine' wpAnyZ_takeA (i := 16) (v := ?_) (opAt rfl) (by kernel_rfl) (by kernel_rfl) (by kernel_rfl) (by kernel_rfl) (fun _ _ _ h => h) (by assumption) (by rfl) (fun w hSw => ?_) ?_
                      rotate_left
                      · (try dsimp only at hSw); go_simp; (try with_reducible rfl)
                      try simp only [Act.put, List.setIfInBounds_toArray, List.set_cons_zero, List.set_cons_succ]
                      refine wpAnyZ_ready (rs := [17]) (by kernel_rfl) (by simp) ?_
                      refine AllReadyZ.cons (opAt rfl) (fun K hK => ?_) ?_
                      · skip
                        go_simp
                        have hrd := Reads.new w8 [.int .i64 al, .int .u64 lk, .int .i64 ash, .int .u64 pw] 35 2 2 rfl
                        replace xl := xl.alloc (.cells #[.int .i64 al, .int .u64 lk, .int .i64 ash, .int .u64 pw] 35)
                        replace xn := xn.alloc (.cells #[.int .i64 al, .int .u64 lk, .int .i64 ash, .int .u64 pw] 35)
                        replace ol := ol.alloc (.cells #[.int .i64 al, .int .u64 lk, .int .i64 ash, .int .u64 pw] 35)
                        replace B0 := B0.alloc B0.size (.cells #[.int .i64 al, .int .u64 lk, .int .i64 ash, .int .u64 pw] 35)
                        replace HSZ := hide (Nat.le_trans HSZ.out (show w8.heap.size ≤ (w8.alloc (.cells #[.int .i64 al, .int .u64 lk, .int .i64 ash, .int .u64 pw] 35)).heap.size by rw [World.size_alloc]; exact Nat.le_succ _))
                        generalize w8.heap.size = g8 at *
                        generalize w8.alloc (.cells #[.int .i64 al, .int .u64 lk, .int .i64 ash, .int .u64 pw] 35) = w10 at *
                        refine hK.out _ _ (by exact ⟨xl.cell 0, xl.cell 1, xl.cell 2, xl.cell 3, xl.cell 4, xn.cell 0, xn.cell 1, xn.cell 2, xn.cell 3⟩) (fun hHeld => ?_)
                        clear hK K
                        try simp only [Act.put, List.setIfInBounds_toArray, List.set_cons_zero, List.set_cons_succ]
                        refine wpAnyZ_ready (rs := [18]) (by kernel_rfl) (by simp) ?_
                        refine AllReadyZ.cons (opAt rfl) (fun K hK => ?_) ?_
                        · skip
                          refine step_append_any _ (by rfl) (.tmp 60) (.tmp 77) _ (by rfl) (w.heap.size + 2) 35 i0 _ 2 16 Tryd.underlying24 hi0 hz0 hs0 hb0 rfl (by decide) _ n9 _ (by rfl) ol (g8 + 1) (some ⟨g8, 0, none⟩) 2 2 _ (by rfl) hrd (by intro u hu; simp at hu; rcases hu with rfl | rfl | rfl | rfl <;> rfl) (by unfold maxLen; have := HNB.out; omega) (by have := HNB.out; omega) HSZ.out ?_
                          intro v11 w11 ol11 hg11 hat11
                          replace xl := blk_appended xl ol hg11 (by omega)
                          replace xn := blk_appended xn ol hg11 (by omega)
                          replace B0 := below_appended B0 ol hg11 (by omega) B0.size
                          clear ol hg11 hat11 hrd
                          refine hK.out _ _ (by exact ⟨xl.cell 0, xl.cell 1, xl.cell 2, xl.cell 3, xl.cell 4, xn.cell 0, xn.cell 1, xn.cell 2, xn.cell 3⟩) (fun hHeld => ?_)
                          clear hK K
                          try simp only [Act.put, List.setIfInBounds_toArray, List.set_cons_zero, List.set_cons_succ]
                          refine' wpAnyZ_takeA (i := 19) (v := ?_) (opAt rfl) (by kernel_rfl) (by kernel_rfl) (by kernel_rfl) (by kernel_rfl) (fun _ _ _ h => h) (by assumption) (by rfl) (fun w hSw => ?_) ?_
                          rotate_left
                          · (try dsimp only at hSw); go_simp; (try with_reducible rfl)
                          try simp only [Act.put, List.setIfInBounds_toArray, List.set_cons_zero, List.set_cons_succ]
                          refine wpAnyZ_done (by kernel_rfl) ?_ _
                          obtain ⟨A9, c9, rfl, _⟩ := own_reads ol11
                          go_wp2_with fail
                          go_ret
                          have hal : n9 + 2 = wa.length := by rw [HWA.out, HN2.out, List.length_append, ← HDN.out]; simp [wrK_len]
                          have hre : recW done ++ [Value.int .i64 al, .int .u64 lk, .int .i64 ash, .int .u64 pw] = recW wa := by rw [HWA.out]; simp [recW]
                          rw [hre, hal] at ol11
                          rw [hal]
                          exact ⟨⟨A9, c9, rfl, own_mono ol11 (by omega)⟩, B0⟩
                        exact AllReadyZ.nil
                      exact AllReadyZ.nil
                    exact AllReadyZ.nil
                  exact AllReadyZ.nil
                exact AllReadyZ.nil
      exact AllReadyZ.nil
    exact AllReadyZ.nil
  exact AllReadyZ.nil
end Go.Proofs.YtegldbhabeoboaaDoor

/-
  gleaningref10.Put: the reference's words of a slot's node.
-/
namespace Go.Proofs.YtegldbhabeoboaaDoor
open Go.RowKit

theorem wrAll_len (t f k : Int) (b : Bool) (ks vs : List Int) (lk : Int) : (wrAll t f k b ks vs lk).length = ks.length + vs.length + 2 := by simp [wrAll, wrK_len, Nat.add_assoc]
theorem wrK_get (a0 : Int) (xs : List Int) (n j : Nat) (h : j < n) : (wrK a0 xs n)[j]'(by rw [wrK_len]; exact h) = (a0 + j, xs.getD j 0) := by simp [wrK]
theorem wrAll_key {t f k : Int} {b : Bool} {ks vs : List Int} {lk : Int} {j : Nat} (h : j < ks.length) : (wrAll t f k b ks vs lk).getD j (0, 0) = (nB t f k + 3 + j, ks.getD j 0) := by
  have hl := wrAll_len t f k b ks vs lk
  rw [List.getD_eq_getElem?_getD, List.getElem?_eq_getElem (by omega)]
  simp only [Option.getD_some]
  unfold wrAll
  rw [List.getElem_append_left (by rw [List.length_append, wrK_len, wrK_len]; omega), List.getElem_append_left (by rw [wrK_len]; omega), wrK_get _ _ _ _ h]
theorem wrAll_val {t f k : Int} {b : Bool} {ks vs : List Int} {lk : Int} {j : Nat} (h : j < vs.length) : (wrAll t f k b ks vs lk).getD (ks.length + j) (0, 0) = (nB t f k + 3 + f + j, vs.getD j 0) := by
  have hl := wrAll_len t f k b ks vs lk
  rw [List.getD_eq_getElem?_getD, List.getElem?_eq_getElem (by omega)]
  simp only [Option.getD_some]
  unfold wrAll
  rw [List.getElem_append_left (by rw [List.length_append, wrK_len, wrK_len]; omega), List.getElem_append_right (by rw [wrK_len]; omega)]
  simp only [wrK_len, Nat.add_sub_cancel_left]
  rw [wrK_get _ _ _ _ h]
theorem wrAll_link {t f k : Int} {b : Bool} {ks vs : List Int} {lk : Int} : (wrAll t f k b ks vs lk).getD (ks.length + vs.length) (0, 0) = (nB t f k + 2, lk) := by
  have hl := wrAll_len t f k b ks vs lk
  rw [List.getD_eq_getElem?_getD, List.getElem?_eq_getElem (by omega)]
  simp only [Option.getD_some]
  unfold wrAll
  rw [List.getElem_append_right (by rw [List.length_append, wrK_len, wrK_len]; omega)]
  simp only [List.length_append, wrK_len, Nat.sub_self]
  rfl
theorem wrAll_shape {t f k : Int} {b : Bool} {ks vs : List Int} {lk : Int} : (wrAll t f k b ks vs lk).getD (ks.length + vs.length + 1) (0, 0) = (nB t f k + 1, pk b vs.length) := by
  have hl := wrAll_len t f k b ks vs lk
  rw [List.getD_eq_getElem?_getD, List.getElem?_eq_getElem (by omega)]
  simp only [Option.getD_some]
  unfold wrAll
  rw [List.getElem_append_right (by rw [List.length_append, wrK_len, wrK_len]; omega)]
  simp only [List.length_append, wrK_len, Nat.add_sub_cancel_left]
  rfl
theorem mWri_next {ws : List Int} {wa : List (Int × Int)} {j p : Nat} {a x : Int} (h : wa.getD j (0, 0) = (a, x)) (ha : a = p) (hp : p < ws.length) : mWri ws wa (j + 1) = (mWri ws wa j).set p x := by
  show wPut (mWri ws wa j) (wa.getD j (0, 0)).1 (wa.getD j (0, 0)).2 = _
  rw [h, ha]
  exact wPut_at (by rw [mWri_len]; exact hp)
/-- A block whose first words are these. -/
def RefE (w : World) (g : Nat) (ws : List Int) : Prop := ∃ ex : List Value, Blk w g 32 (ints .u64 ws ++ ex).toArray
theorem RefE.of_ref {w : World} {g : Nat} {ws : List Int} (h : RefOk w g ws) : RefE w g ws := ⟨[], by rw [List.append_nil]; exact h⟩
theorem RefE.of_own {w : World} {B c N : Nat} {A : Option Addr} {ws : List Int} (h : w.ownsRow B 32 1 (.slice A N c) N (ints .u64 ws)) (hN : 0 < N) : ∃ g, A = some ⟨g, 0, none⟩ ∧ B ≤ g ∧ RefE w g ws := by
  rcases h.2 with ⟨_, h2⟩ | ⟨g, cap, cur, hv, hB, hh, _, _, _, ht⟩
  · omega
  · injection hv with h1 h2 h3
    refine ⟨g, h1, hB, cur.toList.drop (N * 1), ?_⟩
    rw [← ht, List.take_append_drop]
    exact hh
theorem RefE.lt {w : World} {g : Nat} {ws : List Int} (h : RefE w g ws) : g < w.heap.size := by obtain ⟨ex, h⟩ := h; exact Blk.lt h
theorem RefE.at_ {w : World} {g : Nat} {ws : List Int} (h : RefE w g ws) {j : Nat} (hj : j < ws.length) : w.cell? ⟨g, j, none⟩ = some (.int .u64 (ws.getD j 0)) := by
  obtain ⟨ex, h⟩ := h
  rw [Blk.cell h j, List.getElem?_toArray, List.getElem?_append_left (by rw [ints_len]; exact hj), ints_get ws j hj, List.getD_eq_getElem?_getD, List.getElem?_eq_getElem hj]
  rfl
theorem RefE.grown {w w' : World} {g : Nat} {ws : List Int} {row : Option Nat} (h : RefE w g ws) (hg : w.grownBy w' row) (h1 : some g ≠ row) : RefE w' g ws := by obtain ⟨ex, h⟩ := h; exact ⟨ex, Blk.grown h hg h1⟩
theorem RefE.below {w w' : World} {g : Nat} {ws : List Int} (h : RefE w g ws) (hb : Below w.heap.size w w') : RefE w' g ws := h.grown (grown_below hb none) (by simp)
theorem RefE.frozen {w : World} {g : Nat} {ws : List Int} (h : RefE w g ws) (j : Nat) : w.frozen? ⟨g, j, none⟩ = false := by obtain ⟨ex, h⟩ := h; exact Blk.frozen h j
theorem RefE.drew {w : World} {g : Nat} {ws : List Int} (h : RefE w g ws) : RefE w.drew g ws := h
theorem RefE.alloc {w : World} {g : Nat} {ws : List Int} (h : RefE w g ws) (o : Obj) : RefE (w.alloc o) g ws := by obtain ⟨ex, h⟩ := h; exact ⟨ex, Blk.alloc h o⟩
theorem RefE.far {w : World} {g : Nat} {ws : List Int} (h : RefE w g ws) {p : Addr} (hp : g ≠ p.block) (v : Value) : RefE (w.setCell p v) g ws := by obtain ⟨ex, h⟩ := h; exact ⟨ex, Blk.far h hp v⟩
theorem RefE.set_ {w : World} {g : Nat} {ws : List Int} (h : RefE w g ws) (j : Nat) (x : Int) (hj : j < ws.length) : RefE (w.setCell ⟨g, j, none⟩ (.int .u64 x)) g (ws.set j x) := by
  obtain ⟨ex, h⟩ := h
  refine ⟨ex, ?_⟩
  have h2 := Blk.set_ h j (.int .u64 x)
  have e : (ints .u64 (ws.set j x) ++ ex).toArray = (ints .u64 ws ++ ex).toArray.setIfInBounds j (.int .u64 x) := by
    rw [List.setIfInBounds_toArray, List.set_append_left _ _ (by rw [ints_len]; exact hj)]
    congr 2
    unfold ints
    rw [List.map_set]
  rw [e]
  exact h2
structure PtW (B g gc gn : Nat) (s t f lm p : Int) (cn : Array Value) (w : World) (m : List Int) (wr : World) : Prop where
  xc : Blk wr gc 23 #[.int .i64 s, .int .i64 t, .int .i64 f, .int .i64 lm, .int .i64 p]
  xn : Blk wr gn 49 cn
  rb : RefE wr g m
  G : w.grownBy wr (some g)
  hb : Below B w wr
def PtI (B g gc gn : Nat) (s t f lm p : Int) (cn : Array Value) (w : World) (ws : List Int) (wa : List (Int × Int)) (j0 n : Nat) (iv : Value) (wr : World) : Prop :=
  ∃ k : Nat, iv = .int .i64 k ∧ k ≤ n ∧ PtW B g gc gn s t f lm p cn w (mWri ws wa (j0 + k)) wr
set_option maxRecDepth 100000 in
set_option maxHeartbeats 4000000 in
theorem rput_any (g B : Nat) (s t f lm p k : Int) (N0 c0 : Nat) (ws : List Int) (v : Value) (b : Bool) (ks vs : List Int) (lk : Int) (w : World) (hs : 1 ≤ s ∧ s ≤ 1000) (ht : 1 ≤ t ∧ t ≤ 64) (hf : 4 ≤ f ∧ f ≤ 64) (hk : 0 ≤ k ∧ k ≤ s) (hN0 : laySize s t f = N0) (hl : ws.length = N0) (R : RefE w g ws) (hB : B ≤ w.heap.size) (hBg : B ≤ g) (h : Nd w B v b ks vs lk) (hkl : (ks.length : Int) ≤ f) (hvl : (vs.length : Int) ≤ f) :
    Calls Tryd.prog 40 #[.agg #[.int .i64 s, .int .i64 t, .int .i64 f, .int .i64 lm, .int .i64 p], .slice (some ⟨g, 0, none⟩) N0 c0, .int .i64 k, v] w fun e w' => (∃ u, e = .returned u) ∧ RefE w' g (mWri ws (wrAll t f k b ks vs lk) (wrAll t f k b ks vs lk).length) ∧ w.grownBy w' (some g) := by
  have hbd := nB_bd hs ht hf hk
  obtain ⟨kv, uv, rfl, ⟨A, c, rfl, h1, h2, hks⟩, ⟨A', c', rfl, h3, h4, hvs⟩⟩ := h
  have CKa := hide (fun (i : Nat) (hi : i < ks.length) (pv : Nat) (hp : nB t f k + 3 + i = pv) w2 => by have h := rkey_any s t f lm p k i w2 hs ht hf hk (by omega); rw [hp] at h; exact h)
  have CVa := hide (fun (i : Nat) (hi : i < vs.length) (pv : Nat) (hp : nB t f k + 3 + f + i = pv) w2 => by have h := rval_any s t f lm p k i w2 hs ht hf hk (by omega); rw [hp] at h; exact h)
  obtain ⟨q, hq⟩ : ∃ q : Nat, nB t f k = q := Int.eq_ofNat_of_zero_le (by omega)
  have CL := hide (fun w2 => rlnkB_any s t f lm p k w2 hs ht hf hk)
  have CS := hide (fun w2 => rshp_any s t f lm p k w2 hs ht hf hk)
  rw [hq] at CL CS
  have PK := hide (fun w2 => rpack_any b vs.length w2 ⟨by omega, by omega⟩)
  have WK := hide (fun (j : Nat) (hj : j < ks.length) (pv : Nat) (hp : nB t f k + 3 + j = pv) (hpl : pv < ws.length) => mWri_next (ws := ws) (wrAll_key (t := t) (f := f) (k := k) (b := b) (vs := vs) (lk := lk) hj) hp hpl)
  have WV := hide (fun (j : Nat) (hj : j < vs.length) (pv : Nat) (hp : nB t f k + 3 + f + j = pv) (hpl : pv < ws.length) => mWri_next (ws := ws) (wrAll_val (t := t) (f := f) (k := k) (b := b) (ks := ks) (lk := lk) hj) hp hpl)
  have WL := hide (mWri_next (ws := ws) (p := q + 2) (wrAll_link (t := t) (f := f) (k := k) (b := b) (ks := ks) (vs := vs) (lk := lk)) (by omega) (by omega))
  have WS := hide (mWri_next (ws := ws) (p := q + 1) (wrAll_shape (t := t) (f := f) (k := k) (b := b) (ks := ks) (vs := vs) (lk := lk)) (by omega) (by omega))
  have WLEN := hide (wrAll_len t f k b ks vs lk)
  have PB := hide (fun (j : Nat) (hj : (j : Int) < f) => (⟨by omega, by omega, by omega, by omega⟩ : 0 ≤ nB t f k + 3 + (j : Int) ∧ nB t f k + 3 + (j : Int) < N0 ∧ 0 ≤ nB t f k + 3 + f + (j : Int) ∧ nB t f k + 3 + f + (j : Int) < N0))
  generalize wrAll t f k b ks vs lk = wa at *
  generalize pk b vs.length = pw at *
  have hq1N : q + 1 < N0 := by omega
  have hq2N : q + 2 < N0 := by omega
  have hq1i : ((q : Int) + 1).toNat = q + 1 := by omega
  have hq2i : ((q : Int) + 2).toNat = q + 2 := by omega
  have hq1l : (q : Int) + 1 < (N0 : Int) := by omega
  have hq2l : (q : Int) + 2 < (N0 : Int) := by omega
  have HQQ := hide (And.intro hq1N (And.intro hq2N (And.intro hq1i (And.intro hq2i (And.intro hq1l hq2l)))))
  have HKL := hide hkl
  have HVL := hide hvl
  have HF := hide hf
  have HL := hide hl
  have HKS := hide hks
  have HVS := hide hvs
  have HGB := hide hBg
  have HBW := hide hB
  clear hq1N hq2N hq1i hq2i hq1l hq2l hq hbd hkl hvl hs ht hf hk hl hN0 hks hvs hB hBg h1 h2 h3 h4
  have hgl := R.lt
  have G := World.grownBy_alloc w (.cells #[.int .i64 s, .int .i64 t, .int .i64 f, .int .i64 lm, .int .i64 p] 23) (some g)
  replace G := grown_trans G (World.grownBy_alloc (w.alloc (.cells #[.int .i64 s, .int .i64 t, .int .i64 f, .int .i64 lm, .int .i64 p] 23)) (.cells #[.bool b, .slice A ks.length c, .slice A' vs.length c', .int .u64 lk] 49) (some g))
  have hb := ((Below.refl B w).alloc HBW.out (.cells #[.int .i64 s, .int .i64 t, .int .i64 f, .int .i64 lm, .int .i64 p] 23)).alloc (by rw [World.size_alloc]; have := HBW.out; omega) (.cells #[.bool b, .slice A ks.length c, .slice A' vs.length c', .int .u64 lk] 49)
  have xc := (Blk.new w 23 #[.int .i64 s, .int .i64 t, .int .i64 f, .int .i64 lm, .int .i64 p]).alloc (.cells #[.bool b, .slice A ks.length c, .slice A' vs.length c', .int .u64 lk] 49)
  have xn := Blk.new (w.alloc (.cells #[.int .i64 s, .int .i64 t, .int .i64 f, .int .i64 lm, .int .i64 p] 23)) 49 #[.bool b, .slice A ks.length c, .slice A' vs.length c', .int .u64 lk]
  have rb : RefE ((w.alloc (.cells #[.int .i64 s, .int .i64 t, .int .i64 f, .int .i64 lm, .int .i64 p] 23)).alloc (.cells #[.bool b, .slice A ks.length c, .slice A' vs.length c', .int .u64 lk] 49)) g ws := (R.alloc _).alloc _
  simp only [World.size_alloc] at xn
  have mn := fun i => xn.cell i
  go_enter Tryd.func40, Tryd.ntmps40
  go_wp2_with fail
  clear mn
  generalize (w.alloc (.cells #[.int .i64 s, .int .i64 t, .int .i64 f, .int .i64 lm, .int .i64 p] 23)).alloc (.cells #[.bool b, .slice A ks.length c, .slice A' vs.length c', .int .u64 lk] 49) = w0 at *
  obtain ⟨gc, hgc⟩ : ∃ gc, gc = w.heap.size := ⟨_, rfl⟩
  rw [← hgc] at xc xn hgl
  have HGG := hide hgl
  have HGC := hide hgc
  try rw [← hgc]
  clear hgc hgl R
  go_loopw [8] (PtI B g gc (gc + 1) s t f lm p #[.bool b, .slice A ks.length c, .slice A' vs.length c', .int .u64 lk] w ws wa 0 ks.length) (fun i _ => ks.length - (intOf i).toNat)
  case atStart => exact ⟨0, rfl, Nat.zero_le _, ⟨xc, xn, rb, G, hb⟩⟩
  case round =>
    clear xc xn rb G hb
    obtain ⟨j, rfl, hj, ⟨xc, xn, rb, G, hb⟩⟩ := hrel
    rw [Nat.zero_add] at rb
    by_cases hlt : j < ks.length
    · skip
      obtain ⟨a, ea, hjl, z1⟩ := (HKS.out.below hb).word hlt
      subst ea
      have ZZ := hide (fun (w2 : World) (h2 : Below B w w2) => (by obtain ⟨a9, e9, h9, z9⟩ := (HKS.out.below h2).word hlt; injection e9 with e9; subst e9; exact z9 : w2.cell? (a.add j) = some (.int .u64 ks[j])))
      have hpb := PB.out j (by have h1 := HKL.out; omega)
      obtain ⟨pv, hpv⟩ : ∃ pv : Nat, nB t f k + 3 + j = pv := Int.eq_ofNat_of_zero_le (by omega)
      have hpN : pv < N0 := by omega
      have CK := hide (CKa.out j hlt pv hpv)
      have HW := hide (WK.out j hlt pv hpv (by rw [HL.out]; exact hpN))
      have hgx : ks.getD j 0 = ks[j] := by simp [List.getD, hjl]
      rw [hgx] at HW
      generalize ks[j] = x at *
      have ATT := hide (fun (w2 : World) (h : RefE w2 g (mWri ws wa (j))) => h.at_ (j := pv) (by rw [mWri_len, HL.out]; exact hpN))
      have HLT := hide (show pv < (mWri ws wa (j)).length by rw [mWri_len, HL.out]; exact hpN)
      generalize mWri ws wa (j) = m1 at *
      have hlt2 : (j : Int) < (ks.length : Int) := by omega
      have hj64 : (j : Int) ≤ 64 := by have h1 := HKL.out; have h2 := HVL.out; have h3 := HF.out; omega
      clear hpb hpv hgx z1
      have mn := fun i => xn.cell i
      go_wp2_with fail
      clear mn
      refine wp_region_heldZ [11] (fun w' => w'.cell? ⟨gc, 0, none⟩ = some (.int .i64 s) ∧ w'.cell? ⟨gc, 1, none⟩ = some (.int .i64 t) ∧ w'.cell? ⟨gc, 2, none⟩ = some (.int .i64 f) ∧ w'.cell? ⟨gc, 3, none⟩ = some (.int .i64 lm) ∧ w'.cell? ⟨gc, 4, none⟩ = some (.int .i64 p) ∧ w'.cell? ⟨gc + 1, 0, none⟩ = some (.bool b) ∧ w'.cell? ⟨gc + 1, 1, none⟩ = some (.slice (some a) ks.length c) ∧ w'.cell? ⟨gc + 1, 2, none⟩ = some (.slice A' vs.length c') ∧ w'.cell? ⟨gc + 1, 3, none⟩ = some (.int .u64 lk) ∧ w'.cell? (a.add j) = some (.int .u64 x)) (by kernel_rfl) (by exact ⟨xc.cell 0, xc.cell 1, xc.cell 2, xc.cell 3, xc.cell 4, xn.cell 0, xn.cell 1, xn.cell 2, xn.cell 3, ZZ.out _ (by first | exact hb | exact hb.drew)⟩) (fun hHeld => ?_)
      replace xc := xc.drew
      replace xn := xn.drew
      replace rb := rb.drew
      replace G := (show w.grownBy wr.drew (some g) from ⟨G.os, G.tape.trans rfl, G.output, G.size, G.block⟩)
      replace hb := hb.drew
      generalize wr.drew = wd at *
      refine' wpAnyZ_takeA (i := 0) (v := ?_) (opAt rfl) (by kernel_rfl) (by kernel_rfl) (by kernel_rfl) (by kernel_rfl) (fun _ _ _ h => h) (by assumption) (by rfl) (fun w hSw => ?_) ?_
      rotate_left
      · (try dsimp only at hSw); go_simp; (try with_reducible rfl)
      try simp only [Act.put, List.setIfInBounds_toArray, List.set_cons_zero, List.set_cons_succ]
      refine' wpAnyZ_takeA (i := 1) (v := ?_) (opAt rfl) (by kernel_rfl) (by kernel_rfl) (by kernel_rfl) (by kernel_rfl) (fun _ _ _ h => h) (by assumption) (by rfl) (fun w hSw => ?_) ?_
      rotate_left
      · (try dsimp only at hSw); go_simp; (try with_reducible rfl)
      try simp only [Act.put, List.setIfInBounds_toArray, List.set_cons_zero, List.set_cons_succ]
      refine' wpAnyZ_takeA (i := 2) (v := ?_) (opAt rfl) (by kernel_rfl) (by kernel_rfl) (by kernel_rfl) (by kernel_rfl) (fun _ _ _ h => h) (by assumption) (by rfl) (fun w hSw => ?_) ?_
      rotate_left
      · (try dsimp only at hSw); go_simp; (try with_reducible rfl)
      try simp only [Act.put, List.setIfInBounds_toArray, List.set_cons_zero, List.set_cons_succ]
      refine' wpAnyZ_takeA (i := 3) (v := ?_) (opAt rfl) (by kernel_rfl) (by kernel_rfl) (by kernel_rfl) (by kernel_rfl) (fun _ _ _ h => h) (by assumption) (by rfl) (fun w hSw => ?_) ?_
      rotate_left
      · (try dsimp only at hSw); go_simp; (try with_reducible rfl)
      try simp only [Act.put, List.setIfInBounds_toArray, List.set_cons_zero, List.set_cons_succ]
      refine' wpAnyZ_takeA (i := 5) (v := ?_) (opAt rfl) (by kernel_rfl) (by kernel_rfl) (by kernel_rfl) (by kernel_rfl) (fun _ _ _ h => h) (by assumption) (by rfl) (fun w hSw => ?_) ?_
      rotate_left
      · (try dsimp only at hSw); go_simp; (try with_reducible rfl)
      try simp only [Act.put, List.setIfInBounds_toArray, List.set_cons_zero, List.set_cons_succ]
      refine' wpAnyZ_takeA (i := 6) (v := ?_) (opAt rfl) (by kernel_rfl) (by kernel_rfl) (by kernel_rfl) (by kernel_rfl) (fun _ _ _ h => h) (by assumption) (by rfl) (fun w hSw => ?_) ?_
      rotate_left
      · (try dsimp only at hSw); go_simp; (try with_reducible rfl)
      try simp only [Act.put, List.setIfInBounds_toArray, List.set_cons_zero, List.set_cons_succ]
      refine' wpAnyZ_takeA (i := 7) (v := ?_) (opAt rfl) (by kernel_rfl) (by kernel_rfl) (by kernel_rfl) (by kernel_rfl) (fun _ _ _ h => h) (by assumption) (by rfl) (fun w hSw => ?_) ?_
      rotate_left
      · (try dsimp only at hSw); go_simp; (try with_reducible rfl)
      try simp only [Act.put, List.setIfInBounds_toArray, List.set_cons_zero, List.set_cons_succ]
      refine' wpAnyZ_takeA (i := 8) (v := ?_) (opAt rfl) (by kernel_rfl) (by kernel_rfl) (by kernel_rfl) (by kernel_rfl) (fun _ _ _ h => h) (by assumption) (by rfl) (fun w hSw => ?_) ?_
      rotate_left
      · (try dsimp only at hSw); go_simp; (try with_reducible rfl)
      try simp only [Act.put, List.setIfInBounds_toArray, List.set_cons_zero, List.set_cons_succ]
      refine' wpAnyZ_takeA (i := 9) (v := ?_) (opAt rfl) (by kernel_rfl) (by kernel_rfl) (by kernel_rfl) (by kernel_rfl) (fun _ _ _ h => h) (by assumption) (by rfl) (fun w hSw => ?_) ?_
      rotate_left
      · (try dsimp only at hSw); go_simp; (try with_reducible rfl)
      try simp only [Act.put, List.setIfInBounds_toArray, List.set_cons_zero, List.set_cons_succ]
      refine wpAnyZ_ready (rs := [4]) (by kernel_rfl) (by simp) ?_
      refine AllReadyZ.cons (opAt rfl) (fun K hK => ?_) ?_
      · skip
        go_simp
        refine (CK.out _).mono ?_
        rintro e w5 ⟨rfl, hb1⟩
        replace xc := xc.below hb1 xc.lt
        replace xn := xn.below hb1 xn.lt
        replace rb := rb.below hb1
        replace G := grown_trans G (grown_below hb1 _)
        replace hb := hb.trans (hb1.mono (Nat.le_trans HBW.out hb.size))
        clear hb1
        try go_wp2_with fail
        refine hK.out _ _ (by exact ⟨xc.cell 0, xc.cell 1, xc.cell 2, xc.cell 3, xc.cell 4, xn.cell 0, xn.cell 1, xn.cell 2, xn.cell 3, ZZ.out _ (by first | exact hb | exact hb.drew)⟩) (fun hHeld => ?_)
        clear hK K
        try simp only [Act.put, List.setIfInBounds_toArray, List.set_cons_zero, List.set_cons_succ]
        refine' wpAnyZ_takeA (i := 10) (v := ?_) (opAt rfl) (by kernel_rfl) (by kernel_rfl) (by kernel_rfl) (by kernel_rfl) (fun _ _ _ h => h) (by assumption) (by rfl) (fun w hSw => ?_) ?_
        rotate_left
        · (try dsimp only at hSw); go_simp; (try with_reducible rfl)
        try simp only [Act.put, List.setIfInBounds_toArray, List.set_cons_zero, List.set_cons_succ]
        refine wpAnyZ_ready (rs := [11]) (by kernel_rfl) (by simp) ?_
        refine AllReadyZ.last (opAt rfl) (by kernel_rfl) (fun K hK => ?_) ?_
        · skip
          have zo := fun i => rb.frozen i
          have mo := ATT.out _ rb
          go_simp
          refine hK.out _ _ ?_
          clear hK K
          try simp only [Act.put, List.setIfInBounds_toArray, List.set_cons_zero, List.set_cons_succ]
          refine wpAnyZ_done (by kernel_rfl) ?_ _
          replace xc := xc.far (p := ⟨g, pv, none⟩) (by have := HGG.out; show gc ≠ g; omega) (.int .u64 x)
          replace xn := xn.far (p := ⟨g, pv, none⟩) (by have := HGG.out; show gc + 1 ≠ g; omega) (.int .u64 x)
          replace rb := rb.set_ pv x HLT.out
          replace G := grown_trans G (grown_set w5 g pv (.int .u64 x))
          replace hb := hb.setCell (p := ⟨g, pv, none⟩) HGB.out (.int .u64 x)
          generalize w5.setCell ⟨g, pv, none⟩ (.int .u64 x) = w9 at *
          clear zo mo
          go_wp2_with fail
          go_roundw
          case measure => simp [intOf]; omega
          case rel => exact ⟨j + 1, by go_num, by omega, ⟨xc, xn, by rw [← Nat.add_assoc, Nat.zero_add, HW.out]; exact rb, G, hb⟩⟩
        exact AllReadyZ.nil
      exact AllReadyZ.nil
    · skip
      have hjk : j = ks.length := by omega
      have hlt2 : ¬ (j : Int) < (ks.length : Int) := by omega
      subst hjk
      clear hlt hj
      have mn := fun i => xn.cell i
      go_wp2_with fail
      clear mn
      go_loopw [9] (PtI B g gc (gc + 1) s t f lm p #[.bool b, .slice A ks.length c, .slice A' vs.length c', .int .u64 lk] w ws wa ks.length vs.length) (fun i _ => vs.length - (intOf i).toNat)
      case atStart => exact ⟨0, rfl, Nat.zero_le _, ⟨xc, xn, rb, G, hb⟩⟩
      case round =>
        clear xc xn rb G hb
        obtain ⟨j, rfl, hj, ⟨xc, xn, rb, G, hb⟩⟩ := hrel
        by_cases hlt : j < vs.length
        · skip
          obtain ⟨a, ea, hjl, z1⟩ := (HVS.out.below hb).word hlt
          subst ea
          have ZZ := hide (fun (w2 : World) (h2 : Below B w w2) => (by obtain ⟨a9, e9, h9, z9⟩ := (HVS.out.below h2).word hlt; injection e9 with e9; subst e9; exact z9 : w2.cell? (a.add j) = some (.int .u64 vs[j])))
          have hpb := PB.out j (by have h1 := HVL.out; omega)
          obtain ⟨pv, hpv⟩ : ∃ pv : Nat, nB t f k + 3 + f + j = pv := Int.eq_ofNat_of_zero_le (by omega)
          have hpN : pv < N0 := by omega
          have CK := hide (CVa.out j hlt pv hpv)
          have HW := hide (WV.out j hlt pv hpv (by rw [HL.out]; exact hpN))
          have hgx : vs.getD j 0 = vs[j] := by simp [List.getD, hjl]
          rw [hgx] at HW
          generalize vs[j] = x at *
          have ATT := hide (fun (w2 : World) (h : RefE w2 g (mWri ws wa (ks.length + j))) => h.at_ (j := pv) (by rw [mWri_len, HL.out]; exact hpN))
          have HLT := hide (show pv < (mWri ws wa (ks.length + j)).length by rw [mWri_len, HL.out]; exact hpN)
          generalize mWri ws wa (ks.length + j) = m1 at *
          have hlt2 : (j : Int) < (vs.length : Int) := by omega
          have hj64 : (j : Int) ≤ 64 := by have h1 := HKL.out; have h2 := HVL.out; have h3 := HF.out; omega
          clear hpb hpv hgx z1
          have mn := fun i => xn.cell i
          go_wp2_with fail
          clear mn
          refine wp_region_heldZ [11] (fun w' => w'.cell? ⟨gc, 0, none⟩ = some (.int .i64 s) ∧ w'.cell? ⟨gc, 1, none⟩ = some (.int .i64 t) ∧ w'.cell? ⟨gc, 2, none⟩ = some (.int .i64 f) ∧ w'.cell? ⟨gc, 3, none⟩ = some (.int .i64 lm) ∧ w'.cell? ⟨gc, 4, none⟩ = some (.int .i64 p) ∧ w'.cell? ⟨gc + 1, 0, none⟩ = some (.bool b) ∧ w'.cell? ⟨gc + 1, 1, none⟩ = some (.slice A ks.length c) ∧ w'.cell? ⟨gc + 1, 2, none⟩ = some (.slice (some a) vs.length c') ∧ w'.cell? ⟨gc + 1, 3, none⟩ = some (.int .u64 lk) ∧ w'.cell? (a.add j) = some (.int .u64 x)) (by kernel_rfl) (by exact ⟨xc.cell 0, xc.cell 1, xc.cell 2, xc.cell 3, xc.cell 4, xn.cell 0, xn.cell 1, xn.cell 2, xn.cell 3, ZZ.out _ (by first | exact hb | exact hb.drew)⟩) (fun hHeld => ?_)
          replace xc := xc.drew
          replace xn := xn.drew
          replace rb := rb.drew
          replace G := (show w.grownBy wr.drew (some g) from ⟨G.os, G.tape.trans rfl, G.output, G.size, G.block⟩)
          replace hb := hb.drew
          generalize wr.drew = wd at *
          refine' wpAnyZ_takeA (i := 0) (v := ?_) (opAt rfl) (by kernel_rfl) (by kernel_rfl) (by kernel_rfl) (by kernel_rfl) (fun _ _ _ h => h) (by assumption) (by rfl) (fun w hSw => ?_) ?_
          rotate_left
          · (try dsimp only at hSw); go_simp; (try with_reducible rfl)
          try simp only [Act.put, List.setIfInBounds_toArray, List.set_cons_zero, List.set_cons_succ]
          refine' wpAnyZ_takeA (i := 1) (v := ?_) (opAt rfl) (by kernel_rfl) (by kernel_rfl) (by kernel_rfl) (by kernel_rfl) (fun _ _ _ h => h) (by assumption) (by rfl) (fun w hSw => ?_) ?_
          rotate_left
          · (try dsimp only at hSw); go_simp; (try with_reducible rfl)
          try simp only [Act.put, List.setIfInBounds_toArray, List.set_cons_zero, List.set_cons_succ]
          refine' wpAnyZ_takeA (i := 2) (v := ?_) (opAt rfl) (by kernel_rfl) (by kernel_rfl) (by kernel_rfl) (by kernel_rfl) (fun _ _ _ h => h) (by assumption) (by rfl) (fun w hSw => ?_) ?_
          rotate_left
          · (try dsimp only at hSw); go_simp; (try with_reducible rfl)
          try simp only [Act.put, List.setIfInBounds_toArray, List.set_cons_zero, List.set_cons_succ]
          refine' wpAnyZ_takeA (i := 3) (v := ?_) (opAt rfl) (by kernel_rfl) (by kernel_rfl) (by kernel_rfl) (by kernel_rfl) (fun _ _ _ h => h) (by assumption) (by rfl) (fun w hSw => ?_) ?_
          rotate_left
          · (try dsimp only at hSw); go_simp; (try with_reducible rfl)
          try simp only [Act.put, List.setIfInBounds_toArray, List.set_cons_zero, List.set_cons_succ]
          refine' wpAnyZ_takeA (i := 5) (v := ?_) (opAt rfl) (by kernel_rfl) (by kernel_rfl) (by kernel_rfl) (by kernel_rfl) (fun _ _ _ h => h) (by assumption) (by rfl) (fun w hSw => ?_) ?_
          rotate_left
          · (try dsimp only at hSw); go_simp; (try with_reducible rfl)
          try simp only [Act.put, List.setIfInBounds_toArray, List.set_cons_zero, List.set_cons_succ]
          refine' wpAnyZ_takeA (i := 6) (v := ?_) (opAt rfl) (by kernel_rfl) (by kernel_rfl) (by kernel_rfl) (by kernel_rfl) (fun _ _ _ h => h) (by assumption) (by rfl) (fun w hSw => ?_) ?_
          rotate_left
          · (try dsimp only at hSw); go_simp; (try with_reducible rfl)
          try simp only [Act.put, List.setIfInBounds_toArray, List.set_cons_zero, List.set_cons_succ]
          refine' wpAnyZ_takeA (i := 7) (v := ?_) (opAt rfl) (by kernel_rfl) (by kernel_rfl) (by kernel_rfl) (by kernel_rfl) (fun _ _ _ h => h) (by assumption) (by rfl) (fun w hSw => ?_) ?_
          rotate_left
          · (try dsimp only at hSw); go_simp; (try with_reducible rfl)
          try simp only [Act.put, List.setIfInBounds_toArray, List.set_cons_zero, List.set_cons_succ]
          refine' wpAnyZ_takeA (i := 8) (v := ?_) (opAt rfl) (by kernel_rfl) (by kernel_rfl) (by kernel_rfl) (by kernel_rfl) (fun _ _ _ h => h) (by assumption) (by rfl) (fun w hSw => ?_) ?_
          rotate_left
          · (try dsimp only at hSw); go_simp; (try with_reducible rfl)
          try simp only [Act.put, List.setIfInBounds_toArray, List.set_cons_zero, List.set_cons_succ]
          refine' wpAnyZ_takeA (i := 9) (v := ?_) (opAt rfl) (by kernel_rfl) (by kernel_rfl) (by kernel_rfl) (by kernel_rfl) (fun _ _ _ h => h) (by assumption) (by rfl) (fun w hSw => ?_) ?_
          rotate_left
          · (try dsimp only at hSw); go_simp; (try with_reducible rfl)
          try simp only [Act.put, List.setIfInBounds_toArray, List.set_cons_zero, List.set_cons_succ]
          refine wpAnyZ_ready (rs := [4]) (by kernel_rfl) (by simp) ?_
          refine AllReadyZ.cons (opAt rfl) (fun K hK => ?_) ?_
          · skip
            go_simp
            refine (CK.out _).mono ?_
            rintro e w5 ⟨rfl, hb1⟩
            replace xc := xc.below hb1 xc.lt
            replace xn := xn.below hb1 xn.lt
            replace rb := rb.below hb1
            replace G := grown_trans G (grown_below hb1 _)
            replace hb := hb.trans (hb1.mono (Nat.le_trans HBW.out hb.size))
            clear hb1
            try go_wp2_with fail
            refine hK.out _ _ (by exact ⟨xc.cell 0, xc.cell 1, xc.cell 2, xc.cell 3, xc.cell 4, xn.cell 0, xn.cell 1, xn.cell 2, xn.cell 3, ZZ.out _ (by first | exact hb | exact hb.drew)⟩) (fun hHeld => ?_)
            clear hK K
            try simp only [Act.put, List.setIfInBounds_toArray, List.set_cons_zero, List.set_cons_succ]
            refine' wpAnyZ_takeA (i := 10) (v := ?_) (opAt rfl) (by kernel_rfl) (by kernel_rfl) (by kernel_rfl) (by kernel_rfl) (fun _ _ _ h => h) (by assumption) (by rfl) (fun w hSw => ?_) ?_
            rotate_left
            · (try dsimp only at hSw); go_simp; (try with_reducible rfl)
            try simp only [Act.put, List.setIfInBounds_toArray, List.set_cons_zero, List.set_cons_succ]
            refine wpAnyZ_ready (rs := [11]) (by kernel_rfl) (by simp) ?_
            refine AllReadyZ.last (opAt rfl) (by kernel_rfl) (fun K hK => ?_) ?_
            · skip
              have zo := fun i => rb.frozen i
              have mo := ATT.out _ rb
              go_simp
              refine hK.out _ _ ?_
              clear hK K
              try simp only [Act.put, List.setIfInBounds_toArray, List.set_cons_zero, List.set_cons_succ]
              refine wpAnyZ_done (by kernel_rfl) ?_ _
              replace xc := xc.far (p := ⟨g, pv, none⟩) (by have := HGG.out; show gc ≠ g; omega) (.int .u64 x)
              replace xn := xn.far (p := ⟨g, pv, none⟩) (by have := HGG.out; show gc + 1 ≠ g; omega) (.int .u64 x)
              replace rb := rb.set_ pv x HLT.out
              replace G := grown_trans G (grown_set w5 g pv (.int .u64 x))
              replace hb := hb.setCell (p := ⟨g, pv, none⟩) HGB.out (.int .u64 x)
              generalize w5.setCell ⟨g, pv, none⟩ (.int .u64 x) = w9 at *
              clear zo mo
              go_wp2_with fail
              go_roundw
              case measure => simp [intOf]; omega
              case rel => exact ⟨j + 1, by go_num, by omega, ⟨xc, xn, by rw [← Nat.add_assoc, HW.out]; exact rb, G, hb⟩⟩
            exact AllReadyZ.nil
          exact AllReadyZ.nil
        · skip
          have hjk : j = vs.length := by omega
          have hlt2 : ¬ (j : Int) < (vs.length : Int) := by omega
          subst hjk
          clear hlt hj
          obtain ⟨hq1N, hq2N, hq1i, hq2i, hq1l, hq2l⟩ := HQQ.out
          have hq1p : 0 ≤ (q : Int) + 1 := by omega
          have hq2p : 0 ≤ (q : Int) + 2 := by omega
          have ATT := hide (fun (w2 : World) (h : RefE w2 g (mWri ws wa (ks.length + vs.length))) => h.at_ (j := q + 2) (by rw [mWri_len, HL.out]; exact hq2N))
          have HLT := hide (show q + 2 < (mWri ws wa (ks.length + vs.length)).length by rw [mWri_len, HL.out]; exact hq2N)
          generalize hm1 : mWri ws wa (ks.length + vs.length) = m1 at *
          replace hm1 := hide hm1
          have mn := fun i => xn.cell i
          go_wp2_with fail
          clear mn
          refine wp_region_heldZ [7] (fun w' => w'.cell? ⟨gc, 0, none⟩ = some (.int .i64 s) ∧ w'.cell? ⟨gc, 1, none⟩ = some (.int .i64 t) ∧ w'.cell? ⟨gc, 2, none⟩ = some (.int .i64 f) ∧ w'.cell? ⟨gc, 3, none⟩ = some (.int .i64 lm) ∧ w'.cell? ⟨gc, 4, none⟩ = some (.int .i64 p) ∧ w'.cell? ⟨gc + 1, 0, none⟩ = some (.bool b) ∧ w'.cell? ⟨gc + 1, 1, none⟩ = some (.slice A ks.length c) ∧ w'.cell? ⟨gc + 1, 2, none⟩ = some (.slice A' vs.length c') ∧ w'.cell? ⟨gc + 1, 3, none⟩ = some (.int .u64 lk)) (by kernel_rfl) (by exact ⟨xc.cell 0, xc.cell 1, xc.cell 2, xc.cell 3, xc.cell 4, xn.cell 0, xn.cell 1, xn.cell 2, xn.cell 3⟩) (fun hHeld => ?_)
          replace xc := xc.drew
          replace xn := xn.drew
          replace rb := rb.drew
          replace G := (show w.grownBy wr.drew (some g) from ⟨G.os, G.tape.trans rfl, G.output, G.size, G.block⟩)
          replace hb := hb.drew
          generalize wr.drew = wd at *
          refine' wpAnyZ_takeA (i := 0) (v := ?_) (opAt rfl) (by kernel_rfl) (by kernel_rfl) (by kernel_rfl) (by kernel_rfl) (fun _ _ _ h => h) (by assumption) (by rfl) (fun w hSw => ?_) ?_
          rotate_left
          · (try dsimp only at hSw); go_simp; (try with_reducible rfl)
          try simp only [Act.put, List.setIfInBounds_toArray, List.set_cons_zero, List.set_cons_succ]
          refine' wpAnyZ_takeA (i := 1) (v := ?_) (opAt rfl) (by kernel_rfl) (by kernel_rfl) (by kernel_rfl) (by kernel_rfl) (fun _ _ _ h => h) (by assumption) (by rfl) (fun w hSw => ?_) ?_
          rotate_left
          · (try dsimp only at hSw); go_simp; (try with_reducible rfl)
          try simp only [Act.put, List.setIfInBounds_toArray, List.set_cons_zero, List.set_cons_succ]
          refine' wpAnyZ_takeA (i := 2) (v := ?_) (opAt rfl) (by kernel_rfl) (by kernel_rfl) (by kernel_rfl) (by kernel_rfl) (fun _ _ _ h => h) (by assumption) (by rfl) (fun w hSw => ?_) ?_
          rotate_left
          · (try dsimp only at hSw); go_simp; (try with_reducible rfl)
          try simp only [Act.put, List.setIfInBounds_toArray, List.set_cons_zero, List.set_cons_succ]
          refine' wpAnyZ_takeA (i := 4) (v := ?_) (opAt rfl) (by kernel_rfl) (by kernel_rfl) (by kernel_rfl) (by kernel_rfl) (fun _ _ _ h => h) (by assumption) (by rfl) (fun w hSw => ?_) ?_
          rotate_left
          · (try dsimp only at hSw); go_simp; (try with_reducible rfl)
          try simp only [Act.put, List.setIfInBounds_toArray, List.set_cons_zero, List.set_cons_succ]
          refine' wpAnyZ_takeA (i := 5) (v := ?_) (opAt rfl) (by kernel_rfl) (by kernel_rfl) (by kernel_rfl) (by kernel_rfl) (fun _ _ _ h => h) (by assumption) (by rfl) (fun w hSw => ?_) ?_
          rotate_left
          · (try dsimp only at hSw); go_simp; (try with_reducible rfl)
          try simp only [Act.put, List.setIfInBounds_toArray, List.set_cons_zero, List.set_cons_succ]
          refine wpAnyZ_ready (rs := [3]) (by kernel_rfl) (by simp) ?_
          refine AllReadyZ.cons (opAt rfl) (fun K hK => ?_) ?_
          · skip
            go_simp
            refine (CL.out _).mono ?_
            rintro e w6 ⟨rfl, hb1⟩
            replace xc := xc.below hb1 xc.lt
            replace xn := xn.below hb1 xn.lt
            replace rb := rb.below hb1
            replace G := grown_trans G (grown_below hb1 _)
            replace hb := hb.trans (hb1.mono (Nat.le_trans HBW.out hb.size))
            clear hb1
            try go_wp2_with fail
            refine hK.out _ _ (by exact ⟨xc.cell 0, xc.cell 1, xc.cell 2, xc.cell 3, xc.cell 4, xn.cell 0, xn.cell 1, xn.cell 2, xn.cell 3⟩) (fun hHeld => ?_)
            clear hK K
            try simp only [Act.put, List.setIfInBounds_toArray, List.set_cons_zero, List.set_cons_succ]
            refine' wpAnyZ_takeA (i := 6) (v := ?_) (opAt rfl) (by kernel_rfl) (by kernel_rfl) (by kernel_rfl) (by kernel_rfl) (fun _ _ _ h => h) (by assumption) (by rfl) (fun w hSw => ?_) ?_
            rotate_left
            · (try dsimp only at hSw); go_simp; (try with_reducible rfl)
            try simp only [Act.put, List.setIfInBounds_toArray, List.set_cons_zero, List.set_cons_succ]
            refine wpAnyZ_ready (rs := [7]) (by kernel_rfl) (by simp) ?_
            refine AllReadyZ.last (opAt rfl) (by kernel_rfl) (fun K hK => ?_) ?_
            · skip
              have zo := fun i => rb.frozen i
              have mo := ATT.out _ rb
              go_simp
              refine hK.out _ _ ?_
              clear hK K
              try simp only [Act.put, List.setIfInBounds_toArray, List.set_cons_zero, List.set_cons_succ]
              refine wpAnyZ_done (by kernel_rfl) ?_ _
              replace xc := xc.far (p := ⟨g, (q + 2), none⟩) (by have := HGG.out; show gc ≠ g; omega) (.int .u64 lk)
              replace xn := xn.far (p := ⟨g, (q + 2), none⟩) (by have := HGG.out; show gc + 1 ≠ g; omega) (.int .u64 lk)
              replace rb := rb.set_ (q + 2) lk HLT.out
              replace G := grown_trans G (grown_set w6 g (q + 2) (.int .u64 lk))
              replace hb := hb.setCell (p := ⟨g, (q + 2), none⟩) HGB.out (.int .u64 lk)
              generalize w6.setCell ⟨g, (q + 2), none⟩ (.int .u64 lk) = w9 at *
              clear zo mo
              rw [← WL.out] at rb
              clear ATT hm1 HLT
              have ATT := hide (fun (w2 : World) (h : RefE w2 g (mWri ws wa (ks.length + vs.length + 1))) => h.at_ (j := q + 1) (by rw [mWri_len, HL.out]; exact hq1N))
              have HLT := hide (show q + 1 < (mWri ws wa (ks.length + vs.length + 1)).length by rw [mWri_len, HL.out]; exact hq1N)
              generalize hm2 : mWri ws wa (ks.length + vs.length + 1) = m2 at *
              replace hm2 := hide hm2
              have mn := fun i => xn.cell i
              go_wp2_with fail
              clear mn
              refine wp_region_heldZ [11] (fun w' => w'.cell? ⟨gc, 0, none⟩ = some (.int .i64 s) ∧ w'.cell? ⟨gc, 1, none⟩ = some (.int .i64 t) ∧ w'.cell? ⟨gc, 2, none⟩ = some (.int .i64 f) ∧ w'.cell? ⟨gc, 3, none⟩ = some (.int .i64 lm) ∧ w'.cell? ⟨gc, 4, none⟩ = some (.int .i64 p) ∧ w'.cell? ⟨gc + 1, 0, none⟩ = some (.bool b) ∧ w'.cell? ⟨gc + 1, 1, none⟩ = some (.slice A ks.length c) ∧ w'.cell? ⟨gc + 1, 2, none⟩ = some (.slice A' vs.length c') ∧ w'.cell? ⟨gc + 1, 3, none⟩ = some (.int .u64 lk)) (by kernel_rfl) (by exact ⟨xc.cell 0, xc.cell 1, xc.cell 2, xc.cell 3, xc.cell 4, xn.cell 0, xn.cell 1, xn.cell 2, xn.cell 3⟩) (fun hHeld => ?_)
              replace xc := xc.drew
              replace xn := xn.drew
              replace rb := rb.drew
              replace G := (show w.grownBy w9.drew (some g) from ⟨G.os, G.tape.trans rfl, G.output, G.size, G.block⟩)
              replace hb := hb.drew
              generalize w9.drew = wd at *
              refine' wpAnyZ_takeA (i := 0) (v := ?_) (opAt rfl) (by kernel_rfl) (by kernel_rfl) (by kernel_rfl) (by kernel_rfl) (fun _ _ _ h => h) (by assumption) (by rfl) (fun w hSw => ?_) ?_
              rotate_left
              · (try dsimp only at hSw); go_simp; (try with_reducible rfl)
              try simp only [Act.put, List.setIfInBounds_toArray, List.set_cons_zero, List.set_cons_succ]
              refine' wpAnyZ_takeA (i := 1) (v := ?_) (opAt rfl) (by kernel_rfl) (by kernel_rfl) (by kernel_rfl) (by kernel_rfl) (fun _ _ _ h => h) (by assumption) (by rfl) (fun w hSw => ?_) ?_
              rotate_left
              · (try dsimp only at hSw); go_simp; (try with_reducible rfl)
              try simp only [Act.put, List.setIfInBounds_toArray, List.set_cons_zero, List.set_cons_succ]
              refine' wpAnyZ_takeA (i := 2) (v := ?_) (opAt rfl) (by kernel_rfl) (by kernel_rfl) (by kernel_rfl) (by kernel_rfl) (fun _ _ _ h => h) (by assumption) (by rfl) (fun w hSw => ?_) ?_
              rotate_left
              · (try dsimp only at hSw); go_simp; (try with_reducible rfl)
              try simp only [Act.put, List.setIfInBounds_toArray, List.set_cons_zero, List.set_cons_succ]
              refine' wpAnyZ_takeA (i := 4) (v := ?_) (opAt rfl) (by kernel_rfl) (by kernel_rfl) (by kernel_rfl) (by kernel_rfl) (fun _ _ _ h => h) (by assumption) (by rfl) (fun w hSw => ?_) ?_
              rotate_left
              · (try dsimp only at hSw); go_simp; (try with_reducible rfl)
              try simp only [Act.put, List.setIfInBounds_toArray, List.set_cons_zero, List.set_cons_succ]
              refine' wpAnyZ_takeA (i := 5) (v := ?_) (opAt rfl) (by kernel_rfl) (by kernel_rfl) (by kernel_rfl) (by kernel_rfl) (fun _ _ _ h => h) (by assumption) (by rfl) (fun w hSw => ?_) ?_
              rotate_left
              · (try dsimp only at hSw); go_simp; (try with_reducible rfl)
              try simp only [Act.put, List.setIfInBounds_toArray, List.set_cons_zero, List.set_cons_succ]
              refine' wpAnyZ_takeA (i := 6) (v := ?_) (opAt rfl) (by kernel_rfl) (by kernel_rfl) (by kernel_rfl) (by kernel_rfl) (fun _ _ _ h => h) (by assumption) (by rfl) (fun w hSw => ?_) ?_
              rotate_left
              · (try dsimp only at hSw); go_simp; (try with_reducible rfl)
              try simp only [Act.put, List.setIfInBounds_toArray, List.set_cons_zero, List.set_cons_succ]
              refine' wpAnyZ_takeA (i := 7) (v := ?_) (opAt rfl) (by kernel_rfl) (by kernel_rfl) (by kernel_rfl) (by kernel_rfl) (fun _ _ _ h => h) (by assumption) (by rfl) (fun w hSw => ?_) ?_
              rotate_left
              · (try dsimp only at hSw); go_simp; (try with_reducible rfl)
              try simp only [Act.put, List.setIfInBounds_toArray, List.set_cons_zero, List.set_cons_succ]
              refine' wpAnyZ_takeA (i := 8) (v := ?_) (opAt rfl) (by kernel_rfl) (by kernel_rfl) (by kernel_rfl) (by kernel_rfl) (fun _ _ _ h => h) (by assumption) (by rfl) (fun w hSw => ?_) ?_
              rotate_left
              · (try dsimp only at hSw); go_simp; (try with_reducible rfl)
              try simp only [Act.put, List.setIfInBounds_toArray, List.set_cons_zero, List.set_cons_succ]
              refine wpAnyZ_ready (rs := [3]) (by kernel_rfl) (by simp) ?_
              refine AllReadyZ.cons (opAt rfl) (fun K hK => ?_) ?_
              · skip
                go_simp
                refine (CS.out _).mono ?_
                rintro e w7 ⟨rfl, hb1⟩
                replace xc := xc.below hb1 xc.lt
                replace xn := xn.below hb1 xn.lt
                replace rb := rb.below hb1
                replace G := grown_trans G (grown_below hb1 _)
                replace hb := hb.trans (hb1.mono (Nat.le_trans HBW.out hb.size))
                clear hb1
                try go_wp2_with fail
                refine hK.out _ _ (by exact ⟨xc.cell 0, xc.cell 1, xc.cell 2, xc.cell 3, xc.cell 4, xn.cell 0, xn.cell 1, xn.cell 2, xn.cell 3⟩) (fun hHeld => ?_)
                clear hK K
                try simp only [Act.put, List.setIfInBounds_toArray, List.set_cons_zero, List.set_cons_succ]
                refine wpAnyZ_ready (rs := [9]) (by kernel_rfl) (by simp) ?_
                refine AllReadyZ.cons (opAt rfl) (fun K hK => ?_) ?_
                · skip
                  go_simp
                  refine (PK.out _).mono ?_
                  rintro e w7b ⟨rfl, rfl⟩
                  try go_wp2_with fail
                  refine hK.out _ _ (by exact ⟨xc.cell 0, xc.cell 1, xc.cell 2, xc.cell 3, xc.cell 4, xn.cell 0, xn.cell 1, xn.cell 2, xn.cell 3⟩) (fun hHeld => ?_)
                  clear hK K
                  try simp only [Act.put, List.setIfInBounds_toArray, List.set_cons_zero, List.set_cons_succ]
                  refine' wpAnyZ_takeA (i := 10) (v := ?_) (opAt rfl) (by kernel_rfl) (by kernel_rfl) (by kernel_rfl) (by kernel_rfl) (fun _ _ _ h => h) (by assumption) (by rfl) (fun w hSw => ?_) ?_
                  rotate_left
                  · (try dsimp only at hSw); go_simp; (try with_reducible rfl)
                  try simp only [Act.put, List.setIfInBounds_toArray, List.set_cons_zero, List.set_cons_succ]
                  refine wpAnyZ_ready (rs := [11]) (by kernel_rfl) (by simp) ?_
                  refine AllReadyZ.last (opAt rfl) (by kernel_rfl) (fun K hK => ?_) ?_
                  · skip
                    have zo := fun i => rb.frozen i
                    have mo := ATT.out _ rb
                    go_simp
                    refine hK.out _ _ ?_
                    clear hK K
                    try simp only [Act.put, List.setIfInBounds_toArray, List.set_cons_zero, List.set_cons_succ]
                    refine wpAnyZ_done (by kernel_rfl) ?_ _
                    replace xc := xc.far (p := ⟨g, (q + 1), none⟩) (by have := HGG.out; show gc ≠ g; omega) (.int .u64 pw)
                    replace xn := xn.far (p := ⟨g, (q + 1), none⟩) (by have := HGG.out; show gc + 1 ≠ g; omega) (.int .u64 pw)
                    replace rb := rb.set_ (q + 1) pw HLT.out
                    replace G := grown_trans G (grown_set w7 g (q + 1) (.int .u64 pw))
                    replace hb := hb.setCell (p := ⟨g, (q + 1), none⟩) HGB.out (.int .u64 pw)
                    generalize w7.setCell ⟨g, (q + 1), none⟩ (.int .u64 pw) = w9 at *
                    clear zo mo
                    have HR8 := hide rb
                    go_wp2_with fail
                    go_end0
                    exact ⟨⟨_, rfl⟩, by rw [WLEN.out, WS.out]; exact rb, G⟩
                  exact AllReadyZ.nil
                exact AllReadyZ.nil
              exact AllReadyZ.nil
            exact AllReadyZ.nil
          exact AllReadyZ.nil
end Go.Proofs.YtegldbhabeoboaaDoor

/-
  What a node's writes leave is the node: the plain law.
-/
namespace Go.Proofs.YtegldbhabeoboaaDoor
open Go.RowKit

theorem wGet_wPut (l : List Int) (a b x : Int) (h : 0 ≤ a ∧ a < l.length) : wGet (wPut l a x) b = if b = a then x else wGet l b := by
  unfold wPut
  rw [if_pos h]
  unfold wGet
  rw [List.length_set]
  by_cases hb : b = a
  · subst hb
    rw [if_pos h, if_pos rfl, List.getD_eq_getElem?_getD, List.getElem?_set_self (by omega)]
    rfl
  · rw [if_neg hb]
    by_cases h2 : 0 ≤ b ∧ b < l.length
    · rw [if_pos h2, if_pos h2, List.getD_eq_getElem?_getD, List.getD_eq_getElem?_getD, List.getElem?_set_ne (by omega)]
    · rw [if_neg h2, if_neg h2]
theorem mWri_keep {ws : List Int} {wa : List (Int × Int)} {a : Int} (hr : ∀ i, 0 ≤ (wa.getD i (0, 0)).1 ∧ (wa.getD i (0, 0)).1 < ws.length) (j : Nat) : ∀ d, (∀ i, j ≤ i → i < j + d → (wa.getD i (0, 0)).1 ≠ a) → wGet (mWri ws wa (j + d)) a = wGet (mWri ws wa j) a
  | 0, _ => rfl
  | d + 1, h => by
    show wGet (wPut (mWri ws wa (j + d)) (wa.getD (j + d) (0, 0)).1 (wa.getD (j + d) (0, 0)).2) a = _
    rw [wGet_wPut _ _ _ _ (by rw [mWri_len]; exact hr _), if_neg (fun e => h (j + d) (by omega) (by omega) e.symm)]
    exact mWri_keep hr j d fun i h1 h2 => h i h1 (by omega)
theorem mWri_told {ws : List Int} {wa : List (Int × Int)} {a x : Int} {j n : Nat} (hr : ∀ i, 0 ≤ (wa.getD i (0, 0)).1 ∧ (wa.getD i (0, 0)).1 < ws.length) (hj : wa.getD j (0, 0) = (a, x)) (hn : j < n) (h : ∀ i, j < i → i < n → (wa.getD i (0, 0)).1 ≠ a) : wGet (mWri ws wa n) a = x := by
  obtain ⟨d, rfl⟩ : ∃ d, n = j + 1 + d := ⟨n - (j + 1), by omega⟩
  rw [mWri_keep hr (j + 1) d fun i h1 h2 => h i (by omega) h2]
  show wGet (wPut (mWri ws wa j) (wa.getD j (0, 0)).1 (wa.getD j (0, 0)).2) a = _
  have h9 := hr j
  rw [hj] at h9
  rw [hj, wGet_wPut _ _ _ _ (by rw [mWri_len]; exact h9), if_pos rfl]
theorem wrAll_at (t f k : Int) (b : Bool) (ks vs : List Int) (lk : Int) (i : Nat) : ((wrAll t f k b ks vs lk).getD i (0, 0)).1 = if i < ks.length then nB t f k + 3 + i else if i < ks.length + vs.length then nB t f k + 3 + f + ((i : Int) - ks.length) else if i = ks.length + vs.length then nB t f k + 2 else if i = ks.length + vs.length + 1 then nB t f k + 1 else 0 := by
  by_cases h1 : i < ks.length
  · rw [if_pos h1, wrAll_key h1]
  · rw [if_neg h1]
    by_cases h2 : i < ks.length + vs.length
    · rw [if_pos h2]
      obtain ⟨j, rfl⟩ : ∃ j, i = ks.length + j := ⟨i - ks.length, by omega⟩
      rw [wrAll_val (by omega)]
      simp only
      omega
    · rw [if_neg h2]
      by_cases h3 : i = ks.length + vs.length
      · rw [if_pos h3, h3, wrAll_link]
      · rw [if_neg h3]
        by_cases h4 : i = ks.length + vs.length + 1
        · rw [if_pos h4, h4, wrAll_shape]
        · rw [if_neg h4, List.getD_eq_getElem?_getD, List.getElem?_eq_none (by rw [wrAll_len]; omega)]
          rfl
theorem wrAll_in {s t f k : Int} {b : Bool} {ks vs : List Int} {lk : Int} {N : Nat} (hs : 1 ≤ s ∧ s ≤ 1000) (ht : 1 ≤ t ∧ t ≤ 64) (hf : 4 ≤ f ∧ f ≤ 64) (hk : 0 ≤ k ∧ k ≤ s) (hN : laySize s t f = N) (h1 : (ks.length : Int) ≤ f) (h2 : (vs.length : Int) ≤ f) (i : Nat) : 0 ≤ ((wrAll t f k b ks vs lk).getD i (0, 0)).1 ∧ ((wrAll t f k b ks vs lk).getD i (0, 0)).1 < (N : Int) := by
  have hbd := nB_bd hs ht hf hk
  rw [wrAll_at]
  repeat' split
  all_goals omega
theorem pk_inn (b : Bool) (n : Nat) (h : n ≤ 64) : innB (pk b n) = b := by
  unfold innB pk pkN
  cases b
  · rw [if_neg (by simp), if_neg (by omega)]
    simp
  · rw [if_pos rfl, if_neg (by omega)]
    simp
theorem pk_ents (b : Bool) (n : Nat) {f : Int} (hf : 4 ≤ f ∧ f ≤ 64) (h : (n : Int) ≤ f) : (ents (pk b n) f).toNat = n := by
  have e : pk b n / 2 % 256 = n := by
    unfold pk pkN
    cases b
    · rw [if_neg (by simp), if_neg (by omega)]
      omega
    · rw [if_pos rfl, if_neg (by omega)]
      omega
  unfold ents
  rw [e, if_neg (by omega), if_neg (by omega)]
  omega
section
variable {s t f k : Int} {b : Bool} {ks vs : List Int} {lk : Int} {N : Nat} {ws : List Int}
theorem told_shape (hs : 1 ≤ s ∧ s ≤ 1000) (ht : 1 ≤ t ∧ t ≤ 64) (hf : 4 ≤ f ∧ f ≤ 64) (hk : 0 ≤ k ∧ k ≤ s) (hN : laySize s t f = N) (hl : ws.length = N) (h1 : (ks.length : Int) ≤ f) (h2 : (vs.length : Int) ≤ f) :
    wGet (mWri ws (wrAll t f k b ks vs lk) (wrAll t f k b ks vs lk).length) (nB t f k + 1) = pk b vs.length := by
  refine mWri_told (j := ks.length + vs.length + 1) (fun i => by rw [hl]; exact wrAll_in hs ht hf hk hN h1 h2 i) wrAll_shape (by rw [wrAll_len]; omega) fun i h3 h4 => ?_
  rw [wrAll_len] at h4
  omega
theorem told_link (hs : 1 ≤ s ∧ s ≤ 1000) (ht : 1 ≤ t ∧ t ≤ 64) (hf : 4 ≤ f ∧ f ≤ 64) (hk : 0 ≤ k ∧ k ≤ s) (hN : laySize s t f = N) (hl : ws.length = N) (h1 : (ks.length : Int) ≤ f) (h2 : (vs.length : Int) ≤ f) :
    wGet (mWri ws (wrAll t f k b ks vs lk) (wrAll t f k b ks vs lk).length) (nB t f k + 2) = lk := by
  refine mWri_told (j := ks.length + vs.length) (fun i => by rw [hl]; exact wrAll_in hs ht hf hk hN h1 h2 i) wrAll_link (by rw [wrAll_len]; omega) fun i h3 h4 => ?_
  rw [wrAll_len] at h4
  rw [wrAll_at]
  repeat' split
  all_goals omega
theorem told_key (hs : 1 ≤ s ∧ s ≤ 1000) (ht : 1 ≤ t ∧ t ≤ 64) (hf : 4 ≤ f ∧ f ≤ 64) (hk : 0 ≤ k ∧ k ≤ s) (hN : laySize s t f = N) (hl : ws.length = N) (h1 : (ks.length : Int) ≤ f) (h2 : (vs.length : Int) ≤ f) {j : Nat} (hj : j < ks.length) :
    wGet (mWri ws (wrAll t f k b ks vs lk) (wrAll t f k b ks vs lk).length) (nB t f k + 3 + j) = ks.getD j 0 := by
  refine mWri_told (j := j) (fun i => by rw [hl]; exact wrAll_in hs ht hf hk hN h1 h2 i) (wrAll_key hj) (by rw [wrAll_len]; omega) fun i h3 h4 => ?_
  rw [wrAll_len] at h4
  rw [wrAll_at]
  repeat' split
  all_goals omega
theorem told_val (hs : 1 ≤ s ∧ s ≤ 1000) (ht : 1 ≤ t ∧ t ≤ 64) (hf : 4 ≤ f ∧ f ≤ 64) (hk : 0 ≤ k ∧ k ≤ s) (hN : laySize s t f = N) (hl : ws.length = N) (h1 : (ks.length : Int) ≤ f) (h2 : (vs.length : Int) ≤ f) {j : Nat} (hj : j < vs.length) :
    wGet (mWri ws (wrAll t f k b ks vs lk) (wrAll t f k b ks vs lk).length) (nB t f k + 3 + f + j) = vs.getD j 0 := by
  refine mWri_told (j := ks.length + j) (fun i => by rw [hl]; exact wrAll_in hs ht hf hk hN h1 h2 i) (wrAll_val hj) (by rw [wrAll_len]; omega) fun i h3 h4 => ?_
  rw [wrAll_len] at h4
  rw [wrAll_at]
  repeat' split
  all_goals omega
theorem rowL_is {ws : List Int} {g : Nat → Int} {n : Nat} {xs : List Int} (hn : n = xs.length) (h : ∀ j, j < xs.length → wGet ws (g j) = xs.getD j 0) : rowL ws g n = xs := by
  subst hn
  have e : rowL ws g xs.length = (List.range xs.length).map (fun i => xs.getD i 0) := List.map_congr_left fun i hi => h i (List.mem_range.1 hi)
  rw [e]
  apply List.ext_getElem (by simp)
  intro i h1 h2
  simp [List.getD, h2]
theorem told_node (hs : 1 ≤ s ∧ s ≤ 1000) (ht : 1 ≤ t ∧ t ≤ 64) (hf : 4 ≤ f ∧ f ≤ 64) (hk : 0 ≤ k ∧ k ≤ s) (hN : laySize s t f = N) (hl : ws.length = N) (hfit : fitsB b ks vs f = true) :
    nodI (mWri ws (wrAll t f k b ks vs lk) (wrAll t f k b ks vs lk).length) t f k = b ∧ nodK (mWri ws (wrAll t f k b ks vs lk) (wrAll t f k b ks vs lk).length) t f k = ks ∧ nodV (mWri ws (wrAll t f k b ks vs lk) (wrAll t f k b ks vs lk).length) t f k = vs ∧ nodL (mWri ws (wrAll t f k b ks vs lk) (wrAll t f k b ks vs lk).length) t f k = lk := by
  unfold fitsB at hfit
  simp only [Bool.and_eq_true, decide_eq_true_eq] at hfit
  have h2 := hfit.1.1
  have hm := hfit.1.2
  have h1 : (ks.length : Int) ≤ f := by
    cases b
    · simp at hm; omega
    · simp at hm; omega
  have S := told_shape (b := b) (lk := lk) hs ht hf hk hN hl h1 h2
  have eI : nodI (mWri ws (wrAll t f k b ks vs lk) (wrAll t f k b ks vs lk).length) t f k = b := by
    unfold nodI
    rw [S]
    exact pk_inn b _ (by omega)
  have eN : nodN (mWri ws (wrAll t f k b ks vs lk) (wrAll t f k b ks vs lk).length) t f k = vs.length := by
    unfold nodN
    rw [S]
    exact pk_ents b _ hf h2
  refine ⟨eI, ?_, ?_, told_link hs ht hf hk hN hl h1 h2⟩
  · unfold nodK
    refine rowL_is ?_ fun j hj => told_key hs ht hf hk hN hl h1 h2 hj
    unfold nodKn
    rw [eI, eN]
    cases b
    · simp at hm ⊢; omega
    · simp at hm ⊢; omega
  · unfold nodV
    exact rowL_is eN fun j hj => told_val hs ht hf hk hN hl h1 h2 hj
end
end Go.Proofs.YtegldbhabeoboaaDoor

/-
  A copy of words; what a block of words is as a slice.
-/
namespace Go.Proofs.YtegldbhabeoboaaDoor
open Go.RowKit

structure StopK (p : Prop) : Prop where
  out : p
theorem infoUc : (Tryd.prog.info? 32).map (fun i => (i.zero, i.size, i.bytes)) = some (some (.int .u64 0), 1, 8) := by kernel_rfl
set_option maxRecDepth 100000 in
set_option maxHeartbeats 4000000 in
theorem copy09_any (g N c : Nat) (ws : List Int) (w : World) (hN : ws.length = N) (hb : N ≤ 1000000) (R : RefOk w g ws) :
    Calls Tryd.prog 39 #[.slice (some ⟨g, 0, none⟩) N c] w fun e w' => (∃ v, e = .returned v ∧ w'.ownsRow w.heap.size 32 1 v N (ints .u64 ws)) ∧ Below w.heap.size w w' := by
  obtain ⟨i0, hi0, hz0, hs0, hb0⟩ := info_parts infoUc
  subst hN
  have hrd := Reads.blk (w := w) (g := g) R ws.length 1 (by simp [ints])
  have row := World.ownsRow_lit (base := w.heap.size) (e := 32) (size := 1) w #[] 0 (Nat.le_refl _) (by decide) rfl
  have lg := Blk.lt (w := w) (g := g) R
  replace hrd := hrd.alloc (by omega) (.cells #[] 32)
  have B0 := (Below.refl w.heap.size w).alloc (Nat.le_refl _) (.cells #[] 32)
  have HLN := hide hb
  go_enter Tryd.func39, Tryd.ntmps39
  go_wp2_with (at_builtin; refine StopK.out ?_)
  refine ⟨?_⟩
  refine wpList_append_any _ rfl (.tmp 3) (.tmp 4) _ rfl w.heap.size 32 i0 _ 1 8 Tryd.underlying29 hi0 hz0 hs0 hb0 rfl (by decide) (.slice (some ⟨w.heap.size, 0, none⟩) 0 0) 0 _ (by rfl) row (g + 1) (some ⟨g, 0, none⟩) ws.length c (ints .u64 ws) (by rfl) hrd (ints_oneCell .u64 ws) (by unfold maxLen; have := HLN.out; omega) (by have := HLN.out; omega) B0.size ?_
  intro v9 w5 row5 hg5 _
  have B9 := below_appended B0 row hg5 (Nat.le_refl _) B0.size
  go_wp2_with fail
  go_ret
  exact ⟨⟨_, rfl, by simpa using row5⟩, B9⟩
theorem RefE.sl {w : World} {g N c : Nat} {ws : List Int} (h : RefE w g ws) (hN : ws.length = N) (hc : ws.length ≤ c) (hc2 : c ≤ 9223372036854775807) : Sl w w.heap.size (.slice (some ⟨g, 0, none⟩) N c) ws := by
  subst hN
  refine ⟨_, _, rfl, hc, hc2, ?_, fun _ => ⟨_, rfl, h.lt, fun j u hu => ?_⟩⟩
  · rw [ints_len]; omega
  · have hj : j < ws.length := by
      have h2 := List.getElem?_eq_some_iff.1 hu
      obtain ⟨h3, _⟩ := h2
      rw [ints_len] at h3
      exact h3
    rw [Addr.add_lit, Nat.zero_add, h.at_ hj, ← hu, ints_get ws j hj, List.getD_eq_getElem?_getD, List.getElem?_eq_getElem hj]
    rfl
end Go.Proofs.YtegldbhabeoboaaDoor

/-
  ArenaWords' function where the slot or the node is no good: there are no writes, and the rest says so.
-/
namespace Go.Proofs.YtegldbhabeoboaaDoor
open Go.RowKit

set_option maxRecDepth 100000 in
set_option maxHeartbeats 2000000 in
theorem wds_far (s t f l p k : Int) (v : Value) (b : Bool) (ks vs : List Int) (lk : Int) (w : World) (hT : Tab w) (h : Nd w w.heap.size v b ks vs lk) (hs : smallB ks vs = false) :
    Calls Tryd.prog 6 #[.agg #[.int .i64 s, .int .i64 t, .int .i64 f, .int .i64 l, .int .i64 p], .int .i64 k, v] w fun e w' => e = .returned (.bool true) ∧ Below w.heap.size w w' := by
  obtain ⟨kv, uv, rfl, ⟨A, c, rfl, g1, g2, hks⟩, ⟨A', c', rfl, g3, g4, hvs⟩⟩ := h
  have HND := hide (show Nd w w.heap.size (.agg #[.bool b, .slice A ks.length c, .slice A' vs.length c', .int .u64 lk]) b ks vs lk from ⟨_, _, rfl, ⟨A, c, rfl, g1, g2, hks⟩, ⟨A', c', rfl, g3, g4, hvs⟩⟩)
  have B0 := ((Below.refl w.heap.size w).alloc (Nat.le_refl _) (.cells #[.int .i64 s, .int .i64 t, .int .i64 f, .int .i64 l, .int .i64 p] 23)).alloc (by simp only [World.size_alloc]; omega) (.cells #[.bool b, .slice A ks.length c, .slice A' vs.length c', .int .u64 lk] 49)
  have xc := (Blk.new w 23 #[.int .i64 s, .int .i64 t, .int .i64 f, .int .i64 l, .int .i64 p]).alloc (.cells #[.bool b, .slice A ks.length c, .slice A' vs.length c', .int .u64 lk] 49)
  have xn := Blk.new (w.alloc (.cells #[.int .i64 s, .int .i64 t, .int .i64 f, .int .i64 l, .int .i64 p] 23)) 49 #[.bool b, .slice A ks.length c, .slice A' vs.length c', .int .u64 lk]
  simp only [World.size_alloc] at xn
  have AW := hide (fun w2 (h : Below w.heap.size w w2) => awake10 w2 (hT.below h))
  have SM := hide (fun w2 (h : Below w.heap.size w w2) => small_any _ b ks vs lk w2 ((HND.out.below h).more h.size))
  have SZ := hide (fun w2 => rsize_any s t f l p w2)
  clear g1 g2 g3 g4
  have mc := fun i => xc.cell i
  have mn := fun i => xn.cell i
  rw [hs] at SM
  clear hT hs
  go_enter Tryd.func6, Tryd.ntmps6
  go_wp2_with fail
  generalize (w.alloc (.cells #[.int .i64 s, .int .i64 t, .int .i64 f, .int .i64 l, .int .i64 p] 23)).alloc (.cells #[.bool b, .slice A ks.length c, .slice A' vs.length c', .int .u64 lk] 49) = w0 at *
  refine (SM.out _ B0).mono ?_
  rintro e w1 ⟨rfl, hb1⟩
  replace xc := xc.below hb1 xc.lt
  replace xn := xn.below hb1 xn.lt
  replace B0 := B0.trans (hb1.mono B0.size)
  clear hb1 mc mn
  have mc := fun i => xc.cell i
  have mn := fun i => xn.cell i
  go_wp2_with fail
  refine (AW.out _ B0).mono ?_
  rintro e w9 ⟨rfl, hb1⟩
  go_wp2_with fail
  go_ret
  exact ⟨rfl, B0.trans (hb1.mono B0.size)⟩
set_option maxRecDepth 100000 in
set_option maxHeartbeats 2000000 in
theorem wds_big (s t f l p k : Int) (v : Value) (b : Bool) (ks vs : List Int) (lk : Int) (w : World) (hT : Tab w) (h : Nd w w.heap.size v b ks vs lk) (hs : smallB ks vs = true) (h2 : 5000 < rSize s t f l p) :
    Calls Tryd.prog 6 #[.agg #[.int .i64 s, .int .i64 t, .int .i64 f, .int .i64 l, .int .i64 p], .int .i64 k, v] w fun e w' => e = .returned (.bool true) ∧ Below w.heap.size w w' := by
  obtain ⟨kv, uv, rfl, ⟨A, c, rfl, g1, g2, hks⟩, ⟨A', c', rfl, g3, g4, hvs⟩⟩ := h
  have HND := hide (show Nd w w.heap.size (.agg #[.bool b, .slice A ks.length c, .slice A' vs.length c', .int .u64 lk]) b ks vs lk from ⟨_, _, rfl, ⟨A, c, rfl, g1, g2, hks⟩, ⟨A', c', rfl, g3, g4, hvs⟩⟩)
  have B0 := ((Below.refl w.heap.size w).alloc (Nat.le_refl _) (.cells #[.int .i64 s, .int .i64 t, .int .i64 f, .int .i64 l, .int .i64 p] 23)).alloc (by simp only [World.size_alloc]; omega) (.cells #[.bool b, .slice A ks.length c, .slice A' vs.length c', .int .u64 lk] 49)
  have xc := (Blk.new w 23 #[.int .i64 s, .int .i64 t, .int .i64 f, .int .i64 l, .int .i64 p]).alloc (.cells #[.bool b, .slice A ks.length c, .slice A' vs.length c', .int .u64 lk] 49)
  have xn := Blk.new (w.alloc (.cells #[.int .i64 s, .int .i64 t, .int .i64 f, .int .i64 l, .int .i64 p] 23)) 49 #[.bool b, .slice A ks.length c, .slice A' vs.length c', .int .u64 lk]
  simp only [World.size_alloc] at xn
  have AW := hide (fun w2 (h : Below w.heap.size w w2) => awake10 w2 (hT.below h))
  have SM := hide (fun w2 (h : Below w.heap.size w w2) => small_any _ b ks vs lk w2 ((HND.out.below h).more h.size))
  have SZ := hide (fun w2 => rsize_any s t f l p w2)
  clear g1 g2 g3 g4
  have mc := fun i => xc.cell i
  have mn := fun i => xn.cell i
  rw [hs] at SM
  generalize rSize s t f l p = z at *
  clear hT hs
  go_enter Tryd.func6, Tryd.ntmps6
  go_wp2_with fail
  generalize (w.alloc (.cells #[.int .i64 s, .int .i64 t, .int .i64 f, .int .i64 l, .int .i64 p] 23)).alloc (.cells #[.bool b, .slice A ks.length c, .slice A' vs.length c', .int .u64 lk] 49) = w0 at *
  refine (SM.out _ B0).mono ?_
  rintro e w1 ⟨rfl, hb1⟩
  replace xc := xc.below hb1 xc.lt
  replace xn := xn.below hb1 xn.lt
  replace B0 := B0.trans (hb1.mono B0.size)
  clear hb1 mc mn
  have mc := fun i => xc.cell i
  have mn := fun i => xn.cell i
  go_wp2_with fail
  refine (SZ.out _).mono ?_
  rintro e w1 ⟨rfl, hb1⟩
  replace xc := xc.below hb1 xc.lt
  replace xn := xn.below hb1 xn.lt
  replace B0 := B0.trans (hb1.mono B0.size)
  clear hb1 mc mn
  have mc := fun i => xc.cell i
  have mn := fun i => xn.cell i
  go_wp2_with fail
  refine (AW.out _ B0).mono ?_
  rintro e w9 ⟨rfl, hb1⟩
  go_wp2_with fail
  go_ret
  exact ⟨rfl, B0.trans (hb1.mono B0.size)⟩
set_option maxRecDepth 100000 in
set_option maxHeartbeats 4000000 in
theorem wds_none (s t f l p k s2 t2 f2 l2 p2 : Int) (v : Value) (b : Bool) (ks vs : List Int) (lk : Int) (w : World) (hT : Tab w) (h : Nd w w.heap.size v b ks vs lk) (hs : smallB ks vs = true) (h2 : ¬ 5000 < rSize s t f l p)
    (LN : ∀ w2, Below w.heap.size w w2 → Calls Tryd.prog 33 #[.agg #[.int .i64 s, .int .i64 t, .int .i64 f, .int .i64 l, .int .i64 p]] w2 fun e w' => e = .returned (.agg #[.int .i64 s2, .int .i64 t2, .int .i64 f2, .int .i64 l2, .int .i64 p2]) ∧ Below w2.heap.size w2 w')
    (WN : ∀ w2, Below w.heap.size w w2 → Calls Tryd.prog 32 #[.agg #[.int .i64 s2, .int .i64 t2, .int .i64 f2, .int .i64 l2, .int .i64 p2], .int .i64 k, v] w2 fun e w' => e = .returned (.slice none 0 0) ∧ Below w2.heap.size w2 w')
    (HC : cfgOk s t f l p = false ∨ (cfgOk s t f l p = true ∧ k < 0) ∨ (cfgOk s t f l p = true ∧ ¬ k < 0 ∧ s < k) ∨ (cfgOk s t f l p = true ∧ ¬ k < 0 ∧ ¬ s < k ∧ fitsB b ks vs f = false)) :
    Calls Tryd.prog 6 #[.agg #[.int .i64 s, .int .i64 t, .int .i64 f, .int .i64 l, .int .i64 p], .int .i64 k, v] w fun e w' => e = .returned (.bool true) ∧ Below w.heap.size w w' := by
  have hl80 : ks.length ≤ 80 ∧ vs.length ≤ 80 := by unfold smallB at hs; simpa using hs
  have HLN := hide LN
  replace LN := HLN
  clear HLN
  obtain ⟨kv, uv, rfl, ⟨A, c, rfl, g1, g2, hks⟩, ⟨A', c', rfl, g3, g4, hvs⟩⟩ := h
  have HND := hide (show Nd w w.heap.size (.agg #[.bool b, .slice A ks.length c, .slice A' vs.length c', .int .u64 lk]) b ks vs lk from ⟨_, _, rfl, ⟨A, c, rfl, g1, g2, hks⟩, ⟨A', c', rfl, g3, g4, hvs⟩⟩)
  have B0 := ((Below.refl w.heap.size w).alloc (Nat.le_refl _) (.cells #[.int .i64 s, .int .i64 t, .int .i64 f, .int .i64 l, .int .i64 p] 23)).alloc (by simp only [World.size_alloc]; omega) (.cells #[.bool b, .slice A ks.length c, .slice A' vs.length c', .int .u64 lk] 49)
  have xc := (Blk.new w 23 #[.int .i64 s, .int .i64 t, .int .i64 f, .int .i64 l, .int .i64 p]).alloc (.cells #[.bool b, .slice A ks.length c, .slice A' vs.length c', .int .u64 lk] 49)
  have xn := Blk.new (w.alloc (.cells #[.int .i64 s, .int .i64 t, .int .i64 f, .int .i64 l, .int .i64 p] 23)) 49 #[.bool b, .slice A ks.length c, .slice A' vs.length c', .int .u64 lk]
  simp only [World.size_alloc] at xn
  have AW := hide (fun w2 (h : Below w.heap.size w w2) => awake10 w2 (hT.below h))
  have SM := hide (fun w2 (h : Below w.heap.size w w2) => small_any _ b ks vs lk w2 ((HND.out.below h).more h.size))
  have SZ := hide (fun w2 => rsize_any s t f l p w2)
  clear g1 g2 g3 g4
  have mc := fun i => xc.cell i
  have mn := fun i => xn.cell i
  have WNH := hide WN
  clear WN
  have WR := hide (fun w2 => wrong_any s t f l p w2)
  have WE : cfgOk s t f l p = decide (wrg s t f l p < 0) := wrg_ok
  have RF := hide (fun w2 (h : Below w.heap.size w w2) => rfits_any _ b ks vs lk f w2 (by omega) (by omega) ((HND.out.below h).more h.size))
  rw [hs] at SM
  rw [WE] at HC
  generalize rSize s t f l p = z at *
  generalize wrg s t f l p = q at *
  clear hT hs hl80 WE
  go_enter Tryd.func6, Tryd.ntmps6
  go_wp2_with fail
  generalize (w.alloc (.cells #[.int .i64 s, .int .i64 t, .int .i64 f, .int .i64 l, .int .i64 p] 23)).alloc (.cells #[.bool b, .slice A ks.length c, .slice A' vs.length c', .int .u64 lk] 49) = w0 at *
  refine (SM.out _ B0).mono ?_
  rintro e w1 ⟨rfl, hb1⟩
  replace xc := xc.below hb1 xc.lt
  replace xn := xn.below hb1 xn.lt
  replace B0 := B0.trans (hb1.mono B0.size)
  clear hb1 mc mn
  have mc := fun i => xc.cell i
  have mn := fun i => xn.cell i
  go_wp2_with fail
  refine (SZ.out _).mono ?_
  rintro e w1 ⟨rfl, hb1⟩
  replace xc := xc.below hb1 xc.lt
  replace xn := xn.below hb1 xn.lt
  replace B0 := B0.trans (hb1.mono B0.size)
  clear hb1 mc mn
  have mc := fun i => xc.cell i
  have mn := fun i => xn.cell i
  go_wp2_with fail
  refine wp_region_heldZ [] (fun w' => w'.cell? ⟨w.heap.size, 0, none⟩ = some (.int .i64 s) ∧ w'.cell? ⟨w.heap.size, 1, none⟩ = some (.int .i64 t) ∧ w'.cell? ⟨w.heap.size, 2, none⟩ = some (.int .i64 f) ∧ w'.cell? ⟨w.heap.size, 3, none⟩ = some (.int .i64 l) ∧ w'.cell? ⟨w.heap.size, 4, none⟩ = some (.int .i64 p) ∧ w'.cell? ⟨w.heap.size + 1, 0, none⟩ = some (.bool b) ∧ w'.cell? ⟨w.heap.size + 1, 1, none⟩ = some (.slice A ks.length c) ∧ w'.cell? ⟨w.heap.size + 1, 2, none⟩ = some (.slice A' vs.length c') ∧ w'.cell? ⟨w.heap.size + 1, 3, none⟩ = some (.int .u64 lk)) (by kernel_rfl) (by exact ⟨xc.cell 0, xc.cell 1, xc.cell 2, xc.cell 3, xc.cell 4, xn.cell 0, xn.cell 1, xn.cell 2, xn.cell 3⟩) (fun hHeld => ?_)
  clear mc mn
  replace xc := xc.drew
  replace xn := xn.drew
  replace B0 := B0.drew
  generalize w1.drew = w1d at *
  refine' wpAnyZ_takeA (i := 0) (v := ?_) (opAt rfl) (by kernel_rfl) (by kernel_rfl) (by kernel_rfl) (by kernel_rfl) (fun _ _ _ h => h) (by assumption) (by rfl) (fun w hSw => ?_) ?_
  rotate_left
  · (try dsimp only at hSw); go_simp; (try with_reducible rfl)
  try simp only [Act.put, List.setIfInBounds_toArray, List.set_cons_zero, List.set_cons_succ]
  refine' wpAnyZ_takeA (i := 2) (v := ?_) (opAt rfl) (by kernel_rfl) (by kernel_rfl) (by kernel_rfl) (by kernel_rfl) (fun _ _ _ h => h) (by assumption) (by rfl) (fun w hSw => ?_) ?_
  rotate_left
  · (try dsimp only at hSw); go_simp; (try with_reducible rfl)
  try simp only [Act.put, List.setIfInBounds_toArray, List.set_cons_zero, List.set_cons_succ]
  refine' wpAnyZ_takeA (i := 3) (v := ?_) (opAt rfl) (by kernel_rfl) (by kernel_rfl) (by kernel_rfl) (by kernel_rfl) (fun _ _ _ h => h) (by assumption) (by rfl) (fun w hSw => ?_) ?_
  rotate_left
  · (try dsimp only at hSw); go_simp; (try with_reducible rfl)
  try simp only [Act.put, List.setIfInBounds_toArray, List.set_cons_zero, List.set_cons_succ]
  refine wpAnyZ_ready (rs := [1]) (by kernel_rfl) (by simp) ?_
  refine AllReadyZ.cons (opAt rfl) (fun K hK => ?_) ?_
  · skip
    go_simp
    refine (LN.out _ B0).mono ?_
    rintro e w2 ⟨rfl, hb1⟩
    replace xc := xc.below hb1 xc.lt
    replace xn := xn.below hb1 xn.lt
    replace B0 := B0.trans (hb1.mono B0.size)
    clear hb1
    try go_wp2_with fail
    refine hK.out _ _ (by exact ⟨xc.cell 0, xc.cell 1, xc.cell 2, xc.cell 3, xc.cell 4, xn.cell 0, xn.cell 1, xn.cell 2, xn.cell 3⟩) (fun hHeld => ?_)
    clear hK K
    try simp only [Act.put, List.setIfInBounds_toArray, List.set_cons_zero, List.set_cons_succ]
    refine wpAnyZ_ready (rs := [4]) (by kernel_rfl) (by simp) ?_
    refine AllReadyZ.cons (opAt rfl) (fun K hK => ?_) ?_
    · skip
      go_simp
      refine (WNH.out _ B0).mono ?_
      rintro e w3 ⟨rfl, hb1⟩
      replace xc := xc.below hb1 xc.lt
      replace xn := xn.below hb1 xn.lt
      replace B0 := B0.trans (hb1.mono B0.size)
      clear hb1
      try go_wp2_with fail
      refine hK.out _ _ (by exact ⟨xc.cell 0, xc.cell 1, xc.cell 2, xc.cell 3, xc.cell 4, xn.cell 0, xn.cell 1, xn.cell 2, xn.cell 3⟩) (fun hHeld => ?_)
      clear hK K
      try simp only [Act.put, List.setIfInBounds_toArray, List.set_cons_zero, List.set_cons_succ]
      refine' wpAnyZ_takeA (i := 5) (v := ?_) (opAt rfl) (by kernel_rfl) (by kernel_rfl) (by kernel_rfl) (by kernel_rfl) (fun _ _ _ h => h) (by assumption) (by rfl) (fun w hSw => ?_) ?_
      rotate_left
      · (try dsimp only at hSw); go_simp; (try with_reducible rfl)
      try simp only [Act.put, List.setIfInBounds_toArray, List.set_cons_zero, List.set_cons_succ]
      refine wpAnyZ_done (by kernel_rfl) ?_ _
      have mc := fun i => xc.cell i
      have mn := fun i => xn.cell i
      rcases HC with hq | ⟨hq, hk⟩ | ⟨hq, hk, hk2⟩ | ⟨hq, hk, hk2, hfb⟩
      · skip
        have hq2 : 0 ≤ q := by have := of_decide_eq_false hq.symm.symm; omega
        clear hq
        go_wp2_with fail
        refine (WR.out _).mono ?_
        rintro e w4 ⟨rfl, hb1⟩
        replace xc := xc.below hb1 xc.lt
        replace xn := xn.below hb1 xn.lt
        replace B0 := B0.trans (hb1.mono B0.size)
        clear hb1 mc mn
        have mc := fun i => xc.cell i
        have mn := fun i => xn.cell i
        go_wp2_with fail
        refine (AW.out _ B0).mono ?_
        rintro e w9 ⟨rfl, hb1⟩
        go_wp2_with fail
        go_ret
        exact ⟨rfl, B0.trans (hb1.mono B0.size)⟩
      · skip
        have hq2 : ¬ 0 ≤ q := by have := of_decide_eq_true hq.symm.symm; omega
        clear hq
        go_wp2_with fail
        refine (WR.out _).mono ?_
        rintro e w4 ⟨rfl, hb1⟩
        replace xc := xc.below hb1 xc.lt
        replace xn := xn.below hb1 xn.lt
        replace B0 := B0.trans (hb1.mono B0.size)
        clear hb1 mc mn
        have mc := fun i => xc.cell i
        have mn := fun i => xn.cell i
        go_wp2_with fail
        refine (AW.out _ B0).mono ?_
        rintro e w9 ⟨rfl, hb1⟩
        go_wp2_with fail
        go_ret
        exact ⟨rfl, B0.trans (hb1.mono B0.size)⟩
      · skip
        have hq2 : ¬ 0 ≤ q := by have := of_decide_eq_true hq.symm.symm; omega
        clear hq
        go_wp2_with fail
        refine (WR.out _).mono ?_
        rintro e w4 ⟨rfl, hb1⟩
        replace xc := xc.below hb1 xc.lt
        replace xn := xn.below hb1 xn.lt
        replace B0 := B0.trans (hb1.mono B0.size)
        clear hb1 mc mn
        have mc := fun i => xc.cell i
        have mn := fun i => xn.cell i
        go_wp2_with fail
        refine (AW.out _ B0).mono ?_
        rintro e w9 ⟨rfl, hb1⟩
        go_wp2_with fail
        go_ret
        exact ⟨rfl, B0.trans (hb1.mono B0.size)⟩
      · skip
        have hq2 : ¬ 0 ≤ q := by have := of_decide_eq_true hq.symm.symm; omega
        clear hq
        rw [hfb] at RF
        go_wp2_with fail
        refine (WR.out _).mono ?_
        rintro e w4 ⟨rfl, hb1⟩
        replace xc := xc.below hb1 xc.lt
        replace xn := xn.below hb1 xn.lt
        replace B0 := B0.trans (hb1.mono B0.size)
        clear hb1 mc mn
        have mc := fun i => xc.cell i
        have mn := fun i => xn.cell i
        go_wp2_with fail
        refine (RF.out _ B0).mono ?_
        rintro e w5 ⟨rfl, hb1⟩
        replace xc := xc.below hb1 xc.lt
        replace xn := xn.below hb1 xn.lt
        replace B0 := B0.trans (hb1.mono B0.size)
        clear hb1 mc mn
        have mc := fun i => xc.cell i
        have mn := fun i => xn.cell i
        go_wp2_with fail
        refine (AW.out _ B0).mono ?_
        rintro e w9 ⟨rfl, hb1⟩
        go_wp2_with fail
        go_ret
        exact ⟨rfl, B0.trans (hb1.mono B0.size)⟩
    exact AllReadyZ.nil
  exact AllReadyZ.nil
end Go.Proofs.YtegldbhabeoboaaDoor

