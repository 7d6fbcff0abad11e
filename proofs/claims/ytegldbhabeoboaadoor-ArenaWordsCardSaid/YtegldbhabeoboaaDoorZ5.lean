/-
  arena.Node of any slot: what its words tell.
-/
import Derived.Test.YtegldbhabeoboaaDoorZ4
import Derived.RangeFuncBox
import Derived.RangeFuncLeaves
import Derived.RangeFuncNested
import Derived.Shelf.Abstract
import Derived.WalkKit
import Derived.OwnWalkIn
import Derived.TacticsInMore
import Derived.LoopNIn
import Derived.LoopIn
import Derived.Maps.AppendAt
import Derived.CallsIn
namespace Go.Proofs.YtegldbhabeoboaaDoor
open Go.RowKit Go.Shelf

/-- What a slot's words tell: inner, how many entries, keys, values, link. -/
def nodI (ws : List Int) (t f k : Int) : Bool := innB (wGet ws (nB t f k + 1))
def nodN (ws : List Int) (t f k : Int) : Nat := (ents (wGet ws (nB t f k + 1)) f).toNat
def nodKn (ws : List Int) (t f k : Int) : Nat := if nodI ws t f k = true then nodN ws t f k - 1 else nodN ws t f k
def nodK (ws : List Int) (t f k : Int) : List Int := rowL ws (fun i => nB t f k + 3 + i) (nodKn ws t f k)
def nodV (ws : List Int) (t f k : Int) : List Int := rowL ws (fun i => nB t f k + 3 + f + i) (nodN ws t f k)
def nodL (ws : List Int) (t f k : Int) : Int := wGet ws (nB t f k + 2)
theorem ents_bd {x f : Int} (hx : W64 x) (hf : 4 ≤ f ∧ f ≤ 64) : 0 ≤ ents x f ∧ ents x f ≤ f := by
  obtain ⟨h0, h1⟩ := hx
  unfold ents
  split <;> (try split) <;> omega
theorem nodN_le {ws : List Int} {t f k : Int} (h64 : AllW64 ws) (hf : 4 ≤ f ∧ f ≤ 64) : (nodN ws t f k : Int) ≤ f := by
  have := ents_bd (wGet_w64 h64 (nB t f k + 1)) hf
  unfold nodN
  omega
theorem nodN_eq {ws : List Int} {t f k : Int} (h64 : AllW64 ws) (hf : 4 ≤ f ∧ f ≤ 64) : ents (wGet ws (nB t f k + 1)) f = (nodN ws t f k : Int) := by
  have := ents_bd (wGet_w64 h64 (nB t f k + 1)) hf
  unfold nodN
  omega
theorem nodKn_le (ws : List Int) (t f k : Int) : nodKn ws t f k ≤ nodN ws t f k := by
  unfold nodKn
  split <;> omega
/-- Behind the making of the node. -/
structure After5 (gm gw gx b : Nat) (s t f l p k : Int) (ws : List Int) (inn : Bool) (lk : Int) (w wx : World) : Prop where
  bn : Blk wx gx 49 #[.bool inn, .slice none 0 0, .slice none 0 0, .int .u64 lk]
  M : MemOk wx gm gw s t f l p ws
  bm : Blk wx b 27 #[.pointer (some ⟨gm, 0, none⟩)]
  bs : Blk wx (b + 1) 3 #[.int .i64 k]
  bx : Blk wx (b + 1 + 1) 49 #[.bool false, .slice none 0 0, .slice none 0 0, .int .u64 0]
  B : Below w.heap.size w wx
  g1 : gm ≠ gx ∧ gw ≠ gx
  g2 : b + 1 + 1 < gx
set_option maxRecDepth 100000 in
set_option maxHeartbeats 4000000 in
theorem anode_no (gm gw : Nat) (s t f l p k : Int) (ws : List Int) (w : World) (hs : 1 ≤ s ∧ s ≤ 1000) (ht : 1 ≤ t ∧ t ≤ 64) (hf : 4 ≤ f ∧ f ≤ 64) (hk : k < 0 ∨ s < k) (M : MemOk w gm gw s t f l p ws) :
    Calls Tryd.prog 20 #[.pointer (some ⟨gm, 0, none⟩), .int .i64 k] w fun e w' => e = .returned (.agg #[.bool false, .slice none 0 0, .slice none 0 0, .int .u64 0]) ∧ Below w.heap.size w w' := by
  have CV := hide (fun w2 => lver_any s t f l p k w2 hs ht hf)
  rw [atpB_6no hk] at CV
  clear hs ht hf hk
  have bm := Blk.new w 27 #[.pointer (some ⟨gm, 0, none⟩)]
  have bs := Blk.new (w.alloc (.cells #[.pointer (some ⟨gm, 0, none⟩)] 27)) 3 #[.int .i64 k]
  have bx := Blk.new ((w.alloc (.cells #[.pointer (some ⟨gm, 0, none⟩)] 27)).alloc (.cells #[.int .i64 k] 3)) 49 #[.bool false, .slice none 0 0, .slice none 0 0, .int .u64 0]
  have B := (Below.refl w.heap.size w).alloc (Nat.le_refl _) (.cells #[.pointer (some ⟨gm, 0, none⟩)] 27)
  replace B := B.alloc B.size (.cells #[.int .i64 k] 3)
  replace B := B.alloc B.size (.cells #[.bool false, .slice none 0 0, .slice none 0 0, .int .u64 0] 49)
  replace bm := (bm.alloc (.cells #[.int .i64 k] 3)).alloc (.cells #[.bool false, .slice none 0 0, .slice none 0 0, .int .u64 0] 49)
  replace bs := bs.alloc (.cells #[.bool false, .slice none 0 0, .slice none 0 0, .int .u64 0] 49)
  simp only [World.size_alloc] at bs bx
  replace M := M.below B
  go_enter Tryd.func20, Tryd.ntmps20
  go_wp2_with fail
  generalize ((w.alloc (.cells #[.pointer (some ⟨gm, 0, none⟩)] 27)).alloc (.cells #[.int .i64 k] 3)).alloc (.cells #[.bool false, .slice none 0 0, .slice none 0 0, .int .u64 0] 49) = w0 at *
  obtain ⟨b, hb⟩ : ∃ b, b = w.heap.size := ⟨_, rfl⟩
  rw [← hb] at bm bs bx ⊢
  have HBE := hide hb
  clear hb
  refine wp_region_heldZ [] (fun w' => w'.cell? ⟨b, 0, none⟩ = some (.pointer (some ⟨gm, 0, none⟩)) ∧ w'.cell? ⟨b + 1, 0, none⟩ = some (.int .i64 k) ∧ w'.cell? ⟨gm, 0, none⟩ = some (.int .i64 s) ∧ w'.cell? ⟨gm, 1, none⟩ = some (.int .i64 t) ∧ w'.cell? ⟨gm, 2, none⟩ = some (.int .i64 f) ∧ w'.cell? ⟨gm, 3, none⟩ = some (.int .i64 l) ∧ w'.cell? ⟨gm, 4, none⟩ = some (.int .i64 p)) (by kernel_rfl) (by exact ⟨bm.cell 0, bs.cell 0, mem5 M⟩) (fun hHeld => ?_)
  replace M := M.drew
  replace bm := bm.drew
  replace bs := bs.drew
  replace bx := bx.drew
  replace B := B.drew
  generalize w0.drew = w0x at *
  refine' wpAnyZ_takeA (i := 0) (v := ?_) (opAt rfl) (by kernel_rfl) (by kernel_rfl) (by kernel_rfl) (by kernel_rfl) (fun _ _ _ h => h) (by assumption) (by rfl) (fun w hSw => ?_) ?_
  rotate_left
  · (try dsimp only at hSw); go_simp; (try with_reducible rfl)
  try simp only [Act.put, List.setIfInBounds_toArray, List.set_cons_zero, List.set_cons_succ]
  refine' wpAnyZ_takeA (i := 1) (v := ?_) (opAt rfl) (by kernel_rfl) (by kernel_rfl) (by kernel_rfl) (by kernel_rfl) (fun _ _ _ h => h) (by assumption) (by rfl) (fun w hSw => ?_) ?_
  rotate_left
  · (try dsimp only at hSw); go_simp; (try with_reducible rfl)
  try simp only [Act.put, List.setIfInBounds_toArray, List.set_cons_zero, List.set_cons_succ]
  refine' wpAnyZ_takeA (i := 2) (v := ?_) (opAt rfl) (by kernel_rfl) (by kernel_rfl) (by kernel_rfl) (by kernel_rfl) (fun _ _ _ h => h) (by assumption) (by rfl) (fun w hSw => ?_) ?_
  rotate_left
  · (try dsimp only at hSw); go_simp; (try with_reducible rfl)
  try simp only [Act.put, List.setIfInBounds_toArray, List.set_cons_zero, List.set_cons_succ]
  refine' wpAnyZ_takeA (i := 3) (v := ?_) (opAt rfl) (by kernel_rfl) (by kernel_rfl) (by kernel_rfl) (by kernel_rfl) (fun _ _ _ h => h) (by assumption) (by rfl) (fun w hSw => ?_) ?_
  rotate_left
  · (try dsimp only at hSw); go_simp; (try with_reducible rfl)
  try simp only [Act.put, List.setIfInBounds_toArray, List.set_cons_zero, List.set_cons_succ]
  refine' wpAnyZ_takeA (i := 4) (v := ?_) (opAt rfl) (by kernel_rfl) (by kernel_rfl) (by kernel_rfl) (by kernel_rfl) (fun _ _ _ h => h) (by assumption) (by rfl) (fun w hSw => ?_) ?_
  rotate_left
  · (try dsimp only at hSw); go_simp; (try with_reducible rfl)
  try simp only [Act.put, List.setIfInBounds_toArray, List.set_cons_zero, List.set_cons_succ]
  refine' wpAnyZ_takeA (i := 5) (v := ?_) (opAt rfl) (by kernel_rfl) (by kernel_rfl) (by kernel_rfl) (by kernel_rfl) (fun _ _ _ h => h) (by assumption) (by rfl) (fun w hSw => ?_) ?_
  rotate_left
  · (try dsimp only at hSw); go_simp; (try with_reducible rfl)
  try simp only [Act.put, List.setIfInBounds_toArray, List.set_cons_zero, List.set_cons_succ]
  refine' wpAnyZ_takeA (i := 6) (v := ?_) (opAt rfl) (by kernel_rfl) (by kernel_rfl) (by kernel_rfl) (by kernel_rfl) (fun _ _ _ h => h) (by assumption) (by rfl) (fun w hSw => ?_) ?_
  rotate_left
  · (try dsimp only at hSw); go_simp; (try with_reducible rfl)
  try simp only [Act.put, List.setIfInBounds_toArray, List.set_cons_zero, List.set_cons_succ]
  refine' wpAnyZ_takeA (i := 7) (v := ?_) (opAt rfl) (by kernel_rfl) (by kernel_rfl) (by kernel_rfl) (by kernel_rfl) (fun _ _ _ h => h) (by assumption) (by rfl) (fun w hSw => ?_) ?_
  rotate_left
  · (try dsimp only at hSw); go_simp; (try with_reducible rfl)
  try simp only [Act.put, List.setIfInBounds_toArray, List.set_cons_zero, List.set_cons_succ]
  refine wpAnyZ_ready (rs := [8]) (by kernel_rfl) (by simp) ?_
  refine AllReadyZ.cons (opAt rfl) (fun K hK => ?_) ?_
  · skip
    go_simp
    refine (CV.out _).mono ?_
    rintro e w1 ⟨rfl, hb1⟩
    replace M := M.below hb1
    replace bm := bm.below hb1 bm.lt
    replace bs := bs.below hb1 bs.lt
    replace bx := bx.below hb1 bx.lt
    replace B := B.trans (hb1.mono B.size)
    clear hb1
    try go_wp2_with fail
    refine hK.out _ _ (by exact ⟨bm.cell 0, bs.cell 0, mem5 M⟩) (fun hHeld => ?_)
    clear hK K
    try simp only [Act.put, List.setIfInBounds_toArray, List.set_cons_zero, List.set_cons_succ]
    refine' wpAnyZ_takeA (i := 9) (v := ?_) (opAt rfl) (by kernel_rfl) (by kernel_rfl) (by kernel_rfl) (by kernel_rfl) (fun _ _ _ h => h) (by assumption) (by rfl) (fun w hSw => ?_) ?_
    rotate_left
    · (try dsimp only at hSw); go_simp; (try with_reducible rfl)
    try simp only [Act.put, List.setIfInBounds_toArray, List.set_cons_zero, List.set_cons_succ]
    refine' wpAnyZ_takeA (i := 10) (v := ?_) (opAt rfl) (by kernel_rfl) (by kernel_rfl) (by kernel_rfl) (by kernel_rfl) (fun _ _ _ h => h) (by assumption) (by rfl) (fun w hSw => ?_) ?_
    rotate_left
    · (try dsimp only at hSw); go_simp; (try with_reducible rfl)
    try simp only [Act.put, List.setIfInBounds_toArray, List.set_cons_zero, List.set_cons_succ]
    refine wpAnyZ_done (by kernel_rfl) ?_ _
    have zx := fun j => bx.frozen j
    have mx := fun j => bx.cell j
    go_wp2_with fail
    have p9 := (((bx.set_ 0 (.bool false)).set_ 1 (.slice none 0 0)).set_ 2 (.slice none 0 0)).set_ 3 (.int .u64 0)
    have m9 := fun j => p9.cell j
    have C9 := B.setCell (p := ⟨b + 1 + 1, 0, none⟩) (by have h2 := HBE.out; show w.heap.size ≤ b + 1 + 1; omega) (.bool false)
    replace C9 := C9.setCell (p := ⟨b + 1 + 1, 1, none⟩) (by have h2 := HBE.out; show w.heap.size ≤ b + 1 + 1; omega) (.slice none 0 0)
    replace C9 := C9.setCell (p := ⟨b + 1 + 1, 2, none⟩) (by have h2 := HBE.out; show w.heap.size ≤ b + 1 + 1; omega) (.slice none 0 0)
    replace C9 := C9.setCell (p := ⟨b + 1 + 1, 3, none⟩) (by have h2 := HBE.out; show w.heap.size ≤ b + 1 + 1; omega) (.int .u64 0)
    refine bodyPost_ret (v := .agg #[.bool false, .slice none 0 0, .slice none 0 0, .int .u64 0]) (by simp [results, Tryd.results20, go_sem, m9, List.setIfInBounds_toArray]) rfl ⟨rfl, by first | exact C9 | exact C9.drew⟩
  exact AllReadyZ.nil
set_option maxRecDepth 100000 in
set_option maxHeartbeats 1000000 in
theorem anode_nil (k : Int) (w : World) :
    Calls Tryd.prog 20 #[.pointer none, .int .i64 k] w fun e w' => e = .returned (.agg #[.bool false, .slice none 0 0, .slice none 0 0, .int .u64 0]) ∧ Below w.heap.size w w' := by
  have bm := Blk.new w 27 #[.pointer none]
  have bs := Blk.new (w.alloc (.cells #[.pointer none] 27)) 3 #[.int .i64 k]
  have bx := Blk.new ((w.alloc (.cells #[.pointer none] 27)).alloc (.cells #[.int .i64 k] 3)) 49 #[.bool false, .slice none 0 0, .slice none 0 0, .int .u64 0]
  have B := (Below.refl w.heap.size w).alloc (Nat.le_refl _) (.cells #[.pointer none] 27)
  replace B := B.alloc B.size (.cells #[.int .i64 k] 3)
  replace B := B.alloc B.size (.cells #[.bool false, .slice none 0 0, .slice none 0 0, .int .u64 0] 49)
  replace bm := (bm.alloc (.cells #[.int .i64 k] 3)).alloc (.cells #[.bool false, .slice none 0 0, .slice none 0 0, .int .u64 0] 49)
  replace bs := bs.alloc (.cells #[.bool false, .slice none 0 0, .slice none 0 0, .int .u64 0] 49)
  simp only [World.size_alloc] at bs bx
  go_enter Tryd.func20, Tryd.ntmps20
  go_wp2_with fail
  generalize ((w.alloc (.cells #[.pointer none] 27)).alloc (.cells #[.int .i64 k] 3)).alloc (.cells #[.bool false, .slice none 0 0, .slice none 0 0, .int .u64 0] 49) = w0 at *
  obtain ⟨b, hb⟩ : ∃ b, b = w.heap.size := ⟨_, rfl⟩
  rw [← hb] at bm bs bx ⊢
  have HBE := hide hb
  clear hb
  refine wp_region_heldZ [] (fun w' => w'.cell? ⟨b, 0, none⟩ = some (.pointer none) ∧ w'.cell? ⟨b + 1, 0, none⟩ = some (.int .i64 k)) (by kernel_rfl) (by exact ⟨bm.cell 0, bs.cell 0⟩) (fun hHeld => ?_)
  replace bm := bm.drew
  replace bs := bs.drew
  replace bx := bx.drew
  replace B := B.drew
  generalize w0.drew = w0x at *
  refine' wpAnyZ_takeA (i := 0) (v := ?_) (opAt rfl) (by kernel_rfl) (by kernel_rfl) (by kernel_rfl) (by kernel_rfl) (fun _ _ _ h => h) (by assumption) (by rfl) (fun w hSw => ?_) ?_
  rotate_left
  · (try dsimp only at hSw); go_simp; (try with_reducible rfl)
  try simp only [Act.put, List.setIfInBounds_toArray, List.set_cons_zero, List.set_cons_succ]
  refine' wpAnyZ_takeA (i := 1) (v := ?_) (opAt rfl) (by kernel_rfl) (by kernel_rfl) (by kernel_rfl) (by kernel_rfl) (fun _ _ _ h => h) (by assumption) (by rfl) (fun w hSw => ?_) ?_
  rotate_left
  · (try dsimp only at hSw); go_simp; (try with_reducible rfl)
  try simp only [Act.put, List.setIfInBounds_toArray, List.set_cons_zero, List.set_cons_succ]
  refine' wpAnyZ_takeA (i := 2) (v := ?_) (opAt rfl) (by kernel_rfl) (by kernel_rfl) (by kernel_rfl) (by kernel_rfl) (fun _ _ _ h => h) (by assumption) (by rfl) (fun w hSw => ?_) ?_
  rotate_left
  · (try dsimp only at hSw); go_simp; (try with_reducible rfl)
  try simp only [Act.put, List.setIfInBounds_toArray, List.set_cons_zero, List.set_cons_succ]
  refine' wpAnyZ_skipA (i := 3) _ rfl (opAt rfl) (by kernel_rfl) (by kernel_rfl) (by kernel_rfl) (by kernel_rfl) (fun _ _ _ h => h) (by assumption) (by rfl) ?_
  try simp only [Act.put, List.setIfInBounds_toArray, List.set_cons_zero, List.set_cons_succ]
  refine' wpAnyZ_skipA (i := 4) _ rfl (opAt rfl) (by kernel_rfl) (by kernel_rfl) (by kernel_rfl) (by kernel_rfl) (fun _ _ _ h => h) (by assumption) (by rfl) ?_
  try simp only [Act.put, List.setIfInBounds_toArray, List.set_cons_zero, List.set_cons_succ]
  refine' wpAnyZ_skipA (i := 5) _ rfl (opAt rfl) (by kernel_rfl) (by kernel_rfl) (by kernel_rfl) (by kernel_rfl) (fun _ _ _ h => h) (by assumption) (by rfl) ?_
  try simp only [Act.put, List.setIfInBounds_toArray, List.set_cons_zero, List.set_cons_succ]
  refine' wpAnyZ_skipA (i := 6) _ rfl (opAt rfl) (by kernel_rfl) (by kernel_rfl) (by kernel_rfl) (by kernel_rfl) (fun _ _ _ h => h) (by assumption) (by rfl) ?_
  try simp only [Act.put, List.setIfInBounds_toArray, List.set_cons_zero, List.set_cons_succ]
  refine' wpAnyZ_skipA (i := 7) _ rfl (opAt rfl) (by kernel_rfl) (by kernel_rfl) (by kernel_rfl) (by kernel_rfl) (fun _ _ _ h => h) (by assumption) (by rfl) ?_
  try simp only [Act.put, List.setIfInBounds_toArray, List.set_cons_zero, List.set_cons_succ]
  refine' wpAnyZ_skipA (i := 8) _ rfl (opAt rfl) (by kernel_rfl) (by kernel_rfl) (by kernel_rfl) (by kernel_rfl) (fun _ _ _ h => h) (by assumption) (by rfl) ?_
  try simp only [Act.put, List.setIfInBounds_toArray, List.set_cons_zero, List.set_cons_succ]
  refine' wpAnyZ_skipA (i := 9) _ rfl (opAt rfl) (by kernel_rfl) (by kernel_rfl) (by kernel_rfl) (by kernel_rfl) (fun _ _ _ h => h) (by assumption) (by rfl) ?_
  try simp only [Act.put, List.setIfInBounds_toArray, List.set_cons_zero, List.set_cons_succ]
  refine' wpAnyZ_takeA (i := 10) (v := ?_) (opAt rfl) (by kernel_rfl) (by kernel_rfl) (by kernel_rfl) (by kernel_rfl) (fun _ _ _ h => h) (by assumption) (by rfl) (fun w hSw => ?_) ?_
  rotate_left
  · (try dsimp only at hSw); go_simp; (try with_reducible rfl)
  try simp only [Act.put, List.setIfInBounds_toArray, List.set_cons_zero, List.set_cons_succ]
  refine wpAnyZ_done (by kernel_rfl) ?_ _
  have zx := fun j => bx.frozen j
  have mx := fun j => bx.cell j
  go_wp2_with fail
  have p9 := (((bx.set_ 0 (.bool false)).set_ 1 (.slice none 0 0)).set_ 2 (.slice none 0 0)).set_ 3 (.int .u64 0)
  have m9 := fun j => p9.cell j
  have C9 := B.setCell (p := ⟨b + 1 + 1, 0, none⟩) (by have h2 := HBE.out; show w.heap.size ≤ b + 1 + 1; omega) (.bool false)
  replace C9 := C9.setCell (p := ⟨b + 1 + 1, 1, none⟩) (by have h2 := HBE.out; show w.heap.size ≤ b + 1 + 1; omega) (.slice none 0 0)
  replace C9 := C9.setCell (p := ⟨b + 1 + 1, 2, none⟩) (by have h2 := HBE.out; show w.heap.size ≤ b + 1 + 1; omega) (.slice none 0 0)
  replace C9 := C9.setCell (p := ⟨b + 1 + 1, 3, none⟩) (by have h2 := HBE.out; show w.heap.size ≤ b + 1 + 1; omega) (.int .u64 0)
  refine bodyPost_ret (v := .agg #[.bool false, .slice none 0 0, .slice none 0 0, .int .u64 0]) (by simp [results, Tryd.results20, go_sem, m9, List.setIfInBounds_toArray]) rfl ⟨rfl, by first | exact C9 | exact C9.drew⟩
set_option maxRecDepth 100000 in
set_option maxHeartbeats 4000000 in
theorem anode_yes (gm gw : Nat) (s t f l p k : Int) (ws : List Int) (w : World) (hs : 1 ≤ s ∧ s ≤ 1000) (ht : 1 ≤ t ∧ t ≤ 64) (hf : 4 ≤ f ∧ f ≤ 64) (hk : 0 ≤ k ∧ k ≤ s) (M : MemOk w gm gw s t f l p ws) (h64 : AllW64 ws) :
    Calls Tryd.prog 20 #[.pointer (some ⟨gm, 0, none⟩), .int .i64 k] w fun e w' => (∃ v, e = .returned v ∧ NdO w' w.heap.size v (nodI ws t f k) (nodK ws t f k) (nodV ws t f k) (nodL ws t f k)) ∧ Below w.heap.size w w' := by
  have b := nB_bd hs ht hf hk
  have CV := hide (fun w2 => lver_any s t f l p k w2 hs ht hf)
  have CS := hide (fun w2 => lshp_any s t f l p k w2 hs ht hf)
  have CN := hide (fun w2 => llnk_any s t f l p k w2 hs ht hf)
  rw [atpB_6 hk] at CV
  rw [atpB_7 hk] at CS
  rw [atpB_8 hk] at CN
  have W1 := hide (fun w2 (h : MemOk w2 gm gw s t f l p ws) => word_any gm gw s t f l p (nB t f k + 1) ws w2 h)
  have W2 := hide (fun w2 (h : MemOk w2 gm gw s t f l p ws) => word_any gm gw s t f l p (nB t f k + 2) ws w2 h)
  have CC := hide (fun w2 => lconfig_any s t f l p w2)
  have EN := hide (fun w2 => entries_any (wGet ws (nB t f k + 1)) f w2 (wGet_w64 h64 _) ⟨by omega, by omega⟩)
  rw [nodN_eq h64 hf] at EN
  have IN := hide (fun w2 => inner_any (wGet ws (nB t f k + 1)) w2 (wGet_w64 h64 _))
  rw [show innB (wGet ws (nB t f k + 1)) = nodI ws t f k from rfl] at IN
  rw [show wGet ws (nB t f k + 2) = nodL ws t f k from rfl] at W2
  have hNf := nodN_le (t := t) (k := k) h64 hf
  have RK := hide (fun (bb n : Nat) (kn : Int) (hn : n ≤ nodN ws t f k) (hkn : kn = (n : Int)) (wx : World) (M : MemOk wx gm gw s t f l p ws) (bm : Blk wx bb 27 #[.pointer (some ⟨gm, 0, none⟩)]) (bs : Blk wx (bb + 1) 3 #[.int .i64 k]) => rowK_any gm gw bb s t f l p k ws n kn wx hs ht hf hk (by omega) hkn M bm bs)
  have RV := hide (fun (bb n : Nat) (kn : Int) (hn : n ≤ nodN ws t f k) (hkn : kn = (n : Int)) (wx : World) (M : MemOk wx gm gw s t f l p ws) (bm : Blk wx bb 27 #[.pointer (some ⟨gm, 0, none⟩)]) (bs : Blk wx (bb + 1) 3 #[.int .i64 k]) => rowV_any gm gw bb s t f l p k ws n kn wx hs ht hf hk (by omega) hkn M bm bs)
  have hf2 : ∀ w : World, (Instr.field 23 (.agg #[.int .i64 s, .int .i64 t, .int .i64 f, .int .i64 l, .int .i64 p]) 2).run Tryd.prog w = .ok (.int .i64 f) w := fun _ => by kernel_rfl
  have d1 : decide (nB t f k < 0) = false := by rw [decide_eq_false_iff_not]; omega
  have HKE := hide (show nodK ws t f k = rowL ws (fun i => nB t f k + 3 + i) (nodKn ws t f k) from rfl)
  have HVE := hide (show nodV ws t f k = rowL ws (fun i => nB t f k + 3 + f + i) (nodN ws t f k) from rfl)
  have HNK := hide (show nodKn ws t f k = if nodI ws t f k = true then nodN ws t f k - 1 else nodN ws t f k from rfl)
  generalize wGet ws (nB t f k + 1) = x1 at *
  generalize nB t f k + 1 = a1 at *
  generalize nB t f k + 2 = a2 at *
  generalize nodI ws t f k = inn at *
  generalize nodN ws t f k = N at *
  generalize nodL ws t f k = lk at *
  generalize nodKn ws t f k = NK at *
  generalize nodK ws t f k = ks at *
  generalize nodV ws t f k = vs at *
  generalize (fun i : Nat => nB t f k + 3 + f + (i : Int)) = gv at *
  generalize (fun i : Nat => nB t f k + 3 + (i : Int)) = gk at *
  generalize nB t f k = a0 at *
  clear b hk
  have HT := hide (And.intro hs (And.intro ht hf))
  have HNf := hide hNf
  clear hs ht hf hNf h64
  have bm := Blk.new w 27 #[.pointer (some ⟨gm, 0, none⟩)]
  have bs := Blk.new (w.alloc (.cells #[.pointer (some ⟨gm, 0, none⟩)] 27)) 3 #[.int .i64 k]
  have bx := Blk.new ((w.alloc (.cells #[.pointer (some ⟨gm, 0, none⟩)] 27)).alloc (.cells #[.int .i64 k] 3)) 49 #[.bool false, .slice none 0 0, .slice none 0 0, .int .u64 0]
  have B := (Below.refl w.heap.size w).alloc (Nat.le_refl _) (.cells #[.pointer (some ⟨gm, 0, none⟩)] 27)
  replace B := B.alloc B.size (.cells #[.int .i64 k] 3)
  replace B := B.alloc B.size (.cells #[.bool false, .slice none 0 0, .slice none 0 0, .int .u64 0] 49)
  replace bm := (bm.alloc (.cells #[.int .i64 k] 3)).alloc (.cells #[.bool false, .slice none 0 0, .slice none 0 0, .int .u64 0] 49)
  replace bs := bs.alloc (.cells #[.bool false, .slice none 0 0, .slice none 0 0, .int .u64 0] 49)
  simp only [World.size_alloc] at bs bx
  replace M := M.below B
  go_enter Tryd.func20, Tryd.ntmps20
  go_wp2_with fail
  generalize ((w.alloc (.cells #[.pointer (some ⟨gm, 0, none⟩)] 27)).alloc (.cells #[.int .i64 k] 3)).alloc (.cells #[.bool false, .slice none 0 0, .slice none 0 0, .int .u64 0] 49) = w0 at *
  obtain ⟨b, hb⟩ : ∃ b, b = w.heap.size := ⟨_, rfl⟩
  rw [← hb] at bm bs bx ⊢
  have HBE := hide hb
  clear hb
  refine wp_region_heldZ [] (fun w' => w'.cell? ⟨b, 0, none⟩ = some (.pointer (some ⟨gm, 0, none⟩)) ∧ w'.cell? ⟨b + 1, 0, none⟩ = some (.int .i64 k) ∧ w'.cell? ⟨gm, 0, none⟩ = some (.int .i64 s) ∧ w'.cell? ⟨gm, 1, none⟩ = some (.int .i64 t) ∧ w'.cell? ⟨gm, 2, none⟩ = some (.int .i64 f) ∧ w'.cell? ⟨gm, 3, none⟩ = some (.int .i64 l) ∧ w'.cell? ⟨gm, 4, none⟩ = some (.int .i64 p)) (by kernel_rfl) (by exact ⟨bm.cell 0, bs.cell 0, mem5 M⟩) (fun hHeld => ?_)
  replace M := M.drew
  replace bm := bm.drew
  replace bs := bs.drew
  replace bx := bx.drew
  replace B := B.drew
  generalize w0.drew = w0x at *
  refine' wpAnyZ_takeA (i := 0) (v := ?_) (opAt rfl) (by kernel_rfl) (by kernel_rfl) (by kernel_rfl) (by kernel_rfl) (fun _ _ _ h => h) (by assumption) (by rfl) (fun w hSw => ?_) ?_
  rotate_left
  · (try dsimp only at hSw); go_simp; (try with_reducible rfl)
  try simp only [Act.put, List.setIfInBounds_toArray, List.set_cons_zero, List.set_cons_succ]
  refine' wpAnyZ_takeA (i := 1) (v := ?_) (opAt rfl) (by kernel_rfl) (by kernel_rfl) (by kernel_rfl) (by kernel_rfl) (fun _ _ _ h => h) (by assumption) (by rfl) (fun w hSw => ?_) ?_
  rotate_left
  · (try dsimp only at hSw); go_simp; (try with_reducible rfl)
  try simp only [Act.put, List.setIfInBounds_toArray, List.set_cons_zero, List.set_cons_succ]
  refine' wpAnyZ_takeA (i := 2) (v := ?_) (opAt rfl) (by kernel_rfl) (by kernel_rfl) (by kernel_rfl) (by kernel_rfl) (fun _ _ _ h => h) (by assumption) (by rfl) (fun w hSw => ?_) ?_
  rotate_left
  · (try dsimp only at hSw); go_simp; (try with_reducible rfl)
  try simp only [Act.put, List.setIfInBounds_toArray, List.set_cons_zero, List.set_cons_succ]
  refine' wpAnyZ_takeA (i := 3) (v := ?_) (opAt rfl) (by kernel_rfl) (by kernel_rfl) (by kernel_rfl) (by kernel_rfl) (fun _ _ _ h => h) (by assumption) (by rfl) (fun w hSw => ?_) ?_
  rotate_left
  · (try dsimp only at hSw); go_simp; (try with_reducible rfl)
  try simp only [Act.put, List.setIfInBounds_toArray, List.set_cons_zero, List.set_cons_succ]
  refine' wpAnyZ_takeA (i := 4) (v := ?_) (opAt rfl) (by kernel_rfl) (by kernel_rfl) (by kernel_rfl) (by kernel_rfl) (fun _ _ _ h => h) (by assumption) (by rfl) (fun w hSw => ?_) ?_
  rotate_left
  · (try dsimp only at hSw); go_simp; (try with_reducible rfl)
  try simp only [Act.put, List.setIfInBounds_toArray, List.set_cons_zero, List.set_cons_succ]
  refine' wpAnyZ_takeA (i := 5) (v := ?_) (opAt rfl) (by kernel_rfl) (by kernel_rfl) (by kernel_rfl) (by kernel_rfl) (fun _ _ _ h => h) (by assumption) (by rfl) (fun w hSw => ?_) ?_
  rotate_left
  · (try dsimp only at hSw); go_simp; (try with_reducible rfl)
  try simp only [Act.put, List.setIfInBounds_toArray, List.set_cons_zero, List.set_cons_succ]
  refine' wpAnyZ_takeA (i := 6) (v := ?_) (opAt rfl) (by kernel_rfl) (by kernel_rfl) (by kernel_rfl) (by kernel_rfl) (fun _ _ _ h => h) (by assumption) (by rfl) (fun w hSw => ?_) ?_
  rotate_left
  · (try dsimp only at hSw); go_simp; (try with_reducible rfl)
  try simp only [Act.put, List.setIfInBounds_toArray, List.set_cons_zero, List.set_cons_succ]
  refine' wpAnyZ_takeA (i := 7) (v := ?_) (opAt rfl) (by kernel_rfl) (by kernel_rfl) (by kernel_rfl) (by kernel_rfl) (fun _ _ _ h => h) (by assumption) (by rfl) (fun w hSw => ?_) ?_
  rotate_left
  · (try dsimp only at hSw); go_simp; (try with_reducible rfl)
  try simp only [Act.put, List.setIfInBounds_toArray, List.set_cons_zero, List.set_cons_succ]
  refine wpAnyZ_ready (rs := [8]) (by kernel_rfl) (by simp) ?_
  refine AllReadyZ.cons (opAt rfl) (fun K hK => ?_) ?_
  · skip
    go_simp
    refine (CV.out _).mono ?_
    rintro e w1 ⟨rfl, hb1⟩
    replace M := M.below hb1
    replace bm := bm.below hb1 bm.lt
    replace bs := bs.below hb1 bs.lt
    replace bx := bx.below hb1 bx.lt
    replace B := B.trans (hb1.mono B.size)
    clear hb1
    try go_wp2_with fail
    refine hK.out _ _ (by exact ⟨bm.cell 0, bs.cell 0, mem5 M⟩) (fun hHeld => ?_)
    clear hK K
    try simp only [Act.put, List.setIfInBounds_toArray, List.set_cons_zero, List.set_cons_succ]
    refine' wpAnyZ_takeA (i := 9) (v := ?_) (opAt rfl) (by kernel_rfl) (by kernel_rfl) (by kernel_rfl) (by kernel_rfl) (fun _ _ _ h => h) (by assumption) (by rfl) (fun w hSw => ?_) ?_
    rotate_left
    · (try dsimp only at hSw); go_simp; (try with_reducible rfl)
    try simp only [Act.put, List.setIfInBounds_toArray, List.set_cons_zero, List.set_cons_succ]
    refine' wpAnyZ_takeA (i := 10) (v := ?_) (opAt rfl) (by kernel_rfl) (by kernel_rfl) (by kernel_rfl) (by kernel_rfl) (fun _ _ _ h => h) (by assumption) (by rfl) (fun w hSw => ?_) ?_
    rotate_left
    · (try dsimp only at hSw); go_simp; (try with_reducible rfl)
    try simp only [Act.put, List.setIfInBounds_toArray, List.set_cons_zero, List.set_cons_succ]
    refine wpAnyZ_done (by kernel_rfl) ?_ _
    go_wp2_with fail
    refine wp_region_heldZ [] (fun w' => w'.cell? ⟨b, 0, none⟩ = some (.pointer (some ⟨gm, 0, none⟩)) ∧ w'.cell? ⟨b + 1, 0, none⟩ = some (.int .i64 k) ∧ w'.cell? ⟨gm, 0, none⟩ = some (.int .i64 s) ∧ w'.cell? ⟨gm, 1, none⟩ = some (.int .i64 t) ∧ w'.cell? ⟨gm, 2, none⟩ = some (.int .i64 f) ∧ w'.cell? ⟨gm, 3, none⟩ = some (.int .i64 l) ∧ w'.cell? ⟨gm, 4, none⟩ = some (.int .i64 p)) (by kernel_rfl) (by exact ⟨bm.cell 0, bs.cell 0, mem5 M⟩) (fun hHeld => ?_)
    replace M := M.drew
    replace bm := bm.drew
    replace bs := bs.drew
    replace bx := bx.drew
    replace B := B.drew
    generalize w1.drew = w1x at *
    refine' wpAnyZ_takeA (i := 0) (v := ?_) (opAt rfl) (by kernel_rfl) (by kernel_rfl) (by kernel_rfl) (by kernel_rfl) (fun _ _ _ h => h) (by assumption) (by rfl) (fun w hSw => ?_) ?_
    rotate_left
    · (try dsimp only at hSw); go_simp; (try with_reducible rfl)
    try simp only [Act.put, List.setIfInBounds_toArray, List.set_cons_zero, List.set_cons_succ]
    refine' wpAnyZ_takeA (i := 1) (v := ?_) (opAt rfl) (by kernel_rfl) (by kernel_rfl) (by kernel_rfl) (by kernel_rfl) (fun _ _ _ h => h) (by assumption) (by rfl) (fun w hSw => ?_) ?_
    rotate_left
    · (try dsimp only at hSw); go_simp; (try with_reducible rfl)
    try simp only [Act.put, List.setIfInBounds_toArray, List.set_cons_zero, List.set_cons_succ]
    refine' wpAnyZ_takeA (i := 2) (v := ?_) (opAt rfl) (by kernel_rfl) (by kernel_rfl) (by kernel_rfl) (by kernel_rfl) (fun _ _ _ h => h) (by assumption) (by rfl) (fun w hSw => ?_) ?_
    rotate_left
    · (try dsimp only at hSw); go_simp; (try with_reducible rfl)
    try simp only [Act.put, List.setIfInBounds_toArray, List.set_cons_zero, List.set_cons_succ]
    refine' wpAnyZ_takeA (i := 3) (v := ?_) (opAt rfl) (by kernel_rfl) (by kernel_rfl) (by kernel_rfl) (by kernel_rfl) (fun _ _ _ h => h) (by assumption) (by rfl) (fun w hSw => ?_) ?_
    rotate_left
    · (try dsimp only at hSw); go_simp; (try with_reducible rfl)
    try simp only [Act.put, List.setIfInBounds_toArray, List.set_cons_zero, List.set_cons_succ]
    refine' wpAnyZ_takeA (i := 4) (v := ?_) (opAt rfl) (by kernel_rfl) (by kernel_rfl) (by kernel_rfl) (by kernel_rfl) (fun _ _ _ h => h) (by assumption) (by rfl) (fun w hSw => ?_) ?_
    rotate_left
    · (try dsimp only at hSw); go_simp; (try with_reducible rfl)
    try simp only [Act.put, List.setIfInBounds_toArray, List.set_cons_zero, List.set_cons_succ]
    refine' wpAnyZ_takeA (i := 5) (v := ?_) (opAt rfl) (by kernel_rfl) (by kernel_rfl) (by kernel_rfl) (by kernel_rfl) (fun _ _ _ h => h) (by assumption) (by rfl) (fun w hSw => ?_) ?_
    rotate_left
    · (try dsimp only at hSw); go_simp; (try with_reducible rfl)
    try simp only [Act.put, List.setIfInBounds_toArray, List.set_cons_zero, List.set_cons_succ]
    refine wpAnyZ_ready (rs := [6]) (by kernel_rfl) (by simp) ?_
    refine AllReadyZ.cons (opAt rfl) (fun K hK => ?_) ?_
    · skip
      go_simp
      refine (CS.out _).mono ?_
      rintro e w3 ⟨rfl, hb1⟩
      replace M := M.below hb1
      replace bm := bm.below hb1 bm.lt
      replace bs := bs.below hb1 bs.lt
      replace bx := bx.below hb1 bx.lt
      replace B := B.trans (hb1.mono B.size)
      clear hb1
      try go_wp2_with fail
      refine hK.out _ _ (by exact ⟨bm.cell 0, bs.cell 0, mem5 M⟩) (fun hHeld => ?_)
      clear hK K
      try simp only [Act.put, List.setIfInBounds_toArray, List.set_cons_zero, List.set_cons_succ]
      refine wpAnyZ_ready (rs := [7]) (by kernel_rfl) (by simp) ?_
      refine AllReadyZ.cons (opAt rfl) (fun K hK => ?_) ?_
      · skip
        go_simp
        refine (W1.out _ M).mono ?_
        rintro e w3x ⟨rfl, rfl⟩
        try go_wp2_with fail
        refine hK.out _ _ (by exact ⟨bm.cell 0, bs.cell 0, mem5 M⟩) (fun hHeld => ?_)
        clear hK K
        try simp only [Act.put, List.setIfInBounds_toArray, List.set_cons_zero, List.set_cons_succ]
        refine' wpAnyZ_takeA (i := 8) (v := ?_) (opAt rfl) (by kernel_rfl) (by kernel_rfl) (by kernel_rfl) (by kernel_rfl) (fun _ _ _ h => h) (by assumption) (by rfl) (fun w hSw => ?_) ?_
        rotate_left
        · (try dsimp only at hSw); go_simp; (try with_reducible rfl)
        try simp only [Act.put, List.setIfInBounds_toArray, List.set_cons_zero, List.set_cons_succ]
        refine wpAnyZ_done (by kernel_rfl) ?_ _
        have mm := bm.cell 0
        obtain ⟨m0, m1, m2, m3, m4⟩ := mem5 M
        go_wp2_with fail
        refine (CC.out _).mono ?_
        rintro e w4 ⟨rfl, hb1⟩
        clear mm m0 m1 m2 m3 m4
        replace M := M.below hb1
        replace bm := bm.below hb1 bm.lt
        replace bs := bs.below hb1 bs.lt
        replace bx := bx.below hb1 bx.lt
        replace B := B.trans (hb1.mono B.size)
        clear hb1
        go_wp2_with fail
        refine (EN.out _).mono ?_
        rintro e w4x ⟨rfl, rfl⟩
        go_upto_region 5 with fail
        go_cut [7] (fun s7 wx => ∃ gx : Nat, s7 = .pointer (some ⟨gx, 0, none⟩) ∧ After5 gm gw gx b s t f l p k ws inn lk w wx)
        case first =>
          refine wp_region_heldZ [12] (fun w' => w'.cell? ⟨b, 0, none⟩ = some (.pointer (some ⟨gm, 0, none⟩)) ∧ w'.cell? ⟨b + 1, 0, none⟩ = some (.int .i64 k) ∧ w'.cell? ⟨gm, 0, none⟩ = some (.int .i64 s) ∧ w'.cell? ⟨gm, 1, none⟩ = some (.int .i64 t) ∧ w'.cell? ⟨gm, 2, none⟩ = some (.int .i64 f) ∧ w'.cell? ⟨gm, 3, none⟩ = some (.int .i64 l) ∧ w'.cell? ⟨gm, 4, none⟩ = some (.int .i64 p)) (by kernel_rfl) (by exact ⟨bm.cell 0, bs.cell 0, mem5 M⟩) (fun hHeld => ?_)
          replace M := M.drew
          replace bm := bm.drew
          replace bs := bs.drew
          replace bx := bx.drew
          replace B := B.drew
          generalize w4.drew = w4d at *
          refine' wpAnyZ_takeA (i := 0) (v := ?_) (opAt rfl) (by kernel_rfl) (by kernel_rfl) (by kernel_rfl) (by kernel_rfl) (fun _ _ _ h => h) (by assumption) (by rfl) (fun w hSw => ?_) ?_
          rotate_left
          · (try dsimp only at hSw); go_simp; (try with_reducible rfl)
          try simp only [Act.put, List.setIfInBounds_toArray, List.set_cons_zero, List.set_cons_succ]
          refine' wpAnyZ_takeA (i := 2) (v := ?_) (opAt rfl) (by kernel_rfl) (by kernel_rfl) (by kernel_rfl) (by kernel_rfl) (fun _ _ _ h => h) (by assumption) (by rfl) (fun w hSw => ?_) ?_
          rotate_left
          · (try dsimp only at hSw); go_simp; (try with_reducible rfl)
          try simp only [Act.put, List.setIfInBounds_toArray, List.set_cons_zero, List.set_cons_succ]
          refine' wpAnyZ_takeA (i := 3) (v := ?_) (opAt rfl) (by kernel_rfl) (by kernel_rfl) (by kernel_rfl) (by kernel_rfl) (fun _ _ _ h => h) (by assumption) (by rfl) (fun w hSw => ?_) ?_
          rotate_left
          · (try dsimp only at hSw); go_simp; (try with_reducible rfl)
          try simp only [Act.put, List.setIfInBounds_toArray, List.set_cons_zero, List.set_cons_succ]
          refine' wpAnyZ_takeA (i := 4) (v := ?_) (opAt rfl) (by kernel_rfl) (by kernel_rfl) (by kernel_rfl) (by kernel_rfl) (fun _ _ _ h => h) (by assumption) (by rfl) (fun w hSw => ?_) ?_
          rotate_left
          · (try dsimp only at hSw); go_simp; (try with_reducible rfl)
          try simp only [Act.put, List.setIfInBounds_toArray, List.set_cons_zero, List.set_cons_succ]
          refine' wpAnyZ_takeA (i := 5) (v := ?_) (opAt rfl) (by kernel_rfl) (by kernel_rfl) (by kernel_rfl) (by kernel_rfl) (fun _ _ _ h => h) (by assumption) (by rfl) (fun w hSw => ?_) ?_
          rotate_left
          · (try dsimp only at hSw); go_simp; (try with_reducible rfl)
          try simp only [Act.put, List.setIfInBounds_toArray, List.set_cons_zero, List.set_cons_succ]
          refine' wpAnyZ_takeA (i := 6) (v := ?_) (opAt rfl) (by kernel_rfl) (by kernel_rfl) (by kernel_rfl) (by kernel_rfl) (fun _ _ _ h => h) (by assumption) (by rfl) (fun w hSw => ?_) ?_
          rotate_left
          · (try dsimp only at hSw); go_simp; (try with_reducible rfl)
          try simp only [Act.put, List.setIfInBounds_toArray, List.set_cons_zero, List.set_cons_succ]
          refine' wpAnyZ_takeA (i := 7) (v := ?_) (opAt rfl) (by kernel_rfl) (by kernel_rfl) (by kernel_rfl) (by kernel_rfl) (fun _ _ _ h => h) (by assumption) (by rfl) (fun w hSw => ?_) ?_
          rotate_left
          · (try dsimp only at hSw); go_simp; (try with_reducible rfl)
          try simp only [Act.put, List.setIfInBounds_toArray, List.set_cons_zero, List.set_cons_succ]
          refine wpAnyZ_ready (rs := [1, 11]) (by kernel_rfl) (by simp) ?_
          refine AllReadyZ.cons (opAt rfl) (fun K hK => ?_) ?_
          · skip
            go_simp
            refine (IN.out _).mono ?_
            rintro e wi ⟨rfl, rfl⟩
            try go_wp2_with fail
            refine hK.out _ _ (by exact ⟨bm.cell 0, bs.cell 0, mem5 M⟩) (fun hHeld => ?_)
            clear hK K
            try simp only [Act.put, List.setIfInBounds_toArray, List.set_cons_zero, List.set_cons_succ]
            refine wpAnyZ_ready (rs := [8, 11]) (by kernel_rfl) (by simp) ?_
            refine AllReadyZ.cons (opAt rfl) (fun K hK => ?_) ?_
            · skip
              go_simp
              refine (CN.out _).mono ?_
              rintro e w5 ⟨rfl, hb1⟩
              replace M := M.below hb1
              replace bm := bm.below hb1 bm.lt
              replace bs := bs.below hb1 bs.lt
              replace bx := bx.below hb1 bx.lt
              replace B := B.trans (hb1.mono B.size)
              clear hb1
              try go_wp2_with fail
              refine hK.out _ _ (by exact ⟨bm.cell 0, bs.cell 0, mem5 M⟩) (fun hHeld => ?_)
              clear hK K
              try simp only [Act.put, List.setIfInBounds_toArray, List.set_cons_zero, List.set_cons_succ]
              refine wpAnyZ_ready (rs := [9, 11]) (by kernel_rfl) (by simp) ?_
              refine AllReadyZ.cons (opAt rfl) (fun K hK => ?_) ?_
              · skip
                go_simp
                refine (W2.out _ M).mono ?_
                rintro e wj ⟨rfl, rfl⟩
                try go_wp2_with fail
                refine hK.out _ _ (by exact ⟨bm.cell 0, bs.cell 0, mem5 M⟩) (fun hHeld => ?_)
                clear hK K
                try simp only [Act.put, List.setIfInBounds_toArray, List.set_cons_zero, List.set_cons_succ]
                refine' wpAnyZ_takeA (i := 10) (v := ?_) (opAt rfl) (by kernel_rfl) (by kernel_rfl) (by kernel_rfl) (by kernel_rfl) (fun _ _ _ h => h) (by assumption) (by rfl) (fun w hSw => ?_) ?_
                rotate_left
                · (try dsimp only at hSw); go_simp; (try with_reducible rfl)
                try simp only [Act.put, List.setIfInBounds_toArray, List.set_cons_zero, List.set_cons_succ]
                refine wpAnyZ_ready (rs := [11]) (by kernel_rfl) (by simp) ?_
                refine AllReadyZ.cons (opAt rfl) (fun K hK => ?_) ?_
                · skip
                  go_simp
                  have bn := Blk.new w5 49 #[.bool false, .slice none 0 0, .slice none 0 0, .int .u64 0]
                  have HGX := hide (show b + 1 + 1 < w5.heap.size from bx.lt)
                  have HGM := hide (show gm < w5.heap.size ∧ gw < w5.heap.size from ⟨Blk.lt M.1, Blk.lt M.2.1⟩)
                  replace M := M.below ((Below.refl w5.heap.size w5).alloc (Nat.le_refl _) (.cells #[.bool false, .slice none 0 0, .slice none 0 0, .int .u64 0] 49))
                  replace bm := bm.alloc (.cells #[.bool false, .slice none 0 0, .slice none 0 0, .int .u64 0] 49)
                  replace bs := bs.alloc (.cells #[.bool false, .slice none 0 0, .slice none 0 0, .int .u64 0] 49)
                  replace bx := bx.alloc (.cells #[.bool false, .slice none 0 0, .slice none 0 0, .int .u64 0] 49)
                  replace B := B.alloc B.size (.cells #[.bool false, .slice none 0 0, .slice none 0 0, .int .u64 0] 49)
                  generalize w5.alloc (.cells #[.bool false, .slice none 0 0, .slice none 0 0, .int .u64 0] 49) = w6 at *
                  generalize w5.heap.size = gx at *
                  refine hK.out _ _ (by exact ⟨bm.cell 0, bs.cell 0, mem5 M⟩) (fun hHeld => ?_)
                  clear hK K
                  try simp only [Act.put, List.setIfInBounds_toArray, List.set_cons_zero, List.set_cons_succ]
                  refine wpAnyZ_ready (rs := [12]) (by kernel_rfl) (by simp) ?_
                  refine AllReadyZ.last (opAt rfl) (by kernel_rfl) (fun K hK => ?_) ?_
                  · skip
                    have zn := fun i => bn.frozen i
                    have mn := fun i => bn.cell i
                    go_simp
                    refine hK.out _ _ ?_
                    clear hK K
                    try simp only [Act.put, List.setIfInBounds_toArray, List.set_cons_zero, List.set_cons_succ]
                    refine wpAnyZ_done (by kernel_rfl) ?_ _
                    clear zn mn
                    replace bm := bm.far (p := ⟨gx, 0, none⟩) (by have := HGX.out; show b ≠ gx; omega) (.bool inn)
                    replace bm := bm.far (p := ⟨gx, 1, none⟩) (by have := HGX.out; show b ≠ gx; omega) (.slice none 0 0)
                    replace bm := bm.far (p := ⟨gx, 2, none⟩) (by have := HGX.out; show b ≠ gx; omega) (.slice none 0 0)
                    replace bm := bm.far (p := ⟨gx, 3, none⟩) (by have := HGX.out; show b ≠ gx; omega) (.int .u64 lk)
                    replace bs := bs.far (p := ⟨gx, 0, none⟩) (by have := HGX.out; show b + 1 ≠ gx; omega) (.bool inn)
                    replace bs := bs.far (p := ⟨gx, 1, none⟩) (by have := HGX.out; show b + 1 ≠ gx; omega) (.slice none 0 0)
                    replace bs := bs.far (p := ⟨gx, 2, none⟩) (by have := HGX.out; show b + 1 ≠ gx; omega) (.slice none 0 0)
                    replace bs := bs.far (p := ⟨gx, 3, none⟩) (by have := HGX.out; show b + 1 ≠ gx; omega) (.int .u64 lk)
                    replace bx := bx.far (p := ⟨gx, 0, none⟩) (by have := HGX.out; show b + 1 + 1 ≠ gx; omega) (.bool inn)
                    replace bx := bx.far (p := ⟨gx, 1, none⟩) (by have := HGX.out; show b + 1 + 1 ≠ gx; omega) (.slice none 0 0)
                    replace bx := bx.far (p := ⟨gx, 2, none⟩) (by have := HGX.out; show b + 1 + 1 ≠ gx; omega) (.slice none 0 0)
                    replace bx := bx.far (p := ⟨gx, 3, none⟩) (by have := HGX.out; show b + 1 + 1 ≠ gx; omega) (.int .u64 lk)
                    have HGN := hide (show gm ≠ gx ∧ gw ≠ gx by have := HGM.out; omega)
                    replace M := M.grown (grown_set _ gx 0 (.bool inn)) (fun e => by injection e with e; exact HGN.out.1 e) (fun e => by injection e with e; exact HGN.out.2 e)
                    replace M := M.grown (grown_set _ gx 1 (.slice none 0 0)) (fun e => by injection e with e; exact HGN.out.1 e) (fun e => by injection e with e; exact HGN.out.2 e)
                    replace M := M.grown (grown_set _ gx 2 (.slice none 0 0)) (fun e => by injection e with e; exact HGN.out.1 e) (fun e => by injection e with e; exact HGN.out.2 e)
                    replace M := M.grown (grown_set _ gx 3 (.int .u64 lk)) (fun e => by injection e with e; exact HGN.out.1 e) (fun e => by injection e with e; exact HGN.out.2 e)
                    replace B := below_setN (g := gx) B (by have h1 := HGX.out; have h2 := HBE.out; omega) (.bool inn) (.slice none 0 0) (.slice none 0 0) (.int .u64 lk)
                    replace bn := bn.setN (.bool inn) (.slice none 0 0) (.slice none 0 0) (.int .u64 lk)
                    generalize (((w6.setCell ⟨gx, 0, none⟩ (.bool inn)).setCell ⟨gx, 1, none⟩ (.slice none 0 0)).setCell ⟨gx, 2, none⟩ (.slice none 0 0)).setCell ⟨gx, 3, none⟩ (.int .u64 lk) = w7 at *
                    go_wp2_with fail
                    go_meet
                    exact ⟨gx, rfl, bn, M, bm, bs, bx, B, HGN.out, HGX.out⟩
                  exact AllReadyZ.nil
                exact AllReadyZ.nil
              refine AllReadyZ.cons (opAt rfl) (fun K hK => ?_) ?_
              · skip
                go_simp
                have bn := Blk.new w5 49 #[.bool false, .slice none 0 0, .slice none 0 0, .int .u64 0]
                have HGX := hide (show b + 1 + 1 < w5.heap.size from bx.lt)
                have HGM := hide (show gm < w5.heap.size ∧ gw < w5.heap.size from ⟨Blk.lt M.1, Blk.lt M.2.1⟩)
                replace M := M.below ((Below.refl w5.heap.size w5).alloc (Nat.le_refl _) (.cells #[.bool false, .slice none 0 0, .slice none 0 0, .int .u64 0] 49))
                replace bm := bm.alloc (.cells #[.bool false, .slice none 0 0, .slice none 0 0, .int .u64 0] 49)
                replace bs := bs.alloc (.cells #[.bool false, .slice none 0 0, .slice none 0 0, .int .u64 0] 49)
                replace bx := bx.alloc (.cells #[.bool false, .slice none 0 0, .slice none 0 0, .int .u64 0] 49)
                replace B := B.alloc B.size (.cells #[.bool false, .slice none 0 0, .slice none 0 0, .int .u64 0] 49)
                generalize w5.alloc (.cells #[.bool false, .slice none 0 0, .slice none 0 0, .int .u64 0] 49) = w6 at *
                generalize w5.heap.size = gx at *
                refine hK.out _ _ (by exact ⟨bm.cell 0, bs.cell 0, mem5 M⟩) (fun hHeld => ?_)
                clear hK K
                try simp only [Act.put, List.setIfInBounds_toArray, List.set_cons_zero, List.set_cons_succ]
                refine wpAnyZ_ready (rs := [9]) (by kernel_rfl) (by simp) ?_
                refine AllReadyZ.cons (opAt rfl) (fun K hK => ?_) ?_
                · skip
                  go_simp
                  refine (W2.out _ M).mono ?_
                  rintro e wj ⟨rfl, rfl⟩
                  try go_wp2_with fail
                  refine hK.out _ _ (by exact ⟨bm.cell 0, bs.cell 0, mem5 M⟩) (fun hHeld => ?_)
                  clear hK K
                  try simp only [Act.put, List.setIfInBounds_toArray, List.set_cons_zero, List.set_cons_succ]
                  refine' wpAnyZ_takeA (i := 10) (v := ?_) (opAt rfl) (by kernel_rfl) (by kernel_rfl) (by kernel_rfl) (by kernel_rfl) (fun _ _ _ h => h) (by assumption) (by rfl) (fun w hSw => ?_) ?_
                  rotate_left
                  · (try dsimp only at hSw); go_simp; (try with_reducible rfl)
                  try simp only [Act.put, List.setIfInBounds_toArray, List.set_cons_zero, List.set_cons_succ]
                  refine wpAnyZ_ready (rs := [12]) (by kernel_rfl) (by simp) ?_
                  refine AllReadyZ.last (opAt rfl) (by kernel_rfl) (fun K hK => ?_) ?_
                  · skip
                    have zn := fun i => bn.frozen i
                    have mn := fun i => bn.cell i
                    go_simp
                    refine hK.out _ _ ?_
                    clear hK K
                    try simp only [Act.put, List.setIfInBounds_toArray, List.set_cons_zero, List.set_cons_succ]
                    refine wpAnyZ_done (by kernel_rfl) ?_ _
                    clear zn mn
                    replace bm := bm.far (p := ⟨gx, 0, none⟩) (by have := HGX.out; show b ≠ gx; omega) (.bool inn)
                    replace bm := bm.far (p := ⟨gx, 1, none⟩) (by have := HGX.out; show b ≠ gx; omega) (.slice none 0 0)
                    replace bm := bm.far (p := ⟨gx, 2, none⟩) (by have := HGX.out; show b ≠ gx; omega) (.slice none 0 0)
                    replace bm := bm.far (p := ⟨gx, 3, none⟩) (by have := HGX.out; show b ≠ gx; omega) (.int .u64 lk)
                    replace bs := bs.far (p := ⟨gx, 0, none⟩) (by have := HGX.out; show b + 1 ≠ gx; omega) (.bool inn)
                    replace bs := bs.far (p := ⟨gx, 1, none⟩) (by have := HGX.out; show b + 1 ≠ gx; omega) (.slice none 0 0)
                    replace bs := bs.far (p := ⟨gx, 2, none⟩) (by have := HGX.out; show b + 1 ≠ gx; omega) (.slice none 0 0)
                    replace bs := bs.far (p := ⟨gx, 3, none⟩) (by have := HGX.out; show b + 1 ≠ gx; omega) (.int .u64 lk)
                    replace bx := bx.far (p := ⟨gx, 0, none⟩) (by have := HGX.out; show b + 1 + 1 ≠ gx; omega) (.bool inn)
                    replace bx := bx.far (p := ⟨gx, 1, none⟩) (by have := HGX.out; show b + 1 + 1 ≠ gx; omega) (.slice none 0 0)
                    replace bx := bx.far (p := ⟨gx, 2, none⟩) (by have := HGX.out; show b + 1 + 1 ≠ gx; omega) (.slice none 0 0)
                    replace bx := bx.far (p := ⟨gx, 3, none⟩) (by have := HGX.out; show b + 1 + 1 ≠ gx; omega) (.int .u64 lk)
                    have HGN := hide (show gm ≠ gx ∧ gw ≠ gx by have := HGM.out; omega)
                    replace M := M.grown (grown_set _ gx 0 (.bool inn)) (fun e => by injection e with e; exact HGN.out.1 e) (fun e => by injection e with e; exact HGN.out.2 e)
                    replace M := M.grown (grown_set _ gx 1 (.slice none 0 0)) (fun e => by injection e with e; exact HGN.out.1 e) (fun e => by injection e with e; exact HGN.out.2 e)
                    replace M := M.grown (grown_set _ gx 2 (.slice none 0 0)) (fun e => by injection e with e; exact HGN.out.1 e) (fun e => by injection e with e; exact HGN.out.2 e)
                    replace M := M.grown (grown_set _ gx 3 (.int .u64 lk)) (fun e => by injection e with e; exact HGN.out.1 e) (fun e => by injection e with e; exact HGN.out.2 e)
                    replace B := below_setN (g := gx) B (by have h1 := HGX.out; have h2 := HBE.out; omega) (.bool inn) (.slice none 0 0) (.slice none 0 0) (.int .u64 lk)
                    replace bn := bn.setN (.bool inn) (.slice none 0 0) (.slice none 0 0) (.int .u64 lk)
                    generalize (((w6.setCell ⟨gx, 0, none⟩ (.bool inn)).setCell ⟨gx, 1, none⟩ (.slice none 0 0)).setCell ⟨gx, 2, none⟩ (.slice none 0 0)).setCell ⟨gx, 3, none⟩ (.int .u64 lk) = w7 at *
                    go_wp2_with fail
                    go_meet
                    exact ⟨gx, rfl, bn, M, bm, bs, bx, B, HGN.out, HGX.out⟩
                  exact AllReadyZ.nil
                exact AllReadyZ.nil
              exact AllReadyZ.nil
            refine AllReadyZ.cons (opAt rfl) (fun K hK => ?_) ?_
            · skip
              go_simp
              have bn := Blk.new w4d 49 #[.bool false, .slice none 0 0, .slice none 0 0, .int .u64 0]
              have HGX := hide (show b + 1 + 1 < w4d.heap.size from bx.lt)
              have HGM := hide (show gm < w4d.heap.size ∧ gw < w4d.heap.size from ⟨Blk.lt M.1, Blk.lt M.2.1⟩)
              replace M := M.below ((Below.refl w4d.heap.size w4d).alloc (Nat.le_refl _) (.cells #[.bool false, .slice none 0 0, .slice none 0 0, .int .u64 0] 49))
              replace bm := bm.alloc (.cells #[.bool false, .slice none 0 0, .slice none 0 0, .int .u64 0] 49)
              replace bs := bs.alloc (.cells #[.bool false, .slice none 0 0, .slice none 0 0, .int .u64 0] 49)
              replace bx := bx.alloc (.cells #[.bool false, .slice none 0 0, .slice none 0 0, .int .u64 0] 49)
              replace B := B.alloc B.size (.cells #[.bool false, .slice none 0 0, .slice none 0 0, .int .u64 0] 49)
              generalize w4d.alloc (.cells #[.bool false, .slice none 0 0, .slice none 0 0, .int .u64 0] 49) = w6 at *
              generalize w4d.heap.size = gx at *
              refine hK.out _ _ (by exact ⟨bm.cell 0, bs.cell 0, mem5 M⟩) (fun hHeld => ?_)
              clear hK K
              try simp only [Act.put, List.setIfInBounds_toArray, List.set_cons_zero, List.set_cons_succ]
              refine wpAnyZ_ready (rs := [8]) (by kernel_rfl) (by simp) ?_
              refine AllReadyZ.cons (opAt rfl) (fun K hK => ?_) ?_
              · skip
                go_simp
                refine (CN.out _).mono ?_
                rintro e w5 ⟨rfl, hb1⟩
                replace bn := bn.below hb1 bn.lt
                replace M := M.below hb1
                replace bm := bm.below hb1 bm.lt
                replace bs := bs.below hb1 bs.lt
                replace bx := bx.below hb1 bx.lt
                replace B := B.trans (hb1.mono B.size)
                clear hb1
                try go_wp2_with fail
                refine hK.out _ _ (by exact ⟨bm.cell 0, bs.cell 0, mem5 M⟩) (fun hHeld => ?_)
                clear hK K
                try simp only [Act.put, List.setIfInBounds_toArray, List.set_cons_zero, List.set_cons_succ]
                refine wpAnyZ_ready (rs := [9]) (by kernel_rfl) (by simp) ?_
                refine AllReadyZ.cons (opAt rfl) (fun K hK => ?_) ?_
                · skip
                  go_simp
                  refine (W2.out _ M).mono ?_
                  rintro e wj ⟨rfl, rfl⟩
                  try go_wp2_with fail
                  refine hK.out _ _ (by exact ⟨bm.cell 0, bs.cell 0, mem5 M⟩) (fun hHeld => ?_)
                  clear hK K
                  try simp only [Act.put, List.setIfInBounds_toArray, List.set_cons_zero, List.set_cons_succ]
                  refine' wpAnyZ_takeA (i := 10) (v := ?_) (opAt rfl) (by kernel_rfl) (by kernel_rfl) (by kernel_rfl) (by kernel_rfl) (fun _ _ _ h => h) (by assumption) (by rfl) (fun w hSw => ?_) ?_
                  rotate_left
                  · (try dsimp only at hSw); go_simp; (try with_reducible rfl)
                  try simp only [Act.put, List.setIfInBounds_toArray, List.set_cons_zero, List.set_cons_succ]
                  refine wpAnyZ_ready (rs := [12]) (by kernel_rfl) (by simp) ?_
                  refine AllReadyZ.last (opAt rfl) (by kernel_rfl) (fun K hK => ?_) ?_
                  · skip
                    have zn := fun i => bn.frozen i
                    have mn := fun i => bn.cell i
                    go_simp
                    refine hK.out _ _ ?_
                    clear hK K
                    try simp only [Act.put, List.setIfInBounds_toArray, List.set_cons_zero, List.set_cons_succ]
                    refine wpAnyZ_done (by kernel_rfl) ?_ _
                    clear zn mn
                    replace bm := bm.far (p := ⟨gx, 0, none⟩) (by have := HGX.out; show b ≠ gx; omega) (.bool inn)
                    replace bm := bm.far (p := ⟨gx, 1, none⟩) (by have := HGX.out; show b ≠ gx; omega) (.slice none 0 0)
                    replace bm := bm.far (p := ⟨gx, 2, none⟩) (by have := HGX.out; show b ≠ gx; omega) (.slice none 0 0)
                    replace bm := bm.far (p := ⟨gx, 3, none⟩) (by have := HGX.out; show b ≠ gx; omega) (.int .u64 lk)
                    replace bs := bs.far (p := ⟨gx, 0, none⟩) (by have := HGX.out; show b + 1 ≠ gx; omega) (.bool inn)
                    replace bs := bs.far (p := ⟨gx, 1, none⟩) (by have := HGX.out; show b + 1 ≠ gx; omega) (.slice none 0 0)
                    replace bs := bs.far (p := ⟨gx, 2, none⟩) (by have := HGX.out; show b + 1 ≠ gx; omega) (.slice none 0 0)
                    replace bs := bs.far (p := ⟨gx, 3, none⟩) (by have := HGX.out; show b + 1 ≠ gx; omega) (.int .u64 lk)
                    replace bx := bx.far (p := ⟨gx, 0, none⟩) (by have := HGX.out; show b + 1 + 1 ≠ gx; omega) (.bool inn)
                    replace bx := bx.far (p := ⟨gx, 1, none⟩) (by have := HGX.out; show b + 1 + 1 ≠ gx; omega) (.slice none 0 0)
                    replace bx := bx.far (p := ⟨gx, 2, none⟩) (by have := HGX.out; show b + 1 + 1 ≠ gx; omega) (.slice none 0 0)
                    replace bx := bx.far (p := ⟨gx, 3, none⟩) (by have := HGX.out; show b + 1 + 1 ≠ gx; omega) (.int .u64 lk)
                    have HGN := hide (show gm ≠ gx ∧ gw ≠ gx by have := HGM.out; omega)
                    replace M := M.grown (grown_set _ gx 0 (.bool inn)) (fun e => by injection e with e; exact HGN.out.1 e) (fun e => by injection e with e; exact HGN.out.2 e)
                    replace M := M.grown (grown_set _ gx 1 (.slice none 0 0)) (fun e => by injection e with e; exact HGN.out.1 e) (fun e => by injection e with e; exact HGN.out.2 e)
                    replace M := M.grown (grown_set _ gx 2 (.slice none 0 0)) (fun e => by injection e with e; exact HGN.out.1 e) (fun e => by injection e with e; exact HGN.out.2 e)
                    replace M := M.grown (grown_set _ gx 3 (.int .u64 lk)) (fun e => by injection e with e; exact HGN.out.1 e) (fun e => by injection e with e; exact HGN.out.2 e)
                    replace B := below_setN (g := gx) B (by have h1 := HGX.out; have h2 := HBE.out; omega) (.bool inn) (.slice none 0 0) (.slice none 0 0) (.int .u64 lk)
                    replace bn := bn.setN (.bool inn) (.slice none 0 0) (.slice none 0 0) (.int .u64 lk)
                    generalize (((w5.setCell ⟨gx, 0, none⟩ (.bool inn)).setCell ⟨gx, 1, none⟩ (.slice none 0 0)).setCell ⟨gx, 2, none⟩ (.slice none 0 0)).setCell ⟨gx, 3, none⟩ (.int .u64 lk) = w7 at *
                    go_wp2_with fail
                    go_meet
                    exact ⟨gx, rfl, bn, M, bm, bs, bx, B, HGN.out, HGX.out⟩
                  exact AllReadyZ.nil
                exact AllReadyZ.nil
              exact AllReadyZ.nil
            exact AllReadyZ.nil
          refine AllReadyZ.cons (opAt rfl) (fun K hK => ?_) ?_
          · skip
            go_simp
            have bn := Blk.new w4d 49 #[.bool false, .slice none 0 0, .slice none 0 0, .int .u64 0]
            have HGX := hide (show b + 1 + 1 < w4d.heap.size from bx.lt)
            have HGM := hide (show gm < w4d.heap.size ∧ gw < w4d.heap.size from ⟨Blk.lt M.1, Blk.lt M.2.1⟩)
            replace M := M.below ((Below.refl w4d.heap.size w4d).alloc (Nat.le_refl _) (.cells #[.bool false, .slice none 0 0, .slice none 0 0, .int .u64 0] 49))
            replace bm := bm.alloc (.cells #[.bool false, .slice none 0 0, .slice none 0 0, .int .u64 0] 49)
            replace bs := bs.alloc (.cells #[.bool false, .slice none 0 0, .slice none 0 0, .int .u64 0] 49)
            replace bx := bx.alloc (.cells #[.bool false, .slice none 0 0, .slice none 0 0, .int .u64 0] 49)
            replace B := B.alloc B.size (.cells #[.bool false, .slice none 0 0, .slice none 0 0, .int .u64 0] 49)
            generalize w4d.alloc (.cells #[.bool false, .slice none 0 0, .slice none 0 0, .int .u64 0] 49) = w6 at *
            generalize w4d.heap.size = gx at *
            refine hK.out _ _ (by exact ⟨bm.cell 0, bs.cell 0, mem5 M⟩) (fun hHeld => ?_)
            clear hK K
            try simp only [Act.put, List.setIfInBounds_toArray, List.set_cons_zero, List.set_cons_succ]
            refine wpAnyZ_ready (rs := [1]) (by kernel_rfl) (by simp) ?_
            refine AllReadyZ.cons (opAt rfl) (fun K hK => ?_) ?_
            · skip
              go_simp
              refine (IN.out _).mono ?_
              rintro e wi ⟨rfl, rfl⟩
              try go_wp2_with fail
              refine hK.out _ _ (by exact ⟨bm.cell 0, bs.cell 0, mem5 M⟩) (fun hHeld => ?_)
              clear hK K
              try simp only [Act.put, List.setIfInBounds_toArray, List.set_cons_zero, List.set_cons_succ]
              refine wpAnyZ_ready (rs := [8]) (by kernel_rfl) (by simp) ?_
              refine AllReadyZ.cons (opAt rfl) (fun K hK => ?_) ?_
              · skip
                go_simp
                refine (CN.out _).mono ?_
                rintro e w5 ⟨rfl, hb1⟩
                replace bn := bn.below hb1 bn.lt
                replace M := M.below hb1
                replace bm := bm.below hb1 bm.lt
                replace bs := bs.below hb1 bs.lt
                replace bx := bx.below hb1 bx.lt
                replace B := B.trans (hb1.mono B.size)
                clear hb1
                try go_wp2_with fail
                refine hK.out _ _ (by exact ⟨bm.cell 0, bs.cell 0, mem5 M⟩) (fun hHeld => ?_)
                clear hK K
                try simp only [Act.put, List.setIfInBounds_toArray, List.set_cons_zero, List.set_cons_succ]
                refine wpAnyZ_ready (rs := [9]) (by kernel_rfl) (by simp) ?_
                refine AllReadyZ.cons (opAt rfl) (fun K hK => ?_) ?_
                · skip
                  go_simp
                  refine (W2.out _ M).mono ?_
                  rintro e wj ⟨rfl, rfl⟩
                  try go_wp2_with fail
                  refine hK.out _ _ (by exact ⟨bm.cell 0, bs.cell 0, mem5 M⟩) (fun hHeld => ?_)
                  clear hK K
                  try simp only [Act.put, List.setIfInBounds_toArray, List.set_cons_zero, List.set_cons_succ]
                  refine' wpAnyZ_takeA (i := 10) (v := ?_) (opAt rfl) (by kernel_rfl) (by kernel_rfl) (by kernel_rfl) (by kernel_rfl) (fun _ _ _ h => h) (by assumption) (by rfl) (fun w hSw => ?_) ?_
                  rotate_left
                  · (try dsimp only at hSw); go_simp; (try with_reducible rfl)
                  try simp only [Act.put, List.setIfInBounds_toArray, List.set_cons_zero, List.set_cons_succ]
                  refine wpAnyZ_ready (rs := [12]) (by kernel_rfl) (by simp) ?_
                  refine AllReadyZ.last (opAt rfl) (by kernel_rfl) (fun K hK => ?_) ?_
                  · skip
                    have zn := fun i => bn.frozen i
                    have mn := fun i => bn.cell i
                    go_simp
                    refine hK.out _ _ ?_
                    clear hK K
                    try simp only [Act.put, List.setIfInBounds_toArray, List.set_cons_zero, List.set_cons_succ]
                    refine wpAnyZ_done (by kernel_rfl) ?_ _
                    clear zn mn
                    replace bm := bm.far (p := ⟨gx, 0, none⟩) (by have := HGX.out; show b ≠ gx; omega) (.bool inn)
                    replace bm := bm.far (p := ⟨gx, 1, none⟩) (by have := HGX.out; show b ≠ gx; omega) (.slice none 0 0)
                    replace bm := bm.far (p := ⟨gx, 2, none⟩) (by have := HGX.out; show b ≠ gx; omega) (.slice none 0 0)
                    replace bm := bm.far (p := ⟨gx, 3, none⟩) (by have := HGX.out; show b ≠ gx; omega) (.int .u64 lk)
                    replace bs := bs.far (p := ⟨gx, 0, none⟩) (by have := HGX.out; show b + 1 ≠ gx; omega) (.bool inn)
                    replace bs := bs.far (p := ⟨gx, 1, none⟩) (by have := HGX.out; show b + 1 ≠ gx; omega) (.slice none 0 0)
                    replace bs := bs.far (p := ⟨gx, 2, none⟩) (by have := HGX.out; show b + 1 ≠ gx; omega) (.slice none 0 0)
                    replace bs := bs.far (p := ⟨gx, 3, none⟩) (by have := HGX.out; show b + 1 ≠ gx; omega) (.int .u64 lk)
                    replace bx := bx.far (p := ⟨gx, 0, none⟩) (by have := HGX.out; show b + 1 + 1 ≠ gx; omega) (.bool inn)
                    replace bx := bx.far (p := ⟨gx, 1, none⟩) (by have := HGX.out; show b + 1 + 1 ≠ gx; omega) (.slice none 0 0)
                    replace bx := bx.far (p := ⟨gx, 2, none⟩) (by have := HGX.out; show b + 1 + 1 ≠ gx; omega) (.slice none 0 0)
                    replace bx := bx.far (p := ⟨gx, 3, none⟩) (by have := HGX.out; show b + 1 + 1 ≠ gx; omega) (.int .u64 lk)
                    have HGN := hide (show gm ≠ gx ∧ gw ≠ gx by have := HGM.out; omega)
                    replace M := M.grown (grown_set _ gx 0 (.bool inn)) (fun e => by injection e with e; exact HGN.out.1 e) (fun e => by injection e with e; exact HGN.out.2 e)
                    replace M := M.grown (grown_set _ gx 1 (.slice none 0 0)) (fun e => by injection e with e; exact HGN.out.1 e) (fun e => by injection e with e; exact HGN.out.2 e)
                    replace M := M.grown (grown_set _ gx 2 (.slice none 0 0)) (fun e => by injection e with e; exact HGN.out.1 e) (fun e => by injection e with e; exact HGN.out.2 e)
                    replace M := M.grown (grown_set _ gx 3 (.int .u64 lk)) (fun e => by injection e with e; exact HGN.out.1 e) (fun e => by injection e with e; exact HGN.out.2 e)
                    replace B := below_setN (g := gx) B (by have h1 := HGX.out; have h2 := HBE.out; omega) (.bool inn) (.slice none 0 0) (.slice none 0 0) (.int .u64 lk)
                    replace bn := bn.setN (.bool inn) (.slice none 0 0) (.slice none 0 0) (.int .u64 lk)
                    generalize (((w5.setCell ⟨gx, 0, none⟩ (.bool inn)).setCell ⟨gx, 1, none⟩ (.slice none 0 0)).setCell ⟨gx, 2, none⟩ (.slice none 0 0)).setCell ⟨gx, 3, none⟩ (.int .u64 lk) = w7 at *
                    go_wp2_with fail
                    go_meet
                    exact ⟨gx, rfl, bn, M, bm, bs, bx, B, HGN.out, HGX.out⟩
                  exact AllReadyZ.nil
                exact AllReadyZ.nil
              exact AllReadyZ.nil
            exact AllReadyZ.nil
          exact AllReadyZ.nil
        case rest =>
          obtain ⟨gx, rfl, ⟨bn, M, bm, bs, bx, B, g1, g2⟩⟩ := hcut
          have HGX := hide g2
          have HGN := hide g1
          clear g1 g2
          have HNN := hide (show N ≤ 64 by have h1 := HNf.out; have h2 := HT.out; omega)
          generalize hq : (N : Int) = q
          have hq0 : 0 ≤ q := by omega
          have hq1 : q ≤ 64 := by have := HNN.out; omega
          have HQ := hide hq
          clear hq
          have fin : ∀ (w7 : World) (A1 : Option Addr) (c1 : Nat) (A2 : Option Addr) (c2 : Nat), w7.ownsRow b 32 1 (.slice A1 NK c1) NK (ints .u64 (rowL ws gk NK)) → w7.ownsRow b 32 1 (.slice A2 N c2) N (ints .u64 (rowL ws gv N)) → NdO w7 b (.agg #[.bool inn, .slice A1 NK c1, .slice A2 N c2, .int .u64 lk]) inn ks vs lk := by
            intro w7 A1 c1 A2 c2 o1 o2
            rw [HKE.out, HVE.out]
            exact ⟨_, _, rfl, by show w7.ownsRow _ _ _ _ _ _; rw [rowL_len]; exact o1, by show w7.ownsRow _ _ _ _ _ _; rw [rowL_len]; exact o2⟩
          have FIN := hide fin
          clear fin
          cases inn with
          | false =>
            have HKN := hide (show NK ≤ N ∧ q = (NK : Int) by have h1 := HNK.out; have h2 := HQ.out; simp at h1; omega)
            have mn := fun j => bn.cell j
            have mm := bm.cell 0
            go_wp2_with fail
            clear mn mm
            try clear hmax
            refine (RK.out b NK q HKN.out.1 HKN.out.2 _ M bm bs).mono ?_
            rintro e w7 ⟨⟨A1, c1, rfl, o1⟩, hb1⟩
            replace bn := bn.below hb1 bn.lt
            replace o1 := own_mono (B' := b) o1 (by have h1 := B.size; have h2 := HBE.out; omega)
            replace M := M.below hb1
            replace bm := bm.below hb1 bm.lt
            replace bs := bs.below hb1 bs.lt
            replace bx := bx.below hb1 bx.lt
            replace B := B.trans (hb1.mono B.size)
            clear hb1
            have zn := fun j => bn.frozen j
            have mn := fun j => bn.cell j
            have mm := bm.cell 0
            have n1 := (show b ≠ gx by have := HGX.out; omega)
            have n2 := n1.symm
            go_wp2_with fail
            clear zn mm mn
            replace o1 := own_setT o1 bn (by decide) 1 (.slice A1 NK c1)
            replace bm := bm.far (p := ⟨gx, 1, none⟩) (by have := HGX.out; show b ≠ gx; omega) (.slice A1 NK c1)
            replace bs := bs.far (p := ⟨gx, 1, none⟩) (by have := HGX.out; show b + 1 ≠ gx; omega) (.slice A1 NK c1)
            replace bx := bx.far (p := ⟨gx, 1, none⟩) (by have := HGX.out; show b + 1 + 1 ≠ gx; omega) (.slice A1 NK c1)
            replace M := M.grown (grown_set _ gx 1 (.slice A1 NK c1)) (fun e => by injection e with e; exact HGN.out.1 e) (fun e => by injection e with e; exact HGN.out.2 e)
            replace B := B.setCell (p := ⟨gx, 1, none⟩) (by have h1 := HGX.out; have h2 := HBE.out; show w.heap.size ≤ gx; omega) (.slice A1 NK c1)
            replace bn := bn.setK (.slice A1 NK c1)
            generalize w7.setCell ⟨gx, 1, none⟩ (.slice A1 NK c1) = w8 at *
            refine (RV.out b N q (Nat.le_refl _) HQ.out.symm _ M bm bs).mono ?_
            rintro e w9 ⟨⟨A2, c2, rfl, o2⟩, hb1⟩
            replace bn := bn.below hb1 bn.lt
            replace o1 := own_below o1 hb1
            replace o2 := own_mono (B' := b) o2 (by have h1 := B.size; have h2 := HBE.out; omega)
            replace M := M.below hb1
            replace bm := bm.below hb1 bm.lt
            replace bs := bs.below hb1 bs.lt
            replace bx := bx.below hb1 bx.lt
            replace B := B.trans (hb1.mono B.size)
            clear hb1
            have zn := fun j => bn.frozen j
            have mn := fun j => bn.cell j
            have zx := fun j => bx.frozen j
            have mx := fun j => bx.cell j
            have n3 := (show b + 1 + 1 ≠ gx by have := HGX.out; omega)
            have n4 := n3.symm
            go_wp2_with fail
            clear zn mn zx mx
            replace o1 := own_setT o1 bn (by decide) 2 (.slice A2 N c2)
            replace o2 := own_setT o2 bn (by decide) 2 (.slice A2 N c2)
            replace bm := bm.far (p := ⟨gx, 2, none⟩) (by have := HGX.out; show b ≠ gx; omega) (.slice A2 N c2)
            replace bs := bs.far (p := ⟨gx, 2, none⟩) (by have := HGX.out; show b + 1 ≠ gx; omega) (.slice A2 N c2)
            replace bx := bx.far (p := ⟨gx, 2, none⟩) (by have := HGX.out; show b + 1 + 1 ≠ gx; omega) (.slice A2 N c2)
            replace M := M.grown (grown_set _ gx 2 (.slice A2 N c2)) (fun e => by injection e with e; exact HGN.out.1 e) (fun e => by injection e with e; exact HGN.out.2 e)
            replace B := B.setCell (p := ⟨gx, 2, none⟩) (by have h1 := HGX.out; have h2 := HBE.out; show w.heap.size ≤ gx; omega) (.slice A2 N c2)
            replace bn := bn.setV (.slice A2 N c2)
            have o10 := own_setT o1 bx (by decide) 0 (.bool false)
            have o20 := own_setT o2 bx (by decide) 0 (.bool false)
            have x0 := bx.set_ 0 (.bool false)
            have o11 := own_setT o10 x0 (by decide) 1 (.slice A1 NK c1)
            have o21 := own_setT o20 x0 (by decide) 1 (.slice A1 NK c1)
            have x1 := x0.set_ 1 (.slice A1 NK c1)
            have o12 := own_setT o11 x1 (by decide) 2 (.slice A2 N c2)
            have o22 := own_setT o21 x1 (by decide) 2 (.slice A2 N c2)
            have x2 := x1.set_ 2 (.slice A2 N c2)
            have o13 := own_setT o12 x2 (by decide) 3 (.int .u64 lk)
            have o23 := own_setT o22 x2 (by decide) 3 (.int .u64 lk)
            have x3 := x2.set_ 3 (.int .u64 lk)
            have C9 := below_setN (g := b + 1 + 1) B (by have h2 := HBE.out; omega) (.bool false) (.slice A1 NK c1) (.slice A2 N c2) (.int .u64 lk)
            have m9 := fun j => x3.cell j
            refine bodyPost_ret (v := .agg #[.bool false, .slice A1 NK c1, .slice A2 N c2, .int .u64 lk]) (by simp [results, Tryd.results20, go_sem, m9, List.setIfInBounds_toArray]) rfl ⟨⟨_, rfl, by rw [← HBE.out]; exact FIN.out _ A1 c1 A2 c2 o13 o23⟩, by first | exact C9 | (rw [HBE.out]; exact C9)⟩
          | true =>
            rcases Int.lt_or_le 1 q with h1 | h1
            · skip
              have HKN := hide (show NK ≤ N ∧ q - 1 = (NK : Int) by have h1 := HNK.out; have h2 := HQ.out; simp at h1; omega)
              have hmax : max (0 : Int) (q - 1) = q - 1 := by omega
              have mn := fun j => bn.cell j
              have mm := bm.cell 0
              go_wp2_with fail
              clear mn mm
              try clear hmax
              refine (RK.out b NK (q - 1) HKN.out.1 HKN.out.2 _ M bm bs).mono ?_
              rintro e w7 ⟨⟨A1, c1, rfl, o1⟩, hb1⟩
              replace bn := bn.below hb1 bn.lt
              replace o1 := own_mono (B' := b) o1 (by have h1 := B.size; have h2 := HBE.out; omega)
              replace M := M.below hb1
              replace bm := bm.below hb1 bm.lt
              replace bs := bs.below hb1 bs.lt
              replace bx := bx.below hb1 bx.lt
              replace B := B.trans (hb1.mono B.size)
              clear hb1
              have zn := fun j => bn.frozen j
              have mn := fun j => bn.cell j
              have mm := bm.cell 0
              have n1 := (show b ≠ gx by have := HGX.out; omega)
              have n2 := n1.symm
              go_wp2_with fail
              clear zn mm mn
              replace o1 := own_setT o1 bn (by decide) 1 (.slice A1 NK c1)
              replace bm := bm.far (p := ⟨gx, 1, none⟩) (by have := HGX.out; show b ≠ gx; omega) (.slice A1 NK c1)
              replace bs := bs.far (p := ⟨gx, 1, none⟩) (by have := HGX.out; show b + 1 ≠ gx; omega) (.slice A1 NK c1)
              replace bx := bx.far (p := ⟨gx, 1, none⟩) (by have := HGX.out; show b + 1 + 1 ≠ gx; omega) (.slice A1 NK c1)
              replace M := M.grown (grown_set _ gx 1 (.slice A1 NK c1)) (fun e => by injection e with e; exact HGN.out.1 e) (fun e => by injection e with e; exact HGN.out.2 e)
              replace B := B.setCell (p := ⟨gx, 1, none⟩) (by have h1 := HGX.out; have h2 := HBE.out; show w.heap.size ≤ gx; omega) (.slice A1 NK c1)
              replace bn := bn.setK (.slice A1 NK c1)
              generalize w7.setCell ⟨gx, 1, none⟩ (.slice A1 NK c1) = w8 at *
              refine (RV.out b N q (Nat.le_refl _) HQ.out.symm _ M bm bs).mono ?_
              rintro e w9 ⟨⟨A2, c2, rfl, o2⟩, hb1⟩
              replace bn := bn.below hb1 bn.lt
              replace o1 := own_below o1 hb1
              replace o2 := own_mono (B' := b) o2 (by have h1 := B.size; have h2 := HBE.out; omega)
              replace M := M.below hb1
              replace bm := bm.below hb1 bm.lt
              replace bs := bs.below hb1 bs.lt
              replace bx := bx.below hb1 bx.lt
              replace B := B.trans (hb1.mono B.size)
              clear hb1
              have zn := fun j => bn.frozen j
              have mn := fun j => bn.cell j
              have zx := fun j => bx.frozen j
              have mx := fun j => bx.cell j
              have n3 := (show b + 1 + 1 ≠ gx by have := HGX.out; omega)
              have n4 := n3.symm
              go_wp2_with fail
              clear zn mn zx mx
              replace o1 := own_setT o1 bn (by decide) 2 (.slice A2 N c2)
              replace o2 := own_setT o2 bn (by decide) 2 (.slice A2 N c2)
              replace bm := bm.far (p := ⟨gx, 2, none⟩) (by have := HGX.out; show b ≠ gx; omega) (.slice A2 N c2)
              replace bs := bs.far (p := ⟨gx, 2, none⟩) (by have := HGX.out; show b + 1 ≠ gx; omega) (.slice A2 N c2)
              replace bx := bx.far (p := ⟨gx, 2, none⟩) (by have := HGX.out; show b + 1 + 1 ≠ gx; omega) (.slice A2 N c2)
              replace M := M.grown (grown_set _ gx 2 (.slice A2 N c2)) (fun e => by injection e with e; exact HGN.out.1 e) (fun e => by injection e with e; exact HGN.out.2 e)
              replace B := B.setCell (p := ⟨gx, 2, none⟩) (by have h1 := HGX.out; have h2 := HBE.out; show w.heap.size ≤ gx; omega) (.slice A2 N c2)
              replace bn := bn.setV (.slice A2 N c2)
              have o10 := own_setT o1 bx (by decide) 0 (.bool true)
              have o20 := own_setT o2 bx (by decide) 0 (.bool true)
              have x0 := bx.set_ 0 (.bool true)
              have o11 := own_setT o10 x0 (by decide) 1 (.slice A1 NK c1)
              have o21 := own_setT o20 x0 (by decide) 1 (.slice A1 NK c1)
              have x1 := x0.set_ 1 (.slice A1 NK c1)
              have o12 := own_setT o11 x1 (by decide) 2 (.slice A2 N c2)
              have o22 := own_setT o21 x1 (by decide) 2 (.slice A2 N c2)
              have x2 := x1.set_ 2 (.slice A2 N c2)
              have o13 := own_setT o12 x2 (by decide) 3 (.int .u64 lk)
              have o23 := own_setT o22 x2 (by decide) 3 (.int .u64 lk)
              have x3 := x2.set_ 3 (.int .u64 lk)
              have C9 := below_setN (g := b + 1 + 1) B (by have h2 := HBE.out; omega) (.bool true) (.slice A1 NK c1) (.slice A2 N c2) (.int .u64 lk)
              have m9 := fun j => x3.cell j
              refine bodyPost_ret (v := .agg #[.bool true, .slice A1 NK c1, .slice A2 N c2, .int .u64 lk]) (by simp [results, Tryd.results20, go_sem, m9, List.setIfInBounds_toArray]) rfl ⟨⟨_, rfl, by rw [← HBE.out]; exact FIN.out _ A1 c1 A2 c2 o13 o23⟩, by first | exact C9 | (rw [HBE.out]; exact C9)⟩
            · skip
              have HKN := hide (show NK ≤ N ∧ 0 = (NK : Int) by have h1 := HNK.out; have h2 := HQ.out; simp at h1; omega)
              have hmax : max (0 : Int) (q - 1) = 0 := by omega
              have mn := fun j => bn.cell j
              have mm := bm.cell 0
              go_wp2_with fail
              clear mn mm
              try clear hmax
              refine (RK.out b NK 0 HKN.out.1 HKN.out.2 _ M bm bs).mono ?_
              rintro e w7 ⟨⟨A1, c1, rfl, o1⟩, hb1⟩
              replace bn := bn.below hb1 bn.lt
              replace o1 := own_mono (B' := b) o1 (by have h1 := B.size; have h2 := HBE.out; omega)
              replace M := M.below hb1
              replace bm := bm.below hb1 bm.lt
              replace bs := bs.below hb1 bs.lt
              replace bx := bx.below hb1 bx.lt
              replace B := B.trans (hb1.mono B.size)
              clear hb1
              have zn := fun j => bn.frozen j
              have mn := fun j => bn.cell j
              have mm := bm.cell 0
              have n1 := (show b ≠ gx by have := HGX.out; omega)
              have n2 := n1.symm
              go_wp2_with fail
              clear zn mm mn
              replace o1 := own_setT o1 bn (by decide) 1 (.slice A1 NK c1)
              replace bm := bm.far (p := ⟨gx, 1, none⟩) (by have := HGX.out; show b ≠ gx; omega) (.slice A1 NK c1)
              replace bs := bs.far (p := ⟨gx, 1, none⟩) (by have := HGX.out; show b + 1 ≠ gx; omega) (.slice A1 NK c1)
              replace bx := bx.far (p := ⟨gx, 1, none⟩) (by have := HGX.out; show b + 1 + 1 ≠ gx; omega) (.slice A1 NK c1)
              replace M := M.grown (grown_set _ gx 1 (.slice A1 NK c1)) (fun e => by injection e with e; exact HGN.out.1 e) (fun e => by injection e with e; exact HGN.out.2 e)
              replace B := B.setCell (p := ⟨gx, 1, none⟩) (by have h1 := HGX.out; have h2 := HBE.out; show w.heap.size ≤ gx; omega) (.slice A1 NK c1)
              replace bn := bn.setK (.slice A1 NK c1)
              generalize w7.setCell ⟨gx, 1, none⟩ (.slice A1 NK c1) = w8 at *
              refine (RV.out b N q (Nat.le_refl _) HQ.out.symm _ M bm bs).mono ?_
              rintro e w9 ⟨⟨A2, c2, rfl, o2⟩, hb1⟩
              replace bn := bn.below hb1 bn.lt
              replace o1 := own_below o1 hb1
              replace o2 := own_mono (B' := b) o2 (by have h1 := B.size; have h2 := HBE.out; omega)
              replace M := M.below hb1
              replace bm := bm.below hb1 bm.lt
              replace bs := bs.below hb1 bs.lt
              replace bx := bx.below hb1 bx.lt
              replace B := B.trans (hb1.mono B.size)
              clear hb1
              have zn := fun j => bn.frozen j
              have mn := fun j => bn.cell j
              have zx := fun j => bx.frozen j
              have mx := fun j => bx.cell j
              have n3 := (show b + 1 + 1 ≠ gx by have := HGX.out; omega)
              have n4 := n3.symm
              go_wp2_with fail
              clear zn mn zx mx
              replace o1 := own_setT o1 bn (by decide) 2 (.slice A2 N c2)
              replace o2 := own_setT o2 bn (by decide) 2 (.slice A2 N c2)
              replace bm := bm.far (p := ⟨gx, 2, none⟩) (by have := HGX.out; show b ≠ gx; omega) (.slice A2 N c2)
              replace bs := bs.far (p := ⟨gx, 2, none⟩) (by have := HGX.out; show b + 1 ≠ gx; omega) (.slice A2 N c2)
              replace bx := bx.far (p := ⟨gx, 2, none⟩) (by have := HGX.out; show b + 1 + 1 ≠ gx; omega) (.slice A2 N c2)
              replace M := M.grown (grown_set _ gx 2 (.slice A2 N c2)) (fun e => by injection e with e; exact HGN.out.1 e) (fun e => by injection e with e; exact HGN.out.2 e)
              replace B := B.setCell (p := ⟨gx, 2, none⟩) (by have h1 := HGX.out; have h2 := HBE.out; show w.heap.size ≤ gx; omega) (.slice A2 N c2)
              replace bn := bn.setV (.slice A2 N c2)
              have o10 := own_setT o1 bx (by decide) 0 (.bool true)
              have o20 := own_setT o2 bx (by decide) 0 (.bool true)
              have x0 := bx.set_ 0 (.bool true)
              have o11 := own_setT o10 x0 (by decide) 1 (.slice A1 NK c1)
              have o21 := own_setT o20 x0 (by decide) 1 (.slice A1 NK c1)
              have x1 := x0.set_ 1 (.slice A1 NK c1)
              have o12 := own_setT o11 x1 (by decide) 2 (.slice A2 N c2)
              have o22 := own_setT o21 x1 (by decide) 2 (.slice A2 N c2)
              have x2 := x1.set_ 2 (.slice A2 N c2)
              have o13 := own_setT o12 x2 (by decide) 3 (.int .u64 lk)
              have o23 := own_setT o22 x2 (by decide) 3 (.int .u64 lk)
              have x3 := x2.set_ 3 (.int .u64 lk)
              have C9 := below_setN (g := b + 1 + 1) B (by have h2 := HBE.out; omega) (.bool true) (.slice A1 NK c1) (.slice A2 N c2) (.int .u64 lk)
              have m9 := fun j => x3.cell j
              refine bodyPost_ret (v := .agg #[.bool true, .slice A1 NK c1, .slice A2 N c2, .int .u64 lk]) (by simp [results, Tryd.results20, go_sem, m9, List.setIfInBounds_toArray]) rfl ⟨⟨_, rfl, by rw [← HBE.out]; exact FIN.out _ A1 c1 A2 c2 o13 o23⟩, by first | exact C9 | (rw [HBE.out]; exact C9)⟩
      exact AllReadyZ.nil
    exact AllReadyZ.nil
  exact AllReadyZ.nil
end Go.Proofs.YtegldbhabeoboaaDoor

/-
  A range over an iterator that marks what has come in a map of its caller's: contract and law.
-/
namespace Go.Proofs.YtegldbhabeoboaaDoor
open Go.RowKit Go.Shelf

/-- What a round of loop l lets stand: all but lists of ints, and the loops from l down. -/
def okO (l k : Nat) : Obj → Prop
  | .cells _ t _ => t ≠ 3 ∧ t ≠ 43
  | .loop _ => l < k
  | _ => True
structure KeepX (l : Nat) (W W' : World) : Prop where
  size : W.heap.size ≤ W'.heap.size
  same : ∀ (k : Nat) (o : Obj), W.heap[k]? = some o → okO l k o → W'.heap[k]? = some o
theorem KeepX.refl (l : Nat) (W : World) : KeepX l W W := ⟨Nat.le_refl _, fun _ _ h _ => h⟩
theorem KeepX.trans {l : Nat} {a b c : World} (h : KeepX l a b) (k : KeepX l b c) : KeepX l a c := ⟨Nat.le_trans h.size k.size, fun i o ho hk => k.same i o (h.same i o ho hk) hk⟩
theorem okO_mono {l0 l k : Nat} {o : Obj} (h : l0 ≤ l) (ho : okO l k o) : okO l0 k o := by
  cases o <;> first | exact ho | exact Nat.lt_of_le_of_lt h ho
theorem KeepX.mono {l0 l : Nat} {W W' : World} (h : l0 ≤ l) (hk : KeepX l0 W W') : KeepX l W W' := ⟨hk.size, fun k o ho hok => hk.same k o ho (okO_mono h hok)⟩
theorem KeepX.of_below {l : Nat} {W W' : World} (hb : Below W.heap.size W W') : KeepX l W W' := ⟨hb.size, fun k _ ho _ => (hb.block k (Array.getElem?_eq_some_iff.1 ho).1).trans ho⟩
theorem KeepX.putLoop {l : Nat} {W : World} {r : Loop} (o : Obj) (h : W.heap[l]? = some (.loop r)) : KeepX l W (W.putObj l o) :=
  ⟨by simp, fun k o' hk hok => by
    by_cases e : k = l
    · subst e; rw [h] at hk; cases hk; exact absurd hok (Nat.lt_irrefl _)
    · exact (World.putObj_heap_other e).trans hk⟩
theorem KeepX.of_grownBy {l : Nat} {W W' : World} {row : Option Nat} (hg : W.grownBy W' row) (hrow : ∀ j, row = some j → ∃ c t f, W.heap[j]? = some (.cells c t f) ∧ (t = 3 ∨ t = 43)) : KeepX l W W' :=
  ⟨hg.size, fun k o hk hok => by
    refine (hg.block k (Array.getElem?_eq_some_iff.1 hk).1 (fun e => ?_)).trans hk
    obtain ⟨c, t, f, hc, ht⟩ := hrow k e.symm
    rw [hc] at hk
    cases hk
    rcases ht with ht | ht
    · exact hok.1 ht
    · exact hok.2 ht⟩
/-- What an iterator's own steps let stand: all but block bm, and what is no cells from n on. -/
structure PartN (n bm : Nat) (W W' : World) : Prop where
  os : W'.os = W.os
  tape : W'.tape = W.tape
  output : W'.output = W.output
  size : W.heap.size ≤ W'.heap.size
  same : ∀ (k : Nat) (o : Obj), W.heap[k]? = some o → k ≠ bm → (k < n ∨ o.isCells = true) → W'.heap[k]? = some o
theorem PartN.refl (n bm : Nat) (w : World) : PartN n bm w w := ⟨rfl, rfl, rfl, Nat.le_refl _, fun _ _ h _ _ => h⟩
theorem PartN.trans {n bm : Nat} {a b c : World} (h : PartN n bm a b) (k : PartN n bm b c) : PartN n bm a c :=
  ⟨k.os.trans h.os, k.tape.trans h.tape, k.output.trans h.output, Nat.le_trans h.size k.size, fun i o hi hn ho => k.same i o (h.same i o hi hn ho) hn ho⟩
theorem PartN.mono {n n' bm : Nat} {a b : World} (h : PartN n bm a b) (hn : n' ≤ n) : PartN n' bm a b := ⟨h.os, h.tape, h.output, h.size, fun k o hk hb ho => h.same k o hk hb (ho.imp (fun x => Nat.lt_of_lt_of_le x hn) id)⟩
theorem PartN.of_below {n bm : Nat} {W W' : World} (hb : Below W.heap.size W W') : PartN n bm W W' := ⟨hb.os, hb.tape, hb.output, hb.size, fun k _ hk _ _ => (hb.block k (Array.getElem?_eq_some_iff.1 hk).1).trans hk⟩
theorem PartN.of_grownBy {n bm : Nat} {W W' : World} (hg : W.grownBy W' (some bm)) : PartN n bm W W' :=
  ⟨hg.os, hg.tape, hg.output, hg.size, fun k _ hk hne _ => (hg.block k (Array.getElem?_eq_some_iff.1 hk).1 (fun e => hne (by injection e))).trans hk⟩
theorem PartN.putObj {n bm k : Nat} {W : World} {o : Obj} (o' : Obj) (h : W.heap[k]? = some o) (hc : o.isCells = false) (hk : n ≤ k) : PartN n bm W (W.putObj k o') :=
  ⟨rfl, rfl, rfl, by simp, fun j o2 hj _ ho => by
    by_cases e : j = k
    · subst e
      rw [h] at hj
      cases hj
      rcases ho with ho | ho
      · omega
      · rw [hc] at ho; cases ho
    · exact (World.putObj_heap_other e).trans hj⟩
theorem PartN.box {n bm B : Nat} {W W' : World} {t : TypeId} {cs : Array Value} (h : PartN n bm W W') (hb : Blk W B t cs) (hB : B ≠ bm) : Blk W' B t cs := h.same B _ hb hB (.inr rfl)
theorem PartN.own {n bm B : Nat} {W W' : World} {e : TypeId} {s k : Nat} {xs : List Value} {v : Value} (hp : PartN n bm W W') (h : W.ownsRow B e s v k xs) (hB : bm < B) : W'.ownsRow B e s v k xs := by
  refine ⟨h.1, ?_⟩
  rcases h.2 with h2 | ⟨g, cap, cur, hv, hg, hh, h3⟩
  · exact .inl h2
  · exact .inr ⟨g, cap, cur, hv, hg, hp.same g _ hh (by omega) (.inr rfl), h3⟩
/-- All that stands below n, but block bm. -/
structure BelowX (n bm : Nat) (W W' : World) : Prop where
  os : W'.os = W.os
  tape : W'.tape = W.tape
  output : W'.output = W.output
  size : W.heap.size ≤ W'.heap.size
  block : ∀ k, k < n → k ≠ bm → W'.heap[k]? = W.heap[k]?
theorem BelowX.refl (n bm : Nat) (w : World) : BelowX n bm w w := ⟨rfl, rfl, rfl, Nat.le_refl _, fun _ _ _ => rfl⟩
theorem BelowX.trans {n bm : Nat} {a b c : World} (h : BelowX n bm a b) (k : BelowX n bm b c) : BelowX n bm a c :=
  ⟨k.os.trans h.os, k.tape.trans h.tape, k.output.trans h.output, Nat.le_trans h.size k.size, fun i hi hn => (k.block i hi hn).trans (h.block i hi hn)⟩
theorem BelowX.of_below {n bm : Nat} {W W' : World} (hb : Below n W W') : BelowX n bm W W' := ⟨hb.os, hb.tape, hb.output, hb.size, fun k hk _ => hb.block k hk⟩
theorem BelowX.below {n n' bm : Nat} {W0 W W' : World} (h : BelowX n bm W W') (h0 : Below n' W0 W) (hn : n' ≤ n) (hb : n' ≤ bm) : Below n' W0 W' :=
  ⟨h.os.trans h0.os, h.tape.trans h0.tape, h.output.trans h0.output, Nat.le_trans h0.size h.size, fun k hk => (h.block k (by omega) (by omega)).trans (h0.block k hk)⟩
theorem BelowX.part {n bm : Nat} {W A A' : World} (h : BelowX n bm W A) (hp : PartN n bm A A') (hn : n ≤ W.heap.size) : BelowX n bm W A' :=
  ⟨hp.os.trans h.os, hp.tape.trans h.tape, hp.output.trans h.output, Nat.le_trans h.size hp.size, fun k hk hb => by
    have e := h.block k hk hb
    have hlt : k < A.heap.size := Nat.lt_of_lt_of_le hk (Nat.le_trans hn h.size)
    rw [← e]
    exact (hp.same k _ (Array.getElem?_eq_getElem hlt) hb (.inl hk)).trans (Array.getElem?_eq_getElem hlt).symm⟩
theorem room_of_none {F : Fence} (hd : F.depth = none) (k : Nat) : F.room k := fun d h => by rw [hd] at h; cases h
theorem RoundIn.anyDepth {F : Fence} (hd : F.depth = none) {m m' : Nat} {P : Program} {l : Nat} {f : FuncId} {tmps : Array Value} {assign body : Code} {w : World} {R : Ending → World → Prop}
    (h : RoundIn F m P l f tmps assign body w R) : RoundIn F m' P l f tmps assign body w R := ⟨h.1, fun c cs _ => h.2 c cs (room_of_none hd _)⟩
theorem YieldAt.anyDepth {F : Fence} (hd : F.depth = none) {m : Nat} (m' : Nat) {P : Program} {l : Nat} {args : Array Value} {W : World} {R : Ending → World → Prop} (h : YieldAt F m P l args W R) : YieldAt F m' P l args W R := by
  obtain ⟨fn, tmps, assign, body, hy, hR⟩ := h
  exact ⟨fn, tmps, assign, body, hy, RoundIn.anyDepth hd hR⟩
/-- An iterator that gives what l1 has behind l0, and turns nothing that lay but block bm; F0 holds behind it. -/
def Yields (P : Program) (gf : Nat) (lb : Array Value) (bm N : Nat) (l0 l1 : List Int) (w : World) (F0 : World → Prop) : Prop :=
  ∀ (n l : Nat) (J : List Int → World → Prop) (W : World), Below w.heap.size w W → l < W.heap.size →
    (∀ xs A A', J xs A → PartN W.heap.size bm A A' → J xs A') →
    (∀ xs x W1, xs.length < N → J xs W1 → YieldAt Fence.wide n P l #[.int .i64 x] W1 fun e W' => e = .returned (.bool true) ∧ J (xs ++ [x]) W' ∧ KeepX l W1 W') →
    J l0 W → CallsIn Fence.wide n P gf (#[.func (.yield l) #[] #[]] ++ lb) W fun e W' => (∃ v, e = .returned v) ∧ J l1 W' ∧ F0 W'
/-- What a round's body comes to. -/
def goesX (l : Nat) (I : List Int → World → Prop) (xs : List Int) (W : World) : Exit → Act → World → Prop
  | .normal, _, W' => KeepX l W W' ∧ W'.heap[l]? = W.heap[l]? ∧ I xs W'
  | _, _, _ => False

theorem Yields.later {P : Program} {gf bm N : Nat} {lb : Array Value} {l0 l1 : List Int} {w w' : World} {F0 : World → Prop} (h : Yields P gf lb bm N l0 l1 w F0) (hb : Below w.heap.size w w') : Yields P gf lb bm N l0 l1 w' F0 :=
  fun n l J W hW => h n l J W (hb.trans (hW.mono hb.size))
theorem rangeFunc_seen {P : Program} {n gf N bm : Nat} {g : Operand} {ps : Array Tmp} {assign body : Code} {Q : Exit → Act → World → Prop} {a : Act} {w : World} {lb : Array Value} {l0 l1 : List Int} {F0 : World → Prop}
    (hg : a.eval g = .func (.func gf) #[] lb) (eg : ∀ args w, (callFunc gf args).run P w = .ok (.enter gf args) w)
    (hseq : Yields P gf lb bm N l0 l1 w F0) (hbm : bm < w.heap.size) (hF0 : ∀ A k o, w.heap.size ≤ k → F0 A → F0 (A.putObj k o)) (hps : ps.size = 1)
    (I : List Int → World → Prop) (hI : ∀ xs A A', I xs A → PartN w.heap.size bm A A' → I xs A') (h0 : I l0 w) (a₁ : Int → Act)
    (hassign : ∀ (l : Nat) (x : Int) (W : World) (K : Act → World → Prop), K (a₁ x) W →
      assign.wpIn (Fence.wide.inRound l) (n - 1) P (Exit.then K (fun _ _ _ => False)) { tmps := (ps.zip #[Value.int .i64 x]).foldl (fun t (p, v) => t.setIfInBounds p v) a.tmps, defers := [] } W)
    (hbody : ∀ (l : Nat) (xs : List Int) (x : Int) (W : World), w.heap.size ≤ l → l < W.heap.size → (∃ r, W.heap[l]? = some (.loop r)) → I xs W → xs.length < N → body.wpIn (Fence.wide.inRound l) (n - 1) P (goesX l I (xs ++ [x]) W) (a₁ x) W)
    (hdone : ∀ (D : Nat) (W : World), w.heap.size ≤ D → I l1 W → F0 W → W.heap[D]? = some (.deferred (some [])) → Q .normal { a with defers := { target := .collected D, args := #[] } :: a.defers } W) :
    (Code.rangeFunc g ps assign body).wpIn Fence.wide n P Q a w := by
  refine wpIn_rangeFunc fun fn hfn => ?_
  obtain ⟨lp, hlp⟩ : ∃ lp : LoopState → Loop, lp = fun st => { state := st, pending := none, fn, tmps := a.tmps, params := ps, assign, body, defers := w.heap.size } := ⟨_, rfl⟩
  have hD : (w.alloc (.deferred (some []))).heap[w.heap.size]? = some (.deferred (some [])) := World.alloc_heap_new w _
  obtain ⟨w1, hw1⟩ : ∃ w1, (w.alloc (.deferred (some []))).alloc (.loop (lp .ready)) = w1 := ⟨_, rfl⟩
  have hz1 : w1.heap.size = w.heap.size + 2 := by rw [← hw1]; simp only [World.size_alloc]
  have e1 : w1.heap[w.heap.size + 1]? = some (.loop (lp .ready)) := by
    have := World.alloc_heap_new (w.alloc (.deferred (some []))) (.loop (lp .ready))
    rw [World.size_alloc] at this
    rw [← hw1]; exact this
  have e2 : w1.heap[w.heap.size]? = some (.deferred (some [])) := by
    rw [← hw1]; exact (Below.heap_alloc _ _ _ (by simp)).trans hD
  have hb1 : Below w.heap.size w w1 := by
    rw [← hw1]; exact ((Below.refl _ w).alloc (Nat.le_refl _) _).alloc (by simp) _
  have i1 : I l0 w1 := hI _ _ _ h0 (PartN.of_below hb1)
  refine ⟨w.heap.size + 1, [{ target := .collected w.heap.size, args := #[] }], w1, { target := .fn (.func gf) lb, args := #[.func (.yield (w.heap.size + 1)) #[] #[]] }, w1, gf,
    #[.func (.yield (w.heap.size + 1)) #[] #[]] ++ lb, w1, ?_, ?_, ?_, ?_, fun h => (by cases h), ?_⟩
  · rw [← hw1, hlp]; exact run_enterLoop_outer _ _ _ _ _
  · simp only [resolve, hg]
    simp [go_sem]
  · intro f' hf'; simp [Target.leads] at hf'; subst hf'; trivial
  · simp [invoke, go_sem, eg]
  refine (hseq (n - 1) (w.heap.size + 1) (fun xs W => I xs W ∧ W.heap[w.heap.size + 1]? = some (.loop (lp .ready)) ∧ W.heap[w.heap.size]? = some (.deferred (some []))) w1 hb1 (by omega)
    (fun xs A A' hs hp => ⟨hI xs A A' hs.1 (hp.mono (by omega)), hp.same _ _ hs.2.1 (by omega) (.inl (by omega)), hp.same _ _ hs.2.2 (by omega) (.inl (by omega))⟩) ?_ ⟨i1, e1, e2⟩).mono ?_
  · rintro xs x W hlen ⟨hi, hl, hd⟩
    have hlt : w.heap.size + 1 < W.heap.size := (Array.getElem?_eq_some_iff.1 hl).1
    have hy := run_yield (P := P) (args := #[Value.int .i64 x]) hl (by rw [hlp]; simp [hps])
    rw [hlp] at hy
    have hbr := run_beginRound (P := P) hl (by rw [hlp])
    refine ⟨fn, _, assign, body, hy, roundIn_of_wpIn hfn (hassign _ x W _ ⟨_, hbr, ?_⟩)⟩
    obtain ⟨X, hX⟩ : ∃ X, W.putObj (w.heap.size + 1) (.loop { lp .ready with state := .busy }) = X := ⟨_, rfl⟩
    have hlX : X.heap[w.heap.size + 1]? = some (.loop { lp .ready with state := .busy }) := by rw [← hX]; exact World.putObj_heap_same hlt
    have hdX : X.heap[w.heap.size]? = some (.deferred (some [])) := by rw [← hX]; exact (World.putObj_heap_other (by omega)).trans hd
    have iX : I xs X := by rw [← hX]; exact hI _ _ _ hi (PartN.putObj _ hl rfl (by omega))
    have kX : KeepX (w.heap.size + 1) W X := by rw [← hX]; exact KeepX.putLoop _ hl
    rw [hX]
    have hszX : w.heap.size + 1 < X.heap.size := by rw [← hX]; simpa using hlt
    refine wpIn_mono (hbody _ xs x X (by omega) hszX ⟨_, hlX⟩ iX hlen) ?_
    rintro e a3 W3 hp
    cases e with
    | normal =>
      obtain ⟨hk, hsame, hi3⟩ := hp
      have hl3 := hsame.trans hlX
      have hd3 := hk.same _ _ hdX trivial
      have hend := run_endRound (P := P) none hl3
      refine ⟨_, _, hend, rfl, ⟨hI _ _ _ hi3 (PartN.putObj _ hl3 rfl (by omega)), ?_, (World.putObj_heap_other (by omega)).trans hd3⟩, (kX.trans hk).trans (KeepX.putLoop _ hl3)⟩
      have := World.putObj_heap_same (w := W3) (o := .loop { { lp .ready with state := .busy } with state := if (none : Option Code).isNone then .ready else .done, pending := none }) (Array.getElem?_eq_some_iff.1 hl3).1
      rw [this, hlp]
      rfl
    | _ => exact hp.elim
  · rintro e W2 ⟨⟨v, rfl⟩, ⟨hi, hl, hd⟩, hf⟩
    have hend := run_endLoop (P := P) hl (by rw [hlp]; simp)
    rw [hlp] at hend
    exact ⟨none, _, hend, hdone _ _ (Nat.le_refl _) (hI _ _ _ hi (PartN.putObj _ hl rfl (by omega))) (hF0 _ _ _ (by omega) hf) ((World.putObj_heap_other (by omega)).trans hd)⟩
end Go.Proofs.YtegldbhabeoboaaDoor

/-
  slices.Collect of an iterator that marks what has come in a map of its caller's.
-/
namespace Go.Proofs.YtegldbhabeoboaaDoor
open Go.RowKit Go.Shelf
attribute [local go_sem] Oper.semAt_some

theorem infoIC : (Tryd.prog.info? 3).map (fun i => (i.zero, i.size, i.bytes)) = some (some (.int .i64 0), 1, 8) := by kernel_rfl
theorem keepX_append {l B base s n : Nat} {W w1 : World} {v v' : Value} {xs : List Value} {tmp : Obj} (hv : Boxed W B 43 v) (hrow : W.ownsRow base 3 s v n xs) (hg : (W.alloc tmp).grownBy w1 v.ownBlock) : KeepX l W (w1.setCell ⟨B, 0, none⟩ v') := by
  refine ⟨?_, fun k o hk hok => ?_⟩
  · have h1 := hg.size
    rw [World.size_alloc] at h1
    rw [World.size_setCell]
    omega
  · have hlt := (Array.getElem?_eq_some_iff.1 hk).1
    have hB : k ≠ B := fun e => by
      subst e
      rw [show W.heap[k]? = _ from hv] at hk
      cases hk
      exact hok.2 rfl
    have hR : some k ≠ v.ownBlock := fun e => by
      rcases hrow.2 with ⟨rfl, _⟩ | ⟨g, cap, cur, rfl, _, hgb, _⟩
      · simp [Value.ownBlock] at e
      · obtain rfl : k = g := by simpa [Value.ownBlock] using e
        rw [hgb] at hk
        cases hk
        exact hok.1 rfl
    refine (Below.heap_setCell w1 ⟨B, 0, none⟩ v' k hB).trans ((hg.block k (by rw [World.size_alloc]; omega) hR).trans ((Below.heap_alloc W tmp k hlt).trans hk))
/-- What lies in the box of the list. -/
def ColI (B base bm : Nat) (w : World) (xs : List Int) (W : World) : Prop :=
  (∃ v, Boxed W B 43 v ∧ W.ownsRow base 3 1 v xs.length (xs.map (Value.int .i64))) ∧ BelowX base bm w W
set_option maxRecDepth 100000 in
set_option maxHeartbeats 2000000 in
theorem appseq_in (gf bm N : Nat) (lb : Array Value) (l1 : List Int) (F0 : World → Prop) (w : World) (hN : N ≤ 100000) (hbm : bm < w.heap.size) (hseq : Yields Tryd.prog gf lb bm N [] l1 w F0)
    (hF0 : ∀ A k o, w.heap.size ≤ k → F0 A → F0 (A.putObj k o)) (eg : ∀ args w, (callFunc gf args).run Tryd.prog w = .ok (.enter gf args) w) :
    CallsIn Fence.wide 5 Tryd.prog 89 #[.slice none 0 0, .func (.func gf) #[] lb] w fun e W' => (∃ A c, e = .returned (.slice A l1.length c) ∧ W'.ownsRow w.heap.size 3 1 (.slice A l1.length c) l1.length (ints .i64 l1)) ∧ BelowX w.heap.size bm w W' ∧ F0 W' := by
  obtain ⟨i0, hi, hz0, hz1, hz2⟩ := info_parts infoIC
  refine callsIn_of_wp_marks Tryd.func89 rfl trivial ?_ rfl
  simp only [Tryd.ntmps89, List.size_toArray, List.length_cons, List.length_nil, Nat.reduceAdd, Nat.reduceSub, Array.replicate_succ, Array.replicate_zero, List.push_toArray, List.append_toArray, List.nil_append, List.cons_append]
  gi_wp2
  obtain ⟨W3, hW3⟩ : ∃ W3, w.alloc (.cells #[.slice none 0 0] 43) = W3 := ⟨_, rfl⟩
  have bO := Boxed.new w 43 (.slice none 0 0)
  have hB : Below w.heap.size w (w.alloc (.cells #[.slice none 0 0] 43)) := (Below.refl _ w).alloc (Nat.le_refl _) _
  have hsz : (w.alloc (.cells #[.slice none 0 0] 43)).heap.size = w.heap.size + 1 := World.size_alloc _ _
  rw [hW3] at bO hB hsz ⊢
  refine rangeFunc_seen (gf := gf) (lb := lb) rfl eg (hseq.later hB) (by omega) (fun A k o hk => hF0 A k o (by omega)) rfl
    (ColI w.heap.size w.heap.size bm w)
    (fun xs A A' h hp => by
      obtain ⟨⟨v, hv, hr⟩, hb⟩ := h
      exact ⟨⟨v, hp.box hv (by omega), hp.own hr hbm⟩, hb.part (hp.mono (by omega)) (Nat.le_refl _)⟩)
    ⟨⟨_, bO, World.ownsRow_nil _ _ _ _⟩, BelowX.of_below hB⟩
    (fun (x : Int) => { tmps := #[.slice none 0 0, .func (.func gf) #[] lb, .pointer (some ⟨w.heap.size, 0, none⟩), undef, .slice none 0 0, .int .i64 x, .func (.func gf) #[] lb, .int .i64 x, undef, undef, undef, undef, undef], defers := [] }) ?assign ?body ?done
  case assign =>
    intro l x W K hK
    gi_wp2
    exact hK
  case body =>
    rintro l pre x W hl1 hl2 ⟨r, hlr⟩ ⟨⟨v, hv, hrow⟩, hbx⟩ hlt
    have hc := hv.cell
    have hml : pre.length + 1 ≤ maxLen := Nat.le_trans (show pre.length + 1 ≤ 100001 by omega) (by decide)
    have hn0 : w.heap.size ≤ W.heap.size := hbx.size
    gi_wp2_with (gi_at_builtin; refine wpListIn_append_own _ rfl _ _ 43 rfl w.heap.size 3 i0 (.int .i64 0) 1 8 Tryd.underlying43 hi hz0 hz1 hz2 rfl (by decide) _ _ _ rfl (hrow.alloc _) ⟨W.heap.size, 0, none⟩ 1 1 [.int .i64 x] rfl rfl (cell_one_new _ _ _) (by simp [Value.oneCell']) (by omega) (by omega) (by simp; omega) ?_; intro v' w1 hown' hgrow _; obtain ⟨g', cap', rfl⟩ := ownsRow_succ hown'; obtain ⟨hv1, hv2, hr2, hk2, hb2⟩ := hv.appended (by decide) hrow hn0 (Nat.le_refl _) hown' hgrow; have hc1 := hv1.cell; have hf1 := hv1.frozen)
    have hb3 : BelowX w.heap.size bm w (w1.setCell ⟨w.heap.size, 0, none⟩ (.slice (some ⟨g', 0, none⟩) (pre.length + 1) cap')) := hbx.trans (BelowX.of_below hb2)
    exact ⟨keepX_append hv hrow hgrow, (hk2.same l _ hlr rfl).trans hlr.symm, ⟨_, hv2, by rw [List.length_append, List.map_append]; exact hr2⟩, hb3⟩
  case done =>
    rintro D W hD ⟨⟨v, hv, hrow⟩, hbx⟩ hf hK
    have hc := hv.cell
    obtain ⟨G, cg, rfl, _⟩ := own_reads hrow
    have HD := hide (show w.heap.size ≤ D by omega)
    gi_wp2
    refine ⟨by simp, .inl ⟨_, _, rfl, run_takeDeferred hK, ?_⟩⟩
    exact ⟨_, results_tmp rfl _ _ _, ⟨G, cg, rfl, ownsRow_putObj hrow _ hK rfl⟩, hbx.part (PartN.putObj _ hK rfl HD.out) (Nat.le_refl _), hF0 _ _ _ HD.out hf⟩
theorem collect_any (gf bm N : Nat) (lb : Array Value) (l1 : List Int) (F0 : World → Prop) (w : World) (hN : N ≤ 100000) (hbm : bm < w.heap.size) (hseq : Yields Tryd.prog gf lb bm N [] l1 w F0)
    (hF0 : ∀ A k o, w.heap.size ≤ k → F0 A → F0 (A.putObj k o)) (eg : ∀ args w, (callFunc gf args).run Tryd.prog w = .ok (.enter gf args) w) :
    Calls Tryd.prog 69 #[.func (.func gf) #[] lb] w fun e W' => (∃ A c, e = .returned (.slice A l1.length c) ∧ W'.ownsRow w.heap.size 3 1 (.slice A l1.length c) l1.length (ints .i64 l1)) ∧ BelowX w.heap.size bm w W' ∧ F0 W' := by
  have C := hide ((callsIn_wide (n := 5)).1 (appseq_in gf bm N lb l1 F0 w hN hbm hseq hF0 eg))
  clear hseq hF0 eg hN hbm
  go_enter Tryd.func69, Tryd.ntmps69
  go_wp2_with fail
  refine (C.out).mono ?_
  rintro e w1 ⟨⟨A, c, rfl, ho⟩, hb, hf⟩
  go_wp2_with fail
  go_ret
  exact ⟨⟨A, c, rfl, ho⟩, hb, hf⟩
end Go.Proofs.YtegldbhabeoboaaDoor

/-
  The slots that come of a handle, as a list; arena.below.
-/
namespace Go.Proofs.YtegldbhabeoboaaDoor
open Go.RowKit Go.Shelf Go.Maps
attribute [local go_sem] Oper.semAt_some

/-- The slots that came, and those that come of a handle. -/
def comeN (nd : Int → Bool × List Int) (s : Int) : Nat → Int → List Int → List Int
  | 0, _, l => l
  | n + 1, h, l => if hrt h s = true ∧ hsl h ∉ l then (if (nd (hsl h)).1 = true then (nd (hsl h)).2.foldl (fun l c => comeN nd s n c l) (l ++ [hsl h]) else l ++ [hsl h]) else l
def ndOf (ws : List Int) (t f k : Int) : Bool × List Int := (nodI ws t f k, nodV ws t f k)
theorem hrt_slot {h s : Int} (hr : hrt h s = true) : 1 ≤ hsl h ∧ hsl h ≤ s := by
  unfold hrt at hr
  simp only [Bool.and_eq_true, decide_eq_true_eq] at hr
  exact ⟨hr.1.1, hr.1.2⟩
theorem nice_le {s : Int} {l : List Int} (h : Nice s l) (hs : 0 ≤ s) : l.length ≤ s.toNat := nice_len s.toNat l (by rw [Int.toNat_of_nonneg hs]; exact h)
theorem comeN_nice (nd : Int → Bool × List Int) (s : Int) : ∀ (n : Nat) (h : Int) (l : List Int), Nice s l → Nice s (comeN nd s n h l) ∧ l.length ≤ (comeN nd s n h l).length
  | 0, h, l, hl => ⟨hl, Nat.le_refl _⟩
  | n + 1, h, l, hl => by
    unfold comeN
    split
    next hc =>
      have h1 := nice_snoc hl (hrt_slot hc.1) hc.2
      have h2 : l.length ≤ (l ++ [hsl h]).length := by simp
      split
      · have key : ∀ (vs : List Int) (l' : List Int), Nice s l' → Nice s (vs.foldl (fun l c => comeN nd s n c l) l') ∧ l'.length ≤ (vs.foldl (fun l c => comeN nd s n c l) l').length := by
          intro vs
          induction vs with
          | nil => exact fun l' h' => ⟨h', Nat.le_refl _⟩
          | cons v vs ih =>
            intro l' h'
            have a := comeN_nice nd s n v l' h'
            have b := ih _ a.1
            exact ⟨b.1, Nat.le_trans a.2 b.2⟩
        have k := key (nd (hsl h)).2 _ h1
        exact ⟨k.1, Nat.le_trans h2 k.2⟩
      · exact ⟨h1, h2⟩
    · exact ⟨hl, Nat.le_refl _⟩
/-- What has come behind k children. -/
def comesK (nd : Int → Bool × List Int) (s : Int) (n : Nat) (vs : List Int) (l : List Int) (k : Nat) : List Int := (vs.take k).foldl (fun l c => comeN nd s n c l) l
theorem comesK_zero (nd : Int → Bool × List Int) (s : Int) (n : Nat) (vs l : List Int) : comesK nd s n vs l 0 = l := rfl
theorem comesK_succ (nd : Int → Bool × List Int) (s : Int) (n : Nat) (vs l : List Int) (k : Nat) (hk : k < vs.length) : comesK nd s n vs l (k + 1) = comeN nd s n vs[k] (comesK nd s n vs l k) := by
  unfold comesK
  rw [List.take_add_one, List.getElem?_eq_getElem hk, List.foldl_append]
  rfl
theorem comesK_all (nd : Int → Bool × List Int) (s : Int) (n : Nat) (vs l : List Int) : comesK nd s n vs l vs.length = vs.foldl (fun l c => comeN nd s n c l) l := by
  unfold comesK
  rw [List.take_length]
theorem comesK_nice {nd : Int → Bool × List Int} {s : Int} {n : Nat} {vs l : List Int} (hl : Nice s l) : ∀ k, k ≤ vs.length → Nice s (comesK nd s n vs l k) ∧ l.length ≤ (comesK nd s n vs l k).length
  | 0, _ => ⟨hl, Nat.le_refl _⟩
  | k + 1, hk => by
    have a := comesK_nice (nd := nd) (s := s) (n := n) (vs := vs) hl k (Nat.le_of_succ_le hk)
    rw [comesK_succ nd s n vs l k (by omega)]
    have b := comeN_nice nd s n vs[k] _ a.1
    exact ⟨b.1, Nat.le_trans a.2 b.2⟩
theorem rowL_w64 {ws : List Int} (h : AllW64 ws) (g : Nat → Int) (n : Nat) : ∀ x ∈ rowL ws g n, W64 x := by
  intro x hx
  unfold rowL at hx
  obtain ⟨i, _, rfl⟩ := List.mem_map.1 hx
  exact wGet_w64 h _
theorem MemOk.keepX {w w' : World} {gm gw lp : Nat} {s t f l p : Int} {ws : List Int} (h : MemOk w gm gw s t f l p ws) (hk : KeepX lp w w') : MemOk w' gm gw s t f l p ws :=
  ⟨hk.same _ _ h.1 ⟨by decide, by decide⟩, hk.same _ _ h.2.1 ⟨by decide, by decide⟩, h.2.2⟩
theorem MemOk.part {w w' : World} {gm gw n bm : Nat} {s t f l p : Int} {ws : List Int} (h : MemOk w gm gw s t f l p ws) (hk : PartN n bm w w') (h1 : gm ≠ bm) (h2 : gw ≠ bm) : MemOk w' gm gw s t f l p ws :=
  ⟨hk.same _ _ h.1 h1 (.inr rfl), hk.same _ _ h.2.1 h2 (.inr rfl), h.2.2⟩
theorem MapInt.keepX {w w' : World} {b n lp : Nat} {f : Int → Bool} (h : MapInt w b n f) (hk : KeepX lp w w') : MapInt w' b n f := by
  obtain ⟨D, hi, ⟨es, cl, hh, r⟩, ha⟩ := h
  exact ⟨D, hi, ⟨es, cl, hk.same _ _ hh trivial, r⟩, ha⟩
theorem MapInt.putObj {w : World} {b n k : Nat} {f : Int → Bool} (h : MapInt w b n f) (o : Obj) (hk : b ≠ k) : MapInt (w.putObj k o) b n f := by
  obtain ⟨D, hi, ⟨es, cl, hh, r⟩, ha⟩ := h
  exact ⟨D, hi, ⟨es, cl, (World.putObj_heap_other hk).trans hh, r⟩, ha⟩
theorem MapInt.mark {w : World} {b n : Nat} {f : Int → Bool} (h : MapInt w b n f) (hn : n < maxLen) (k : Int) (hk : (Lit.int .i64 k).wf = true) :
    ∃ w', (Instr.mapUpdate 84 (.map (some b)) (.int .i64 k) (.bool true)).run Tryd.prog w = .ok () w' ∧ MapInt w' b (n + 1) (fun j => if j = k then true else f j) ∧ w.grownBy w' (some b) := by
  obtain ⟨D, hi, ho, ha⟩ := h
  obtain ⟨w', hrun, h1, h2⟩ := ho.update lawI64 Tryd.underlying84 hn (keyOf_int_mk Tryd.underlying3 hk) (plainElem_bool Tryd.underlying4 true)
  refine ⟨w', hrun, ⟨_, hi.put _ _, h1, fun j hj => ?_⟩, h2⟩
  rw [atKey_putI hi]
  by_cases hjk : j = k
  · simp [hjk]
  · simp only [if_neg hjk]
    exact ha j hj
theorem MapInt.blk_ne {w : World} {b n g : Nat} {f : Int → Bool} {t : TypeId} {cs : Array Value} (h : MapInt w b n f) (hb : Blk w g t cs) : g ≠ b := by
  obtain ⟨D, hi, ⟨es, cl, hh, r⟩, ha⟩ := h
  rintro rfl
  rw [show w.heap[g]? = _ from hb] at hh
  cases hh
theorem KeepX.blk {w w' : World} {lp g : Nat} {t : TypeId} {cs : Array Value} (hk : KeepX lp w w') (h : Blk w g t cs) (h1 : t ≠ 3) (h2 : t ≠ 43) : Blk w' g t cs := hk.same _ _ h ⟨h1, h2⟩
theorem KeepX.own {lp B s k : Nat} {W W' : World} {e : TypeId} {xs : List Value} {v : Value} (hp : KeepX lp W W') (h : W.ownsRow B e s v k xs) (h1 : e ≠ 3) (h2 : e ≠ 43) : W'.ownsRow B e s v k xs := by
  refine ⟨h.1, ?_⟩
  rcases h.2 with h2 | ⟨g, cap, cur, hv, hg, hh, h3⟩
  · exact .inl h2
  · exact .inr ⟨g, cap, cur, hv, hg, hp.same g _ hh ⟨h1, h2⟩, h3⟩
/-- The marks of the loops that a call has been through. -/
def markOf (D : Nat) : Deferred := { target := .collected D, args := #[] }
def Marks (base : Nat) (Ds : List Nat) (W : World) : Prop := Ds.Nodup ∧ ∀ D ∈ Ds, base ≤ D ∧ W.heap[D]? = some (.deferred (some []))
theorem Marks.keepX {base lp : Nat} {Ds : List Nat} {W W' : World} (h : Marks base Ds W) (hk : KeepX lp W W') : Marks base Ds W' := ⟨h.1, fun D hD => ⟨(h.2 D hD).1, hk.same _ _ (h.2 D hD).2 trivial⟩⟩
theorem Marks.part {base n bm : Nat} {Ds : List Nat} {W W' : World} (h : Marks base Ds W) (hk : PartN n bm W W') (hb : bm < base) (hn : ∀ D ∈ Ds, D < n) : Marks base Ds W' := ⟨h.1, fun D hD => ⟨(h.2 D hD).1, hk.same _ _ (h.2 D hD).2 (by have := (h.2 D hD).1; omega) (.inl (hn D hD))⟩⟩
theorem Marks.lt {base : Nat} {Ds : List Nat} {W : World} (h : Marks base Ds W) : ∀ D ∈ Ds, D < W.heap.size := fun D hD => (Array.getElem?_eq_some_iff.1 (h.2 D hD).2).1
/-- What the way out of a function that bears marks leaves. -/
structure Shut (n : Nat) (W W' : World) : Prop where
  os : W'.os = W.os
  tape : W'.tape = W.tape
  output : W'.output = W.output
  size : W'.heap.size = W.heap.size
  low : ∀ k, k < n → W'.heap[k]? = W.heap[k]?
  cells : ∀ (k : Nat) (o : Obj), W.heap[k]? = some o → o.isCells = true → W'.heap[k]? = some o
theorem Shut.part {n bm : Nat} {W W' : World} (h : Shut n W W') : PartN n bm W W' := ⟨h.os, h.tape, h.output, Nat.le_of_eq h.size.symm, fun k o hk _ ho => ho.elim (fun x => (h.low k x).trans hk) (fun x => h.cells k o hk x)⟩
theorem MapInt.shut {w w' : World} {b n m : Nat} {f : Int → Bool} (h : MapInt w b n f) (hs : Shut m w w') (hb : b < m) : MapInt w' b n f := by
  obtain ⟨D, hi, ⟨es, cl, hh, r⟩, ha⟩ := h
  exact ⟨D, hi, ⟨es, cl, (hs.low b hb).trans hh, r⟩, ha⟩
theorem leaves_marks {F : Fence} {n base : Nat} {P : Program} {fn : Func} {tmps : Array Value} {R : Ending → World → Prop} : ∀ (Ds : List Nat) (W : World), Marks base Ds W → (∀ W', Shut base W W' → LeavesIn F n P fn tmps R [] .returning W') →
    LeavesInM F n P fn tmps R (Ds.map markOf) .returning W
  | [], W, _, h => h W ⟨rfl, rfl, rfl, rfl, fun _ _ => rfl, fun _ _ h _ => h⟩
  | D :: Ds, W, hm, h => by
    have hD := hm.2 D (by simp)
    have hnd := List.nodup_cons.1 hm.1
    refine ⟨by simp, .inl ⟨D, _, rfl, run_takeDeferred hD.2, ?_⟩⟩
    refine leaves_marks Ds _ ⟨hnd.2, fun D' h' => ⟨(hm.2 D' (by simp [h'])).1, (World.putObj_heap_other (fun e => hnd.1 (by rw [← e]; exact h'))).trans (hm.2 D' (by simp [h'])).2⟩⟩ fun W' hW => h W' ?_
    refine ⟨hW.os, hW.tape, hW.output, hW.size.trans (by simp), fun k hk => (hW.low k hk).trans (World.putObj_heap_other (by omega)), fun k o hk ho => hW.cells k o ?_ ho⟩
    refine (World.putObj_heap_other (fun e => ?_)).trans hk
    subst e
    rw [hD.2] at hk
    cases hk
    cases ho

set_option maxHeartbeats 1000000 in
theorem below_in (n : Nat) (p : Option Addr) (h : Int) (m : Option Nat) (w : World) :
    CallsIn Fence.wide n Tryd.prog 70 #[.pointer p, .int .u64 h, .map m] w fun e w' => e = .returned (.func (.func 90) #[] #[.pointer (some ⟨w.heap.size + 1, 0, none⟩), .pointer (some ⟨w.heap.size, 0, none⟩), .pointer (some ⟨w.heap.size + 1 + 1, 0, none⟩)]) ∧ w' = ((w.alloc (.cells #[.pointer p] 27)).alloc (.cells #[.int .u64 h] 32)).alloc (.cells #[.map m] 84) := by
  refine callsIn_of_wp Tryd.func70 rfl trivial ?_ rfl
  simp only [Tryd.ntmps70, List.size_toArray, List.length_cons, List.length_nil, Nat.reduceAdd, Nat.reduceSub, Array.replicate_succ, Array.replicate_zero, List.push_toArray, List.append_toArray, List.nil_append, List.cons_append]
  gi_wp2
  go_ret
  exact ⟨rfl, rfl⟩
end Go.Proofs.YtegldbhabeoboaaDoor

