/-
  Operations' texts in plain words.
-/
import Derived.Test.YtlnckjemfabckaaGreatDoorZ6
namespace Go.Proofs.YtlnckjemfabckaaGreatDoor
open Go.RowKit

def opRight (k mo : Int) : Bool := if k = 4 then decide (1 ≤ mo) && decide (mo ≤ 1000) else decide (1 ≤ k) && decide (k ≤ 3)
def opOk (k : Int) (vl hi : Nat) (mo : Int) : Bool := opRight k mo && (decide (k = 2) || decide (vl = 0)) && (decide (k = 4) || (decide (hi = 0) && decide (mo = 0)))
def opW (k : Int) (key vl hi : Nat) (mo : Int) : List ByteArray := [nmd kindL k, numT key] ++ (if k = 2 then [numT vl] else []) ++ (if k = 4 then [numT hi, intT mo] else [])
def opT (k : Int) (key vl hi : Nat) (mo : Int) : ByteArray := if opOk k vl hi mo = true then joinT (opW k key vl hi mo) else ⟨#[]⟩
theorem opW_size (k : Int) (key vl hi : Nat) (mo : Int) : (joinT (opW k key vl hi mo)).size ≤ 500 := by
  have h1 := joinT_size_le (opW k key vl hi mo) 70 (fun x hx => by
    unfold opW at hx
    simp only [List.mem_append, List.mem_cons, List.not_mem_nil, or_false] at hx
    have := nmd_size (n := 10) (by omega) kindL_size k
    have := numT_size key
    have := numT_size vl
    have := numT_size hi
    have := intT_size mo
    rcases hx with (h | h) | h
    · rcases h with rfl | rfl <;> omega
    · split at h <;> simp_all <;> omega
    · split at h
      · simp only [List.mem_cons, List.not_mem_nil, or_false] at h
        rcases h with rfl | rfl <;> omega
      · cases h)
  have h2 : (opW k key vl hi mo).length ≤ 5 := by
    unfold opW
    simp only [List.length_append, List.length_cons, List.length_nil]
    split <;> split <;> simp
  have := Nat.mul_le_mul_right (70 + 1) h2
  omega
theorem opT_size (k : Int) (key vl hi : Nat) (mo : Int) : (opT k key vl hi mo).size ≤ 500 := by
  unfold opT
  split
  · exact opW_size k key vl hi mo
  · decide
theorem opT_no {k : Int} {vl hi : Nat} {mo : Int} (h : opOk k vl hi mo = false) (key : Nat) : opT k key vl hi mo = ⟨#[]⟩ := by unfold opT; rw [h]; rfl
end Go.Proofs.YtlnckjemfabckaaGreatDoor

/-
  Events' and results' texts in plain words.
-/
namespace Go.Proofs.YtlnckjemfabckaaGreatDoor
open Go.RowKit

abbrev PairR := Nat × Nat
def PairR.cells (p : PairR) : List Value := [.int .u64 (p.1 : Nat), .int .u64 (p.2 : Nat)]
theorem PairR.cells_len (p : PairR) : (PairR.cells p).length = 2 := rfl
def PairR.text (p : PairR) : ByteArray := entT (p.1 : Int) (p.2 : Int)
def PairOk (p : PairR) : Prop := p.1 < 18446744073709551616 ∧ p.2 < 18446744073709551616
def resL : List ByteArray := [⟨#[110, 111, 116, 104, 105, 110, 103]⟩, ⟨#[102, 111, 117, 110, 100]⟩, ⟨#[102, 117, 108, 108]⟩, ⟨#[108, 105, 115, 116, 101, 100]⟩]
def listedB : ByteArray := ⟨#[108, 105, 115, 116, 101, 100]⟩
def foundB : ByteArray := ⟨#[102, 111, 117, 110, 100]⟩
def threadB : ByteArray := ⟨#[116, 104, 114, 101, 97, 100]⟩
def atB : ByteArray := ⟨#[97, 116]⟩
theorem resL_size : ∀ x ∈ resL, x.size ≤ 10 := by decide
def resT (k : Int) (v : Nat) (ps : List PairR) : ByteArray :=
  if k = 4 then joinT (listedB :: ps.map PairR.text) else if k = 2 then joinT [foundB, numT v] else nmd resL k
theorem listed_size (ps : List PairR) (h : ps.length ≤ 50) : (joinT (listedB :: ps.map PairR.text)).size ≤ 7000 := by
  have h1 := joinT_size_le (listedB :: ps.map PairR.text) 130 (fun x hx => by
    rcases List.mem_cons.1 hx with rfl | hx
    · decide
    · obtain ⟨p, _, rfl⟩ := List.mem_map.1 hx
      exact entT_size _ _)
  rw [List.length_cons, List.length_map] at h1
  have := Nat.mul_le_mul_right (130 + 1) (show ps.length + 1 ≤ 51 by omega)
  omega
theorem resT_size (k : Int) (v : Nat) (ps : List PairR) (h : ps.length ≤ 50) : (resT k v ps).size ≤ 7000 := by
  unfold resT
  split
  · exact listed_size ps h
  · split
    · rw [joinT_fold]
      simp only [List.foldl_cons, List.foldl_nil, ba_size]
      have h1 := numT_size v
      have h2 : foundB.size = 5 := rfl
      have h3 : sp1.size = 1 := rfl
      omega
    · have := nmd_size (n := 10) (by omega) resL_size k
      omega
def opN (k : Int) (key vl hi : Nat) (mo : Int) : ByteArray := if opT k key vl hi mo = ⟨#[]⟩ then none1 else opT k key vl hi mo
theorem opN_size (k : Int) (key vl hi : Nat) (mo : Int) : (opN k key vl hi mo).size ≤ 500 := by
  unfold opN
  split
  · decide
  · exact opT_size k key vl hi mo
/-- An event: its numbers, and its pairs, which lie where its slice says. -/
structure EvR where
  kd : Int
  th : Int
  id : Int
  at_ : Int
  k : Int
  key : Nat
  vl : Nat
  hi : Nat
  mo : Int
  rk : Int
  rv : Nat
  ps : List PairR
  A : Option Addr
  c : Nat
def EvR.cells (s : EvR) : List Value := [.int .i64 s.kd, .int .i64 s.th, .int .i64 s.id, .int .i64 s.at_, .int .i64 s.k, .int .u64 (s.key : Nat), .int .u64 (s.vl : Nat), .int .u64 (s.hi : Nat), .int .i64 s.mo, .int .i64 s.rk, .int .u64 (s.rv : Nat), .slice s.A s.ps.length s.c]
theorem EvR.cells_len (s : EvR) : (EvR.cells s).length = 12 := rfl
def evW (kd th id at_ : Int) (o r : ByteArray) : List ByteArray := [nmd evL kd, intT id, threadB, intT th, atB, intT at_, o] ++ (if kd = 2 then [r] else [])
def EvR.text (s : EvR) : ByteArray := joinT (evW s.kd s.th s.id s.at_ (opN s.k s.key s.vl s.hi s.mo) (resT s.rk s.rv s.ps))
theorem evW_size (kd th id at_ : Int) (o r : ByteArray) (h1 : o.size ≤ 500) (h2 : r.size ≤ 7000) : (joinT (evW kd th id at_ o r)).size ≤ 60000 := by
  have h3 := joinT_size_le (evW kd th id at_ o r) 7000 (fun x hx => by
    unfold evW at hx
    simp only [List.mem_append, List.mem_cons, List.not_mem_nil, or_false] at hx
    have := nmd_size (n := 10) (by omega) evL_size kd
    have := intT_size id
    have := intT_size th
    have := intT_size at_
    have a1 : threadB.size = 6 := rfl
    have a2 : atB.size = 2 := rfl
    rcases hx with h | h
    · rcases h with rfl | rfl | rfl | rfl | rfl | rfl | rfl <;> omega
    · split at h
      · simp only [List.mem_cons, List.not_mem_nil, or_false] at h
        subst h
        exact h2
      · cases h)
  have h4 : (evW kd th id at_ o r).length ≤ 8 := by
    unfold evW
    split <;> simp
  have := Nat.mul_le_mul_right (7000 + 1) h4
  omega
theorem EvR.text_size (s : EvR) (h : s.ps.length ≤ 50) : (EvR.text s).size ≤ 60000 := evW_size _ _ _ _ _ _ (opN_size _ _ _ _ _) (resT_size _ _ _ h)
end Go.Proofs.YtlnckjemfabckaaGreatDoor

/-
  script.Op, gleaningref28.Op.
-/
namespace Go.Proofs.YtlnckjemfabckaaGreatDoor
open Go.RowKit

set_option maxRecDepth 100000 in
set_option maxHeartbeats 4000000 in
theorem mright_any (k : Int) (key vl hi : Nat) (mo : Int) (w : World) : Calls Tryz.prog 103 #[.agg #[.int .i64 k, .int .u64 (key : Nat), .int .u64 (vl : Nat), .int .u64 (hi : Nat), .int .i64 mo]] w fun e w' => e = .returned (.bool (opRight k mo)) ∧ Below w.heap.size w w' := by
  have B0 := (Below.refl w.heap.size w).alloc (Nat.le_refl _) (.cells #[.int .i64 k, .int .u64 (key : Nat), .int .u64 (vl : Nat), .int .u64 (hi : Nat), .int .i64 mo] 48)
  have bx := Blk.new w 48 #[.int .i64 k, .int .u64 (key : Nat), .int .u64 (vl : Nat), .int .u64 (hi : Nat), .int .i64 mo]
  have mc := fun i => bx.cell i
  by_cases h4 : k = 4
  · subst h4
    by_cases h1 : 1 ≤ mo
    · have E := hide (show opRight 4 mo = decide (mo ≤ 1000) by simp [opRight, h1])
      generalize opRight 4 mo = R at *
      go_enter Tryz.func103, Tryz.ntmps103
      go_wp2_with fail
      go_ret
      exact ⟨by rw [E.out]; rfl, B0⟩
    · have E := hide (show opRight 4 mo = false by simp [opRight, h1])
      generalize opRight 4 mo = R at *
      go_enter Tryz.func103, Tryz.ntmps103
      go_wp2_with fail
      go_ret
      exact ⟨by rw [E.out]; rfl, B0⟩
  · have q4 : (k == 4) = false := by simpa using h4
    by_cases h1 : 1 ≤ k
    · have E := hide (show opRight k mo = decide (k ≤ 3) by simp [opRight, h1, h4])
      generalize opRight k mo = R at *
      clear h4
      go_enter Tryz.func103, Tryz.ntmps103
      go_wp2_with fail
      go_ret
      exact ⟨by rw [E.out]; rfl, B0⟩
    · have E := hide (show opRight k mo = false by simp [opRight, h1, h4])
      generalize opRight k mo = R at *
      clear h4
      go_enter Tryz.func103, Tryz.ntmps103
      go_wp2_with fail
      go_ret
      exact ⟨by rw [E.out]; rfl, B0⟩
set_option maxRecDepth 100000 in
set_option maxHeartbeats 4000000 in
theorem rright_any (k : Int) (key vl hi : Nat) (mo : Int) (w : World) : Calls Tryz.prog 106 #[.agg #[.int .i64 k, .int .u64 (key : Nat), .int .u64 (vl : Nat), .int .u64 (hi : Nat), .int .i64 mo]] w fun e w' => e = .returned (.bool (opRight k mo)) ∧ Below w.heap.size w w' := by
  have B0 := (Below.refl w.heap.size w).alloc (Nat.le_refl _) (.cells #[.int .i64 k, .int .u64 (key : Nat), .int .u64 (vl : Nat), .int .u64 (hi : Nat), .int .i64 mo] 48)
  have bx := Blk.new w 48 #[.int .i64 k, .int .u64 (key : Nat), .int .u64 (vl : Nat), .int .u64 (hi : Nat), .int .i64 mo]
  have mc := fun i => bx.cell i
  by_cases h4 : k = 4
  · subst h4
    by_cases h1 : 1 ≤ mo
    · have E := hide (show opRight 4 mo = decide (mo ≤ 1000) by simp [opRight, h1])
      generalize opRight 4 mo = R at *
      go_enter Tryz.func106, Tryz.ntmps106
      go_wp2_with fail
      go_ret
      exact ⟨by rw [E.out]; rfl, B0⟩
    · have E := hide (show opRight 4 mo = false by simp [opRight, h1])
      generalize opRight 4 mo = R at *
      go_enter Tryz.func106, Tryz.ntmps106
      go_wp2_with fail
      go_ret
      exact ⟨by rw [E.out]; rfl, B0⟩
  · have q4 : (k == 4) = false := by simpa using h4
    by_cases h1 : 1 ≤ k
    · have E := hide (show opRight k mo = decide (k ≤ 3) by simp [opRight, h1, h4])
      generalize opRight k mo = R at *
      clear h4
      go_enter Tryz.func106, Tryz.ntmps106
      go_wp2_with fail
      go_ret
      exact ⟨by rw [E.out]; rfl, B0⟩
    · have E := hide (show opRight k mo = false by simp [opRight, h1, h4])
      generalize opRight k mo = R at *
      clear h4
      go_enter Tryz.func106, Tryz.ntmps106
      go_wp2_with fail
      go_ret
      exact ⟨by rw [E.out]; rfl, B0⟩
set_option maxRecDepth 100000 in
set_option maxHeartbeats 4000000 in
theorem plain_2 (key vl hi : Nat) (mo : Int) (w : World) : Calls Tryz.prog 104 #[.agg #[.int .i64 2, .int .u64 (key : Nat), .int .u64 (vl : Nat), .int .u64 (hi : Nat), .int .i64 mo]] w fun e w' => e = .returned (.agg #[.int .i64 2, .int .u64 (key : Nat), .int .u64 (vl : Nat), .int .u64 0, .int .i64 0]) ∧ Below w.heap.size w w' := by
  go_enter Tryz.func104, Tryz.ntmps104
  go_wp2_with fail
  refine bodyPost_ret (v := .agg #[.int .i64 2, .int .u64 (key : Nat), .int .u64 (vl : Nat), .int .u64 0, .int .i64 0]) (by simp [results, Tryz.results104, go_sem]) rfl ⟨rfl, ?_⟩
  repeat (first | exact Below.refl _ _ | exact B0 | (refine Below.setCell ?_ (by first | (show w.heap.size ≤ w.heap.size; omega) | (show w.heap.size ≤ w.heap.size + 1; omega) | (show w.heap.size ≤ w.heap.size + 1 + 1; omega) | (show w.heap.size ≤ _; simp)) _) | (refine Below.alloc ?_ (by first | exact Nat.le_refl _ | (simp <;> omega)) _))
set_option maxRecDepth 100000 in
set_option maxHeartbeats 4000000 in
theorem plain_x (k : Int) (key vl hi : Nat) (mo : Int) (q2 : (k == 2) = false) (q4 : (k == 4) = false) (w : World) : Calls Tryz.prog 104 #[.agg #[.int .i64 k, .int .u64 (key : Nat), .int .u64 (vl : Nat), .int .u64 (hi : Nat), .int .i64 mo]] w fun e w' => e = .returned (.agg #[.int .i64 k, .int .u64 (key : Nat), .int .u64 0, .int .u64 0, .int .i64 0]) ∧ Below w.heap.size w w' := by
  go_enter Tryz.func104, Tryz.ntmps104
  go_wp2_with fail
  refine bodyPost_ret (v := .agg #[.int .i64 k, .int .u64 (key : Nat), .int .u64 0, .int .u64 0, .int .i64 0]) (by simp [results, Tryz.results104, go_sem]) rfl ⟨rfl, ?_⟩
  repeat (first | exact Below.refl _ _ | exact B0 | (refine Below.setCell ?_ (by first | (show w.heap.size ≤ w.heap.size; omega) | (show w.heap.size ≤ w.heap.size + 1; omega) | (show w.heap.size ≤ w.heap.size + 1 + 1; omega) | (show w.heap.size ≤ _; simp)) _) | (refine Below.alloc ?_ (by first | exact Nat.le_refl _ | (simp <;> omega)) _))
set_option maxRecDepth 100000 in
set_option maxHeartbeats 4000000 in
theorem plain_4 (key vl hi : Nat) (mo : Int) (w : World) : Calls Tryz.prog 104 #[.agg #[.int .i64 4, .int .u64 (key : Nat), .int .u64 (vl : Nat), .int .u64 (hi : Nat), .int .i64 mo]] w fun e w' => e = .returned (.agg #[.int .i64 4, .int .u64 (key : Nat), .int .u64 0, .int .u64 (hi : Nat), .int .i64 mo]) ∧ Below w.heap.size w w' := by
  have B0 := (((Below.refl w.heap.size w).alloc (Nat.le_refl _) (.cells #[.int .i64 4, .int .u64 (key : Nat), .int .u64 (vl : Nat), .int .u64 (hi : Nat), .int .i64 mo] 48)).alloc (by simp only [World.size_alloc]; omega) (.cells #[.int .i64 0, .int .u64 0, .int .u64 0, .int .u64 0, .int .i64 0] 48)).alloc (by simp only [World.size_alloc]; omega) (.cells #[.int .i64 4, .int .u64 (key : Nat), .int .u64 0, .int .u64 0, .int .i64 0] 48)
  have bx := ((Blk.new w 48 #[.int .i64 4, .int .u64 (key : Nat), .int .u64 (vl : Nat), .int .u64 (hi : Nat), .int .i64 mo]).alloc (.cells #[.int .i64 0, .int .u64 0, .int .u64 0, .int .u64 0, .int .i64 0] 48)).alloc (.cells #[.int .i64 4, .int .u64 (key : Nat), .int .u64 0, .int .u64 0, .int .i64 0] 48)
  have bo := (Blk.new (w.alloc (.cells #[.int .i64 4, .int .u64 (key : Nat), .int .u64 (vl : Nat), .int .u64 (hi : Nat), .int .i64 mo] 48)) 48 #[.int .i64 0, .int .u64 0, .int .u64 0, .int .u64 0, .int .i64 0]).alloc (.cells #[.int .i64 4, .int .u64 (key : Nat), .int .u64 0, .int .u64 0, .int .i64 0] 48)
  have b3 := Blk.new ((w.alloc (.cells #[.int .i64 4, .int .u64 (key : Nat), .int .u64 (vl : Nat), .int .u64 (hi : Nat), .int .i64 mo] 48)).alloc (.cells #[.int .i64 0, .int .u64 0, .int .u64 0, .int .u64 0, .int .i64 0] 48)) 48 #[.int .i64 4, .int .u64 (key : Nat), .int .u64 0, .int .u64 0, .int .i64 0]
  simp only [World.size_alloc] at bo b3
  go_enter Tryz.func104, Tryz.ntmps104
  go_wp2_with fail
  generalize ((w.alloc (.cells #[.int .i64 4, .int .u64 (key : Nat), .int .u64 (vl : Nat), .int .u64 (hi : Nat), .int .i64 mo] 48)).alloc (.cells #[.int .i64 0, .int .u64 0, .int .u64 0, .int .u64 0, .int .i64 0] 48)).alloc (.cells #[.int .i64 4, .int .u64 (key : Nat), .int .u64 0, .int .u64 0, .int .i64 0] 48) = w0 at *
  refine wp_region_heldZ [] (fun w' => w'.cell? ⟨w.heap.size, 3, none⟩ = some (.int .u64 (hi : Nat)) ∧ w'.cell? ⟨w.heap.size, 4, none⟩ = some (.int .i64 mo)) (by kernel_rfl) (by exact ⟨bx.cell 3, bx.cell 4⟩) (fun hHeld => ?_)
  replace bx := bx.drew
  replace bo := bo.drew
  replace b3 := b3.drew
  replace B0 := B0.drew
  generalize w0.drew = wd at *
  refine' wpAnyZ_takeA (i := 0) (v := ?_) (opAt rfl) (by kernel_rfl) (by kernel_rfl) (by kernel_rfl) (by kernel_rfl) (fun _ _ _ h => h) (by assumption) (by rfl) (fun w hSw => ?_) ?_
  rotate_left
  · (try dsimp only at hSw); go_simp; (try with_reducible rfl)
  try simp only [Act.put, List.setIfInBounds_toArray, List.set_cons_zero, List.set_cons_succ]
  refine' wpAnyZ_takeA (i := 1) (v := ?_) (opAt rfl) (by kernel_rfl) (by kernel_rfl) (by kernel_rfl) (by kernel_rfl) (fun _ _ _ h => h) (by assumption) (by rfl) (fun w hSw => ?_) ?_
  rotate_left
  · (try dsimp only at hSw); go_simp; (try with_reducible rfl)
  try simp only [Act.put, List.setIfInBounds_toArray, List.set_cons_zero, List.set_cons_succ]
  refine' wpAnyZ_takeA (i := 2) (v := ?_) (opAt rfl) (by kernel_rfl) (by kernel_rfl) (by kernel_rfl) (by kernel_rfl) (fun _ _ _ h => h) (by assumption) (by rfl) (fun w hSw => ?_) ?_
  rotate_left
  · (try dsimp only at hSw); go_simp; (try with_reducible rfl)
  try simp only [Act.put, List.setIfInBounds_toArray, List.set_cons_zero, List.set_cons_succ]
  refine' wpAnyZ_takeA (i := 3) (v := ?_) (opAt rfl) (by kernel_rfl) (by kernel_rfl) (by kernel_rfl) (by kernel_rfl) (fun _ _ _ h => h) (by assumption) (by rfl) (fun w hSw => ?_) ?_
  rotate_left
  · (try dsimp only at hSw); go_simp; (try with_reducible rfl)
  try simp only [Act.put, List.setIfInBounds_toArray, List.set_cons_zero, List.set_cons_succ]
  refine' wpAnyZ_takeA (i := 4) (v := ?_) (opAt rfl) (by kernel_rfl) (by kernel_rfl) (by kernel_rfl) (by kernel_rfl) (fun _ _ _ h => h) (by assumption) (by rfl) (fun w hSw => ?_) ?_
  rotate_left
  · (try dsimp only at hSw); go_simp; (try with_reducible rfl)
  try simp only [Act.put, List.setIfInBounds_toArray, List.set_cons_zero, List.set_cons_succ]
  refine wpAnyZ_ready (rs := [5]) (by kernel_rfl) (by simp) ?_
  refine AllReadyZ.cons (opAt rfl) (fun K hK => ?_) ?_
  · skip
    have z3 := fun i => b3.frozen i
    have y3 := fun i => b3.cell i
    go_simp
    clear z3 y3
    replace bx := bx.far (p := ⟨w.heap.size + 1 + 1, 3, none⟩) (by show w.heap.size ≠ w.heap.size + 1 + 1; omega) (.int .u64 (hi : Nat))
    replace bo := bo.far (p := ⟨w.heap.size + 1 + 1, 3, none⟩) (by show w.heap.size + 1 ≠ w.heap.size + 1 + 1; omega) (.int .u64 (hi : Nat))
    replace b3 := b3.set_ 3 (.int .u64 (hi : Nat))
    replace B0 := B0.setCell (p := ⟨w.heap.size + 1 + 1, 3, none⟩) (by show w.heap.size ≤ w.heap.size + 1 + 1; omega) (.int .u64 (hi : Nat))
    generalize wd.setCell ⟨w.heap.size + 1 + 1, 3, none⟩ (.int .u64 (hi : Nat)) = w1 at *
    refine hK.out _ _ (by exact ⟨bx.cell 3, bx.cell 4⟩) (fun hHeld => ?_)
    clear hK K
    try simp only [Act.put, List.setIfInBounds_toArray, List.set_cons_zero, List.set_cons_succ]
    refine' wpAnyZ_takeA (i := 6) (v := ?_) (opAt rfl) (by kernel_rfl) (by kernel_rfl) (by kernel_rfl) (by kernel_rfl) (fun _ _ _ h => h) (by assumption) (by rfl) (fun w hSw => ?_) ?_
    rotate_left
    · (try dsimp only at hSw); go_simp; (try with_reducible rfl)
    try simp only [Act.put, List.setIfInBounds_toArray, List.set_cons_zero, List.set_cons_succ]
    refine wpAnyZ_ready (rs := [7]) (by kernel_rfl) (by simp) ?_
    refine AllReadyZ.cons (opAt rfl) (fun K hK => ?_) ?_
    · skip
      have z3 := fun i => b3.frozen i
      have y3 := fun i => b3.cell i
      go_simp
      clear z3 y3
      replace bx := bx.far (p := ⟨w.heap.size + 1 + 1, 4, none⟩) (by show w.heap.size ≠ w.heap.size + 1 + 1; omega) (.int .i64 mo)
      replace bo := bo.far (p := ⟨w.heap.size + 1 + 1, 4, none⟩) (by show w.heap.size + 1 ≠ w.heap.size + 1 + 1; omega) (.int .i64 mo)
      replace b3 := b3.set_ 4 (.int .i64 mo)
      replace B0 := B0.setCell (p := ⟨w.heap.size + 1 + 1, 4, none⟩) (by show w.heap.size ≤ w.heap.size + 1 + 1; omega) (.int .i64 mo)
      generalize w1.setCell ⟨w.heap.size + 1 + 1, 4, none⟩ (.int .i64 mo) = w2 at *
      refine hK.out _ _ (by exact ⟨bx.cell 3, bx.cell 4⟩) (fun hHeld => ?_)
      clear hK K
      try simp only [Act.put, List.setIfInBounds_toArray, List.set_cons_zero, List.set_cons_succ]
      refine wpAnyZ_done (by kernel_rfl) ?_ _
      replace b3 : Blk w2 (w.heap.size + 1 + 1) 48 #[.int .i64 4, .int .u64 (key : Nat), .int .u64 0, .int .u64 (hi : Nat), .int .i64 mo] := b3
      have y3 := fun i => b3.cell i
      have zo := fun i => bo.frozen i
      have yo := fun i => bo.cell i
      go_wp2_with fail
      have m9 := fun i => (((((bo.set_ 0 (.int .i64 4)).set_ 1 (.int .u64 (key : Nat))).set_ 2 (.int .u64 0)).set_ 3 (.int .u64 (hi : Nat))).set_ 4 (.int .i64 mo)).cell i
      refine bodyPost_ret (v := .agg #[.int .i64 4, .int .u64 (key : Nat), .int .u64 0, .int .u64 (hi : Nat), .int .i64 mo]) (by simp [results, Tryz.results104, go_sem, m9]) rfl ⟨rfl, ?_⟩
      repeat (first | exact Below.refl _ _ | exact B0 | (refine Below.setCell ?_ (by first | (show w.heap.size ≤ w.heap.size; omega) | (show w.heap.size ≤ w.heap.size + 1; omega) | (show w.heap.size ≤ w.heap.size + 1 + 1; omega) | (show w.heap.size ≤ _; simp)) _) | (refine Below.alloc ?_ (by first | exact Nat.le_refl _ | (simp <;> omega)) _))
    exact AllReadyZ.nil
  exact AllReadyZ.nil
end Go.Proofs.YtlnckjemfabckaaGreatDoor

/-
  script.Op.
-/
namespace Go.Proofs.YtlnckjemfabckaaGreatDoor
open Go.RowKit

theorem join_own (base n c : Nat) (A : Option Addr) (ws : List ByteArray) (w : World) (ho : w.ownsRow base 9 1 (.slice A n c) n (strs ws)) (hn : 0 < n) (hs : (joinT ws).size ≤ 1000000) (hm : n ≤ 1000000) :
    Calls Tryz.prog 89 #[.slice A n c, .string ⟨#[32]⟩] w fun e w' => e = .returned (.string (joinT ws)) ∧ Below w.heap.size w w' := by
  have hl : ws.length = n := by have := ho.1; rw [strs_len] at this; omega
  rcases ho.2 with ⟨_, h0⟩ | ⟨g, cap, cur, hv, _, hg, hnc, _, hsz, ht⟩
  · omega
  injection hv with e1 e2 e3
  subst e1 e3
  have hlt : g < w.heap.size := Blk.lt hg
  have J := join_any g 0 c ws w (fun j x hx => by
    have h1 := cell_of_row w g j cur 9 (0, 0) hg
    rw [Nat.zero_add, h1]
    have h2 : (strs ws)[j]? = some (.string x) := by unfold strs; rw [List.getElem?_map, hx]; rfl
    have hj : j < ws.length := (List.getElem?_eq_some_iff.1 hx).1
    rw [← ht, List.getElem?_take] at h2
    rw [if_pos (by omega)] at h2
    rw [← Array.getElem?_toList]
    exact h2) hlt (by omega) (by omega) (by
      have : (joinT ws).size = (Lib.join (ws.map (·.data.toList)) [32]).length := by simp [joinT, ByteArray.size]
      omega)
  rw [hl] at J
  exact J
theorem kindS_ascii : ∀ (j : Nat) b, kindS.data.toList[j]? = some b → b.toNat < 128 := by
  intro j b h
  have : ∀ b ∈ kindS.data.toList, b.toNat < 128 := by decide
  exact this b (List.mem_of_getElem? h)
theorem kfields_any (w : World) (hT : Tab w) : Calls Tryz.prog 105 #[.string ⟨#[32, 103, 101, 116, 32, 112, 117, 116, 32, 100, 101, 108, 101, 116, 101, 32, 115, 99, 97, 110]⟩] w fun e w' => e = .returned (.slice (some ⟨w.heap.size, 0, none⟩) 4 4) ∧ w' = w.alloc (.cells #[.string ⟨#[103, 101, 116]⟩, .string ⟨#[112, 117, 116]⟩, .string ⟨#[100, 101, 108, 101, 116, 101]⟩, .string ⟨#[115, 99, 97, 110]⟩] 9) := by
  have F := fields_any kindS w (by decide) kindS_ascii hT.2
  have e1 : ((Lib.fields kindS.data.toList).map fun l => Value.string ⟨l.toArray⟩) = strs kindL := by
    rw [← kind_fields]
    simp [strs]
  have e2 : (Lib.fields kindS.data.toList).length = 4 := by
    have := congrArg List.length kind_fields
    rw [List.length_map] at this
    exact this
  rw [e1, e2] at F
  exact F
set_option maxRecDepth 100000 in
set_option maxHeartbeats 4000000 in
theorem sop_noR (k : Int) (key vl hi : Nat) (mo : Int) (w : World) (hR : opRight k mo = false) : Calls Tryz.prog 59 #[.agg #[.int .i64 k, .int .u64 (key : Nat), .int .u64 (vl : Nat), .int .u64 (hi : Nat), .int .i64 mo]] w fun e w' => e = .returned (.string ⟨#[]⟩) ∧ Below w.heap.size w w' := by
  have B0 := (Below.refl w.heap.size w).alloc (Nat.le_refl _) (.cells #[.int .i64 k, .int .u64 (key : Nat), .int .u64 (vl : Nat), .int .u64 (hi : Nat), .int .i64 mo] 48)
  have bx := Blk.new w 48 #[.int .i64 k, .int .u64 (key : Nat), .int .u64 (vl : Nat), .int .u64 (hi : Nat), .int .i64 mo]
  have RR := hide (fun w2 => mright_any k key vl hi mo w2)
  rw [hR] at RR
  clear hR
  go_enter Tryz.func59, Tryz.ntmps59
  go_wp2_with fail
  generalize w.alloc (.cells #[.int .i64 k, .int .u64 (key : Nat), .int .u64 (vl : Nat), .int .u64 (hi : Nat), .int .i64 mo] 48) = w0 at *
  refine wp_region_heldZ [] (fun w' => w'.cell? ⟨w.heap.size, 0, none⟩ = some (.int .i64 k) ∧ w'.cell? ⟨w.heap.size, 1, none⟩ = some (.int .u64 (key : Nat)) ∧ w'.cell? ⟨w.heap.size, 2, none⟩ = some (.int .u64 (vl : Nat)) ∧ w'.cell? ⟨w.heap.size, 3, none⟩ = some (.int .u64 (hi : Nat)) ∧ w'.cell? ⟨w.heap.size, 4, none⟩ = some (.int .i64 mo)) (by kernel_rfl) (by exact ⟨bx.cell 0, bx.cell 1, bx.cell 2, bx.cell 3, bx.cell 4⟩) (fun hHeld => ?_)
  replace bx := bx.drew
  replace B0 := B0.drew
  generalize w0.drew = wd at *
  refine' wpAnyZ_takeA (i := 0) (v := ?_) (opAt rfl) (by kernel_rfl) (by kernel_rfl) (by kernel_rfl) (by kernel_rfl) (fun _ _ _ h => h) (by assumption) (by rfl) (fun w hSw => ?_) ?_
  rotate_left
  · (try dsimp only at hSw); go_simp; (try with_reducible rfl)
  try simp only [Act.put, List.setIfInBounds_toArray, List.set_cons_zero, List.set_cons_succ]
  refine wpAnyZ_ready (rs := [1]) (by kernel_rfl) (by simp) ?_
  refine AllReadyZ.cons (opAt rfl) (fun K hK => ?_) ?_
  · skip
    go_simp
    refine (RR.out _).mono ?_
    rintro e w1 ⟨rfl, hb1⟩
    replace B0 := B0.trans (hb1.mono (Nat.le_of_lt bx.lt))
    replace bx := bx.below hb1 bx.lt
    clear hb1
    try go_wp2_with fail
    refine hK.out _ _ (by exact ⟨bx.cell 0, bx.cell 1, bx.cell 2, bx.cell 3, bx.cell 4⟩) (fun hHeld => ?_)
    clear hK K
    try simp only [Act.put, List.setIfInBounds_toArray, List.set_cons_zero, List.set_cons_succ]
    refine' wpAnyZ_takeA (i := 2) (v := ?_) (opAt rfl) (by kernel_rfl) (by kernel_rfl) (by kernel_rfl) (by kernel_rfl) (fun _ _ _ h => h) (by assumption) (by rfl) (fun w hSw => ?_) ?_
    rotate_left
    · (try dsimp only at hSw); go_simp; (try with_reducible rfl)
    try simp only [Act.put, List.setIfInBounds_toArray, List.set_cons_zero, List.set_cons_succ]
    refine' wpAnyZ_takeA (i := 3) (v := ?_) (opAt rfl) (by kernel_rfl) (by kernel_rfl) (by kernel_rfl) (by kernel_rfl) (fun _ _ _ h => h) (by assumption) (by rfl) (fun w hSw => ?_) ?_
    rotate_left
    · (try dsimp only at hSw); go_simp; (try with_reducible rfl)
    try simp only [Act.put, List.setIfInBounds_toArray, List.set_cons_zero, List.set_cons_succ]
    refine' wpAnyZ_skipA (i := 4) _ rfl (opAt rfl) (by kernel_rfl) (by kernel_rfl) (by kernel_rfl) (by kernel_rfl) (fun _ _ _ h => h) (by assumption) (by rfl) ?_
    try simp only [Act.put, List.setIfInBounds_toArray, List.set_cons_zero, List.set_cons_succ]
    refine' wpAnyZ_skipA (i := 5) _ rfl (opAt rfl) (by kernel_rfl) (by kernel_rfl) (by kernel_rfl) (by kernel_rfl) (fun _ _ _ h => h) (by assumption) (by rfl) ?_
    try simp only [Act.put, List.setIfInBounds_toArray, List.set_cons_zero, List.set_cons_succ]
    refine' wpAnyZ_skipA (i := 6) _ rfl (opAt rfl) (by kernel_rfl) (by kernel_rfl) (by kernel_rfl) (by kernel_rfl) (fun _ _ _ h => h) (by assumption) (by rfl) ?_
    try simp only [Act.put, List.setIfInBounds_toArray, List.set_cons_zero, List.set_cons_succ]
    refine' wpAnyZ_skipA (i := 7) _ rfl (opAt rfl) (by kernel_rfl) (by kernel_rfl) (by kernel_rfl) (by kernel_rfl) (fun _ _ _ h => h) (by assumption) (by rfl) ?_
    try simp only [Act.put, List.setIfInBounds_toArray, List.set_cons_zero, List.set_cons_succ]
    refine' wpAnyZ_takeA (i := 8) (v := ?_) (opAt rfl) (by kernel_rfl) (by kernel_rfl) (by kernel_rfl) (by kernel_rfl) (fun _ _ _ h => h) (by assumption) (by rfl) (fun w hSw => ?_) ?_
    rotate_left
    · (try dsimp only at hSw); go_simp; (try with_reducible rfl)
    try simp only [Act.put, List.setIfInBounds_toArray, List.set_cons_zero, List.set_cons_succ]
    refine wpAnyZ_done (by kernel_rfl) ?_ _
    go_wp2_with fail
    go_ret
    exact ⟨rfl, B0⟩
  exact AllReadyZ.nil
set_option maxRecDepth 100000 in
set_option maxHeartbeats 4000000 in
theorem sop_noV (k : Int) (key vl hi : Nat) (mo : Int) (pv ph pm : Int) (w : World) (hR : opRight k mo = true) (HP : ∀ w2, Calls Tryz.prog 104 #[.agg #[.int .i64 k, .int .u64 (key : Nat), .int .u64 (vl : Nat), .int .u64 (hi : Nat), .int .i64 mo]] w2 fun e w' => e = .returned (.agg #[.int .i64 k, .int .u64 (key : Nat), .int .u64 pv, .int .u64 ph, .int .i64 pm]) ∧ Below w2.heap.size w2 w') (hv : ((vl : Int) == pv) = false) : Calls Tryz.prog 59 #[.agg #[.int .i64 k, .int .u64 (key : Nat), .int .u64 (vl : Nat), .int .u64 (hi : Nat), .int .i64 mo]] w fun e w' => e = .returned (.string ⟨#[]⟩) ∧ Below w.heap.size w w' := by
  have B0 := (Below.refl w.heap.size w).alloc (Nat.le_refl _) (.cells #[.int .i64 k, .int .u64 (key : Nat), .int .u64 (vl : Nat), .int .u64 (hi : Nat), .int .i64 mo] 48)
  have bx := Blk.new w 48 #[.int .i64 k, .int .u64 (key : Nat), .int .u64 (vl : Nat), .int .u64 (hi : Nat), .int .i64 mo]
  have RR := hide (fun w2 => mright_any k key vl hi mo w2)
  rw [hR] at RR
  have HPP := hide HP
  clear hR HP
  go_enter Tryz.func59, Tryz.ntmps59
  go_wp2_with fail
  generalize w.alloc (.cells #[.int .i64 k, .int .u64 (key : Nat), .int .u64 (vl : Nat), .int .u64 (hi : Nat), .int .i64 mo] 48) = w0 at *
  refine wp_region_heldZ [] (fun w' => w'.cell? ⟨w.heap.size, 0, none⟩ = some (.int .i64 k) ∧ w'.cell? ⟨w.heap.size, 1, none⟩ = some (.int .u64 (key : Nat)) ∧ w'.cell? ⟨w.heap.size, 2, none⟩ = some (.int .u64 (vl : Nat)) ∧ w'.cell? ⟨w.heap.size, 3, none⟩ = some (.int .u64 (hi : Nat)) ∧ w'.cell? ⟨w.heap.size, 4, none⟩ = some (.int .i64 mo)) (by kernel_rfl) (by exact ⟨bx.cell 0, bx.cell 1, bx.cell 2, bx.cell 3, bx.cell 4⟩) (fun hHeld => ?_)
  replace bx := bx.drew
  replace B0 := B0.drew
  generalize w0.drew = wd at *
  refine' wpAnyZ_takeA (i := 0) (v := ?_) (opAt rfl) (by kernel_rfl) (by kernel_rfl) (by kernel_rfl) (by kernel_rfl) (fun _ _ _ h => h) (by assumption) (by rfl) (fun w hSw => ?_) ?_
  rotate_left
  · (try dsimp only at hSw); go_simp; (try with_reducible rfl)
  try simp only [Act.put, List.setIfInBounds_toArray, List.set_cons_zero, List.set_cons_succ]
  refine wpAnyZ_ready (rs := [1]) (by kernel_rfl) (by simp) ?_
  refine AllReadyZ.cons (opAt rfl) (fun K hK => ?_) ?_
  · skip
    go_simp
    refine (RR.out _).mono ?_
    rintro e w1 ⟨rfl, hb1⟩
    replace B0 := B0.trans (hb1.mono (Nat.le_of_lt bx.lt))
    replace bx := bx.below hb1 bx.lt
    clear hb1
    try go_wp2_with fail
    refine hK.out _ _ (by exact ⟨bx.cell 0, bx.cell 1, bx.cell 2, bx.cell 3, bx.cell 4⟩) (fun hHeld => ?_)
    clear hK K
    try simp only [Act.put, List.setIfInBounds_toArray, List.set_cons_zero, List.set_cons_succ]
    refine' wpAnyZ_takeA (i := 2) (v := ?_) (opAt rfl) (by kernel_rfl) (by kernel_rfl) (by kernel_rfl) (by kernel_rfl) (fun _ _ _ h => h) (by assumption) (by rfl) (fun w hSw => ?_) ?_
    rotate_left
    · (try dsimp only at hSw); go_simp; (try with_reducible rfl)
    try simp only [Act.put, List.setIfInBounds_toArray, List.set_cons_zero, List.set_cons_succ]
    refine' wpAnyZ_takeA (i := 3) (v := ?_) (opAt rfl) (by kernel_rfl) (by kernel_rfl) (by kernel_rfl) (by kernel_rfl) (fun _ _ _ h => h) (by assumption) (by rfl) (fun w hSw => ?_) ?_
    rotate_left
    · (try dsimp only at hSw); go_simp; (try with_reducible rfl)
    try simp only [Act.put, List.setIfInBounds_toArray, List.set_cons_zero, List.set_cons_succ]
    refine' wpAnyZ_takeA (i := 4) (v := ?_) (opAt rfl) (by kernel_rfl) (by kernel_rfl) (by kernel_rfl) (by kernel_rfl) (fun _ _ _ h => h) (by assumption) (by rfl) (fun w hSw => ?_) ?_
    rotate_left
    · (try dsimp only at hSw); go_simp; (try with_reducible rfl)
    try simp only [Act.put, List.setIfInBounds_toArray, List.set_cons_zero, List.set_cons_succ]
    refine' wpAnyZ_takeA (i := 5) (v := ?_) (opAt rfl) (by kernel_rfl) (by kernel_rfl) (by kernel_rfl) (by kernel_rfl) (fun _ _ _ h => h) (by assumption) (by rfl) (fun w hSw => ?_) ?_
    rotate_left
    · (try dsimp only at hSw); go_simp; (try with_reducible rfl)
    try simp only [Act.put, List.setIfInBounds_toArray, List.set_cons_zero, List.set_cons_succ]
    refine wpAnyZ_ready (rs := [6]) (by kernel_rfl) (by simp) ?_
    refine AllReadyZ.cons (opAt rfl) (fun K hK => ?_) ?_
    · skip
      go_simp
      refine (HPP.out _).mono ?_
      rintro e w2 ⟨rfl, hb1⟩
      replace B0 := B0.trans (hb1.mono (Nat.le_of_lt bx.lt))
      replace bx := bx.below hb1 bx.lt
      clear hb1
      try go_wp2_with fail
      refine hK.out _ _ (by exact ⟨bx.cell 0, bx.cell 1, bx.cell 2, bx.cell 3, bx.cell 4⟩) (fun hHeld => ?_)
      clear hK K
      try simp only [Act.put, List.setIfInBounds_toArray, List.set_cons_zero, List.set_cons_succ]
      refine' wpAnyZ_takeA (i := 7) (v := ?_) (opAt rfl) (by kernel_rfl) (by kernel_rfl) (by kernel_rfl) (by kernel_rfl) (fun _ _ _ h => h) (by assumption) (by rfl) (fun w hSw => ?_) ?_
      rotate_left
      · (try dsimp only at hSw); go_simp; (try with_reducible rfl)
      try simp only [Act.put, List.setIfInBounds_toArray, List.set_cons_zero, List.set_cons_succ]
      refine' wpAnyZ_takeA (i := 8) (v := ?_) (opAt rfl) (by kernel_rfl) (by kernel_rfl) (by kernel_rfl) (by kernel_rfl) (fun _ _ _ h => h) (by assumption) (by rfl) (fun w hSw => ?_) ?_
      rotate_left
      · (try dsimp only at hSw); go_simp; (try with_reducible rfl)
      try simp only [Act.put, List.setIfInBounds_toArray, List.set_cons_zero, List.set_cons_succ]
      refine wpAnyZ_done (by kernel_rfl) ?_ _
      (try simp only [hv, Bool.false_and, Bool.and_false, Bool.not_false])
      go_wp2_with fail
      go_ret
      exact ⟨rfl, B0⟩
    exact AllReadyZ.nil
  exact AllReadyZ.nil
set_option maxRecDepth 100000 in
set_option maxHeartbeats 4000000 in
theorem sop_noH (k : Int) (key vl hi : Nat) (mo : Int) (pv ph pm : Int) (w : World) (hR : opRight k mo = true) (HP : ∀ w2, Calls Tryz.prog 104 #[.agg #[.int .i64 k, .int .u64 (key : Nat), .int .u64 (vl : Nat), .int .u64 (hi : Nat), .int .i64 mo]] w2 fun e w' => e = .returned (.agg #[.int .i64 k, .int .u64 (key : Nat), .int .u64 pv, .int .u64 ph, .int .i64 pm]) ∧ Below w2.heap.size w2 w') (hv : ((hi : Int) == ph) = false) : Calls Tryz.prog 59 #[.agg #[.int .i64 k, .int .u64 (key : Nat), .int .u64 (vl : Nat), .int .u64 (hi : Nat), .int .i64 mo]] w fun e w' => e = .returned (.string ⟨#[]⟩) ∧ Below w.heap.size w w' := by
  have B0 := (Below.refl w.heap.size w).alloc (Nat.le_refl _) (.cells #[.int .i64 k, .int .u64 (key : Nat), .int .u64 (vl : Nat), .int .u64 (hi : Nat), .int .i64 mo] 48)
  have bx := Blk.new w 48 #[.int .i64 k, .int .u64 (key : Nat), .int .u64 (vl : Nat), .int .u64 (hi : Nat), .int .i64 mo]
  have RR := hide (fun w2 => mright_any k key vl hi mo w2)
  rw [hR] at RR
  have HPP := hide HP
  clear hR HP
  go_enter Tryz.func59, Tryz.ntmps59
  go_wp2_with fail
  generalize w.alloc (.cells #[.int .i64 k, .int .u64 (key : Nat), .int .u64 (vl : Nat), .int .u64 (hi : Nat), .int .i64 mo] 48) = w0 at *
  refine wp_region_heldZ [] (fun w' => w'.cell? ⟨w.heap.size, 0, none⟩ = some (.int .i64 k) ∧ w'.cell? ⟨w.heap.size, 1, none⟩ = some (.int .u64 (key : Nat)) ∧ w'.cell? ⟨w.heap.size, 2, none⟩ = some (.int .u64 (vl : Nat)) ∧ w'.cell? ⟨w.heap.size, 3, none⟩ = some (.int .u64 (hi : Nat)) ∧ w'.cell? ⟨w.heap.size, 4, none⟩ = some (.int .i64 mo)) (by kernel_rfl) (by exact ⟨bx.cell 0, bx.cell 1, bx.cell 2, bx.cell 3, bx.cell 4⟩) (fun hHeld => ?_)
  replace bx := bx.drew
  replace B0 := B0.drew
  generalize w0.drew = wd at *
  refine' wpAnyZ_takeA (i := 0) (v := ?_) (opAt rfl) (by kernel_rfl) (by kernel_rfl) (by kernel_rfl) (by kernel_rfl) (fun _ _ _ h => h) (by assumption) (by rfl) (fun w hSw => ?_) ?_
  rotate_left
  · (try dsimp only at hSw); go_simp; (try with_reducible rfl)
  try simp only [Act.put, List.setIfInBounds_toArray, List.set_cons_zero, List.set_cons_succ]
  refine wpAnyZ_ready (rs := [1]) (by kernel_rfl) (by simp) ?_
  refine AllReadyZ.cons (opAt rfl) (fun K hK => ?_) ?_
  · skip
    go_simp
    refine (RR.out _).mono ?_
    rintro e w1 ⟨rfl, hb1⟩
    replace B0 := B0.trans (hb1.mono (Nat.le_of_lt bx.lt))
    replace bx := bx.below hb1 bx.lt
    clear hb1
    try go_wp2_with fail
    refine hK.out _ _ (by exact ⟨bx.cell 0, bx.cell 1, bx.cell 2, bx.cell 3, bx.cell 4⟩) (fun hHeld => ?_)
    clear hK K
    try simp only [Act.put, List.setIfInBounds_toArray, List.set_cons_zero, List.set_cons_succ]
    refine' wpAnyZ_takeA (i := 2) (v := ?_) (opAt rfl) (by kernel_rfl) (by kernel_rfl) (by kernel_rfl) (by kernel_rfl) (fun _ _ _ h => h) (by assumption) (by rfl) (fun w hSw => ?_) ?_
    rotate_left
    · (try dsimp only at hSw); go_simp; (try with_reducible rfl)
    try simp only [Act.put, List.setIfInBounds_toArray, List.set_cons_zero, List.set_cons_succ]
    refine' wpAnyZ_takeA (i := 3) (v := ?_) (opAt rfl) (by kernel_rfl) (by kernel_rfl) (by kernel_rfl) (by kernel_rfl) (fun _ _ _ h => h) (by assumption) (by rfl) (fun w hSw => ?_) ?_
    rotate_left
    · (try dsimp only at hSw); go_simp; (try with_reducible rfl)
    try simp only [Act.put, List.setIfInBounds_toArray, List.set_cons_zero, List.set_cons_succ]
    refine' wpAnyZ_takeA (i := 4) (v := ?_) (opAt rfl) (by kernel_rfl) (by kernel_rfl) (by kernel_rfl) (by kernel_rfl) (fun _ _ _ h => h) (by assumption) (by rfl) (fun w hSw => ?_) ?_
    rotate_left
    · (try dsimp only at hSw); go_simp; (try with_reducible rfl)
    try simp only [Act.put, List.setIfInBounds_toArray, List.set_cons_zero, List.set_cons_succ]
    refine' wpAnyZ_takeA (i := 5) (v := ?_) (opAt rfl) (by kernel_rfl) (by kernel_rfl) (by kernel_rfl) (by kernel_rfl) (fun _ _ _ h => h) (by assumption) (by rfl) (fun w hSw => ?_) ?_
    rotate_left
    · (try dsimp only at hSw); go_simp; (try with_reducible rfl)
    try simp only [Act.put, List.setIfInBounds_toArray, List.set_cons_zero, List.set_cons_succ]
    refine wpAnyZ_ready (rs := [6]) (by kernel_rfl) (by simp) ?_
    refine AllReadyZ.cons (opAt rfl) (fun K hK => ?_) ?_
    · skip
      go_simp
      refine (HPP.out _).mono ?_
      rintro e w2 ⟨rfl, hb1⟩
      replace B0 := B0.trans (hb1.mono (Nat.le_of_lt bx.lt))
      replace bx := bx.below hb1 bx.lt
      clear hb1
      try go_wp2_with fail
      refine hK.out _ _ (by exact ⟨bx.cell 0, bx.cell 1, bx.cell 2, bx.cell 3, bx.cell 4⟩) (fun hHeld => ?_)
      clear hK K
      try simp only [Act.put, List.setIfInBounds_toArray, List.set_cons_zero, List.set_cons_succ]
      refine' wpAnyZ_takeA (i := 7) (v := ?_) (opAt rfl) (by kernel_rfl) (by kernel_rfl) (by kernel_rfl) (by kernel_rfl) (fun _ _ _ h => h) (by assumption) (by rfl) (fun w hSw => ?_) ?_
      rotate_left
      · (try dsimp only at hSw); go_simp; (try with_reducible rfl)
      try simp only [Act.put, List.setIfInBounds_toArray, List.set_cons_zero, List.set_cons_succ]
      refine' wpAnyZ_takeA (i := 8) (v := ?_) (opAt rfl) (by kernel_rfl) (by kernel_rfl) (by kernel_rfl) (by kernel_rfl) (fun _ _ _ h => h) (by assumption) (by rfl) (fun w hSw => ?_) ?_
      rotate_left
      · (try dsimp only at hSw); go_simp; (try with_reducible rfl)
      try simp only [Act.put, List.setIfInBounds_toArray, List.set_cons_zero, List.set_cons_succ]
      refine wpAnyZ_done (by kernel_rfl) ?_ _
      (try simp only [hv, Bool.false_and, Bool.and_false, Bool.not_false])
      go_wp2_with fail
      go_ret
      exact ⟨rfl, B0⟩
    exact AllReadyZ.nil
  exact AllReadyZ.nil
set_option maxRecDepth 100000 in
set_option maxHeartbeats 4000000 in
theorem sop_noM (k : Int) (key vl hi : Nat) (mo : Int) (pv ph pm : Int) (w : World) (hR : opRight k mo = true) (HP : ∀ w2, Calls Tryz.prog 104 #[.agg #[.int .i64 k, .int .u64 (key : Nat), .int .u64 (vl : Nat), .int .u64 (hi : Nat), .int .i64 mo]] w2 fun e w' => e = .returned (.agg #[.int .i64 k, .int .u64 (key : Nat), .int .u64 pv, .int .u64 ph, .int .i64 pm]) ∧ Below w2.heap.size w2 w') (hv : (mo == pm) = false) : Calls Tryz.prog 59 #[.agg #[.int .i64 k, .int .u64 (key : Nat), .int .u64 (vl : Nat), .int .u64 (hi : Nat), .int .i64 mo]] w fun e w' => e = .returned (.string ⟨#[]⟩) ∧ Below w.heap.size w w' := by
  have B0 := (Below.refl w.heap.size w).alloc (Nat.le_refl _) (.cells #[.int .i64 k, .int .u64 (key : Nat), .int .u64 (vl : Nat), .int .u64 (hi : Nat), .int .i64 mo] 48)
  have bx := Blk.new w 48 #[.int .i64 k, .int .u64 (key : Nat), .int .u64 (vl : Nat), .int .u64 (hi : Nat), .int .i64 mo]
  have RR := hide (fun w2 => mright_any k key vl hi mo w2)
  rw [hR] at RR
  have HPP := hide HP
  clear hR HP
  go_enter Tryz.func59, Tryz.ntmps59
  go_wp2_with fail
  generalize w.alloc (.cells #[.int .i64 k, .int .u64 (key : Nat), .int .u64 (vl : Nat), .int .u64 (hi : Nat), .int .i64 mo] 48) = w0 at *
  refine wp_region_heldZ [] (fun w' => w'.cell? ⟨w.heap.size, 0, none⟩ = some (.int .i64 k) ∧ w'.cell? ⟨w.heap.size, 1, none⟩ = some (.int .u64 (key : Nat)) ∧ w'.cell? ⟨w.heap.size, 2, none⟩ = some (.int .u64 (vl : Nat)) ∧ w'.cell? ⟨w.heap.size, 3, none⟩ = some (.int .u64 (hi : Nat)) ∧ w'.cell? ⟨w.heap.size, 4, none⟩ = some (.int .i64 mo)) (by kernel_rfl) (by exact ⟨bx.cell 0, bx.cell 1, bx.cell 2, bx.cell 3, bx.cell 4⟩) (fun hHeld => ?_)
  replace bx := bx.drew
  replace B0 := B0.drew
  generalize w0.drew = wd at *
  refine' wpAnyZ_takeA (i := 0) (v := ?_) (opAt rfl) (by kernel_rfl) (by kernel_rfl) (by kernel_rfl) (by kernel_rfl) (fun _ _ _ h => h) (by assumption) (by rfl) (fun w hSw => ?_) ?_
  rotate_left
  · (try dsimp only at hSw); go_simp; (try with_reducible rfl)
  try simp only [Act.put, List.setIfInBounds_toArray, List.set_cons_zero, List.set_cons_succ]
  refine wpAnyZ_ready (rs := [1]) (by kernel_rfl) (by simp) ?_
  refine AllReadyZ.cons (opAt rfl) (fun K hK => ?_) ?_
  · skip
    go_simp
    refine (RR.out _).mono ?_
    rintro e w1 ⟨rfl, hb1⟩
    replace B0 := B0.trans (hb1.mono (Nat.le_of_lt bx.lt))
    replace bx := bx.below hb1 bx.lt
    clear hb1
    try go_wp2_with fail
    refine hK.out _ _ (by exact ⟨bx.cell 0, bx.cell 1, bx.cell 2, bx.cell 3, bx.cell 4⟩) (fun hHeld => ?_)
    clear hK K
    try simp only [Act.put, List.setIfInBounds_toArray, List.set_cons_zero, List.set_cons_succ]
    refine' wpAnyZ_takeA (i := 2) (v := ?_) (opAt rfl) (by kernel_rfl) (by kernel_rfl) (by kernel_rfl) (by kernel_rfl) (fun _ _ _ h => h) (by assumption) (by rfl) (fun w hSw => ?_) ?_
    rotate_left
    · (try dsimp only at hSw); go_simp; (try with_reducible rfl)
    try simp only [Act.put, List.setIfInBounds_toArray, List.set_cons_zero, List.set_cons_succ]
    refine' wpAnyZ_takeA (i := 3) (v := ?_) (opAt rfl) (by kernel_rfl) (by kernel_rfl) (by kernel_rfl) (by kernel_rfl) (fun _ _ _ h => h) (by assumption) (by rfl) (fun w hSw => ?_) ?_
    rotate_left
    · (try dsimp only at hSw); go_simp; (try with_reducible rfl)
    try simp only [Act.put, List.setIfInBounds_toArray, List.set_cons_zero, List.set_cons_succ]
    refine' wpAnyZ_takeA (i := 4) (v := ?_) (opAt rfl) (by kernel_rfl) (by kernel_rfl) (by kernel_rfl) (by kernel_rfl) (fun _ _ _ h => h) (by assumption) (by rfl) (fun w hSw => ?_) ?_
    rotate_left
    · (try dsimp only at hSw); go_simp; (try with_reducible rfl)
    try simp only [Act.put, List.setIfInBounds_toArray, List.set_cons_zero, List.set_cons_succ]
    refine' wpAnyZ_takeA (i := 5) (v := ?_) (opAt rfl) (by kernel_rfl) (by kernel_rfl) (by kernel_rfl) (by kernel_rfl) (fun _ _ _ h => h) (by assumption) (by rfl) (fun w hSw => ?_) ?_
    rotate_left
    · (try dsimp only at hSw); go_simp; (try with_reducible rfl)
    try simp only [Act.put, List.setIfInBounds_toArray, List.set_cons_zero, List.set_cons_succ]
    refine wpAnyZ_ready (rs := [6]) (by kernel_rfl) (by simp) ?_
    refine AllReadyZ.cons (opAt rfl) (fun K hK => ?_) ?_
    · skip
      go_simp
      refine (HPP.out _).mono ?_
      rintro e w2 ⟨rfl, hb1⟩
      replace B0 := B0.trans (hb1.mono (Nat.le_of_lt bx.lt))
      replace bx := bx.below hb1 bx.lt
      clear hb1
      try go_wp2_with fail
      refine hK.out _ _ (by exact ⟨bx.cell 0, bx.cell 1, bx.cell 2, bx.cell 3, bx.cell 4⟩) (fun hHeld => ?_)
      clear hK K
      try simp only [Act.put, List.setIfInBounds_toArray, List.set_cons_zero, List.set_cons_succ]
      refine' wpAnyZ_takeA (i := 7) (v := ?_) (opAt rfl) (by kernel_rfl) (by kernel_rfl) (by kernel_rfl) (by kernel_rfl) (fun _ _ _ h => h) (by assumption) (by rfl) (fun w hSw => ?_) ?_
      rotate_left
      · (try dsimp only at hSw); go_simp; (try with_reducible rfl)
      try simp only [Act.put, List.setIfInBounds_toArray, List.set_cons_zero, List.set_cons_succ]
      refine' wpAnyZ_takeA (i := 8) (v := ?_) (opAt rfl) (by kernel_rfl) (by kernel_rfl) (by kernel_rfl) (by kernel_rfl) (fun _ _ _ h => h) (by assumption) (by rfl) (fun w hSw => ?_) ?_
      rotate_left
      · (try dsimp only at hSw); go_simp; (try with_reducible rfl)
      try simp only [Act.put, List.setIfInBounds_toArray, List.set_cons_zero, List.set_cons_succ]
      refine wpAnyZ_done (by kernel_rfl) ?_ _
      (try simp only [hv, Bool.false_and, Bool.and_false, Bool.not_false])
      go_wp2_with fail
      go_ret
      exact ⟨rfl, B0⟩
    exact AllReadyZ.nil
  exact AllReadyZ.nil
set_option maxRecDepth 100000 in
set_option maxHeartbeats 4000000 in
theorem sop_1 (key : Nat) (w : World) (hT : Tab w) (h1 : key < 18446744073709551616) : Calls Tryz.prog 59 #[.agg #[.int .i64 1, .int .u64 (key : Nat), .int .u64 0, .int .u64 0, .int .i64 0]] w fun e w' => e = .returned (.string (joinT [nmd kindL 1, numT key])) ∧ Below w.heap.size w w' := by
  have B0 := (Below.refl w.heap.size w).alloc (Nat.le_refl _) (.cells #[.int .i64 1, .int .u64 (key : Nat), .int .u64 0, .int .u64 0, .int .i64 0] 48)
  have bx := Blk.new w 48 #[.int .i64 1, .int .u64 (key : Nat), .int .u64 0, .int .u64 0, .int .i64 0]
  obtain ⟨i0, hi0, hz0, hs0, hb0⟩ := info_parts infoStr
  have RR := hide (fun w2 => mright_any 1 key 0 0 0 w2)
  rw [show opRight 1 0 = true from rfl] at RR
  have PL := hide (fun w2 => plain_x 1 key 0 0 0 rfl rfl w2)
  rw [show ((0 : Nat) : Int) = 0 from rfl] at PL RR
  have KF := hide (fun w2 (hb : Below w.heap.size w w2) => kfields_any w2 (hT.below hb))
  have T1 := hide (fun w2 => text_any key w2 h1)
  rw [show strOfNums (form 10 key) = numT key from rfl] at T1
  have HSZ := hide (show (joinT [nmd kindL 1, numT key]).size ≤ 500 from opW_size 1 key 0 0 0)
  rw [show nmd kindL 1 = ⟨#[103, 101, 116]⟩ from rfl] at HSZ ⊢
  generalize numT key = tk at *
  have JO := hide (fun A c w2 (ho : w2.ownsRow (w.heap.size + 1) 9 1 (.slice A (2) c) (2) (strs [⟨#[103, 101, 116]⟩, tk])) => join_own (w.heap.size + 1) (2) c A _ w2 ho (by omega) (by have := HSZ.out; omega) (by omega))
  generalize joinT [⟨#[103, 101, 116]⟩, tk] = Q at *
  clear hT h1
  go_enter Tryz.func59, Tryz.ntmps59
  go_wp2_with fail
  generalize w.alloc (.cells #[.int .i64 1, .int .u64 (key : Nat), .int .u64 0, .int .u64 0, .int .i64 0] 48) = w0 at *
  refine wp_region_heldZ [] (fun w' => w'.cell? ⟨w.heap.size, 0, none⟩ = some (.int .i64 1) ∧ w'.cell? ⟨w.heap.size, 1, none⟩ = some (.int .u64 (key : Nat)) ∧ w'.cell? ⟨w.heap.size, 2, none⟩ = some (.int .u64 0) ∧ w'.cell? ⟨w.heap.size, 3, none⟩ = some (.int .u64 0) ∧ w'.cell? ⟨w.heap.size, 4, none⟩ = some (.int .i64 0)) (by kernel_rfl) (by exact ⟨bx.cell 0, bx.cell 1, bx.cell 2, bx.cell 3, bx.cell 4⟩) (fun hHeld => ?_)
  replace bx := bx.drew
  replace B0 := B0.drew
  generalize w0.drew = wd at *
  refine' wpAnyZ_takeA (i := 0) (v := ?_) (opAt rfl) (by kernel_rfl) (by kernel_rfl) (by kernel_rfl) (by kernel_rfl) (fun _ _ _ h => h) (by assumption) (by rfl) (fun w hSw => ?_) ?_
  rotate_left
  · (try dsimp only at hSw); go_simp; (try with_reducible rfl)
  try simp only [Act.put, List.setIfInBounds_toArray, List.set_cons_zero, List.set_cons_succ]
  refine wpAnyZ_ready (rs := [1]) (by kernel_rfl) (by simp) ?_
  refine AllReadyZ.cons (opAt rfl) (fun K hK => ?_) ?_
  · skip
    go_simp
    refine (RR.out _).mono ?_
    rintro e w1 ⟨rfl, hb1⟩
    replace B0 := B0.trans (hb1.mono (Nat.le_of_lt bx.lt))
    replace bx := bx.below hb1 bx.lt
    clear hb1
    try go_wp2_with fail
    refine hK.out _ _ (by exact ⟨bx.cell 0, bx.cell 1, bx.cell 2, bx.cell 3, bx.cell 4⟩) (fun hHeld => ?_)
    clear hK K
    try simp only [Act.put, List.setIfInBounds_toArray, List.set_cons_zero, List.set_cons_succ]
    refine' wpAnyZ_takeA (i := 2) (v := ?_) (opAt rfl) (by kernel_rfl) (by kernel_rfl) (by kernel_rfl) (by kernel_rfl) (fun _ _ _ h => h) (by assumption) (by rfl) (fun w hSw => ?_) ?_
    rotate_left
    · (try dsimp only at hSw); go_simp; (try with_reducible rfl)
    try simp only [Act.put, List.setIfInBounds_toArray, List.set_cons_zero, List.set_cons_succ]
    refine' wpAnyZ_takeA (i := 3) (v := ?_) (opAt rfl) (by kernel_rfl) (by kernel_rfl) (by kernel_rfl) (by kernel_rfl) (fun _ _ _ h => h) (by assumption) (by rfl) (fun w hSw => ?_) ?_
    rotate_left
    · (try dsimp only at hSw); go_simp; (try with_reducible rfl)
    try simp only [Act.put, List.setIfInBounds_toArray, List.set_cons_zero, List.set_cons_succ]
    refine' wpAnyZ_takeA (i := 4) (v := ?_) (opAt rfl) (by kernel_rfl) (by kernel_rfl) (by kernel_rfl) (by kernel_rfl) (fun _ _ _ h => h) (by assumption) (by rfl) (fun w hSw => ?_) ?_
    rotate_left
    · (try dsimp only at hSw); go_simp; (try with_reducible rfl)
    try simp only [Act.put, List.setIfInBounds_toArray, List.set_cons_zero, List.set_cons_succ]
    refine' wpAnyZ_takeA (i := 5) (v := ?_) (opAt rfl) (by kernel_rfl) (by kernel_rfl) (by kernel_rfl) (by kernel_rfl) (fun _ _ _ h => h) (by assumption) (by rfl) (fun w hSw => ?_) ?_
    rotate_left
    · (try dsimp only at hSw); go_simp; (try with_reducible rfl)
    try simp only [Act.put, List.setIfInBounds_toArray, List.set_cons_zero, List.set_cons_succ]
    refine wpAnyZ_ready (rs := [6]) (by kernel_rfl) (by simp) ?_
    refine AllReadyZ.cons (opAt rfl) (fun K hK => ?_) ?_
    · skip
      go_simp
      refine (PL.out _).mono ?_
      rintro e w2 ⟨rfl, hb1⟩
      replace B0 := B0.trans (hb1.mono (Nat.le_of_lt bx.lt))
      replace bx := bx.below hb1 bx.lt
      clear hb1
      try go_wp2_with fail
      refine hK.out _ _ (by exact ⟨bx.cell 0, bx.cell 1, bx.cell 2, bx.cell 3, bx.cell 4⟩) (fun hHeld => ?_)
      clear hK K
      try simp only [Act.put, List.setIfInBounds_toArray, List.set_cons_zero, List.set_cons_succ]
      refine' wpAnyZ_takeA (i := 7) (v := ?_) (opAt rfl) (by kernel_rfl) (by kernel_rfl) (by kernel_rfl) (by kernel_rfl) (fun _ _ _ h => h) (by assumption) (by rfl) (fun w hSw => ?_) ?_
      rotate_left
      · (try dsimp only at hSw); go_simp; (try with_reducible rfl)
      try simp only [Act.put, List.setIfInBounds_toArray, List.set_cons_zero, List.set_cons_succ]
      refine' wpAnyZ_takeA (i := 8) (v := ?_) (opAt rfl) (by kernel_rfl) (by kernel_rfl) (by kernel_rfl) (by kernel_rfl) (fun _ _ _ h => h) (by assumption) (by rfl) (fun w hSw => ?_) ?_
      rotate_left
      · (try dsimp only at hSw); go_simp; (try with_reducible rfl)
      try simp only [Act.put, List.setIfInBounds_toArray, List.set_cons_zero, List.set_cons_succ]
      refine wpAnyZ_done (by kernel_rfl) ?_ _
      go_wp2_with fail
      have hwk : IntKind.i64.wrap 0 = 0 := by decide
      refine wp_region_heldZ [] (fun w' => w'.cell? ⟨w.heap.size, 0, none⟩ = some (.int .i64 1) ∧ w'.cell? ⟨w.heap.size, 1, none⟩ = some (.int .u64 (key : Nat)) ∧ w'.cell? ⟨w.heap.size, 2, none⟩ = some (.int .u64 0) ∧ w'.cell? ⟨w.heap.size, 3, none⟩ = some (.int .u64 0) ∧ w'.cell? ⟨w.heap.size, 4, none⟩ = some (.int .i64 0)) (by kernel_rfl) (by exact ⟨bx.cell 0, bx.cell 1, bx.cell 2, bx.cell 3, bx.cell 4⟩) (fun hHeld => ?_)
      replace bx := bx.drew
      replace B0 := B0.drew
      generalize w2.drew = wz at *
      refine' wpAnyZ_takeA (i := 1) (v := ?_) (opAt rfl) (by kernel_rfl) (by kernel_rfl) (by kernel_rfl) (by kernel_rfl) (fun _ _ _ h => h) (by assumption) (by rfl) (fun w hSw => ?_) ?_
      rotate_left
      · (try dsimp only at hSw); go_simp; (try with_reducible rfl)
      try simp only [Act.put, List.setIfInBounds_toArray, List.set_cons_zero, List.set_cons_succ]
      refine' wpAnyZ_takeA (i := 2) (v := ?_) (opAt rfl) (by kernel_rfl) (by kernel_rfl) (by kernel_rfl) (by kernel_rfl) (fun _ _ _ h => h) (by assumption) (by rfl) (fun w hSw => ?_) ?_
      rotate_left
      · (try dsimp only at hSw); go_simp; (try with_reducible rfl)
      try simp only [Act.put, List.setIfInBounds_toArray, List.set_cons_zero, List.set_cons_succ]
      refine' wpAnyZ_takeA (i := 3) (v := ?_) (opAt rfl) (by kernel_rfl) (by kernel_rfl) (by kernel_rfl) (by kernel_rfl) (fun _ _ _ h => h) (by assumption) (by rfl) (fun w hSw => ?_) ?_
      rotate_left
      · (try dsimp only at hSw); go_simp; (try with_reducible rfl)
      try simp only [Act.put, List.setIfInBounds_toArray, List.set_cons_zero, List.set_cons_succ]
      refine' wpAnyZ_takeA (i := 6) (v := ?_) (opAt rfl) (by kernel_rfl) (by kernel_rfl) (by kernel_rfl) (by kernel_rfl) (fun _ _ _ h => h) (by assumption) (by rfl) (fun w hSw => ?_) ?_
      rotate_left
      · (try dsimp only at hSw); go_simp; (try with_reducible rfl)
      try simp only [Act.put, List.setIfInBounds_toArray, List.set_cons_zero, List.set_cons_succ]
      refine' wpAnyZ_takeA (i := 7) (v := ?_) (opAt rfl) (by kernel_rfl) (by kernel_rfl) (by kernel_rfl) (by kernel_rfl) (fun _ _ _ h => h) (by assumption) (by rfl) (fun w hSw => ?_) ?_
      rotate_left
      · (try dsimp only at hSw); go_simp; (try with_reducible rfl)
      try simp only [Act.put, List.setIfInBounds_toArray, List.set_cons_zero, List.set_cons_succ]
      refine wpAnyZ_ready (rs := [0]) (by kernel_rfl) (by simp) ?_
      refine AllReadyZ.cons (opAt rfl) (fun K hK => ?_) ?_
      · skip
        go_simp
        refine (KF.out _ B0).mono ?_
        rintro e w9 ⟨rfl, rfl⟩
        have bf := Blk.new wz 9 #[.string ⟨#[103, 101, 116]⟩, .string ⟨#[112, 117, 116]⟩, .string ⟨#[100, 101, 108, 101, 116, 101]⟩, .string ⟨#[115, 99, 97, 110]⟩]
        have hgb : w.heap.size < wz.heap.size := bx.lt
        replace bx := bx.alloc (.cells #[.string ⟨#[103, 101, 116]⟩, .string ⟨#[112, 117, 116]⟩, .string ⟨#[100, 101, 108, 101, 116, 101]⟩, .string ⟨#[115, 99, 97, 110]⟩] 9)
        replace B0 := B0.alloc B0.size (.cells #[.string ⟨#[103, 101, 116]⟩, .string ⟨#[112, 117, 116]⟩, .string ⟨#[100, 101, 108, 101, 116, 101]⟩, .string ⟨#[115, 99, 97, 110]⟩] 9)
        generalize wz.alloc (.cells #[.string ⟨#[103, 101, 116]⟩, .string ⟨#[112, 117, 116]⟩, .string ⟨#[100, 101, 108, 101, 116, 101]⟩, .string ⟨#[115, 99, 97, 110]⟩] 9) = wf at *
        generalize wz.heap.size = gf at *
        try go_wp2_with fail
        refine hK.out _ _ (by exact ⟨bx.cell 0, bx.cell 1, bx.cell 2, bx.cell 3, bx.cell 4⟩) (fun hHeld => ?_)
        clear hK K
        try simp only [Act.put, List.setIfInBounds_toArray, List.set_cons_zero, List.set_cons_succ]
        refine' wpAnyZ_takeA (i := 4) (v := ?_) (opAt rfl) (by kernel_rfl) (by kernel_rfl) (by kernel_rfl) (by kernel_rfl) (fun _ _ _ h => h) (by assumption) (by rfl) (fun w hSw => ?_) ?_
        rotate_left
        · (try dsimp only at hSw); go_simp; (try with_reducible rfl)
        try simp only [Act.put, List.setIfInBounds_toArray, List.set_cons_zero, List.set_cons_succ]
        refine wpAnyZ_ready (rs := [5, 8]) (by kernel_rfl) (by simp) ?_
        refine AllReadyZ.cons (opAt rfl) (fun K hK => ?_) ?_
        · skip
          have zf := bf.cell 0
          go_simp
          clear zf
          refine hK.out _ _ (by exact ⟨bx.cell 0, bx.cell 1, bx.cell 2, bx.cell 3, bx.cell 4⟩) (fun hHeld => ?_)
          clear hK K
          try simp only [Act.put, List.setIfInBounds_toArray, List.set_cons_zero, List.set_cons_succ]
          refine wpAnyZ_ready (rs := [8]) (by kernel_rfl) (by simp) ?_
          refine AllReadyZ.cons (opAt rfl) (fun K hK => ?_) ?_
          · skip
            go_simp
            refine (T1.out _).mono ?_
            rintro e wt ⟨rfl, hb1⟩
            replace bf := bf.below hb1 bf.lt
            replace B0 := B0.trans (hb1.mono (Nat.le_of_lt bx.lt))
            replace bx := bx.below hb1 bx.lt
            clear hb1
            try go_wp2_with fail
            refine hK.out _ _ (by exact ⟨bx.cell 0, bx.cell 1, bx.cell 2, bx.cell 3, bx.cell 4⟩) (fun hHeld => ?_)
            clear hK K
            try simp only [Act.put, List.setIfInBounds_toArray, List.set_cons_zero, List.set_cons_succ]
            refine wpAnyZ_ready (rs := [9]) (by kernel_rfl) (by simp) ?_
            refine AllReadyZ.cons (opAt rfl) (fun K hK => ?_) ?_
            · skip
              go_simp
              have hsz : w.heap.size + 1 ≤ wt.heap.size := bx.lt
              have ho := own_lit wt 9 #[.string ⟨#[103, 101, 116]⟩, .string tk] 2 (w.heap.size + 1) hsz rfl (by omega)
              replace bx := bx.alloc (.cells #[.string ⟨#[103, 101, 116]⟩, .string tk] 9)
              replace B0 := B0.alloc B0.size (.cells #[.string ⟨#[103, 101, 116]⟩, .string tk] 9)
              generalize wt.alloc (.cells #[.string ⟨#[103, 101, 116]⟩, .string tk] 9) = wl at *
              clear hsz
              refine hK.out _ _ (by exact ⟨bx.cell 0, bx.cell 1, bx.cell 2, bx.cell 3, bx.cell 4⟩) (fun hHeld => ?_)
              clear hK K
              try simp only [Act.put, List.setIfInBounds_toArray, List.set_cons_zero, List.set_cons_succ]
              refine' wpAnyZ_takeA (i := 10) (v := ?_) (opAt rfl) (by kernel_rfl) (by kernel_rfl) (by kernel_rfl) (by kernel_rfl) (fun _ _ _ h => h) (by assumption) (by rfl) (fun w hSw => ?_) ?_
              rotate_left
              · (try dsimp only at hSw); go_simp; (try with_reducible rfl)
              try simp only [Act.put, List.setIfInBounds_toArray, List.set_cons_zero, List.set_cons_succ]
              refine wpAnyZ_done (by kernel_rfl) ?_ _
              replace ho : wl.ownsRow (w.heap.size + 1) 9 1 (.slice (some ⟨wt.heap.size, 0, none⟩) 2 2) 2 (strs [⟨#[103, 101, 116]⟩, tk]) := ho
              clear bf
              have mc := fun i => bx.cell i
              go_wp2_with fail
              refine (JO.out _ _ _ ho).mono ?_
              rintro e wj ⟨rfl, hb1⟩
              go_wp2_with fail
              go_ret
              exact ⟨rfl, B0.trans (hb1.mono B0.size)⟩
            exact AllReadyZ.nil
          exact AllReadyZ.nil
        refine AllReadyZ.cons (opAt rfl) (fun K hK => ?_) ?_
        · skip
          go_simp
          refine (T1.out _).mono ?_
          rintro e wt ⟨rfl, hb1⟩
          replace bf := bf.below hb1 bf.lt
          replace B0 := B0.trans (hb1.mono (Nat.le_of_lt bx.lt))
          replace bx := bx.below hb1 bx.lt
          clear hb1
          try go_wp2_with fail
          refine hK.out _ _ (by exact ⟨bx.cell 0, bx.cell 1, bx.cell 2, bx.cell 3, bx.cell 4⟩) (fun hHeld => ?_)
          clear hK K
          try simp only [Act.put, List.setIfInBounds_toArray, List.set_cons_zero, List.set_cons_succ]
          refine wpAnyZ_ready (rs := [5]) (by kernel_rfl) (by simp) ?_
          refine AllReadyZ.cons (opAt rfl) (fun K hK => ?_) ?_
          · skip
            have zf := bf.cell 0
            go_simp
            clear zf
            refine hK.out _ _ (by exact ⟨bx.cell 0, bx.cell 1, bx.cell 2, bx.cell 3, bx.cell 4⟩) (fun hHeld => ?_)
            clear hK K
            try simp only [Act.put, List.setIfInBounds_toArray, List.set_cons_zero, List.set_cons_succ]
            refine wpAnyZ_ready (rs := [9]) (by kernel_rfl) (by simp) ?_
            refine AllReadyZ.cons (opAt rfl) (fun K hK => ?_) ?_
            · skip
              go_simp
              have hsz : w.heap.size + 1 ≤ wt.heap.size := bx.lt
              have ho := own_lit wt 9 #[.string ⟨#[103, 101, 116]⟩, .string tk] 2 (w.heap.size + 1) hsz rfl (by omega)
              replace bx := bx.alloc (.cells #[.string ⟨#[103, 101, 116]⟩, .string tk] 9)
              replace B0 := B0.alloc B0.size (.cells #[.string ⟨#[103, 101, 116]⟩, .string tk] 9)
              generalize wt.alloc (.cells #[.string ⟨#[103, 101, 116]⟩, .string tk] 9) = wl at *
              clear hsz
              refine hK.out _ _ (by exact ⟨bx.cell 0, bx.cell 1, bx.cell 2, bx.cell 3, bx.cell 4⟩) (fun hHeld => ?_)
              clear hK K
              try simp only [Act.put, List.setIfInBounds_toArray, List.set_cons_zero, List.set_cons_succ]
              refine' wpAnyZ_takeA (i := 10) (v := ?_) (opAt rfl) (by kernel_rfl) (by kernel_rfl) (by kernel_rfl) (by kernel_rfl) (fun _ _ _ h => h) (by assumption) (by rfl) (fun w hSw => ?_) ?_
              rotate_left
              · (try dsimp only at hSw); go_simp; (try with_reducible rfl)
              try simp only [Act.put, List.setIfInBounds_toArray, List.set_cons_zero, List.set_cons_succ]
              refine wpAnyZ_done (by kernel_rfl) ?_ _
              replace ho : wl.ownsRow (w.heap.size + 1) 9 1 (.slice (some ⟨wt.heap.size, 0, none⟩) 2 2) 2 (strs [⟨#[103, 101, 116]⟩, tk]) := ho
              clear bf
              have mc := fun i => bx.cell i
              go_wp2_with fail
              refine (JO.out _ _ _ ho).mono ?_
              rintro e wj ⟨rfl, hb1⟩
              go_wp2_with fail
              go_ret
              exact ⟨rfl, B0.trans (hb1.mono B0.size)⟩
            exact AllReadyZ.nil
          exact AllReadyZ.nil
        exact AllReadyZ.nil
      exact AllReadyZ.nil
    exact AllReadyZ.nil
  exact AllReadyZ.nil
set_option maxRecDepth 100000 in
set_option maxHeartbeats 4000000 in
theorem sop_2 (key : Nat) (vl : Nat) (w : World) (hT : Tab w) (h1 : key < 18446744073709551616) (h2 : vl < 18446744073709551616) : Calls Tryz.prog 59 #[.agg #[.int .i64 2, .int .u64 (key : Nat), .int .u64 (vl : Nat), .int .u64 0, .int .i64 0]] w fun e w' => e = .returned (.string (joinT [nmd kindL 2, numT key, numT vl])) ∧ Below w.heap.size w w' := by
  have B0 := (Below.refl w.heap.size w).alloc (Nat.le_refl _) (.cells #[.int .i64 2, .int .u64 (key : Nat), .int .u64 (vl : Nat), .int .u64 0, .int .i64 0] 48)
  have bx := Blk.new w 48 #[.int .i64 2, .int .u64 (key : Nat), .int .u64 (vl : Nat), .int .u64 0, .int .i64 0]
  obtain ⟨i0, hi0, hz0, hs0, hb0⟩ := info_parts infoStr
  have RR := hide (fun w2 => mright_any 2 key vl 0 0 w2)
  rw [show opRight 2 0 = true from rfl] at RR
  have PL := hide (fun w2 => plain_2 key vl 0 0 w2)
  rw [show ((0 : Nat) : Int) = 0 from rfl] at PL RR
  have KF := hide (fun w2 (hb : Below w.heap.size w w2) => kfields_any w2 (hT.below hb))
  have T1 := hide (fun w2 => text_any key w2 h1)
  rw [show strOfNums (form 10 key) = numT key from rfl] at T1
  have T2 := hide (fun w2 => text_any vl w2 h2)
  rw [show strOfNums (form 10 vl) = numT vl from rfl] at T2
  have HSZ := hide (show (joinT [nmd kindL 2, numT key, numT vl]).size ≤ 500 from opW_size 2 key vl 0 0)
  rw [show nmd kindL 2 = ⟨#[112, 117, 116]⟩ from rfl] at HSZ ⊢
  generalize numT key = tk at *
  generalize numT vl = tv at *
  have JO := hide (fun A c w2 (ho : w2.ownsRow (w.heap.size + 1) 9 1 (.slice A (3) c) (3) (strs [⟨#[112, 117, 116]⟩, tk, tv])) => join_own (w.heap.size + 1) (3) c A _ w2 ho (by omega) (by have := HSZ.out; omega) (by omega))
  generalize joinT [⟨#[112, 117, 116]⟩, tk, tv] = Q at *
  clear hT h1 h2
  go_enter Tryz.func59, Tryz.ntmps59
  go_wp2_with fail
  generalize w.alloc (.cells #[.int .i64 2, .int .u64 (key : Nat), .int .u64 (vl : Nat), .int .u64 0, .int .i64 0] 48) = w0 at *
  refine wp_region_heldZ [] (fun w' => w'.cell? ⟨w.heap.size, 0, none⟩ = some (.int .i64 2) ∧ w'.cell? ⟨w.heap.size, 1, none⟩ = some (.int .u64 (key : Nat)) ∧ w'.cell? ⟨w.heap.size, 2, none⟩ = some (.int .u64 (vl : Nat)) ∧ w'.cell? ⟨w.heap.size, 3, none⟩ = some (.int .u64 0) ∧ w'.cell? ⟨w.heap.size, 4, none⟩ = some (.int .i64 0)) (by kernel_rfl) (by exact ⟨bx.cell 0, bx.cell 1, bx.cell 2, bx.cell 3, bx.cell 4⟩) (fun hHeld => ?_)
  replace bx := bx.drew
  replace B0 := B0.drew
  generalize w0.drew = wd at *
  refine' wpAnyZ_takeA (i := 0) (v := ?_) (opAt rfl) (by kernel_rfl) (by kernel_rfl) (by kernel_rfl) (by kernel_rfl) (fun _ _ _ h => h) (by assumption) (by rfl) (fun w hSw => ?_) ?_
  rotate_left
  · (try dsimp only at hSw); go_simp; (try with_reducible rfl)
  try simp only [Act.put, List.setIfInBounds_toArray, List.set_cons_zero, List.set_cons_succ]
  refine wpAnyZ_ready (rs := [1]) (by kernel_rfl) (by simp) ?_
  refine AllReadyZ.cons (opAt rfl) (fun K hK => ?_) ?_
  · skip
    go_simp
    refine (RR.out _).mono ?_
    rintro e w1 ⟨rfl, hb1⟩
    replace B0 := B0.trans (hb1.mono (Nat.le_of_lt bx.lt))
    replace bx := bx.below hb1 bx.lt
    clear hb1
    try go_wp2_with fail
    refine hK.out _ _ (by exact ⟨bx.cell 0, bx.cell 1, bx.cell 2, bx.cell 3, bx.cell 4⟩) (fun hHeld => ?_)
    clear hK K
    try simp only [Act.put, List.setIfInBounds_toArray, List.set_cons_zero, List.set_cons_succ]
    refine' wpAnyZ_takeA (i := 2) (v := ?_) (opAt rfl) (by kernel_rfl) (by kernel_rfl) (by kernel_rfl) (by kernel_rfl) (fun _ _ _ h => h) (by assumption) (by rfl) (fun w hSw => ?_) ?_
    rotate_left
    · (try dsimp only at hSw); go_simp; (try with_reducible rfl)
    try simp only [Act.put, List.setIfInBounds_toArray, List.set_cons_zero, List.set_cons_succ]
    refine' wpAnyZ_takeA (i := 3) (v := ?_) (opAt rfl) (by kernel_rfl) (by kernel_rfl) (by kernel_rfl) (by kernel_rfl) (fun _ _ _ h => h) (by assumption) (by rfl) (fun w hSw => ?_) ?_
    rotate_left
    · (try dsimp only at hSw); go_simp; (try with_reducible rfl)
    try simp only [Act.put, List.setIfInBounds_toArray, List.set_cons_zero, List.set_cons_succ]
    refine' wpAnyZ_takeA (i := 4) (v := ?_) (opAt rfl) (by kernel_rfl) (by kernel_rfl) (by kernel_rfl) (by kernel_rfl) (fun _ _ _ h => h) (by assumption) (by rfl) (fun w hSw => ?_) ?_
    rotate_left
    · (try dsimp only at hSw); go_simp; (try with_reducible rfl)
    try simp only [Act.put, List.setIfInBounds_toArray, List.set_cons_zero, List.set_cons_succ]
    refine' wpAnyZ_takeA (i := 5) (v := ?_) (opAt rfl) (by kernel_rfl) (by kernel_rfl) (by kernel_rfl) (by kernel_rfl) (fun _ _ _ h => h) (by assumption) (by rfl) (fun w hSw => ?_) ?_
    rotate_left
    · (try dsimp only at hSw); go_simp; (try with_reducible rfl)
    try simp only [Act.put, List.setIfInBounds_toArray, List.set_cons_zero, List.set_cons_succ]
    refine wpAnyZ_ready (rs := [6]) (by kernel_rfl) (by simp) ?_
    refine AllReadyZ.cons (opAt rfl) (fun K hK => ?_) ?_
    · skip
      go_simp
      refine (PL.out _).mono ?_
      rintro e w2 ⟨rfl, hb1⟩
      replace B0 := B0.trans (hb1.mono (Nat.le_of_lt bx.lt))
      replace bx := bx.below hb1 bx.lt
      clear hb1
      try go_wp2_with fail
      refine hK.out _ _ (by exact ⟨bx.cell 0, bx.cell 1, bx.cell 2, bx.cell 3, bx.cell 4⟩) (fun hHeld => ?_)
      clear hK K
      try simp only [Act.put, List.setIfInBounds_toArray, List.set_cons_zero, List.set_cons_succ]
      refine' wpAnyZ_takeA (i := 7) (v := ?_) (opAt rfl) (by kernel_rfl) (by kernel_rfl) (by kernel_rfl) (by kernel_rfl) (fun _ _ _ h => h) (by assumption) (by rfl) (fun w hSw => ?_) ?_
      rotate_left
      · (try dsimp only at hSw); go_simp; (try with_reducible rfl)
      try simp only [Act.put, List.setIfInBounds_toArray, List.set_cons_zero, List.set_cons_succ]
      refine' wpAnyZ_takeA (i := 8) (v := ?_) (opAt rfl) (by kernel_rfl) (by kernel_rfl) (by kernel_rfl) (by kernel_rfl) (fun _ _ _ h => h) (by assumption) (by rfl) (fun w hSw => ?_) ?_
      rotate_left
      · (try dsimp only at hSw); go_simp; (try with_reducible rfl)
      try simp only [Act.put, List.setIfInBounds_toArray, List.set_cons_zero, List.set_cons_succ]
      refine wpAnyZ_done (by kernel_rfl) ?_ _
      go_wp2_with fail
      have hwk : IntKind.i64.wrap 1 = 1 := by decide
      refine wp_region_heldZ [] (fun w' => w'.cell? ⟨w.heap.size, 0, none⟩ = some (.int .i64 2) ∧ w'.cell? ⟨w.heap.size, 1, none⟩ = some (.int .u64 (key : Nat)) ∧ w'.cell? ⟨w.heap.size, 2, none⟩ = some (.int .u64 (vl : Nat)) ∧ w'.cell? ⟨w.heap.size, 3, none⟩ = some (.int .u64 0) ∧ w'.cell? ⟨w.heap.size, 4, none⟩ = some (.int .i64 0)) (by kernel_rfl) (by exact ⟨bx.cell 0, bx.cell 1, bx.cell 2, bx.cell 3, bx.cell 4⟩) (fun hHeld => ?_)
      replace bx := bx.drew
      replace B0 := B0.drew
      generalize w2.drew = wz at *
      refine' wpAnyZ_takeA (i := 1) (v := ?_) (opAt rfl) (by kernel_rfl) (by kernel_rfl) (by kernel_rfl) (by kernel_rfl) (fun _ _ _ h => h) (by assumption) (by rfl) (fun w hSw => ?_) ?_
      rotate_left
      · (try dsimp only at hSw); go_simp; (try with_reducible rfl)
      try simp only [Act.put, List.setIfInBounds_toArray, List.set_cons_zero, List.set_cons_succ]
      refine' wpAnyZ_takeA (i := 2) (v := ?_) (opAt rfl) (by kernel_rfl) (by kernel_rfl) (by kernel_rfl) (by kernel_rfl) (fun _ _ _ h => h) (by assumption) (by rfl) (fun w hSw => ?_) ?_
      rotate_left
      · (try dsimp only at hSw); go_simp; (try with_reducible rfl)
      try simp only [Act.put, List.setIfInBounds_toArray, List.set_cons_zero, List.set_cons_succ]
      refine' wpAnyZ_takeA (i := 3) (v := ?_) (opAt rfl) (by kernel_rfl) (by kernel_rfl) (by kernel_rfl) (by kernel_rfl) (fun _ _ _ h => h) (by assumption) (by rfl) (fun w hSw => ?_) ?_
      rotate_left
      · (try dsimp only at hSw); go_simp; (try with_reducible rfl)
      try simp only [Act.put, List.setIfInBounds_toArray, List.set_cons_zero, List.set_cons_succ]
      refine' wpAnyZ_takeA (i := 6) (v := ?_) (opAt rfl) (by kernel_rfl) (by kernel_rfl) (by kernel_rfl) (by kernel_rfl) (fun _ _ _ h => h) (by assumption) (by rfl) (fun w hSw => ?_) ?_
      rotate_left
      · (try dsimp only at hSw); go_simp; (try with_reducible rfl)
      try simp only [Act.put, List.setIfInBounds_toArray, List.set_cons_zero, List.set_cons_succ]
      refine' wpAnyZ_takeA (i := 7) (v := ?_) (opAt rfl) (by kernel_rfl) (by kernel_rfl) (by kernel_rfl) (by kernel_rfl) (fun _ _ _ h => h) (by assumption) (by rfl) (fun w hSw => ?_) ?_
      rotate_left
      · (try dsimp only at hSw); go_simp; (try with_reducible rfl)
      try simp only [Act.put, List.setIfInBounds_toArray, List.set_cons_zero, List.set_cons_succ]
      refine wpAnyZ_ready (rs := [0]) (by kernel_rfl) (by simp) ?_
      refine AllReadyZ.cons (opAt rfl) (fun K hK => ?_) ?_
      · skip
        go_simp
        refine (KF.out _ B0).mono ?_
        rintro e w9 ⟨rfl, rfl⟩
        have bf := Blk.new wz 9 #[.string ⟨#[103, 101, 116]⟩, .string ⟨#[112, 117, 116]⟩, .string ⟨#[100, 101, 108, 101, 116, 101]⟩, .string ⟨#[115, 99, 97, 110]⟩]
        have hgb : w.heap.size < wz.heap.size := bx.lt
        replace bx := bx.alloc (.cells #[.string ⟨#[103, 101, 116]⟩, .string ⟨#[112, 117, 116]⟩, .string ⟨#[100, 101, 108, 101, 116, 101]⟩, .string ⟨#[115, 99, 97, 110]⟩] 9)
        replace B0 := B0.alloc B0.size (.cells #[.string ⟨#[103, 101, 116]⟩, .string ⟨#[112, 117, 116]⟩, .string ⟨#[100, 101, 108, 101, 116, 101]⟩, .string ⟨#[115, 99, 97, 110]⟩] 9)
        generalize wz.alloc (.cells #[.string ⟨#[103, 101, 116]⟩, .string ⟨#[112, 117, 116]⟩, .string ⟨#[100, 101, 108, 101, 116, 101]⟩, .string ⟨#[115, 99, 97, 110]⟩] 9) = wf at *
        generalize wz.heap.size = gf at *
        try go_wp2_with fail
        refine hK.out _ _ (by exact ⟨bx.cell 0, bx.cell 1, bx.cell 2, bx.cell 3, bx.cell 4⟩) (fun hHeld => ?_)
        clear hK K
        try simp only [Act.put, List.setIfInBounds_toArray, List.set_cons_zero, List.set_cons_succ]
        refine' wpAnyZ_takeA (i := 4) (v := ?_) (opAt rfl) (by kernel_rfl) (by kernel_rfl) (by kernel_rfl) (by kernel_rfl) (fun _ _ _ h => h) (by assumption) (by rfl) (fun w hSw => ?_) ?_
        rotate_left
        · (try dsimp only at hSw); go_simp; (try with_reducible rfl)
        try simp only [Act.put, List.setIfInBounds_toArray, List.set_cons_zero, List.set_cons_succ]
        refine wpAnyZ_ready (rs := [5, 8]) (by kernel_rfl) (by simp) ?_
        refine AllReadyZ.cons (opAt rfl) (fun K hK => ?_) ?_
        · skip
          have zf := bf.cell 1
          go_simp
          clear zf
          refine hK.out _ _ (by exact ⟨bx.cell 0, bx.cell 1, bx.cell 2, bx.cell 3, bx.cell 4⟩) (fun hHeld => ?_)
          clear hK K
          try simp only [Act.put, List.setIfInBounds_toArray, List.set_cons_zero, List.set_cons_succ]
          refine wpAnyZ_ready (rs := [8]) (by kernel_rfl) (by simp) ?_
          refine AllReadyZ.cons (opAt rfl) (fun K hK => ?_) ?_
          · skip
            go_simp
            refine (T1.out _).mono ?_
            rintro e wt ⟨rfl, hb1⟩
            replace bf := bf.below hb1 bf.lt
            replace B0 := B0.trans (hb1.mono (Nat.le_of_lt bx.lt))
            replace bx := bx.below hb1 bx.lt
            clear hb1
            try go_wp2_with fail
            refine hK.out _ _ (by exact ⟨bx.cell 0, bx.cell 1, bx.cell 2, bx.cell 3, bx.cell 4⟩) (fun hHeld => ?_)
            clear hK K
            try simp only [Act.put, List.setIfInBounds_toArray, List.set_cons_zero, List.set_cons_succ]
            refine wpAnyZ_ready (rs := [9]) (by kernel_rfl) (by simp) ?_
            refine AllReadyZ.cons (opAt rfl) (fun K hK => ?_) ?_
            · skip
              go_simp
              have hsz : w.heap.size + 1 ≤ wt.heap.size := bx.lt
              have ho := own_lit wt 9 #[.string ⟨#[112, 117, 116]⟩, .string tk] 2 (w.heap.size + 1) hsz rfl (by omega)
              replace bx := bx.alloc (.cells #[.string ⟨#[112, 117, 116]⟩, .string tk] 9)
              replace B0 := B0.alloc B0.size (.cells #[.string ⟨#[112, 117, 116]⟩, .string tk] 9)
              generalize wt.alloc (.cells #[.string ⟨#[112, 117, 116]⟩, .string tk] 9) = wl at *
              clear hsz
              refine hK.out _ _ (by exact ⟨bx.cell 0, bx.cell 1, bx.cell 2, bx.cell 3, bx.cell 4⟩) (fun hHeld => ?_)
              clear hK K
              try simp only [Act.put, List.setIfInBounds_toArray, List.set_cons_zero, List.set_cons_succ]
              refine' wpAnyZ_takeA (i := 10) (v := ?_) (opAt rfl) (by kernel_rfl) (by kernel_rfl) (by kernel_rfl) (by kernel_rfl) (fun _ _ _ h => h) (by assumption) (by rfl) (fun w hSw => ?_) ?_
              rotate_left
              · (try dsimp only at hSw); go_simp; (try with_reducible rfl)
              try simp only [Act.put, List.setIfInBounds_toArray, List.set_cons_zero, List.set_cons_succ]
              refine wpAnyZ_done (by kernel_rfl) ?_ _
              replace ho : wl.ownsRow (w.heap.size + 1) 9 1 (.slice (some ⟨wt.heap.size, 0, none⟩) 2 2) 2 (strs [⟨#[112, 117, 116]⟩, tk]) := ho
              clear bf
              have mc := fun i => bx.cell i
              go_wp2_with fail
              refine (T2.out _).mono ?_
              rintro e wa ⟨rfl, hb1⟩
              replace B0 := B0.trans (hb1.mono (Nat.le_of_lt bx.lt))
              replace bx := bx.below hb1 bx.lt
              replace ho := own_below ho hb1
              clear hb1 mc
              have hr6 := Reads.new wa (strs [tv]) 9 1 1 rfl
              have hsz : w.heap.size + 1 ≤ wa.heap.size := bx.lt
              replace bx := bx.alloc (.cells #[.string tv] 9)
              replace B0 := B0.alloc B0.size (.cells #[.string tv] 9)
              replace ho := World.ownsRow.alloc ho (.cells #[.string tv] 9)
              have mc := fun i => bx.cell i
              go_wp2_with (at_builtin; refine wpList_append_any _ rfl (.tmp 27) (.tmp 31) _ rfl (w.heap.size + 1) 9 i0 _ 1 16 Tryz.underlying87 hi0 hz0 hs0 hb0 rfl (by omega) _ 2 _ rfl ho (wa.heap.size + 1) (some ⟨wa.heap.size, 0, none⟩) 1 1 (strs [tv]) rfl hr6 (strs_one _) (by unfold maxLen; omega) (by omega) (by simp only [World.size_alloc]; omega) ?_; intro v3 wb ho3 hg3 hat3; replace bx := blk_appended bx ho hg3 (by omega); replace B0 := below_appended B0 ho hg3 (by omega) (by simp only [World.size_alloc]; omega); obtain ⟨A3, c3, rfl, _⟩ := own_reads ho3; rw [← strs_app] at ho3; clear ho hg3 hat3 hr6 hsz mc; have ho := ho3; clear ho3; have mc := fun i => bx.cell i)
              refine (JO.out _ _ _ ho).mono ?_
              rintro e wj ⟨rfl, hb1⟩
              go_wp2_with fail
              go_ret
              exact ⟨rfl, B0.trans (hb1.mono B0.size)⟩
            exact AllReadyZ.nil
          exact AllReadyZ.nil
        refine AllReadyZ.cons (opAt rfl) (fun K hK => ?_) ?_
        · skip
          go_simp
          refine (T1.out _).mono ?_
          rintro e wt ⟨rfl, hb1⟩
          replace bf := bf.below hb1 bf.lt
          replace B0 := B0.trans (hb1.mono (Nat.le_of_lt bx.lt))
          replace bx := bx.below hb1 bx.lt
          clear hb1
          try go_wp2_with fail
          refine hK.out _ _ (by exact ⟨bx.cell 0, bx.cell 1, bx.cell 2, bx.cell 3, bx.cell 4⟩) (fun hHeld => ?_)
          clear hK K
          try simp only [Act.put, List.setIfInBounds_toArray, List.set_cons_zero, List.set_cons_succ]
          refine wpAnyZ_ready (rs := [5]) (by kernel_rfl) (by simp) ?_
          refine AllReadyZ.cons (opAt rfl) (fun K hK => ?_) ?_
          · skip
            have zf := bf.cell 1
            go_simp
            clear zf
            refine hK.out _ _ (by exact ⟨bx.cell 0, bx.cell 1, bx.cell 2, bx.cell 3, bx.cell 4⟩) (fun hHeld => ?_)
            clear hK K
            try simp only [Act.put, List.setIfInBounds_toArray, List.set_cons_zero, List.set_cons_succ]
            refine wpAnyZ_ready (rs := [9]) (by kernel_rfl) (by simp) ?_
            refine AllReadyZ.cons (opAt rfl) (fun K hK => ?_) ?_
            · skip
              go_simp
              have hsz : w.heap.size + 1 ≤ wt.heap.size := bx.lt
              have ho := own_lit wt 9 #[.string ⟨#[112, 117, 116]⟩, .string tk] 2 (w.heap.size + 1) hsz rfl (by omega)
              replace bx := bx.alloc (.cells #[.string ⟨#[112, 117, 116]⟩, .string tk] 9)
              replace B0 := B0.alloc B0.size (.cells #[.string ⟨#[112, 117, 116]⟩, .string tk] 9)
              generalize wt.alloc (.cells #[.string ⟨#[112, 117, 116]⟩, .string tk] 9) = wl at *
              clear hsz
              refine hK.out _ _ (by exact ⟨bx.cell 0, bx.cell 1, bx.cell 2, bx.cell 3, bx.cell 4⟩) (fun hHeld => ?_)
              clear hK K
              try simp only [Act.put, List.setIfInBounds_toArray, List.set_cons_zero, List.set_cons_succ]
              refine' wpAnyZ_takeA (i := 10) (v := ?_) (opAt rfl) (by kernel_rfl) (by kernel_rfl) (by kernel_rfl) (by kernel_rfl) (fun _ _ _ h => h) (by assumption) (by rfl) (fun w hSw => ?_) ?_
              rotate_left
              · (try dsimp only at hSw); go_simp; (try with_reducible rfl)
              try simp only [Act.put, List.setIfInBounds_toArray, List.set_cons_zero, List.set_cons_succ]
              refine wpAnyZ_done (by kernel_rfl) ?_ _
              replace ho : wl.ownsRow (w.heap.size + 1) 9 1 (.slice (some ⟨wt.heap.size, 0, none⟩) 2 2) 2 (strs [⟨#[112, 117, 116]⟩, tk]) := ho
              clear bf
              have mc := fun i => bx.cell i
              go_wp2_with fail
              refine (T2.out _).mono ?_
              rintro e wa ⟨rfl, hb1⟩
              replace B0 := B0.trans (hb1.mono (Nat.le_of_lt bx.lt))
              replace bx := bx.below hb1 bx.lt
              replace ho := own_below ho hb1
              clear hb1 mc
              have hr6 := Reads.new wa (strs [tv]) 9 1 1 rfl
              have hsz : w.heap.size + 1 ≤ wa.heap.size := bx.lt
              replace bx := bx.alloc (.cells #[.string tv] 9)
              replace B0 := B0.alloc B0.size (.cells #[.string tv] 9)
              replace ho := World.ownsRow.alloc ho (.cells #[.string tv] 9)
              have mc := fun i => bx.cell i
              go_wp2_with (at_builtin; refine wpList_append_any _ rfl (.tmp 27) (.tmp 31) _ rfl (w.heap.size + 1) 9 i0 _ 1 16 Tryz.underlying87 hi0 hz0 hs0 hb0 rfl (by omega) _ 2 _ rfl ho (wa.heap.size + 1) (some ⟨wa.heap.size, 0, none⟩) 1 1 (strs [tv]) rfl hr6 (strs_one _) (by unfold maxLen; omega) (by omega) (by simp only [World.size_alloc]; omega) ?_; intro v3 wb ho3 hg3 hat3; replace bx := blk_appended bx ho hg3 (by omega); replace B0 := below_appended B0 ho hg3 (by omega) (by simp only [World.size_alloc]; omega); obtain ⟨A3, c3, rfl, _⟩ := own_reads ho3; rw [← strs_app] at ho3; clear ho hg3 hat3 hr6 hsz mc; have ho := ho3; clear ho3; have mc := fun i => bx.cell i)
              refine (JO.out _ _ _ ho).mono ?_
              rintro e wj ⟨rfl, hb1⟩
              go_wp2_with fail
              go_ret
              exact ⟨rfl, B0.trans (hb1.mono B0.size)⟩
            exact AllReadyZ.nil
          exact AllReadyZ.nil
        exact AllReadyZ.nil
      exact AllReadyZ.nil
    exact AllReadyZ.nil
  exact AllReadyZ.nil
set_option maxRecDepth 100000 in
set_option maxHeartbeats 4000000 in
theorem sop_3 (key : Nat) (w : World) (hT : Tab w) (h1 : key < 18446744073709551616) : Calls Tryz.prog 59 #[.agg #[.int .i64 3, .int .u64 (key : Nat), .int .u64 0, .int .u64 0, .int .i64 0]] w fun e w' => e = .returned (.string (joinT [nmd kindL 3, numT key])) ∧ Below w.heap.size w w' := by
  have B0 := (Below.refl w.heap.size w).alloc (Nat.le_refl _) (.cells #[.int .i64 3, .int .u64 (key : Nat), .int .u64 0, .int .u64 0, .int .i64 0] 48)
  have bx := Blk.new w 48 #[.int .i64 3, .int .u64 (key : Nat), .int .u64 0, .int .u64 0, .int .i64 0]
  obtain ⟨i0, hi0, hz0, hs0, hb0⟩ := info_parts infoStr
  have RR := hide (fun w2 => mright_any 3 key 0 0 0 w2)
  rw [show opRight 3 0 = true from rfl] at RR
  have PL := hide (fun w2 => plain_x 3 key 0 0 0 rfl rfl w2)
  rw [show ((0 : Nat) : Int) = 0 from rfl] at PL RR
  have KF := hide (fun w2 (hb : Below w.heap.size w w2) => kfields_any w2 (hT.below hb))
  have T1 := hide (fun w2 => text_any key w2 h1)
  rw [show strOfNums (form 10 key) = numT key from rfl] at T1
  have HSZ := hide (show (joinT [nmd kindL 3, numT key]).size ≤ 500 from opW_size 3 key 0 0 0)
  rw [show nmd kindL 3 = ⟨#[100, 101, 108, 101, 116, 101]⟩ from rfl] at HSZ ⊢
  generalize numT key = tk at *
  have JO := hide (fun A c w2 (ho : w2.ownsRow (w.heap.size + 1) 9 1 (.slice A (2) c) (2) (strs [⟨#[100, 101, 108, 101, 116, 101]⟩, tk])) => join_own (w.heap.size + 1) (2) c A _ w2 ho (by omega) (by have := HSZ.out; omega) (by omega))
  generalize joinT [⟨#[100, 101, 108, 101, 116, 101]⟩, tk] = Q at *
  clear hT h1
  go_enter Tryz.func59, Tryz.ntmps59
  go_wp2_with fail
  generalize w.alloc (.cells #[.int .i64 3, .int .u64 (key : Nat), .int .u64 0, .int .u64 0, .int .i64 0] 48) = w0 at *
  refine wp_region_heldZ [] (fun w' => w'.cell? ⟨w.heap.size, 0, none⟩ = some (.int .i64 3) ∧ w'.cell? ⟨w.heap.size, 1, none⟩ = some (.int .u64 (key : Nat)) ∧ w'.cell? ⟨w.heap.size, 2, none⟩ = some (.int .u64 0) ∧ w'.cell? ⟨w.heap.size, 3, none⟩ = some (.int .u64 0) ∧ w'.cell? ⟨w.heap.size, 4, none⟩ = some (.int .i64 0)) (by kernel_rfl) (by exact ⟨bx.cell 0, bx.cell 1, bx.cell 2, bx.cell 3, bx.cell 4⟩) (fun hHeld => ?_)
  replace bx := bx.drew
  replace B0 := B0.drew
  generalize w0.drew = wd at *
  refine' wpAnyZ_takeA (i := 0) (v := ?_) (opAt rfl) (by kernel_rfl) (by kernel_rfl) (by kernel_rfl) (by kernel_rfl) (fun _ _ _ h => h) (by assumption) (by rfl) (fun w hSw => ?_) ?_
  rotate_left
  · (try dsimp only at hSw); go_simp; (try with_reducible rfl)
  try simp only [Act.put, List.setIfInBounds_toArray, List.set_cons_zero, List.set_cons_succ]
  refine wpAnyZ_ready (rs := [1]) (by kernel_rfl) (by simp) ?_
  refine AllReadyZ.cons (opAt rfl) (fun K hK => ?_) ?_
  · skip
    go_simp
    refine (RR.out _).mono ?_
    rintro e w1 ⟨rfl, hb1⟩
    replace B0 := B0.trans (hb1.mono (Nat.le_of_lt bx.lt))
    replace bx := bx.below hb1 bx.lt
    clear hb1
    try go_wp2_with fail
    refine hK.out _ _ (by exact ⟨bx.cell 0, bx.cell 1, bx.cell 2, bx.cell 3, bx.cell 4⟩) (fun hHeld => ?_)
    clear hK K
    try simp only [Act.put, List.setIfInBounds_toArray, List.set_cons_zero, List.set_cons_succ]
    refine' wpAnyZ_takeA (i := 2) (v := ?_) (opAt rfl) (by kernel_rfl) (by kernel_rfl) (by kernel_rfl) (by kernel_rfl) (fun _ _ _ h => h) (by assumption) (by rfl) (fun w hSw => ?_) ?_
    rotate_left
    · (try dsimp only at hSw); go_simp; (try with_reducible rfl)
    try simp only [Act.put, List.setIfInBounds_toArray, List.set_cons_zero, List.set_cons_succ]
    refine' wpAnyZ_takeA (i := 3) (v := ?_) (opAt rfl) (by kernel_rfl) (by kernel_rfl) (by kernel_rfl) (by kernel_rfl) (fun _ _ _ h => h) (by assumption) (by rfl) (fun w hSw => ?_) ?_
    rotate_left
    · (try dsimp only at hSw); go_simp; (try with_reducible rfl)
    try simp only [Act.put, List.setIfInBounds_toArray, List.set_cons_zero, List.set_cons_succ]
    refine' wpAnyZ_takeA (i := 4) (v := ?_) (opAt rfl) (by kernel_rfl) (by kernel_rfl) (by kernel_rfl) (by kernel_rfl) (fun _ _ _ h => h) (by assumption) (by rfl) (fun w hSw => ?_) ?_
    rotate_left
    · (try dsimp only at hSw); go_simp; (try with_reducible rfl)
    try simp only [Act.put, List.setIfInBounds_toArray, List.set_cons_zero, List.set_cons_succ]
    refine' wpAnyZ_takeA (i := 5) (v := ?_) (opAt rfl) (by kernel_rfl) (by kernel_rfl) (by kernel_rfl) (by kernel_rfl) (fun _ _ _ h => h) (by assumption) (by rfl) (fun w hSw => ?_) ?_
    rotate_left
    · (try dsimp only at hSw); go_simp; (try with_reducible rfl)
    try simp only [Act.put, List.setIfInBounds_toArray, List.set_cons_zero, List.set_cons_succ]
    refine wpAnyZ_ready (rs := [6]) (by kernel_rfl) (by simp) ?_
    refine AllReadyZ.cons (opAt rfl) (fun K hK => ?_) ?_
    · skip
      go_simp
      refine (PL.out _).mono ?_
      rintro e w2 ⟨rfl, hb1⟩
      replace B0 := B0.trans (hb1.mono (Nat.le_of_lt bx.lt))
      replace bx := bx.below hb1 bx.lt
      clear hb1
      try go_wp2_with fail
      refine hK.out _ _ (by exact ⟨bx.cell 0, bx.cell 1, bx.cell 2, bx.cell 3, bx.cell 4⟩) (fun hHeld => ?_)
      clear hK K
      try simp only [Act.put, List.setIfInBounds_toArray, List.set_cons_zero, List.set_cons_succ]
      refine' wpAnyZ_takeA (i := 7) (v := ?_) (opAt rfl) (by kernel_rfl) (by kernel_rfl) (by kernel_rfl) (by kernel_rfl) (fun _ _ _ h => h) (by assumption) (by rfl) (fun w hSw => ?_) ?_
      rotate_left
      · (try dsimp only at hSw); go_simp; (try with_reducible rfl)
      try simp only [Act.put, List.setIfInBounds_toArray, List.set_cons_zero, List.set_cons_succ]
      refine' wpAnyZ_takeA (i := 8) (v := ?_) (opAt rfl) (by kernel_rfl) (by kernel_rfl) (by kernel_rfl) (by kernel_rfl) (fun _ _ _ h => h) (by assumption) (by rfl) (fun w hSw => ?_) ?_
      rotate_left
      · (try dsimp only at hSw); go_simp; (try with_reducible rfl)
      try simp only [Act.put, List.setIfInBounds_toArray, List.set_cons_zero, List.set_cons_succ]
      refine wpAnyZ_done (by kernel_rfl) ?_ _
      go_wp2_with fail
      have hwk : IntKind.i64.wrap 2 = 2 := by decide
      refine wp_region_heldZ [] (fun w' => w'.cell? ⟨w.heap.size, 0, none⟩ = some (.int .i64 3) ∧ w'.cell? ⟨w.heap.size, 1, none⟩ = some (.int .u64 (key : Nat)) ∧ w'.cell? ⟨w.heap.size, 2, none⟩ = some (.int .u64 0) ∧ w'.cell? ⟨w.heap.size, 3, none⟩ = some (.int .u64 0) ∧ w'.cell? ⟨w.heap.size, 4, none⟩ = some (.int .i64 0)) (by kernel_rfl) (by exact ⟨bx.cell 0, bx.cell 1, bx.cell 2, bx.cell 3, bx.cell 4⟩) (fun hHeld => ?_)
      replace bx := bx.drew
      replace B0 := B0.drew
      generalize w2.drew = wz at *
      refine' wpAnyZ_takeA (i := 1) (v := ?_) (opAt rfl) (by kernel_rfl) (by kernel_rfl) (by kernel_rfl) (by kernel_rfl) (fun _ _ _ h => h) (by assumption) (by rfl) (fun w hSw => ?_) ?_
      rotate_left
      · (try dsimp only at hSw); go_simp; (try with_reducible rfl)
      try simp only [Act.put, List.setIfInBounds_toArray, List.set_cons_zero, List.set_cons_succ]
      refine' wpAnyZ_takeA (i := 2) (v := ?_) (opAt rfl) (by kernel_rfl) (by kernel_rfl) (by kernel_rfl) (by kernel_rfl) (fun _ _ _ h => h) (by assumption) (by rfl) (fun w hSw => ?_) ?_
      rotate_left
      · (try dsimp only at hSw); go_simp; (try with_reducible rfl)
      try simp only [Act.put, List.setIfInBounds_toArray, List.set_cons_zero, List.set_cons_succ]
      refine' wpAnyZ_takeA (i := 3) (v := ?_) (opAt rfl) (by kernel_rfl) (by kernel_rfl) (by kernel_rfl) (by kernel_rfl) (fun _ _ _ h => h) (by assumption) (by rfl) (fun w hSw => ?_) ?_
      rotate_left
      · (try dsimp only at hSw); go_simp; (try with_reducible rfl)
      try simp only [Act.put, List.setIfInBounds_toArray, List.set_cons_zero, List.set_cons_succ]
      refine' wpAnyZ_takeA (i := 6) (v := ?_) (opAt rfl) (by kernel_rfl) (by kernel_rfl) (by kernel_rfl) (by kernel_rfl) (fun _ _ _ h => h) (by assumption) (by rfl) (fun w hSw => ?_) ?_
      rotate_left
      · (try dsimp only at hSw); go_simp; (try with_reducible rfl)
      try simp only [Act.put, List.setIfInBounds_toArray, List.set_cons_zero, List.set_cons_succ]
      refine' wpAnyZ_takeA (i := 7) (v := ?_) (opAt rfl) (by kernel_rfl) (by kernel_rfl) (by kernel_rfl) (by kernel_rfl) (fun _ _ _ h => h) (by assumption) (by rfl) (fun w hSw => ?_) ?_
      rotate_left
      · (try dsimp only at hSw); go_simp; (try with_reducible rfl)
      try simp only [Act.put, List.setIfInBounds_toArray, List.set_cons_zero, List.set_cons_succ]
      refine wpAnyZ_ready (rs := [0]) (by kernel_rfl) (by simp) ?_
      refine AllReadyZ.cons (opAt rfl) (fun K hK => ?_) ?_
      · skip
        go_simp
        refine (KF.out _ B0).mono ?_
        rintro e w9 ⟨rfl, rfl⟩
        have bf := Blk.new wz 9 #[.string ⟨#[103, 101, 116]⟩, .string ⟨#[112, 117, 116]⟩, .string ⟨#[100, 101, 108, 101, 116, 101]⟩, .string ⟨#[115, 99, 97, 110]⟩]
        have hgb : w.heap.size < wz.heap.size := bx.lt
        replace bx := bx.alloc (.cells #[.string ⟨#[103, 101, 116]⟩, .string ⟨#[112, 117, 116]⟩, .string ⟨#[100, 101, 108, 101, 116, 101]⟩, .string ⟨#[115, 99, 97, 110]⟩] 9)
        replace B0 := B0.alloc B0.size (.cells #[.string ⟨#[103, 101, 116]⟩, .string ⟨#[112, 117, 116]⟩, .string ⟨#[100, 101, 108, 101, 116, 101]⟩, .string ⟨#[115, 99, 97, 110]⟩] 9)
        generalize wz.alloc (.cells #[.string ⟨#[103, 101, 116]⟩, .string ⟨#[112, 117, 116]⟩, .string ⟨#[100, 101, 108, 101, 116, 101]⟩, .string ⟨#[115, 99, 97, 110]⟩] 9) = wf at *
        generalize wz.heap.size = gf at *
        try go_wp2_with fail
        refine hK.out _ _ (by exact ⟨bx.cell 0, bx.cell 1, bx.cell 2, bx.cell 3, bx.cell 4⟩) (fun hHeld => ?_)
        clear hK K
        try simp only [Act.put, List.setIfInBounds_toArray, List.set_cons_zero, List.set_cons_succ]
        refine' wpAnyZ_takeA (i := 4) (v := ?_) (opAt rfl) (by kernel_rfl) (by kernel_rfl) (by kernel_rfl) (by kernel_rfl) (fun _ _ _ h => h) (by assumption) (by rfl) (fun w hSw => ?_) ?_
        rotate_left
        · (try dsimp only at hSw); go_simp; (try with_reducible rfl)
        try simp only [Act.put, List.setIfInBounds_toArray, List.set_cons_zero, List.set_cons_succ]
        refine wpAnyZ_ready (rs := [5, 8]) (by kernel_rfl) (by simp) ?_
        refine AllReadyZ.cons (opAt rfl) (fun K hK => ?_) ?_
        · skip
          have zf := bf.cell 2
          go_simp
          clear zf
          refine hK.out _ _ (by exact ⟨bx.cell 0, bx.cell 1, bx.cell 2, bx.cell 3, bx.cell 4⟩) (fun hHeld => ?_)
          clear hK K
          try simp only [Act.put, List.setIfInBounds_toArray, List.set_cons_zero, List.set_cons_succ]
          refine wpAnyZ_ready (rs := [8]) (by kernel_rfl) (by simp) ?_
          refine AllReadyZ.cons (opAt rfl) (fun K hK => ?_) ?_
          · skip
            go_simp
            refine (T1.out _).mono ?_
            rintro e wt ⟨rfl, hb1⟩
            replace bf := bf.below hb1 bf.lt
            replace B0 := B0.trans (hb1.mono (Nat.le_of_lt bx.lt))
            replace bx := bx.below hb1 bx.lt
            clear hb1
            try go_wp2_with fail
            refine hK.out _ _ (by exact ⟨bx.cell 0, bx.cell 1, bx.cell 2, bx.cell 3, bx.cell 4⟩) (fun hHeld => ?_)
            clear hK K
            try simp only [Act.put, List.setIfInBounds_toArray, List.set_cons_zero, List.set_cons_succ]
            refine wpAnyZ_ready (rs := [9]) (by kernel_rfl) (by simp) ?_
            refine AllReadyZ.cons (opAt rfl) (fun K hK => ?_) ?_
            · skip
              go_simp
              have hsz : w.heap.size + 1 ≤ wt.heap.size := bx.lt
              have ho := own_lit wt 9 #[.string ⟨#[100, 101, 108, 101, 116, 101]⟩, .string tk] 2 (w.heap.size + 1) hsz rfl (by omega)
              replace bx := bx.alloc (.cells #[.string ⟨#[100, 101, 108, 101, 116, 101]⟩, .string tk] 9)
              replace B0 := B0.alloc B0.size (.cells #[.string ⟨#[100, 101, 108, 101, 116, 101]⟩, .string tk] 9)
              generalize wt.alloc (.cells #[.string ⟨#[100, 101, 108, 101, 116, 101]⟩, .string tk] 9) = wl at *
              clear hsz
              refine hK.out _ _ (by exact ⟨bx.cell 0, bx.cell 1, bx.cell 2, bx.cell 3, bx.cell 4⟩) (fun hHeld => ?_)
              clear hK K
              try simp only [Act.put, List.setIfInBounds_toArray, List.set_cons_zero, List.set_cons_succ]
              refine' wpAnyZ_takeA (i := 10) (v := ?_) (opAt rfl) (by kernel_rfl) (by kernel_rfl) (by kernel_rfl) (by kernel_rfl) (fun _ _ _ h => h) (by assumption) (by rfl) (fun w hSw => ?_) ?_
              rotate_left
              · (try dsimp only at hSw); go_simp; (try with_reducible rfl)
              try simp only [Act.put, List.setIfInBounds_toArray, List.set_cons_zero, List.set_cons_succ]
              refine wpAnyZ_done (by kernel_rfl) ?_ _
              replace ho : wl.ownsRow (w.heap.size + 1) 9 1 (.slice (some ⟨wt.heap.size, 0, none⟩) 2 2) 2 (strs [⟨#[100, 101, 108, 101, 116, 101]⟩, tk]) := ho
              clear bf
              have mc := fun i => bx.cell i
              go_wp2_with fail
              refine (JO.out _ _ _ ho).mono ?_
              rintro e wj ⟨rfl, hb1⟩
              go_wp2_with fail
              go_ret
              exact ⟨rfl, B0.trans (hb1.mono B0.size)⟩
            exact AllReadyZ.nil
          exact AllReadyZ.nil
        refine AllReadyZ.cons (opAt rfl) (fun K hK => ?_) ?_
        · skip
          go_simp
          refine (T1.out _).mono ?_
          rintro e wt ⟨rfl, hb1⟩
          replace bf := bf.below hb1 bf.lt
          replace B0 := B0.trans (hb1.mono (Nat.le_of_lt bx.lt))
          replace bx := bx.below hb1 bx.lt
          clear hb1
          try go_wp2_with fail
          refine hK.out _ _ (by exact ⟨bx.cell 0, bx.cell 1, bx.cell 2, bx.cell 3, bx.cell 4⟩) (fun hHeld => ?_)
          clear hK K
          try simp only [Act.put, List.setIfInBounds_toArray, List.set_cons_zero, List.set_cons_succ]
          refine wpAnyZ_ready (rs := [5]) (by kernel_rfl) (by simp) ?_
          refine AllReadyZ.cons (opAt rfl) (fun K hK => ?_) ?_
          · skip
            have zf := bf.cell 2
            go_simp
            clear zf
            refine hK.out _ _ (by exact ⟨bx.cell 0, bx.cell 1, bx.cell 2, bx.cell 3, bx.cell 4⟩) (fun hHeld => ?_)
            clear hK K
            try simp only [Act.put, List.setIfInBounds_toArray, List.set_cons_zero, List.set_cons_succ]
            refine wpAnyZ_ready (rs := [9]) (by kernel_rfl) (by simp) ?_
            refine AllReadyZ.cons (opAt rfl) (fun K hK => ?_) ?_
            · skip
              go_simp
              have hsz : w.heap.size + 1 ≤ wt.heap.size := bx.lt
              have ho := own_lit wt 9 #[.string ⟨#[100, 101, 108, 101, 116, 101]⟩, .string tk] 2 (w.heap.size + 1) hsz rfl (by omega)
              replace bx := bx.alloc (.cells #[.string ⟨#[100, 101, 108, 101, 116, 101]⟩, .string tk] 9)
              replace B0 := B0.alloc B0.size (.cells #[.string ⟨#[100, 101, 108, 101, 116, 101]⟩, .string tk] 9)
              generalize wt.alloc (.cells #[.string ⟨#[100, 101, 108, 101, 116, 101]⟩, .string tk] 9) = wl at *
              clear hsz
              refine hK.out _ _ (by exact ⟨bx.cell 0, bx.cell 1, bx.cell 2, bx.cell 3, bx.cell 4⟩) (fun hHeld => ?_)
              clear hK K
              try simp only [Act.put, List.setIfInBounds_toArray, List.set_cons_zero, List.set_cons_succ]
              refine' wpAnyZ_takeA (i := 10) (v := ?_) (opAt rfl) (by kernel_rfl) (by kernel_rfl) (by kernel_rfl) (by kernel_rfl) (fun _ _ _ h => h) (by assumption) (by rfl) (fun w hSw => ?_) ?_
              rotate_left
              · (try dsimp only at hSw); go_simp; (try with_reducible rfl)
              try simp only [Act.put, List.setIfInBounds_toArray, List.set_cons_zero, List.set_cons_succ]
              refine wpAnyZ_done (by kernel_rfl) ?_ _
              replace ho : wl.ownsRow (w.heap.size + 1) 9 1 (.slice (some ⟨wt.heap.size, 0, none⟩) 2 2) 2 (strs [⟨#[100, 101, 108, 101, 116, 101]⟩, tk]) := ho
              clear bf
              have mc := fun i => bx.cell i
              go_wp2_with fail
              refine (JO.out _ _ _ ho).mono ?_
              rintro e wj ⟨rfl, hb1⟩
              go_wp2_with fail
              go_ret
              exact ⟨rfl, B0.trans (hb1.mono B0.size)⟩
            exact AllReadyZ.nil
          exact AllReadyZ.nil
        exact AllReadyZ.nil
      exact AllReadyZ.nil
    exact AllReadyZ.nil
  exact AllReadyZ.nil
set_option maxRecDepth 100000 in
set_option maxHeartbeats 4000000 in
theorem sop_4 (key : Nat) (hi : Nat) (mo : Int) (w : World) (hT : Tab w) (h1 : key < 18446744073709551616) (h2 : hi < 18446744073709551616) (h3 : I64 mo) (hR : opRight 4 mo = true) : Calls Tryz.prog 59 #[.agg #[.int .i64 4, .int .u64 (key : Nat), .int .u64 0, .int .u64 (hi : Nat), .int .i64 mo]] w fun e w' => e = .returned (.string (joinT [nmd kindL 4, numT key, numT hi, intT mo])) ∧ Below w.heap.size w w' := by
  have B0 := (Below.refl w.heap.size w).alloc (Nat.le_refl _) (.cells #[.int .i64 4, .int .u64 (key : Nat), .int .u64 0, .int .u64 (hi : Nat), .int .i64 mo] 48)
  have bx := Blk.new w 48 #[.int .i64 4, .int .u64 (key : Nat), .int .u64 0, .int .u64 (hi : Nat), .int .i64 mo]
  obtain ⟨i0, hi0, hz0, hs0, hb0⟩ := info_parts infoStr
  have RR := hide (fun w2 => mright_any 4 key 0 hi mo w2)
  rw [hR] at RR
  have PL := hide (fun w2 => plain_4 key 0 hi mo w2)
  rw [show ((0 : Nat) : Int) = 0 from rfl] at PL RR
  have KF := hide (fun w2 (hb : Below w.heap.size w w2) => kfields_any w2 (hT.below hb))
  have T1 := hide (fun w2 => text_any key w2 h1)
  rw [show strOfNums (form 10 key) = numT key from rfl] at T1
  have T2 := hide (fun w2 => text_any hi w2 h2)
  rw [show strOfNums (form 10 hi) = numT hi from rfl] at T2
  have T3 := hide (fun w2 => int_any mo w2 h3)
  rw [show strOfNums (intL mo) = intT mo from rfl] at T3
  have HSZ := hide (show (joinT [nmd kindL 4, numT key, numT hi, intT mo]).size ≤ 500 from opW_size 4 key 0 hi mo)
  rw [show nmd kindL 4 = ⟨#[115, 99, 97, 110]⟩ from rfl] at HSZ ⊢
  generalize numT key = tk at *
  generalize numT hi = th at *
  generalize intT mo = tm at *
  have JO := hide (fun A c w2 (ho : w2.ownsRow (w.heap.size + 1) 9 1 (.slice A (4) c) (4) (strs [⟨#[115, 99, 97, 110]⟩, tk, th, tm])) => join_own (w.heap.size + 1) (4) c A _ w2 ho (by omega) (by have := HSZ.out; omega) (by omega))
  generalize joinT [⟨#[115, 99, 97, 110]⟩, tk, th, tm] = Q at *
  clear hT h1 h2 h3 hR
  go_enter Tryz.func59, Tryz.ntmps59
  go_wp2_with fail
  generalize w.alloc (.cells #[.int .i64 4, .int .u64 (key : Nat), .int .u64 0, .int .u64 (hi : Nat), .int .i64 mo] 48) = w0 at *
  refine wp_region_heldZ [] (fun w' => w'.cell? ⟨w.heap.size, 0, none⟩ = some (.int .i64 4) ∧ w'.cell? ⟨w.heap.size, 1, none⟩ = some (.int .u64 (key : Nat)) ∧ w'.cell? ⟨w.heap.size, 2, none⟩ = some (.int .u64 0) ∧ w'.cell? ⟨w.heap.size, 3, none⟩ = some (.int .u64 (hi : Nat)) ∧ w'.cell? ⟨w.heap.size, 4, none⟩ = some (.int .i64 mo)) (by kernel_rfl) (by exact ⟨bx.cell 0, bx.cell 1, bx.cell 2, bx.cell 3, bx.cell 4⟩) (fun hHeld => ?_)
  replace bx := bx.drew
  replace B0 := B0.drew
  generalize w0.drew = wd at *
  refine' wpAnyZ_takeA (i := 0) (v := ?_) (opAt rfl) (by kernel_rfl) (by kernel_rfl) (by kernel_rfl) (by kernel_rfl) (fun _ _ _ h => h) (by assumption) (by rfl) (fun w hSw => ?_) ?_
  rotate_left
  · (try dsimp only at hSw); go_simp; (try with_reducible rfl)
  try simp only [Act.put, List.setIfInBounds_toArray, List.set_cons_zero, List.set_cons_succ]
  refine wpAnyZ_ready (rs := [1]) (by kernel_rfl) (by simp) ?_
  refine AllReadyZ.cons (opAt rfl) (fun K hK => ?_) ?_
  · skip
    go_simp
    refine (RR.out _).mono ?_
    rintro e w1 ⟨rfl, hb1⟩
    replace B0 := B0.trans (hb1.mono (Nat.le_of_lt bx.lt))
    replace bx := bx.below hb1 bx.lt
    clear hb1
    try go_wp2_with fail
    refine hK.out _ _ (by exact ⟨bx.cell 0, bx.cell 1, bx.cell 2, bx.cell 3, bx.cell 4⟩) (fun hHeld => ?_)
    clear hK K
    try simp only [Act.put, List.setIfInBounds_toArray, List.set_cons_zero, List.set_cons_succ]
    refine' wpAnyZ_takeA (i := 2) (v := ?_) (opAt rfl) (by kernel_rfl) (by kernel_rfl) (by kernel_rfl) (by kernel_rfl) (fun _ _ _ h => h) (by assumption) (by rfl) (fun w hSw => ?_) ?_
    rotate_left
    · (try dsimp only at hSw); go_simp; (try with_reducible rfl)
    try simp only [Act.put, List.setIfInBounds_toArray, List.set_cons_zero, List.set_cons_succ]
    refine' wpAnyZ_takeA (i := 3) (v := ?_) (opAt rfl) (by kernel_rfl) (by kernel_rfl) (by kernel_rfl) (by kernel_rfl) (fun _ _ _ h => h) (by assumption) (by rfl) (fun w hSw => ?_) ?_
    rotate_left
    · (try dsimp only at hSw); go_simp; (try with_reducible rfl)
    try simp only [Act.put, List.setIfInBounds_toArray, List.set_cons_zero, List.set_cons_succ]
    refine' wpAnyZ_takeA (i := 4) (v := ?_) (opAt rfl) (by kernel_rfl) (by kernel_rfl) (by kernel_rfl) (by kernel_rfl) (fun _ _ _ h => h) (by assumption) (by rfl) (fun w hSw => ?_) ?_
    rotate_left
    · (try dsimp only at hSw); go_simp; (try with_reducible rfl)
    try simp only [Act.put, List.setIfInBounds_toArray, List.set_cons_zero, List.set_cons_succ]
    refine' wpAnyZ_takeA (i := 5) (v := ?_) (opAt rfl) (by kernel_rfl) (by kernel_rfl) (by kernel_rfl) (by kernel_rfl) (fun _ _ _ h => h) (by assumption) (by rfl) (fun w hSw => ?_) ?_
    rotate_left
    · (try dsimp only at hSw); go_simp; (try with_reducible rfl)
    try simp only [Act.put, List.setIfInBounds_toArray, List.set_cons_zero, List.set_cons_succ]
    refine wpAnyZ_ready (rs := [6]) (by kernel_rfl) (by simp) ?_
    refine AllReadyZ.cons (opAt rfl) (fun K hK => ?_) ?_
    · skip
      go_simp
      refine (PL.out _).mono ?_
      rintro e w2 ⟨rfl, hb1⟩
      replace B0 := B0.trans (hb1.mono (Nat.le_of_lt bx.lt))
      replace bx := bx.below hb1 bx.lt
      clear hb1
      try go_wp2_with fail
      refine hK.out _ _ (by exact ⟨bx.cell 0, bx.cell 1, bx.cell 2, bx.cell 3, bx.cell 4⟩) (fun hHeld => ?_)
      clear hK K
      try simp only [Act.put, List.setIfInBounds_toArray, List.set_cons_zero, List.set_cons_succ]
      refine' wpAnyZ_takeA (i := 7) (v := ?_) (opAt rfl) (by kernel_rfl) (by kernel_rfl) (by kernel_rfl) (by kernel_rfl) (fun _ _ _ h => h) (by assumption) (by rfl) (fun w hSw => ?_) ?_
      rotate_left
      · (try dsimp only at hSw); go_simp; (try with_reducible rfl)
      try simp only [Act.put, List.setIfInBounds_toArray, List.set_cons_zero, List.set_cons_succ]
      refine' wpAnyZ_takeA (i := 8) (v := ?_) (opAt rfl) (by kernel_rfl) (by kernel_rfl) (by kernel_rfl) (by kernel_rfl) (fun _ _ _ h => h) (by assumption) (by rfl) (fun w hSw => ?_) ?_
      rotate_left
      · (try dsimp only at hSw); go_simp; (try with_reducible rfl)
      try simp only [Act.put, List.setIfInBounds_toArray, List.set_cons_zero, List.set_cons_succ]
      refine wpAnyZ_done (by kernel_rfl) ?_ _
      go_wp2_with fail
      have hwk : IntKind.i64.wrap 3 = 3 := by decide
      refine wp_region_heldZ [] (fun w' => w'.cell? ⟨w.heap.size, 0, none⟩ = some (.int .i64 4) ∧ w'.cell? ⟨w.heap.size, 1, none⟩ = some (.int .u64 (key : Nat)) ∧ w'.cell? ⟨w.heap.size, 2, none⟩ = some (.int .u64 0) ∧ w'.cell? ⟨w.heap.size, 3, none⟩ = some (.int .u64 (hi : Nat)) ∧ w'.cell? ⟨w.heap.size, 4, none⟩ = some (.int .i64 mo)) (by kernel_rfl) (by exact ⟨bx.cell 0, bx.cell 1, bx.cell 2, bx.cell 3, bx.cell 4⟩) (fun hHeld => ?_)
      replace bx := bx.drew
      replace B0 := B0.drew
      generalize w2.drew = wz at *
      refine' wpAnyZ_takeA (i := 1) (v := ?_) (opAt rfl) (by kernel_rfl) (by kernel_rfl) (by kernel_rfl) (by kernel_rfl) (fun _ _ _ h => h) (by assumption) (by rfl) (fun w hSw => ?_) ?_
      rotate_left
      · (try dsimp only at hSw); go_simp; (try with_reducible rfl)
      try simp only [Act.put, List.setIfInBounds_toArray, List.set_cons_zero, List.set_cons_succ]
      refine' wpAnyZ_takeA (i := 2) (v := ?_) (opAt rfl) (by kernel_rfl) (by kernel_rfl) (by kernel_rfl) (by kernel_rfl) (fun _ _ _ h => h) (by assumption) (by rfl) (fun w hSw => ?_) ?_
      rotate_left
      · (try dsimp only at hSw); go_simp; (try with_reducible rfl)
      try simp only [Act.put, List.setIfInBounds_toArray, List.set_cons_zero, List.set_cons_succ]
      refine' wpAnyZ_takeA (i := 3) (v := ?_) (opAt rfl) (by kernel_rfl) (by kernel_rfl) (by kernel_rfl) (by kernel_rfl) (fun _ _ _ h => h) (by assumption) (by rfl) (fun w hSw => ?_) ?_
      rotate_left
      · (try dsimp only at hSw); go_simp; (try with_reducible rfl)
      try simp only [Act.put, List.setIfInBounds_toArray, List.set_cons_zero, List.set_cons_succ]
      refine' wpAnyZ_takeA (i := 6) (v := ?_) (opAt rfl) (by kernel_rfl) (by kernel_rfl) (by kernel_rfl) (by kernel_rfl) (fun _ _ _ h => h) (by assumption) (by rfl) (fun w hSw => ?_) ?_
      rotate_left
      · (try dsimp only at hSw); go_simp; (try with_reducible rfl)
      try simp only [Act.put, List.setIfInBounds_toArray, List.set_cons_zero, List.set_cons_succ]
      refine' wpAnyZ_takeA (i := 7) (v := ?_) (opAt rfl) (by kernel_rfl) (by kernel_rfl) (by kernel_rfl) (by kernel_rfl) (fun _ _ _ h => h) (by assumption) (by rfl) (fun w hSw => ?_) ?_
      rotate_left
      · (try dsimp only at hSw); go_simp; (try with_reducible rfl)
      try simp only [Act.put, List.setIfInBounds_toArray, List.set_cons_zero, List.set_cons_succ]
      refine wpAnyZ_ready (rs := [0]) (by kernel_rfl) (by simp) ?_
      refine AllReadyZ.cons (opAt rfl) (fun K hK => ?_) ?_
      · skip
        go_simp
        refine (KF.out _ B0).mono ?_
        rintro e w9 ⟨rfl, rfl⟩
        have bf := Blk.new wz 9 #[.string ⟨#[103, 101, 116]⟩, .string ⟨#[112, 117, 116]⟩, .string ⟨#[100, 101, 108, 101, 116, 101]⟩, .string ⟨#[115, 99, 97, 110]⟩]
        have hgb : w.heap.size < wz.heap.size := bx.lt
        replace bx := bx.alloc (.cells #[.string ⟨#[103, 101, 116]⟩, .string ⟨#[112, 117, 116]⟩, .string ⟨#[100, 101, 108, 101, 116, 101]⟩, .string ⟨#[115, 99, 97, 110]⟩] 9)
        replace B0 := B0.alloc B0.size (.cells #[.string ⟨#[103, 101, 116]⟩, .string ⟨#[112, 117, 116]⟩, .string ⟨#[100, 101, 108, 101, 116, 101]⟩, .string ⟨#[115, 99, 97, 110]⟩] 9)
        generalize wz.alloc (.cells #[.string ⟨#[103, 101, 116]⟩, .string ⟨#[112, 117, 116]⟩, .string ⟨#[100, 101, 108, 101, 116, 101]⟩, .string ⟨#[115, 99, 97, 110]⟩] 9) = wf at *
        generalize wz.heap.size = gf at *
        try go_wp2_with fail
        refine hK.out _ _ (by exact ⟨bx.cell 0, bx.cell 1, bx.cell 2, bx.cell 3, bx.cell 4⟩) (fun hHeld => ?_)
        clear hK K
        try simp only [Act.put, List.setIfInBounds_toArray, List.set_cons_zero, List.set_cons_succ]
        refine' wpAnyZ_takeA (i := 4) (v := ?_) (opAt rfl) (by kernel_rfl) (by kernel_rfl) (by kernel_rfl) (by kernel_rfl) (fun _ _ _ h => h) (by assumption) (by rfl) (fun w hSw => ?_) ?_
        rotate_left
        · (try dsimp only at hSw); go_simp; (try with_reducible rfl)
        try simp only [Act.put, List.setIfInBounds_toArray, List.set_cons_zero, List.set_cons_succ]
        refine wpAnyZ_ready (rs := [5, 8]) (by kernel_rfl) (by simp) ?_
        refine AllReadyZ.cons (opAt rfl) (fun K hK => ?_) ?_
        · skip
          have zf := bf.cell 3
          go_simp
          clear zf
          refine hK.out _ _ (by exact ⟨bx.cell 0, bx.cell 1, bx.cell 2, bx.cell 3, bx.cell 4⟩) (fun hHeld => ?_)
          clear hK K
          try simp only [Act.put, List.setIfInBounds_toArray, List.set_cons_zero, List.set_cons_succ]
          refine wpAnyZ_ready (rs := [8]) (by kernel_rfl) (by simp) ?_
          refine AllReadyZ.cons (opAt rfl) (fun K hK => ?_) ?_
          · skip
            go_simp
            refine (T1.out _).mono ?_
            rintro e wt ⟨rfl, hb1⟩
            replace bf := bf.below hb1 bf.lt
            replace B0 := B0.trans (hb1.mono (Nat.le_of_lt bx.lt))
            replace bx := bx.below hb1 bx.lt
            clear hb1
            try go_wp2_with fail
            refine hK.out _ _ (by exact ⟨bx.cell 0, bx.cell 1, bx.cell 2, bx.cell 3, bx.cell 4⟩) (fun hHeld => ?_)
            clear hK K
            try simp only [Act.put, List.setIfInBounds_toArray, List.set_cons_zero, List.set_cons_succ]
            refine wpAnyZ_ready (rs := [9]) (by kernel_rfl) (by simp) ?_
            refine AllReadyZ.cons (opAt rfl) (fun K hK => ?_) ?_
            · skip
              go_simp
              have hsz : w.heap.size + 1 ≤ wt.heap.size := bx.lt
              have ho := own_lit wt 9 #[.string ⟨#[115, 99, 97, 110]⟩, .string tk] 2 (w.heap.size + 1) hsz rfl (by omega)
              replace bx := bx.alloc (.cells #[.string ⟨#[115, 99, 97, 110]⟩, .string tk] 9)
              replace B0 := B0.alloc B0.size (.cells #[.string ⟨#[115, 99, 97, 110]⟩, .string tk] 9)
              generalize wt.alloc (.cells #[.string ⟨#[115, 99, 97, 110]⟩, .string tk] 9) = wl at *
              clear hsz
              refine hK.out _ _ (by exact ⟨bx.cell 0, bx.cell 1, bx.cell 2, bx.cell 3, bx.cell 4⟩) (fun hHeld => ?_)
              clear hK K
              try simp only [Act.put, List.setIfInBounds_toArray, List.set_cons_zero, List.set_cons_succ]
              refine' wpAnyZ_takeA (i := 10) (v := ?_) (opAt rfl) (by kernel_rfl) (by kernel_rfl) (by kernel_rfl) (by kernel_rfl) (fun _ _ _ h => h) (by assumption) (by rfl) (fun w hSw => ?_) ?_
              rotate_left
              · (try dsimp only at hSw); go_simp; (try with_reducible rfl)
              try simp only [Act.put, List.setIfInBounds_toArray, List.set_cons_zero, List.set_cons_succ]
              refine wpAnyZ_done (by kernel_rfl) ?_ _
              replace ho : wl.ownsRow (w.heap.size + 1) 9 1 (.slice (some ⟨wt.heap.size, 0, none⟩) 2 2) 2 (strs [⟨#[115, 99, 97, 110]⟩, tk]) := ho
              clear bf
              have mc := fun i => bx.cell i
              go_wp2_with fail
              refine wp_region_heldZ [] (fun w' => w'.cell? ⟨w.heap.size, 3, none⟩ = some (.int .u64 (hi : Nat)) ∧ w'.cell? ⟨w.heap.size, 4, none⟩ = some (.int .i64 mo)) (by kernel_rfl) (by exact ⟨bx.cell 3, bx.cell 4⟩) (fun hHeld => ?_)
              replace bx := bx.drew
              replace B0 := B0.drew
              replace ho := (show wl.drew.ownsRow _ _ _ _ _ _ from ho)
              clear mc
              generalize wl.drew = wld at *
              refine' wpAnyZ_takeA (i := 0) (v := ?_) (opAt rfl) (by kernel_rfl) (by kernel_rfl) (by kernel_rfl) (by kernel_rfl) (fun _ _ _ h => h) (by assumption) (by rfl) (fun w hSw => ?_) ?_
              rotate_left
              · (try dsimp only at hSw); go_simp; (try with_reducible rfl)
              try simp only [Act.put, List.setIfInBounds_toArray, List.set_cons_zero, List.set_cons_succ]
              refine' wpAnyZ_takeA (i := 1) (v := ?_) (opAt rfl) (by kernel_rfl) (by kernel_rfl) (by kernel_rfl) (by kernel_rfl) (fun _ _ _ h => h) (by assumption) (by rfl) (fun w hSw => ?_) ?_
              rotate_left
              · (try dsimp only at hSw); go_simp; (try with_reducible rfl)
              try simp only [Act.put, List.setIfInBounds_toArray, List.set_cons_zero, List.set_cons_succ]
              refine' wpAnyZ_takeA (i := 2) (v := ?_) (opAt rfl) (by kernel_rfl) (by kernel_rfl) (by kernel_rfl) (by kernel_rfl) (fun _ _ _ h => h) (by assumption) (by rfl) (fun w hSw => ?_) ?_
              rotate_left
              · (try dsimp only at hSw); go_simp; (try with_reducible rfl)
              try simp only [Act.put, List.setIfInBounds_toArray, List.set_cons_zero, List.set_cons_succ]
              refine' wpAnyZ_takeA (i := 4) (v := ?_) (opAt rfl) (by kernel_rfl) (by kernel_rfl) (by kernel_rfl) (by kernel_rfl) (fun _ _ _ h => h) (by assumption) (by rfl) (fun w hSw => ?_) ?_
              rotate_left
              · (try dsimp only at hSw); go_simp; (try with_reducible rfl)
              try simp only [Act.put, List.setIfInBounds_toArray, List.set_cons_zero, List.set_cons_succ]
              refine' wpAnyZ_takeA (i := 5) (v := ?_) (opAt rfl) (by kernel_rfl) (by kernel_rfl) (by kernel_rfl) (by kernel_rfl) (fun _ _ _ h => h) (by assumption) (by rfl) (fun w hSw => ?_) ?_
              rotate_left
              · (try dsimp only at hSw); go_simp; (try with_reducible rfl)
              try simp only [Act.put, List.setIfInBounds_toArray, List.set_cons_zero, List.set_cons_succ]
              refine wpAnyZ_ready (rs := [3]) (by kernel_rfl) (by simp) ?_
              refine AllReadyZ.cons (opAt rfl) (fun K hK => ?_) ?_
              · skip
                go_simp
                refine (T2.out _).mono ?_
                rintro e wa ⟨rfl, hb1⟩
                replace B0 := B0.trans (hb1.mono (Nat.le_of_lt bx.lt))
                replace bx := bx.below hb1 bx.lt
                replace ho := own_below ho hb1
                clear hb1
                try go_wp2_with fail
                refine hK.out _ _ (by exact ⟨bx.cell 3, bx.cell 4⟩) (fun hHeld => ?_)
                clear hK K
                try simp only [Act.put, List.setIfInBounds_toArray, List.set_cons_zero, List.set_cons_succ]
                refine wpAnyZ_ready (rs := [6]) (by kernel_rfl) (by simp) ?_
                refine AllReadyZ.cons (opAt rfl) (fun K hK => ?_) ?_
                · skip
                  go_simp
                  refine (T3.out _).mono ?_
                  rintro e wb ⟨rfl, hb1⟩
                  replace B0 := B0.trans (hb1.mono (Nat.le_of_lt bx.lt))
                  replace bx := bx.below hb1 bx.lt
                  replace ho := own_below ho hb1
                  clear hb1
                  try go_wp2_with fail
                  refine hK.out _ _ (by exact ⟨bx.cell 3, bx.cell 4⟩) (fun hHeld => ?_)
                  clear hK K
                  try simp only [Act.put, List.setIfInBounds_toArray, List.set_cons_zero, List.set_cons_succ]
                  refine wpAnyZ_ready (rs := [7]) (by kernel_rfl) (by simp) ?_
                  refine AllReadyZ.cons (opAt rfl) (fun K hK => ?_) ?_
                  · skip
                    go_simp
                    have hr6 := Reads.new wb (strs [th, tm]) 9 2 1 rfl
                    have hsz : w.heap.size + 1 ≤ wb.heap.size := bx.lt
                    replace bx := bx.alloc (.cells #[.string th, .string tm] 9)
                    replace B0 := B0.alloc B0.size (.cells #[.string th, .string tm] 9)
                    replace ho := World.ownsRow.alloc ho (.cells #[.string th, .string tm] 9)
                    refine hK.out _ _ (by exact ⟨bx.cell 3, bx.cell 4⟩) (fun hHeld => ?_)
                    clear hK K
                    try simp only [Act.put, List.setIfInBounds_toArray, List.set_cons_zero, List.set_cons_succ]
                    refine wpAnyZ_ready (rs := [8]) (by kernel_rfl) (by simp) ?_
                    refine AllReadyZ.cons (opAt rfl) (fun K hK => ?_) ?_
                    · skip
                      refine step_append_any _ (by rfl) (.tmp 35) (.tmp 42) _ (by rfl) (w.heap.size + 1) 9 i0 _ 1 16 Tryz.underlying87 hi0 hz0 hs0 hb0 rfl (by omega) _ 2 _ (by rfl) ho (wb.heap.size + 1) (some ⟨wb.heap.size, 0, none⟩) 2 2 (strs [th, tm]) (by rfl) hr6 (strs_one _) (by unfold maxLen; omega) (by omega) (by simp only [World.size_alloc]; omega) ?_
                      intro v3 wc ho3 hg3 hat3
                      replace bx := blk_appended bx ho hg3 (by omega)
                      replace B0 := below_appended B0 ho hg3 (by omega) (by simp only [World.size_alloc]; omega)
                      obtain ⟨A3, c3, rfl, _⟩ := own_reads ho3
                      rw [← strs_app] at ho3
                      clear ho hg3 hat3 hr6 hsz
                      have ho := ho3
                      clear ho3
                      refine hK.out _ _ (by exact ⟨bx.cell 3, bx.cell 4⟩) (fun hHeld => ?_)
                      clear hK K
                      try simp only [Act.put, List.setIfInBounds_toArray, List.set_cons_zero, List.set_cons_succ]
                      refine' wpAnyZ_takeA (i := 9) (v := ?_) (opAt rfl) (by kernel_rfl) (by kernel_rfl) (by kernel_rfl) (by kernel_rfl) (fun _ _ _ h => h) (by assumption) (by rfl) (fun w hSw => ?_) ?_
                      rotate_left
                      · (try dsimp only at hSw); go_simp; (try with_reducible rfl)
                      try simp only [Act.put, List.setIfInBounds_toArray, List.set_cons_zero, List.set_cons_succ]
                      refine wpAnyZ_done (by kernel_rfl) ?_ _
                      go_wp2_with fail
                      refine (JO.out _ _ _ ho).mono ?_
                      rintro e wj ⟨rfl, hb1⟩
                      go_wp2_with fail
                      go_ret
                      exact ⟨rfl, B0.trans (hb1.mono B0.size)⟩
                    exact AllReadyZ.nil
                  exact AllReadyZ.nil
                exact AllReadyZ.nil
              exact AllReadyZ.nil
            exact AllReadyZ.nil
          exact AllReadyZ.nil
        refine AllReadyZ.cons (opAt rfl) (fun K hK => ?_) ?_
        · skip
          go_simp
          refine (T1.out _).mono ?_
          rintro e wt ⟨rfl, hb1⟩
          replace bf := bf.below hb1 bf.lt
          replace B0 := B0.trans (hb1.mono (Nat.le_of_lt bx.lt))
          replace bx := bx.below hb1 bx.lt
          clear hb1
          try go_wp2_with fail
          refine hK.out _ _ (by exact ⟨bx.cell 0, bx.cell 1, bx.cell 2, bx.cell 3, bx.cell 4⟩) (fun hHeld => ?_)
          clear hK K
          try simp only [Act.put, List.setIfInBounds_toArray, List.set_cons_zero, List.set_cons_succ]
          refine wpAnyZ_ready (rs := [5]) (by kernel_rfl) (by simp) ?_
          refine AllReadyZ.cons (opAt rfl) (fun K hK => ?_) ?_
          · skip
            have zf := bf.cell 3
            go_simp
            clear zf
            refine hK.out _ _ (by exact ⟨bx.cell 0, bx.cell 1, bx.cell 2, bx.cell 3, bx.cell 4⟩) (fun hHeld => ?_)
            clear hK K
            try simp only [Act.put, List.setIfInBounds_toArray, List.set_cons_zero, List.set_cons_succ]
            refine wpAnyZ_ready (rs := [9]) (by kernel_rfl) (by simp) ?_
            refine AllReadyZ.cons (opAt rfl) (fun K hK => ?_) ?_
            · skip
              go_simp
              have hsz : w.heap.size + 1 ≤ wt.heap.size := bx.lt
              have ho := own_lit wt 9 #[.string ⟨#[115, 99, 97, 110]⟩, .string tk] 2 (w.heap.size + 1) hsz rfl (by omega)
              replace bx := bx.alloc (.cells #[.string ⟨#[115, 99, 97, 110]⟩, .string tk] 9)
              replace B0 := B0.alloc B0.size (.cells #[.string ⟨#[115, 99, 97, 110]⟩, .string tk] 9)
              generalize wt.alloc (.cells #[.string ⟨#[115, 99, 97, 110]⟩, .string tk] 9) = wl at *
              clear hsz
              refine hK.out _ _ (by exact ⟨bx.cell 0, bx.cell 1, bx.cell 2, bx.cell 3, bx.cell 4⟩) (fun hHeld => ?_)
              clear hK K
              try simp only [Act.put, List.setIfInBounds_toArray, List.set_cons_zero, List.set_cons_succ]
              refine' wpAnyZ_takeA (i := 10) (v := ?_) (opAt rfl) (by kernel_rfl) (by kernel_rfl) (by kernel_rfl) (by kernel_rfl) (fun _ _ _ h => h) (by assumption) (by rfl) (fun w hSw => ?_) ?_
              rotate_left
              · (try dsimp only at hSw); go_simp; (try with_reducible rfl)
              try simp only [Act.put, List.setIfInBounds_toArray, List.set_cons_zero, List.set_cons_succ]
              refine wpAnyZ_done (by kernel_rfl) ?_ _
              replace ho : wl.ownsRow (w.heap.size + 1) 9 1 (.slice (some ⟨wt.heap.size, 0, none⟩) 2 2) 2 (strs [⟨#[115, 99, 97, 110]⟩, tk]) := ho
              clear bf
              have mc := fun i => bx.cell i
              go_wp2_with fail
              refine wp_region_heldZ [] (fun w' => w'.cell? ⟨w.heap.size, 3, none⟩ = some (.int .u64 (hi : Nat)) ∧ w'.cell? ⟨w.heap.size, 4, none⟩ = some (.int .i64 mo)) (by kernel_rfl) (by exact ⟨bx.cell 3, bx.cell 4⟩) (fun hHeld => ?_)
              replace bx := bx.drew
              replace B0 := B0.drew
              replace ho := (show wl.drew.ownsRow _ _ _ _ _ _ from ho)
              clear mc
              generalize wl.drew = wld at *
              refine' wpAnyZ_takeA (i := 0) (v := ?_) (opAt rfl) (by kernel_rfl) (by kernel_rfl) (by kernel_rfl) (by kernel_rfl) (fun _ _ _ h => h) (by assumption) (by rfl) (fun w hSw => ?_) ?_
              rotate_left
              · (try dsimp only at hSw); go_simp; (try with_reducible rfl)
              try simp only [Act.put, List.setIfInBounds_toArray, List.set_cons_zero, List.set_cons_succ]
              refine' wpAnyZ_takeA (i := 1) (v := ?_) (opAt rfl) (by kernel_rfl) (by kernel_rfl) (by kernel_rfl) (by kernel_rfl) (fun _ _ _ h => h) (by assumption) (by rfl) (fun w hSw => ?_) ?_
              rotate_left
              · (try dsimp only at hSw); go_simp; (try with_reducible rfl)
              try simp only [Act.put, List.setIfInBounds_toArray, List.set_cons_zero, List.set_cons_succ]
              refine' wpAnyZ_takeA (i := 2) (v := ?_) (opAt rfl) (by kernel_rfl) (by kernel_rfl) (by kernel_rfl) (by kernel_rfl) (fun _ _ _ h => h) (by assumption) (by rfl) (fun w hSw => ?_) ?_
              rotate_left
              · (try dsimp only at hSw); go_simp; (try with_reducible rfl)
              try simp only [Act.put, List.setIfInBounds_toArray, List.set_cons_zero, List.set_cons_succ]
              refine' wpAnyZ_takeA (i := 4) (v := ?_) (opAt rfl) (by kernel_rfl) (by kernel_rfl) (by kernel_rfl) (by kernel_rfl) (fun _ _ _ h => h) (by assumption) (by rfl) (fun w hSw => ?_) ?_
              rotate_left
              · (try dsimp only at hSw); go_simp; (try with_reducible rfl)
              try simp only [Act.put, List.setIfInBounds_toArray, List.set_cons_zero, List.set_cons_succ]
              refine' wpAnyZ_takeA (i := 5) (v := ?_) (opAt rfl) (by kernel_rfl) (by kernel_rfl) (by kernel_rfl) (by kernel_rfl) (fun _ _ _ h => h) (by assumption) (by rfl) (fun w hSw => ?_) ?_
              rotate_left
              · (try dsimp only at hSw); go_simp; (try with_reducible rfl)
              try simp only [Act.put, List.setIfInBounds_toArray, List.set_cons_zero, List.set_cons_succ]
              refine wpAnyZ_ready (rs := [3]) (by kernel_rfl) (by simp) ?_
              refine AllReadyZ.cons (opAt rfl) (fun K hK => ?_) ?_
              · skip
                go_simp
                refine (T2.out _).mono ?_
                rintro e wa ⟨rfl, hb1⟩
                replace B0 := B0.trans (hb1.mono (Nat.le_of_lt bx.lt))
                replace bx := bx.below hb1 bx.lt
                replace ho := own_below ho hb1
                clear hb1
                try go_wp2_with fail
                refine hK.out _ _ (by exact ⟨bx.cell 3, bx.cell 4⟩) (fun hHeld => ?_)
                clear hK K
                try simp only [Act.put, List.setIfInBounds_toArray, List.set_cons_zero, List.set_cons_succ]
                refine wpAnyZ_ready (rs := [6]) (by kernel_rfl) (by simp) ?_
                refine AllReadyZ.cons (opAt rfl) (fun K hK => ?_) ?_
                · skip
                  go_simp
                  refine (T3.out _).mono ?_
                  rintro e wb ⟨rfl, hb1⟩
                  replace B0 := B0.trans (hb1.mono (Nat.le_of_lt bx.lt))
                  replace bx := bx.below hb1 bx.lt
                  replace ho := own_below ho hb1
                  clear hb1
                  try go_wp2_with fail
                  refine hK.out _ _ (by exact ⟨bx.cell 3, bx.cell 4⟩) (fun hHeld => ?_)
                  clear hK K
                  try simp only [Act.put, List.setIfInBounds_toArray, List.set_cons_zero, List.set_cons_succ]
                  refine wpAnyZ_ready (rs := [7]) (by kernel_rfl) (by simp) ?_
                  refine AllReadyZ.cons (opAt rfl) (fun K hK => ?_) ?_
                  · skip
                    go_simp
                    have hr6 := Reads.new wb (strs [th, tm]) 9 2 1 rfl
                    have hsz : w.heap.size + 1 ≤ wb.heap.size := bx.lt
                    replace bx := bx.alloc (.cells #[.string th, .string tm] 9)
                    replace B0 := B0.alloc B0.size (.cells #[.string th, .string tm] 9)
                    replace ho := World.ownsRow.alloc ho (.cells #[.string th, .string tm] 9)
                    refine hK.out _ _ (by exact ⟨bx.cell 3, bx.cell 4⟩) (fun hHeld => ?_)
                    clear hK K
                    try simp only [Act.put, List.setIfInBounds_toArray, List.set_cons_zero, List.set_cons_succ]
                    refine wpAnyZ_ready (rs := [8]) (by kernel_rfl) (by simp) ?_
                    refine AllReadyZ.cons (opAt rfl) (fun K hK => ?_) ?_
                    · skip
                      refine step_append_any _ (by rfl) (.tmp 35) (.tmp 42) _ (by rfl) (w.heap.size + 1) 9 i0 _ 1 16 Tryz.underlying87 hi0 hz0 hs0 hb0 rfl (by omega) _ 2 _ (by rfl) ho (wb.heap.size + 1) (some ⟨wb.heap.size, 0, none⟩) 2 2 (strs [th, tm]) (by rfl) hr6 (strs_one _) (by unfold maxLen; omega) (by omega) (by simp only [World.size_alloc]; omega) ?_
                      intro v3 wc ho3 hg3 hat3
                      replace bx := blk_appended bx ho hg3 (by omega)
                      replace B0 := below_appended B0 ho hg3 (by omega) (by simp only [World.size_alloc]; omega)
                      obtain ⟨A3, c3, rfl, _⟩ := own_reads ho3
                      rw [← strs_app] at ho3
                      clear ho hg3 hat3 hr6 hsz
                      have ho := ho3
                      clear ho3
                      refine hK.out _ _ (by exact ⟨bx.cell 3, bx.cell 4⟩) (fun hHeld => ?_)
                      clear hK K
                      try simp only [Act.put, List.setIfInBounds_toArray, List.set_cons_zero, List.set_cons_succ]
                      refine' wpAnyZ_takeA (i := 9) (v := ?_) (opAt rfl) (by kernel_rfl) (by kernel_rfl) (by kernel_rfl) (by kernel_rfl) (fun _ _ _ h => h) (by assumption) (by rfl) (fun w hSw => ?_) ?_
                      rotate_left
                      · (try dsimp only at hSw); go_simp; (try with_reducible rfl)
                      try simp only [Act.put, List.setIfInBounds_toArray, List.set_cons_zero, List.set_cons_succ]
                      refine wpAnyZ_done (by kernel_rfl) ?_ _
                      go_wp2_with fail
                      refine (JO.out _ _ _ ho).mono ?_
                      rintro e wj ⟨rfl, hb1⟩
                      go_wp2_with fail
                      go_ret
                      exact ⟨rfl, B0.trans (hb1.mono B0.size)⟩
                    exact AllReadyZ.nil
                  exact AllReadyZ.nil
                exact AllReadyZ.nil
              exact AllReadyZ.nil
            exact AllReadyZ.nil
          exact AllReadyZ.nil
        exact AllReadyZ.nil
      exact AllReadyZ.nil
    exact AllReadyZ.nil
  exact AllReadyZ.nil
theorem sop_any (k : Int) (key vl hi : Nat) (mo : Int) (w : World) (hT : Tab w) (h1 : key < 18446744073709551616) (h2 : vl < 18446744073709551616) (h3 : hi < 18446744073709551616) (h4 : I64 mo) :
    Calls Tryz.prog 59 #[.agg #[.int .i64 k, .int .u64 (key : Nat), .int .u64 (vl : Nat), .int .u64 (hi : Nat), .int .i64 mo]] w fun e w' => e = .returned (.string (opT k key vl hi mo)) ∧ Below w.heap.size w w' := by
  cases hR : opRight k mo with
  | false =>
    rw [opT_no (by unfold opOk; rw [hR]; rfl)]
    exact sop_noR k key vl hi mo w hR
  | true =>
    have hk : k = 1 ∨ k = 2 ∨ k = 3 ∨ k = 4 := by
      unfold opRight at hR
      split at hR
      · omega
      · simp at hR; omega
    cases hok : opOk k vl hi mo with
    | true =>
      have E : opT k key vl hi mo = joinT (opW k key vl hi mo) := by unfold opT; rw [if_pos hok]
      rw [E]
      unfold opOk at hok
      rw [hR] at hok
      simp at hok
      rcases hk with rfl | rfl | rfl | rfl
      · obtain ⟨rfl, rfl, rfl⟩ : vl = 0 ∧ hi = 0 ∧ mo = 0 := by simpa [and_assoc] using hok
        exact sop_1 key w hT h1
      · obtain ⟨rfl, rfl⟩ : hi = 0 ∧ mo = 0 := by simpa using hok
        exact sop_2 key vl w hT h1 h2
      · obtain ⟨rfl, rfl, rfl⟩ : vl = 0 ∧ hi = 0 ∧ mo = 0 := by simpa [and_assoc] using hok
        exact sop_3 key w hT h1
      · obtain rfl : vl = 0 := by simpa using hok
        exact sop_4 key hi mo w hT h1 h3 h4 hR
    | false =>
      rw [opT_no hok]
      unfold opOk at hok
      rw [hR] at hok
      by_cases k2 : k = 2
      · subst k2
        by_cases q : hi = 0
        · subst q
          have hm : mo ≠ 0 := by intro e; subst e; simp at hok
          exact sop_noM 2 key vl 0 mo vl 0 0 w hR (fun w2 => plain_2 key vl 0 mo w2) (by simpa using hm)
        · exact sop_noH 2 key vl hi mo vl 0 0 w hR (fun w2 => plain_2 key vl hi mo w2) (by simp; omega)
      by_cases k4 : k = 4
      · subst k4
        have hv : vl ≠ 0 := by intro e; subst e; simp at hok
        exact sop_noV 4 key vl hi mo 0 hi mo w hR (fun w2 => plain_4 key vl hi mo w2) (by simp; omega)
      · by_cases qv : vl = 0
        · subst qv
          by_cases q : hi = 0
          · subst q
            have hm : mo ≠ 0 := by intro e; subst e; simp at hok
            exact sop_noM k key 0 0 mo 0 0 0 w hR (fun w2 => plain_x k key 0 0 mo (by simpa using k2) (by simpa using k4) w2) (by simpa using hm)
          · exact sop_noH k key 0 hi mo 0 0 0 w hR (fun w2 => plain_x k key 0 hi mo (by simpa using k2) (by simpa using k4) w2) (by simp; omega)
        · exact sop_noV k key vl hi mo 0 0 0 w hR (fun w2 => plain_x k key vl hi mo (by simpa using k2) (by simpa using k4) w2) (by simp; omega)
end Go.Proofs.YtlnckjemfabckaaGreatDoor

/-
  gleaningref28.Op.
-/
namespace Go.Proofs.YtlnckjemfabckaaGreatDoor
open Go.RowKit

theorem rform10_any (n : Nat) (w : World) (hn : n < 18446744073709551616) : Calls Tryz.prog 93 #[.int .u64 n, .int .u64 10] w fun e w' => e = .returned (.string (numT n)) ∧ Below w.heap.size w w' := rform_any 10 n w (by omega) hn
set_option maxRecDepth 100000 in
set_option maxHeartbeats 4000000 in
theorem rop_noR (k : Int) (key vl hi : Nat) (mo : Int) (w : World) (hR : opRight k mo = false) : Calls Tryz.prog 62 #[.agg #[.int .i64 k, .int .u64 (key : Nat), .int .u64 (vl : Nat), .int .u64 (hi : Nat), .int .i64 mo]] w fun e w' => e = .returned (.string ⟨#[]⟩) ∧ Below w.heap.size w w' := by
  have B0 := (Below.refl w.heap.size w).alloc (Nat.le_refl _) (.cells #[.int .i64 k, .int .u64 (key : Nat), .int .u64 (vl : Nat), .int .u64 (hi : Nat), .int .i64 mo] 48)
  have bx := Blk.new w 48 #[.int .i64 k, .int .u64 (key : Nat), .int .u64 (vl : Nat), .int .u64 (hi : Nat), .int .i64 mo]
  have RR := hide (fun w2 => rright_any k key vl hi mo w2)
  rw [hR] at RR
  have mc := fun i => bx.cell i
  clear hR
  go_enter Tryz.func62, Tryz.ntmps62
  go_wp2_with fail
  refine (RR.out _).mono ?_
  rintro e w1 ⟨rfl, hb1⟩
  replace B0 := B0.trans (hb1.mono (Nat.le_of_lt bx.lt))
  replace bx := bx.below hb1 bx.lt
  clear hb1 mc
  have mc := fun i => bx.cell i
  go_wp2_with fail
  go_ret
  exact ⟨rfl, B0⟩
set_option maxRecDepth 100000 in
set_option maxHeartbeats 4000000 in
theorem rop_noV (k : Int) (key vl hi : Nat) (mo : Int) (w : World) (hR : opRight k mo = true) (q2 : (k == 2) = false) (qv : ((vl : Int) == 0) = false) : Calls Tryz.prog 62 #[.agg #[.int .i64 k, .int .u64 (key : Nat), .int .u64 (vl : Nat), .int .u64 (hi : Nat), .int .i64 mo]] w fun e w' => e = .returned (.string ⟨#[]⟩) ∧ Below w.heap.size w w' := by
  have B0 := (Below.refl w.heap.size w).alloc (Nat.le_refl _) (.cells #[.int .i64 k, .int .u64 (key : Nat), .int .u64 (vl : Nat), .int .u64 (hi : Nat), .int .i64 mo] 48)
  have bx := Blk.new w 48 #[.int .i64 k, .int .u64 (key : Nat), .int .u64 (vl : Nat), .int .u64 (hi : Nat), .int .i64 mo]
  have RR := hide (fun w2 => rright_any k key vl hi mo w2)
  rw [hR] at RR
  have mc := fun i => bx.cell i
  clear hR
  have n2 : (k != 2) = true := by simp only [bne, q2]; rfl
  have nv : ((vl : Int) != 0) = true := by simp only [bne, qv]; rfl
  go_enter Tryz.func62, Tryz.ntmps62
  go_wp2_with fail
  refine (RR.out _).mono ?_
  rintro e w1 ⟨rfl, hb1⟩
  replace B0 := B0.trans (hb1.mono (Nat.le_of_lt bx.lt))
  replace bx := bx.below hb1 bx.lt
  clear hb1 mc
  have mc := fun i => bx.cell i
  go_wp2_with fail
  go_ret
  exact ⟨rfl, B0⟩
set_option maxRecDepth 100000 in
set_option maxHeartbeats 4000000 in
theorem rop_noH2 (key vl hi : Nat) (mo : Int) (w : World) (hR : opRight 2 mo = true) (qh : ((hi : Int) == 0) = false) : Calls Tryz.prog 62 #[.agg #[.int .i64 2, .int .u64 (key : Nat), .int .u64 (vl : Nat), .int .u64 (hi : Nat), .int .i64 mo]] w fun e w' => e = .returned (.string ⟨#[]⟩) ∧ Below w.heap.size w w' := by
  have B0 := (Below.refl w.heap.size w).alloc (Nat.le_refl _) (.cells #[.int .i64 2, .int .u64 (key : Nat), .int .u64 (vl : Nat), .int .u64 (hi : Nat), .int .i64 mo] 48)
  have bx := Blk.new w 48 #[.int .i64 2, .int .u64 (key : Nat), .int .u64 (vl : Nat), .int .u64 (hi : Nat), .int .i64 mo]
  have RR := hide (fun w2 => rright_any 2 key vl hi mo w2)
  rw [hR] at RR
  have mc := fun i => bx.cell i
  clear hR
  have nh : ((hi : Int) != 0) = true := by simp only [bne, qh]; rfl
  go_enter Tryz.func62, Tryz.ntmps62
  go_wp2_with fail
  refine (RR.out _).mono ?_
  rintro e w1 ⟨rfl, hb1⟩
  replace B0 := B0.trans (hb1.mono (Nat.le_of_lt bx.lt))
  replace bx := bx.below hb1 bx.lt
  clear hb1 mc
  have mc := fun i => bx.cell i
  go_wp2_with fail
  go_ret
  exact ⟨rfl, B0⟩
set_option maxRecDepth 100000 in
set_option maxHeartbeats 4000000 in
theorem rop_noHx (k : Int) (key hi : Nat) (mo : Int) (w : World) (hR : opRight k mo = true) (q2 : (k == 2) = false) (q4 : (k == 4) = false) (qh : ((hi : Int) == 0) = false) : Calls Tryz.prog 62 #[.agg #[.int .i64 k, .int .u64 (key : Nat), .int .u64 0, .int .u64 (hi : Nat), .int .i64 mo]] w fun e w' => e = .returned (.string ⟨#[]⟩) ∧ Below w.heap.size w w' := by
  have B0 := (Below.refl w.heap.size w).alloc (Nat.le_refl _) (.cells #[.int .i64 k, .int .u64 (key : Nat), .int .u64 0, .int .u64 (hi : Nat), .int .i64 mo] 48)
  have bx := Blk.new w 48 #[.int .i64 k, .int .u64 (key : Nat), .int .u64 0, .int .u64 (hi : Nat), .int .i64 mo]
  have RR := hide (fun w2 => rright_any k key 0 hi mo w2)
  rw [hR] at RR
  rw [show ((0 : Nat) : Int) = 0 from rfl] at RR
  have mc := fun i => bx.cell i
  clear hR
  have n2 : (k != 2) = true := by simp only [bne, q2]; rfl
  have n4 : (k != 4) = true := by simp only [bne, q4]; rfl
  have nh : ((hi : Int) != 0) = true := by simp only [bne, qh]; rfl
  go_enter Tryz.func62, Tryz.ntmps62
  go_wp2_with fail
  refine (RR.out _).mono ?_
  rintro e w1 ⟨rfl, hb1⟩
  replace B0 := B0.trans (hb1.mono (Nat.le_of_lt bx.lt))
  replace bx := bx.below hb1 bx.lt
  clear hb1 mc
  have mc := fun i => bx.cell i
  go_wp2_with fail
  go_ret
  exact ⟨rfl, B0⟩
set_option maxRecDepth 100000 in
set_option maxHeartbeats 4000000 in
theorem rop_noM2 (key vl : Nat) (mo : Int) (w : World) (hR : opRight 2 mo = true) (qm : (mo == 0) = false) : Calls Tryz.prog 62 #[.agg #[.int .i64 2, .int .u64 (key : Nat), .int .u64 (vl : Nat), .int .u64 0, .int .i64 mo]] w fun e w' => e = .returned (.string ⟨#[]⟩) ∧ Below w.heap.size w w' := by
  have B0 := (Below.refl w.heap.size w).alloc (Nat.le_refl _) (.cells #[.int .i64 2, .int .u64 (key : Nat), .int .u64 (vl : Nat), .int .u64 0, .int .i64 mo] 48)
  have bx := Blk.new w 48 #[.int .i64 2, .int .u64 (key : Nat), .int .u64 (vl : Nat), .int .u64 0, .int .i64 mo]
  have RR := hide (fun w2 => rright_any 2 key vl 0 mo w2)
  rw [hR] at RR
  rw [show ((0 : Nat) : Int) = 0 from rfl] at RR
  have mc := fun i => bx.cell i
  clear hR
  have nm : (mo != 0) = true := by simp only [bne, qm]; rfl
  go_enter Tryz.func62, Tryz.ntmps62
  go_wp2_with fail
  refine (RR.out _).mono ?_
  rintro e w1 ⟨rfl, hb1⟩
  replace B0 := B0.trans (hb1.mono (Nat.le_of_lt bx.lt))
  replace bx := bx.below hb1 bx.lt
  clear hb1 mc
  have mc := fun i => bx.cell i
  go_wp2_with fail
  go_ret
  exact ⟨rfl, B0⟩
set_option maxRecDepth 100000 in
set_option maxHeartbeats 4000000 in
theorem rop_noMx (k : Int) (key : Nat) (mo : Int) (w : World) (hR : opRight k mo = true) (q2 : (k == 2) = false) (q4 : (k == 4) = false) (qm : (mo == 0) = false) : Calls Tryz.prog 62 #[.agg #[.int .i64 k, .int .u64 (key : Nat), .int .u64 0, .int .u64 0, .int .i64 mo]] w fun e w' => e = .returned (.string ⟨#[]⟩) ∧ Below w.heap.size w w' := by
  have B0 := (Below.refl w.heap.size w).alloc (Nat.le_refl _) (.cells #[.int .i64 k, .int .u64 (key : Nat), .int .u64 0, .int .u64 0, .int .i64 mo] 48)
  have bx := Blk.new w 48 #[.int .i64 k, .int .u64 (key : Nat), .int .u64 0, .int .u64 0, .int .i64 mo]
  have RR := hide (fun w2 => rright_any k key 0 0 mo w2)
  rw [hR] at RR
  rw [show ((0 : Nat) : Int) = 0 from rfl] at RR
  have mc := fun i => bx.cell i
  clear hR
  have n2 : (k != 2) = true := by simp only [bne, q2]; rfl
  have n4 : (k != 4) = true := by simp only [bne, q4]; rfl
  have nm : (mo != 0) = true := by simp only [bne, qm]; rfl
  go_enter Tryz.func62, Tryz.ntmps62
  go_wp2_with fail
  refine (RR.out _).mono ?_
  rintro e w1 ⟨rfl, hb1⟩
  replace B0 := B0.trans (hb1.mono (Nat.le_of_lt bx.lt))
  replace bx := bx.below hb1 bx.lt
  clear hb1 mc
  have mc := fun i => bx.cell i
  go_wp2_with fail
  go_ret
  exact ⟨rfl, B0⟩
set_option maxRecDepth 100000 in
set_option maxHeartbeats 4000000 in
theorem rop_1 (key : Nat) (w : World) (h1 : key < 18446744073709551616) : Calls Tryz.prog 62 #[.agg #[.int .i64 1, .int .u64 (key : Nat), .int .u64 0, .int .u64 0, .int .i64 0]] w fun e w' => e = .returned (.string (joinT [nmd kindL 1, numT key])) ∧ Below w.heap.size w w' := by
  have B0 := (Below.refl w.heap.size w).alloc (Nat.le_refl _) (.cells #[.int .i64 1, .int .u64 (key : Nat), .int .u64 0, .int .u64 0, .int .i64 0] 48)
  have bx := Blk.new w 48 #[.int .i64 1, .int .u64 (key : Nat), .int .u64 0, .int .u64 0, .int .i64 0]
  have RR := hide (fun w2 => rright_any 1 key 0 0 0 w2)
  rw [show opRight 1 0 = true from rfl] at RR
  rw [show ((0 : Nat) : Int) = 0 from rfl] at RR
  have T1 := hide (fun w2 => rform10_any key w2 h1)
  have s1 := numT_size key
  rw [show nmd kindL 1 = ⟨#[103, 101, 116]⟩ from rfl, joinT_fold]
  simp only [List.foldl_cons, List.foldl_nil]
  generalize numT key = tk at *
  have mc := fun i => bx.cell i
  clear h1
  go_enter Tryz.func62, Tryz.ntmps62
  go_wp2_with fail
  refine (RR.out _).mono ?_
  rintro e w1 ⟨rfl, hb1⟩
  replace B0 := B0.trans (hb1.mono (Nat.le_of_lt bx.lt))
  replace bx := bx.below hb1 bx.lt
  clear hb1 mc
  have mc := fun i => bx.cell i
  go_wp2_with fail
  have hwk : IntKind.i64.wrap 0 = 0 := by decide
  clear mc
  refine wp_region_heldZ [] (fun w' => w'.cell? ⟨w.heap.size, 0, none⟩ = some (.int .i64 1) ∧ w'.cell? ⟨w.heap.size, 1, none⟩ = some (.int .u64 (key : Nat))) (by kernel_rfl) (by exact ⟨bx.cell 0, bx.cell 1⟩) (fun hHeld => ?_)
  replace bx := bx.drew
  replace B0 := B0.drew
  generalize w1.drew = wz at *
  refine' wpAnyZ_takeA (i := 1) (v := ?_) (opAt rfl) (by kernel_rfl) (by kernel_rfl) (by kernel_rfl) (by kernel_rfl) (fun _ _ _ h => h) (by assumption) (by rfl) (fun w hSw => ?_) ?_
  rotate_left
  · (try dsimp only at hSw); go_simp; (try with_reducible rfl)
  try simp only [Act.put, List.setIfInBounds_toArray, List.set_cons_zero, List.set_cons_succ]
  refine' wpAnyZ_takeA (i := 2) (v := ?_) (opAt rfl) (by kernel_rfl) (by kernel_rfl) (by kernel_rfl) (by kernel_rfl) (fun _ _ _ h => h) (by assumption) (by rfl) (fun w hSw => ?_) ?_
  rotate_left
  · (try dsimp only at hSw); go_simp; (try with_reducible rfl)
  try simp only [Act.put, List.setIfInBounds_toArray, List.set_cons_zero, List.set_cons_succ]
  refine' wpAnyZ_takeA (i := 3) (v := ?_) (opAt rfl) (by kernel_rfl) (by kernel_rfl) (by kernel_rfl) (by kernel_rfl) (fun _ _ _ h => h) (by assumption) (by rfl) (fun w hSw => ?_) ?_
  rotate_left
  · (try dsimp only at hSw); go_simp; (try with_reducible rfl)
  try simp only [Act.put, List.setIfInBounds_toArray, List.set_cons_zero, List.set_cons_succ]
  refine' wpAnyZ_takeA (i := 7) (v := ?_) (opAt rfl) (by kernel_rfl) (by kernel_rfl) (by kernel_rfl) (by kernel_rfl) (fun _ _ _ h => h) (by assumption) (by rfl) (fun w hSw => ?_) ?_
  rotate_left
  · (try dsimp only at hSw); go_simp; (try with_reducible rfl)
  try simp only [Act.put, List.setIfInBounds_toArray, List.set_cons_zero, List.set_cons_succ]
  refine' wpAnyZ_takeA (i := 8) (v := ?_) (opAt rfl) (by kernel_rfl) (by kernel_rfl) (by kernel_rfl) (by kernel_rfl) (fun _ _ _ h => h) (by assumption) (by rfl) (fun w hSw => ?_) ?_
  rotate_left
  · (try dsimp only at hSw); go_simp; (try with_reducible rfl)
  try simp only [Act.put, List.setIfInBounds_toArray, List.set_cons_zero, List.set_cons_succ]
  refine wpAnyZ_ready (rs := [0, 9]) (by kernel_rfl) (by simp) ?_
  refine AllReadyZ.cons (opAt rfl) (fun K hK => ?_) ?_
  · skip
    go_simp
    have bf := Blk.new wz 9 #[.string ⟨#[103, 101, 116]⟩, .string ⟨#[112, 117, 116]⟩, .string ⟨#[100, 101, 108, 101, 116, 101]⟩, .string ⟨#[115, 99, 97, 110]⟩]
    have hgb : w.heap.size < wz.heap.size := bx.lt
    replace bx := bx.alloc (.cells #[.string ⟨#[103, 101, 116]⟩, .string ⟨#[112, 117, 116]⟩, .string ⟨#[100, 101, 108, 101, 116, 101]⟩, .string ⟨#[115, 99, 97, 110]⟩] 9)
    replace B0 := B0.alloc B0.size (.cells #[.string ⟨#[103, 101, 116]⟩, .string ⟨#[112, 117, 116]⟩, .string ⟨#[100, 101, 108, 101, 116, 101]⟩, .string ⟨#[115, 99, 97, 110]⟩] 9)
    generalize wz.alloc (.cells #[.string ⟨#[103, 101, 116]⟩, .string ⟨#[112, 117, 116]⟩, .string ⟨#[100, 101, 108, 101, 116, 101]⟩, .string ⟨#[115, 99, 97, 110]⟩] 9) = wf at *
    generalize wz.heap.size = gf at *
    try go_wp2_with fail
    refine hK.out _ _ (by exact ⟨bx.cell 0, bx.cell 1⟩) (fun hHeld => ?_)
    clear hK K
    try simp only [Act.put, List.setIfInBounds_toArray, List.set_cons_zero, List.set_cons_succ]
    refine' wpAnyZ_takeA (i := 4) (v := ?_) (opAt rfl) (by kernel_rfl) (by kernel_rfl) (by kernel_rfl) (by kernel_rfl) (fun _ _ _ h => h) (by assumption) (by rfl) (fun w hSw => ?_) ?_
    rotate_left
    · (try dsimp only at hSw); go_simp; (try with_reducible rfl)
    try simp only [Act.put, List.setIfInBounds_toArray, List.set_cons_zero, List.set_cons_succ]
    refine wpAnyZ_ready (rs := [5, 9]) (by kernel_rfl) (by simp) ?_
    refine AllReadyZ.cons (opAt rfl) (fun K hK => ?_) ?_
    · skip
      have zf := bf.cell 0
      go_simp
      clear zf
      refine hK.out _ _ (by exact ⟨bx.cell 0, bx.cell 1⟩) (fun hHeld => ?_)
      clear hK K
      try simp only [Act.put, List.setIfInBounds_toArray, List.set_cons_zero, List.set_cons_succ]
      refine' wpAnyZ_takeA (i := 6) (v := ?_) (opAt rfl) (by kernel_rfl) (by kernel_rfl) (by kernel_rfl) (by kernel_rfl) (fun _ _ _ h => h) (by assumption) (by rfl) (fun w hSw => ?_) ?_
      rotate_left
      · (try dsimp only at hSw); go_simp; (try rw [if_neg (by omega)]); (try with_reducible rfl)
      try simp only [Act.put, List.setIfInBounds_toArray, List.set_cons_zero, List.set_cons_succ]
      refine wpAnyZ_ready (rs := [9]) (by kernel_rfl) (by simp) ?_
      refine AllReadyZ.cons (opAt rfl) (fun K hK => ?_) ?_
      · skip
        go_simp
        refine (T1.out _).mono ?_
        rintro e wt ⟨rfl, hb1⟩
        replace bf := bf.below hb1 bf.lt
        replace B0 := B0.trans (hb1.mono (Nat.le_of_lt bx.lt))
        replace bx := bx.below hb1 bx.lt
        clear hb1
        try go_wp2_with fail
        refine hK.out _ _ (by exact ⟨bx.cell 0, bx.cell 1⟩) (fun hHeld => ?_)
        clear hK K
        try simp only [Act.put, List.setIfInBounds_toArray, List.set_cons_zero, List.set_cons_succ]
        refine' wpAnyZ_takeA (i := 10) (v := ?_) (opAt rfl) (by kernel_rfl) (by kernel_rfl) (by kernel_rfl) (by kernel_rfl) (fun _ _ _ h => h) (by assumption) (by rfl) (fun w hSw => ?_) ?_
        rotate_left
        · (try dsimp only at hSw); go_simp; (try rw [if_neg (by omega)]); (try with_reducible rfl)
        try simp only [Act.put, List.setIfInBounds_toArray, List.set_cons_zero, List.set_cons_succ]
        refine' wpAnyZ_takeA (i := 11) (v := ?_) (opAt rfl) (by kernel_rfl) (by kernel_rfl) (by kernel_rfl) (by kernel_rfl) (fun _ _ _ h => h) (by assumption) (by rfl) (fun w hSw => ?_) ?_
        rotate_left
        · (try dsimp only at hSw); go_simp; (try with_reducible rfl)
        try simp only [Act.put, List.setIfInBounds_toArray, List.set_cons_zero, List.set_cons_succ]
        refine wpAnyZ_done (by kernel_rfl) ?_ _
        have mc := fun i => bx.cell i
        clear bf
        go_wp2_with fail
        go_ret
        exact ⟨rfl, B0⟩
      exact AllReadyZ.nil
    refine AllReadyZ.cons (opAt rfl) (fun K hK => ?_) ?_
    · skip
      go_simp
      refine (T1.out _).mono ?_
      rintro e wt ⟨rfl, hb1⟩
      replace bf := bf.below hb1 bf.lt
      replace B0 := B0.trans (hb1.mono (Nat.le_of_lt bx.lt))
      replace bx := bx.below hb1 bx.lt
      clear hb1
      try go_wp2_with fail
      refine hK.out _ _ (by exact ⟨bx.cell 0, bx.cell 1⟩) (fun hHeld => ?_)
      clear hK K
      try simp only [Act.put, List.setIfInBounds_toArray, List.set_cons_zero, List.set_cons_succ]
      refine wpAnyZ_ready (rs := [5]) (by kernel_rfl) (by simp) ?_
      refine AllReadyZ.cons (opAt rfl) (fun K hK => ?_) ?_
      · skip
        have zf := bf.cell 0
        go_simp
        clear zf
        refine hK.out _ _ (by exact ⟨bx.cell 0, bx.cell 1⟩) (fun hHeld => ?_)
        clear hK K
        try simp only [Act.put, List.setIfInBounds_toArray, List.set_cons_zero, List.set_cons_succ]
        refine' wpAnyZ_takeA (i := 6) (v := ?_) (opAt rfl) (by kernel_rfl) (by kernel_rfl) (by kernel_rfl) (by kernel_rfl) (fun _ _ _ h => h) (by assumption) (by rfl) (fun w hSw => ?_) ?_
        rotate_left
        · (try dsimp only at hSw); go_simp; (try rw [if_neg (by omega)]); (try with_reducible rfl)
        try simp only [Act.put, List.setIfInBounds_toArray, List.set_cons_zero, List.set_cons_succ]
        refine' wpAnyZ_takeA (i := 10) (v := ?_) (opAt rfl) (by kernel_rfl) (by kernel_rfl) (by kernel_rfl) (by kernel_rfl) (fun _ _ _ h => h) (by assumption) (by rfl) (fun w hSw => ?_) ?_
        rotate_left
        · (try dsimp only at hSw); go_simp; (try rw [if_neg (by omega)]); (try with_reducible rfl)
        try simp only [Act.put, List.setIfInBounds_toArray, List.set_cons_zero, List.set_cons_succ]
        refine' wpAnyZ_takeA (i := 11) (v := ?_) (opAt rfl) (by kernel_rfl) (by kernel_rfl) (by kernel_rfl) (by kernel_rfl) (fun _ _ _ h => h) (by assumption) (by rfl) (fun w hSw => ?_) ?_
        rotate_left
        · (try dsimp only at hSw); go_simp; (try with_reducible rfl)
        try simp only [Act.put, List.setIfInBounds_toArray, List.set_cons_zero, List.set_cons_succ]
        refine wpAnyZ_done (by kernel_rfl) ?_ _
        have mc := fun i => bx.cell i
        clear bf
        go_wp2_with fail
        go_ret
        exact ⟨rfl, B0⟩
      exact AllReadyZ.nil
    exact AllReadyZ.nil
  refine AllReadyZ.cons (opAt rfl) (fun K hK => ?_) ?_
  · skip
    go_simp
    refine (T1.out _).mono ?_
    rintro e wt ⟨rfl, hb1⟩
    replace B0 := B0.trans (hb1.mono (Nat.le_of_lt bx.lt))
    replace bx := bx.below hb1 bx.lt
    clear hb1
    try go_wp2_with fail
    refine hK.out _ _ (by exact ⟨bx.cell 0, bx.cell 1⟩) (fun hHeld => ?_)
    clear hK K
    try simp only [Act.put, List.setIfInBounds_toArray, List.set_cons_zero, List.set_cons_succ]
    refine wpAnyZ_ready (rs := [0]) (by kernel_rfl) (by simp) ?_
    refine AllReadyZ.cons (opAt rfl) (fun K hK => ?_) ?_
    · skip
      go_simp
      have bf := Blk.new wt 9 #[.string ⟨#[103, 101, 116]⟩, .string ⟨#[112, 117, 116]⟩, .string ⟨#[100, 101, 108, 101, 116, 101]⟩, .string ⟨#[115, 99, 97, 110]⟩]
      have hgb : w.heap.size < wt.heap.size := bx.lt
      replace bx := bx.alloc (.cells #[.string ⟨#[103, 101, 116]⟩, .string ⟨#[112, 117, 116]⟩, .string ⟨#[100, 101, 108, 101, 116, 101]⟩, .string ⟨#[115, 99, 97, 110]⟩] 9)
      replace B0 := B0.alloc B0.size (.cells #[.string ⟨#[103, 101, 116]⟩, .string ⟨#[112, 117, 116]⟩, .string ⟨#[100, 101, 108, 101, 116, 101]⟩, .string ⟨#[115, 99, 97, 110]⟩] 9)
      generalize wt.alloc (.cells #[.string ⟨#[103, 101, 116]⟩, .string ⟨#[112, 117, 116]⟩, .string ⟨#[100, 101, 108, 101, 116, 101]⟩, .string ⟨#[115, 99, 97, 110]⟩] 9) = wf at *
      generalize wt.heap.size = gf at *
      try go_wp2_with fail
      refine hK.out _ _ (by exact ⟨bx.cell 0, bx.cell 1⟩) (fun hHeld => ?_)
      clear hK K
      try simp only [Act.put, List.setIfInBounds_toArray, List.set_cons_zero, List.set_cons_succ]
      refine' wpAnyZ_takeA (i := 4) (v := ?_) (opAt rfl) (by kernel_rfl) (by kernel_rfl) (by kernel_rfl) (by kernel_rfl) (fun _ _ _ h => h) (by assumption) (by rfl) (fun w hSw => ?_) ?_
      rotate_left
      · (try dsimp only at hSw); go_simp; (try with_reducible rfl)
      try simp only [Act.put, List.setIfInBounds_toArray, List.set_cons_zero, List.set_cons_succ]
      refine wpAnyZ_ready (rs := [5]) (by kernel_rfl) (by simp) ?_
      refine AllReadyZ.cons (opAt rfl) (fun K hK => ?_) ?_
      · skip
        have zf := bf.cell 0
        go_simp
        clear zf
        refine hK.out _ _ (by exact ⟨bx.cell 0, bx.cell 1⟩) (fun hHeld => ?_)
        clear hK K
        try simp only [Act.put, List.setIfInBounds_toArray, List.set_cons_zero, List.set_cons_succ]
        refine' wpAnyZ_takeA (i := 6) (v := ?_) (opAt rfl) (by kernel_rfl) (by kernel_rfl) (by kernel_rfl) (by kernel_rfl) (fun _ _ _ h => h) (by assumption) (by rfl) (fun w hSw => ?_) ?_
        rotate_left
        · (try dsimp only at hSw); go_simp; (try rw [if_neg (by omega)]); (try with_reducible rfl)
        try simp only [Act.put, List.setIfInBounds_toArray, List.set_cons_zero, List.set_cons_succ]
        refine' wpAnyZ_takeA (i := 10) (v := ?_) (opAt rfl) (by kernel_rfl) (by kernel_rfl) (by kernel_rfl) (by kernel_rfl) (fun _ _ _ h => h) (by assumption) (by rfl) (fun w hSw => ?_) ?_
        rotate_left
        · (try dsimp only at hSw); go_simp; (try rw [if_neg (by omega)]); (try with_reducible rfl)
        try simp only [Act.put, List.setIfInBounds_toArray, List.set_cons_zero, List.set_cons_succ]
        refine' wpAnyZ_takeA (i := 11) (v := ?_) (opAt rfl) (by kernel_rfl) (by kernel_rfl) (by kernel_rfl) (by kernel_rfl) (fun _ _ _ h => h) (by assumption) (by rfl) (fun w hSw => ?_) ?_
        rotate_left
        · (try dsimp only at hSw); go_simp; (try with_reducible rfl)
        try simp only [Act.put, List.setIfInBounds_toArray, List.set_cons_zero, List.set_cons_succ]
        refine wpAnyZ_done (by kernel_rfl) ?_ _
        have mc := fun i => bx.cell i
        clear bf
        go_wp2_with fail
        go_ret
        exact ⟨rfl, B0⟩
      exact AllReadyZ.nil
    exact AllReadyZ.nil
  exact AllReadyZ.nil
set_option maxRecDepth 100000 in
set_option maxHeartbeats 4000000 in
theorem rop_2 (key : Nat) (vl : Nat) (w : World) (h1 : key < 18446744073709551616) (h2 : vl < 18446744073709551616) : Calls Tryz.prog 62 #[.agg #[.int .i64 2, .int .u64 (key : Nat), .int .u64 (vl : Nat), .int .u64 0, .int .i64 0]] w fun e w' => e = .returned (.string (joinT [nmd kindL 2, numT key, numT vl])) ∧ Below w.heap.size w w' := by
  have B0 := (Below.refl w.heap.size w).alloc (Nat.le_refl _) (.cells #[.int .i64 2, .int .u64 (key : Nat), .int .u64 (vl : Nat), .int .u64 0, .int .i64 0] 48)
  have bx := Blk.new w 48 #[.int .i64 2, .int .u64 (key : Nat), .int .u64 (vl : Nat), .int .u64 0, .int .i64 0]
  have RR := hide (fun w2 => rright_any 2 key vl 0 0 w2)
  rw [show opRight 2 0 = true from rfl] at RR
  rw [show ((0 : Nat) : Int) = 0 from rfl] at RR
  have T1 := hide (fun w2 => rform10_any key w2 h1)
  have s1 := numT_size key
  have T2 := hide (fun w2 => rform10_any vl w2 h2)
  have s2 := numT_size vl
  rw [show nmd kindL 2 = ⟨#[112, 117, 116]⟩ from rfl, joinT_fold]
  simp only [List.foldl_cons, List.foldl_nil]
  generalize numT key = tk at *
  generalize numT vl = tv at *
  have mc := fun i => bx.cell i
  clear h1 h2
  go_enter Tryz.func62, Tryz.ntmps62
  go_wp2_with fail
  refine (RR.out _).mono ?_
  rintro e w1 ⟨rfl, hb1⟩
  replace B0 := B0.trans (hb1.mono (Nat.le_of_lt bx.lt))
  replace bx := bx.below hb1 bx.lt
  clear hb1 mc
  have mc := fun i => bx.cell i
  go_wp2_with fail
  have hwk : IntKind.i64.wrap 1 = 1 := by decide
  clear mc
  refine wp_region_heldZ [] (fun w' => w'.cell? ⟨w.heap.size, 0, none⟩ = some (.int .i64 2) ∧ w'.cell? ⟨w.heap.size, 1, none⟩ = some (.int .u64 (key : Nat))) (by kernel_rfl) (by exact ⟨bx.cell 0, bx.cell 1⟩) (fun hHeld => ?_)
  replace bx := bx.drew
  replace B0 := B0.drew
  generalize w1.drew = wz at *
  refine' wpAnyZ_takeA (i := 1) (v := ?_) (opAt rfl) (by kernel_rfl) (by kernel_rfl) (by kernel_rfl) (by kernel_rfl) (fun _ _ _ h => h) (by assumption) (by rfl) (fun w hSw => ?_) ?_
  rotate_left
  · (try dsimp only at hSw); go_simp; (try with_reducible rfl)
  try simp only [Act.put, List.setIfInBounds_toArray, List.set_cons_zero, List.set_cons_succ]
  refine' wpAnyZ_takeA (i := 2) (v := ?_) (opAt rfl) (by kernel_rfl) (by kernel_rfl) (by kernel_rfl) (by kernel_rfl) (fun _ _ _ h => h) (by assumption) (by rfl) (fun w hSw => ?_) ?_
  rotate_left
  · (try dsimp only at hSw); go_simp; (try with_reducible rfl)
  try simp only [Act.put, List.setIfInBounds_toArray, List.set_cons_zero, List.set_cons_succ]
  refine' wpAnyZ_takeA (i := 3) (v := ?_) (opAt rfl) (by kernel_rfl) (by kernel_rfl) (by kernel_rfl) (by kernel_rfl) (fun _ _ _ h => h) (by assumption) (by rfl) (fun w hSw => ?_) ?_
  rotate_left
  · (try dsimp only at hSw); go_simp; (try with_reducible rfl)
  try simp only [Act.put, List.setIfInBounds_toArray, List.set_cons_zero, List.set_cons_succ]
  refine' wpAnyZ_takeA (i := 7) (v := ?_) (opAt rfl) (by kernel_rfl) (by kernel_rfl) (by kernel_rfl) (by kernel_rfl) (fun _ _ _ h => h) (by assumption) (by rfl) (fun w hSw => ?_) ?_
  rotate_left
  · (try dsimp only at hSw); go_simp; (try with_reducible rfl)
  try simp only [Act.put, List.setIfInBounds_toArray, List.set_cons_zero, List.set_cons_succ]
  refine' wpAnyZ_takeA (i := 8) (v := ?_) (opAt rfl) (by kernel_rfl) (by kernel_rfl) (by kernel_rfl) (by kernel_rfl) (fun _ _ _ h => h) (by assumption) (by rfl) (fun w hSw => ?_) ?_
  rotate_left
  · (try dsimp only at hSw); go_simp; (try with_reducible rfl)
  try simp only [Act.put, List.setIfInBounds_toArray, List.set_cons_zero, List.set_cons_succ]
  refine wpAnyZ_ready (rs := [0, 9]) (by kernel_rfl) (by simp) ?_
  refine AllReadyZ.cons (opAt rfl) (fun K hK => ?_) ?_
  · skip
    go_simp
    have bf := Blk.new wz 9 #[.string ⟨#[103, 101, 116]⟩, .string ⟨#[112, 117, 116]⟩, .string ⟨#[100, 101, 108, 101, 116, 101]⟩, .string ⟨#[115, 99, 97, 110]⟩]
    have hgb : w.heap.size < wz.heap.size := bx.lt
    replace bx := bx.alloc (.cells #[.string ⟨#[103, 101, 116]⟩, .string ⟨#[112, 117, 116]⟩, .string ⟨#[100, 101, 108, 101, 116, 101]⟩, .string ⟨#[115, 99, 97, 110]⟩] 9)
    replace B0 := B0.alloc B0.size (.cells #[.string ⟨#[103, 101, 116]⟩, .string ⟨#[112, 117, 116]⟩, .string ⟨#[100, 101, 108, 101, 116, 101]⟩, .string ⟨#[115, 99, 97, 110]⟩] 9)
    generalize wz.alloc (.cells #[.string ⟨#[103, 101, 116]⟩, .string ⟨#[112, 117, 116]⟩, .string ⟨#[100, 101, 108, 101, 116, 101]⟩, .string ⟨#[115, 99, 97, 110]⟩] 9) = wf at *
    generalize wz.heap.size = gf at *
    try go_wp2_with fail
    refine hK.out _ _ (by exact ⟨bx.cell 0, bx.cell 1⟩) (fun hHeld => ?_)
    clear hK K
    try simp only [Act.put, List.setIfInBounds_toArray, List.set_cons_zero, List.set_cons_succ]
    refine' wpAnyZ_takeA (i := 4) (v := ?_) (opAt rfl) (by kernel_rfl) (by kernel_rfl) (by kernel_rfl) (by kernel_rfl) (fun _ _ _ h => h) (by assumption) (by rfl) (fun w hSw => ?_) ?_
    rotate_left
    · (try dsimp only at hSw); go_simp; (try with_reducible rfl)
    try simp only [Act.put, List.setIfInBounds_toArray, List.set_cons_zero, List.set_cons_succ]
    refine wpAnyZ_ready (rs := [5, 9]) (by kernel_rfl) (by simp) ?_
    refine AllReadyZ.cons (opAt rfl) (fun K hK => ?_) ?_
    · skip
      have zf := bf.cell 1
      go_simp
      clear zf
      refine hK.out _ _ (by exact ⟨bx.cell 0, bx.cell 1⟩) (fun hHeld => ?_)
      clear hK K
      try simp only [Act.put, List.setIfInBounds_toArray, List.set_cons_zero, List.set_cons_succ]
      refine' wpAnyZ_takeA (i := 6) (v := ?_) (opAt rfl) (by kernel_rfl) (by kernel_rfl) (by kernel_rfl) (by kernel_rfl) (fun _ _ _ h => h) (by assumption) (by rfl) (fun w hSw => ?_) ?_
      rotate_left
      · (try dsimp only at hSw); go_simp; (try rw [if_neg (by omega)]); (try with_reducible rfl)
      try simp only [Act.put, List.setIfInBounds_toArray, List.set_cons_zero, List.set_cons_succ]
      refine wpAnyZ_ready (rs := [9]) (by kernel_rfl) (by simp) ?_
      refine AllReadyZ.cons (opAt rfl) (fun K hK => ?_) ?_
      · skip
        go_simp
        refine (T1.out _).mono ?_
        rintro e wt ⟨rfl, hb1⟩
        replace bf := bf.below hb1 bf.lt
        replace B0 := B0.trans (hb1.mono (Nat.le_of_lt bx.lt))
        replace bx := bx.below hb1 bx.lt
        clear hb1
        try go_wp2_with fail
        refine hK.out _ _ (by exact ⟨bx.cell 0, bx.cell 1⟩) (fun hHeld => ?_)
        clear hK K
        try simp only [Act.put, List.setIfInBounds_toArray, List.set_cons_zero, List.set_cons_succ]
        refine' wpAnyZ_takeA (i := 10) (v := ?_) (opAt rfl) (by kernel_rfl) (by kernel_rfl) (by kernel_rfl) (by kernel_rfl) (fun _ _ _ h => h) (by assumption) (by rfl) (fun w hSw => ?_) ?_
        rotate_left
        · (try dsimp only at hSw); go_simp; (try rw [if_neg (by omega)]); (try with_reducible rfl)
        try simp only [Act.put, List.setIfInBounds_toArray, List.set_cons_zero, List.set_cons_succ]
        refine' wpAnyZ_takeA (i := 11) (v := ?_) (opAt rfl) (by kernel_rfl) (by kernel_rfl) (by kernel_rfl) (by kernel_rfl) (fun _ _ _ h => h) (by assumption) (by rfl) (fun w hSw => ?_) ?_
        rotate_left
        · (try dsimp only at hSw); go_simp; (try with_reducible rfl)
        try simp only [Act.put, List.setIfInBounds_toArray, List.set_cons_zero, List.set_cons_succ]
        refine wpAnyZ_done (by kernel_rfl) ?_ _
        have mc := fun i => bx.cell i
        clear bf
        go_wp2_with fail
        refine (T2.out _).mono ?_
        rintro e wa ⟨rfl, hb1⟩
        replace B0 := B0.trans (hb1.mono (Nat.le_of_lt bx.lt))
        replace bx := bx.below hb1 bx.lt
        clear hb1 mc
        have mc := fun i => bx.cell i
        go_wp2_with fail
        go_ret
        exact ⟨rfl, B0⟩
      exact AllReadyZ.nil
    refine AllReadyZ.cons (opAt rfl) (fun K hK => ?_) ?_
    · skip
      go_simp
      refine (T1.out _).mono ?_
      rintro e wt ⟨rfl, hb1⟩
      replace bf := bf.below hb1 bf.lt
      replace B0 := B0.trans (hb1.mono (Nat.le_of_lt bx.lt))
      replace bx := bx.below hb1 bx.lt
      clear hb1
      try go_wp2_with fail
      refine hK.out _ _ (by exact ⟨bx.cell 0, bx.cell 1⟩) (fun hHeld => ?_)
      clear hK K
      try simp only [Act.put, List.setIfInBounds_toArray, List.set_cons_zero, List.set_cons_succ]
      refine wpAnyZ_ready (rs := [5]) (by kernel_rfl) (by simp) ?_
      refine AllReadyZ.cons (opAt rfl) (fun K hK => ?_) ?_
      · skip
        have zf := bf.cell 1
        go_simp
        clear zf
        refine hK.out _ _ (by exact ⟨bx.cell 0, bx.cell 1⟩) (fun hHeld => ?_)
        clear hK K
        try simp only [Act.put, List.setIfInBounds_toArray, List.set_cons_zero, List.set_cons_succ]
        refine' wpAnyZ_takeA (i := 6) (v := ?_) (opAt rfl) (by kernel_rfl) (by kernel_rfl) (by kernel_rfl) (by kernel_rfl) (fun _ _ _ h => h) (by assumption) (by rfl) (fun w hSw => ?_) ?_
        rotate_left
        · (try dsimp only at hSw); go_simp; (try rw [if_neg (by omega)]); (try with_reducible rfl)
        try simp only [Act.put, List.setIfInBounds_toArray, List.set_cons_zero, List.set_cons_succ]
        refine' wpAnyZ_takeA (i := 10) (v := ?_) (opAt rfl) (by kernel_rfl) (by kernel_rfl) (by kernel_rfl) (by kernel_rfl) (fun _ _ _ h => h) (by assumption) (by rfl) (fun w hSw => ?_) ?_
        rotate_left
        · (try dsimp only at hSw); go_simp; (try rw [if_neg (by omega)]); (try with_reducible rfl)
        try simp only [Act.put, List.setIfInBounds_toArray, List.set_cons_zero, List.set_cons_succ]
        refine' wpAnyZ_takeA (i := 11) (v := ?_) (opAt rfl) (by kernel_rfl) (by kernel_rfl) (by kernel_rfl) (by kernel_rfl) (fun _ _ _ h => h) (by assumption) (by rfl) (fun w hSw => ?_) ?_
        rotate_left
        · (try dsimp only at hSw); go_simp; (try with_reducible rfl)
        try simp only [Act.put, List.setIfInBounds_toArray, List.set_cons_zero, List.set_cons_succ]
        refine wpAnyZ_done (by kernel_rfl) ?_ _
        have mc := fun i => bx.cell i
        clear bf
        go_wp2_with fail
        refine (T2.out _).mono ?_
        rintro e wa ⟨rfl, hb1⟩
        replace B0 := B0.trans (hb1.mono (Nat.le_of_lt bx.lt))
        replace bx := bx.below hb1 bx.lt
        clear hb1 mc
        have mc := fun i => bx.cell i
        go_wp2_with fail
        go_ret
        exact ⟨rfl, B0⟩
      exact AllReadyZ.nil
    exact AllReadyZ.nil
  refine AllReadyZ.cons (opAt rfl) (fun K hK => ?_) ?_
  · skip
    go_simp
    refine (T1.out _).mono ?_
    rintro e wt ⟨rfl, hb1⟩
    replace B0 := B0.trans (hb1.mono (Nat.le_of_lt bx.lt))
    replace bx := bx.below hb1 bx.lt
    clear hb1
    try go_wp2_with fail
    refine hK.out _ _ (by exact ⟨bx.cell 0, bx.cell 1⟩) (fun hHeld => ?_)
    clear hK K
    try simp only [Act.put, List.setIfInBounds_toArray, List.set_cons_zero, List.set_cons_succ]
    refine wpAnyZ_ready (rs := [0]) (by kernel_rfl) (by simp) ?_
    refine AllReadyZ.cons (opAt rfl) (fun K hK => ?_) ?_
    · skip
      go_simp
      have bf := Blk.new wt 9 #[.string ⟨#[103, 101, 116]⟩, .string ⟨#[112, 117, 116]⟩, .string ⟨#[100, 101, 108, 101, 116, 101]⟩, .string ⟨#[115, 99, 97, 110]⟩]
      have hgb : w.heap.size < wt.heap.size := bx.lt
      replace bx := bx.alloc (.cells #[.string ⟨#[103, 101, 116]⟩, .string ⟨#[112, 117, 116]⟩, .string ⟨#[100, 101, 108, 101, 116, 101]⟩, .string ⟨#[115, 99, 97, 110]⟩] 9)
      replace B0 := B0.alloc B0.size (.cells #[.string ⟨#[103, 101, 116]⟩, .string ⟨#[112, 117, 116]⟩, .string ⟨#[100, 101, 108, 101, 116, 101]⟩, .string ⟨#[115, 99, 97, 110]⟩] 9)
      generalize wt.alloc (.cells #[.string ⟨#[103, 101, 116]⟩, .string ⟨#[112, 117, 116]⟩, .string ⟨#[100, 101, 108, 101, 116, 101]⟩, .string ⟨#[115, 99, 97, 110]⟩] 9) = wf at *
      generalize wt.heap.size = gf at *
      try go_wp2_with fail
      refine hK.out _ _ (by exact ⟨bx.cell 0, bx.cell 1⟩) (fun hHeld => ?_)
      clear hK K
      try simp only [Act.put, List.setIfInBounds_toArray, List.set_cons_zero, List.set_cons_succ]
      refine' wpAnyZ_takeA (i := 4) (v := ?_) (opAt rfl) (by kernel_rfl) (by kernel_rfl) (by kernel_rfl) (by kernel_rfl) (fun _ _ _ h => h) (by assumption) (by rfl) (fun w hSw => ?_) ?_
      rotate_left
      · (try dsimp only at hSw); go_simp; (try with_reducible rfl)
      try simp only [Act.put, List.setIfInBounds_toArray, List.set_cons_zero, List.set_cons_succ]
      refine wpAnyZ_ready (rs := [5]) (by kernel_rfl) (by simp) ?_
      refine AllReadyZ.cons (opAt rfl) (fun K hK => ?_) ?_
      · skip
        have zf := bf.cell 1
        go_simp
        clear zf
        refine hK.out _ _ (by exact ⟨bx.cell 0, bx.cell 1⟩) (fun hHeld => ?_)
        clear hK K
        try simp only [Act.put, List.setIfInBounds_toArray, List.set_cons_zero, List.set_cons_succ]
        refine' wpAnyZ_takeA (i := 6) (v := ?_) (opAt rfl) (by kernel_rfl) (by kernel_rfl) (by kernel_rfl) (by kernel_rfl) (fun _ _ _ h => h) (by assumption) (by rfl) (fun w hSw => ?_) ?_
        rotate_left
        · (try dsimp only at hSw); go_simp; (try rw [if_neg (by omega)]); (try with_reducible rfl)
        try simp only [Act.put, List.setIfInBounds_toArray, List.set_cons_zero, List.set_cons_succ]
        refine' wpAnyZ_takeA (i := 10) (v := ?_) (opAt rfl) (by kernel_rfl) (by kernel_rfl) (by kernel_rfl) (by kernel_rfl) (fun _ _ _ h => h) (by assumption) (by rfl) (fun w hSw => ?_) ?_
        rotate_left
        · (try dsimp only at hSw); go_simp; (try rw [if_neg (by omega)]); (try with_reducible rfl)
        try simp only [Act.put, List.setIfInBounds_toArray, List.set_cons_zero, List.set_cons_succ]
        refine' wpAnyZ_takeA (i := 11) (v := ?_) (opAt rfl) (by kernel_rfl) (by kernel_rfl) (by kernel_rfl) (by kernel_rfl) (fun _ _ _ h => h) (by assumption) (by rfl) (fun w hSw => ?_) ?_
        rotate_left
        · (try dsimp only at hSw); go_simp; (try with_reducible rfl)
        try simp only [Act.put, List.setIfInBounds_toArray, List.set_cons_zero, List.set_cons_succ]
        refine wpAnyZ_done (by kernel_rfl) ?_ _
        have mc := fun i => bx.cell i
        clear bf
        go_wp2_with fail
        refine (T2.out _).mono ?_
        rintro e wa ⟨rfl, hb1⟩
        replace B0 := B0.trans (hb1.mono (Nat.le_of_lt bx.lt))
        replace bx := bx.below hb1 bx.lt
        clear hb1 mc
        have mc := fun i => bx.cell i
        go_wp2_with fail
        go_ret
        exact ⟨rfl, B0⟩
      exact AllReadyZ.nil
    exact AllReadyZ.nil
  exact AllReadyZ.nil
set_option maxRecDepth 100000 in
set_option maxHeartbeats 4000000 in
theorem rop_3 (key : Nat) (w : World) (h1 : key < 18446744073709551616) : Calls Tryz.prog 62 #[.agg #[.int .i64 3, .int .u64 (key : Nat), .int .u64 0, .int .u64 0, .int .i64 0]] w fun e w' => e = .returned (.string (joinT [nmd kindL 3, numT key])) ∧ Below w.heap.size w w' := by
  have B0 := (Below.refl w.heap.size w).alloc (Nat.le_refl _) (.cells #[.int .i64 3, .int .u64 (key : Nat), .int .u64 0, .int .u64 0, .int .i64 0] 48)
  have bx := Blk.new w 48 #[.int .i64 3, .int .u64 (key : Nat), .int .u64 0, .int .u64 0, .int .i64 0]
  have RR := hide (fun w2 => rright_any 3 key 0 0 0 w2)
  rw [show opRight 3 0 = true from rfl] at RR
  rw [show ((0 : Nat) : Int) = 0 from rfl] at RR
  have T1 := hide (fun w2 => rform10_any key w2 h1)
  have s1 := numT_size key
  rw [show nmd kindL 3 = ⟨#[100, 101, 108, 101, 116, 101]⟩ from rfl, joinT_fold]
  simp only [List.foldl_cons, List.foldl_nil]
  generalize numT key = tk at *
  have mc := fun i => bx.cell i
  clear h1
  go_enter Tryz.func62, Tryz.ntmps62
  go_wp2_with fail
  refine (RR.out _).mono ?_
  rintro e w1 ⟨rfl, hb1⟩
  replace B0 := B0.trans (hb1.mono (Nat.le_of_lt bx.lt))
  replace bx := bx.below hb1 bx.lt
  clear hb1 mc
  have mc := fun i => bx.cell i
  go_wp2_with fail
  have hwk : IntKind.i64.wrap 2 = 2 := by decide
  clear mc
  refine wp_region_heldZ [] (fun w' => w'.cell? ⟨w.heap.size, 0, none⟩ = some (.int .i64 3) ∧ w'.cell? ⟨w.heap.size, 1, none⟩ = some (.int .u64 (key : Nat))) (by kernel_rfl) (by exact ⟨bx.cell 0, bx.cell 1⟩) (fun hHeld => ?_)
  replace bx := bx.drew
  replace B0 := B0.drew
  generalize w1.drew = wz at *
  refine' wpAnyZ_takeA (i := 1) (v := ?_) (opAt rfl) (by kernel_rfl) (by kernel_rfl) (by kernel_rfl) (by kernel_rfl) (fun _ _ _ h => h) (by assumption) (by rfl) (fun w hSw => ?_) ?_
  rotate_left
  · (try dsimp only at hSw); go_simp; (try with_reducible rfl)
  try simp only [Act.put, List.setIfInBounds_toArray, List.set_cons_zero, List.set_cons_succ]
  refine' wpAnyZ_takeA (i := 2) (v := ?_) (opAt rfl) (by kernel_rfl) (by kernel_rfl) (by kernel_rfl) (by kernel_rfl) (fun _ _ _ h => h) (by assumption) (by rfl) (fun w hSw => ?_) ?_
  rotate_left
  · (try dsimp only at hSw); go_simp; (try with_reducible rfl)
  try simp only [Act.put, List.setIfInBounds_toArray, List.set_cons_zero, List.set_cons_succ]
  refine' wpAnyZ_takeA (i := 3) (v := ?_) (opAt rfl) (by kernel_rfl) (by kernel_rfl) (by kernel_rfl) (by kernel_rfl) (fun _ _ _ h => h) (by assumption) (by rfl) (fun w hSw => ?_) ?_
  rotate_left
  · (try dsimp only at hSw); go_simp; (try with_reducible rfl)
  try simp only [Act.put, List.setIfInBounds_toArray, List.set_cons_zero, List.set_cons_succ]
  refine' wpAnyZ_takeA (i := 7) (v := ?_) (opAt rfl) (by kernel_rfl) (by kernel_rfl) (by kernel_rfl) (by kernel_rfl) (fun _ _ _ h => h) (by assumption) (by rfl) (fun w hSw => ?_) ?_
  rotate_left
  · (try dsimp only at hSw); go_simp; (try with_reducible rfl)
  try simp only [Act.put, List.setIfInBounds_toArray, List.set_cons_zero, List.set_cons_succ]
  refine' wpAnyZ_takeA (i := 8) (v := ?_) (opAt rfl) (by kernel_rfl) (by kernel_rfl) (by kernel_rfl) (by kernel_rfl) (fun _ _ _ h => h) (by assumption) (by rfl) (fun w hSw => ?_) ?_
  rotate_left
  · (try dsimp only at hSw); go_simp; (try with_reducible rfl)
  try simp only [Act.put, List.setIfInBounds_toArray, List.set_cons_zero, List.set_cons_succ]
  refine wpAnyZ_ready (rs := [0, 9]) (by kernel_rfl) (by simp) ?_
  refine AllReadyZ.cons (opAt rfl) (fun K hK => ?_) ?_
  · skip
    go_simp
    have bf := Blk.new wz 9 #[.string ⟨#[103, 101, 116]⟩, .string ⟨#[112, 117, 116]⟩, .string ⟨#[100, 101, 108, 101, 116, 101]⟩, .string ⟨#[115, 99, 97, 110]⟩]
    have hgb : w.heap.size < wz.heap.size := bx.lt
    replace bx := bx.alloc (.cells #[.string ⟨#[103, 101, 116]⟩, .string ⟨#[112, 117, 116]⟩, .string ⟨#[100, 101, 108, 101, 116, 101]⟩, .string ⟨#[115, 99, 97, 110]⟩] 9)
    replace B0 := B0.alloc B0.size (.cells #[.string ⟨#[103, 101, 116]⟩, .string ⟨#[112, 117, 116]⟩, .string ⟨#[100, 101, 108, 101, 116, 101]⟩, .string ⟨#[115, 99, 97, 110]⟩] 9)
    generalize wz.alloc (.cells #[.string ⟨#[103, 101, 116]⟩, .string ⟨#[112, 117, 116]⟩, .string ⟨#[100, 101, 108, 101, 116, 101]⟩, .string ⟨#[115, 99, 97, 110]⟩] 9) = wf at *
    generalize wz.heap.size = gf at *
    try go_wp2_with fail
    refine hK.out _ _ (by exact ⟨bx.cell 0, bx.cell 1⟩) (fun hHeld => ?_)
    clear hK K
    try simp only [Act.put, List.setIfInBounds_toArray, List.set_cons_zero, List.set_cons_succ]
    refine' wpAnyZ_takeA (i := 4) (v := ?_) (opAt rfl) (by kernel_rfl) (by kernel_rfl) (by kernel_rfl) (by kernel_rfl) (fun _ _ _ h => h) (by assumption) (by rfl) (fun w hSw => ?_) ?_
    rotate_left
    · (try dsimp only at hSw); go_simp; (try with_reducible rfl)
    try simp only [Act.put, List.setIfInBounds_toArray, List.set_cons_zero, List.set_cons_succ]
    refine wpAnyZ_ready (rs := [5, 9]) (by kernel_rfl) (by simp) ?_
    refine AllReadyZ.cons (opAt rfl) (fun K hK => ?_) ?_
    · skip
      have zf := bf.cell 2
      go_simp
      clear zf
      refine hK.out _ _ (by exact ⟨bx.cell 0, bx.cell 1⟩) (fun hHeld => ?_)
      clear hK K
      try simp only [Act.put, List.setIfInBounds_toArray, List.set_cons_zero, List.set_cons_succ]
      refine' wpAnyZ_takeA (i := 6) (v := ?_) (opAt rfl) (by kernel_rfl) (by kernel_rfl) (by kernel_rfl) (by kernel_rfl) (fun _ _ _ h => h) (by assumption) (by rfl) (fun w hSw => ?_) ?_
      rotate_left
      · (try dsimp only at hSw); go_simp; (try rw [if_neg (by omega)]); (try with_reducible rfl)
      try simp only [Act.put, List.setIfInBounds_toArray, List.set_cons_zero, List.set_cons_succ]
      refine wpAnyZ_ready (rs := [9]) (by kernel_rfl) (by simp) ?_
      refine AllReadyZ.cons (opAt rfl) (fun K hK => ?_) ?_
      · skip
        go_simp
        refine (T1.out _).mono ?_
        rintro e wt ⟨rfl, hb1⟩
        replace bf := bf.below hb1 bf.lt
        replace B0 := B0.trans (hb1.mono (Nat.le_of_lt bx.lt))
        replace bx := bx.below hb1 bx.lt
        clear hb1
        try go_wp2_with fail
        refine hK.out _ _ (by exact ⟨bx.cell 0, bx.cell 1⟩) (fun hHeld => ?_)
        clear hK K
        try simp only [Act.put, List.setIfInBounds_toArray, List.set_cons_zero, List.set_cons_succ]
        refine' wpAnyZ_takeA (i := 10) (v := ?_) (opAt rfl) (by kernel_rfl) (by kernel_rfl) (by kernel_rfl) (by kernel_rfl) (fun _ _ _ h => h) (by assumption) (by rfl) (fun w hSw => ?_) ?_
        rotate_left
        · (try dsimp only at hSw); go_simp; (try rw [if_neg (by omega)]); (try with_reducible rfl)
        try simp only [Act.put, List.setIfInBounds_toArray, List.set_cons_zero, List.set_cons_succ]
        refine' wpAnyZ_takeA (i := 11) (v := ?_) (opAt rfl) (by kernel_rfl) (by kernel_rfl) (by kernel_rfl) (by kernel_rfl) (fun _ _ _ h => h) (by assumption) (by rfl) (fun w hSw => ?_) ?_
        rotate_left
        · (try dsimp only at hSw); go_simp; (try with_reducible rfl)
        try simp only [Act.put, List.setIfInBounds_toArray, List.set_cons_zero, List.set_cons_succ]
        refine wpAnyZ_done (by kernel_rfl) ?_ _
        have mc := fun i => bx.cell i
        clear bf
        go_wp2_with fail
        go_ret
        exact ⟨rfl, B0⟩
      exact AllReadyZ.nil
    refine AllReadyZ.cons (opAt rfl) (fun K hK => ?_) ?_
    · skip
      go_simp
      refine (T1.out _).mono ?_
      rintro e wt ⟨rfl, hb1⟩
      replace bf := bf.below hb1 bf.lt
      replace B0 := B0.trans (hb1.mono (Nat.le_of_lt bx.lt))
      replace bx := bx.below hb1 bx.lt
      clear hb1
      try go_wp2_with fail
      refine hK.out _ _ (by exact ⟨bx.cell 0, bx.cell 1⟩) (fun hHeld => ?_)
      clear hK K
      try simp only [Act.put, List.setIfInBounds_toArray, List.set_cons_zero, List.set_cons_succ]
      refine wpAnyZ_ready (rs := [5]) (by kernel_rfl) (by simp) ?_
      refine AllReadyZ.cons (opAt rfl) (fun K hK => ?_) ?_
      · skip
        have zf := bf.cell 2
        go_simp
        clear zf
        refine hK.out _ _ (by exact ⟨bx.cell 0, bx.cell 1⟩) (fun hHeld => ?_)
        clear hK K
        try simp only [Act.put, List.setIfInBounds_toArray, List.set_cons_zero, List.set_cons_succ]
        refine' wpAnyZ_takeA (i := 6) (v := ?_) (opAt rfl) (by kernel_rfl) (by kernel_rfl) (by kernel_rfl) (by kernel_rfl) (fun _ _ _ h => h) (by assumption) (by rfl) (fun w hSw => ?_) ?_
        rotate_left
        · (try dsimp only at hSw); go_simp; (try rw [if_neg (by omega)]); (try with_reducible rfl)
        try simp only [Act.put, List.setIfInBounds_toArray, List.set_cons_zero, List.set_cons_succ]
        refine' wpAnyZ_takeA (i := 10) (v := ?_) (opAt rfl) (by kernel_rfl) (by kernel_rfl) (by kernel_rfl) (by kernel_rfl) (fun _ _ _ h => h) (by assumption) (by rfl) (fun w hSw => ?_) ?_
        rotate_left
        · (try dsimp only at hSw); go_simp; (try rw [if_neg (by omega)]); (try with_reducible rfl)
        try simp only [Act.put, List.setIfInBounds_toArray, List.set_cons_zero, List.set_cons_succ]
        refine' wpAnyZ_takeA (i := 11) (v := ?_) (opAt rfl) (by kernel_rfl) (by kernel_rfl) (by kernel_rfl) (by kernel_rfl) (fun _ _ _ h => h) (by assumption) (by rfl) (fun w hSw => ?_) ?_
        rotate_left
        · (try dsimp only at hSw); go_simp; (try with_reducible rfl)
        try simp only [Act.put, List.setIfInBounds_toArray, List.set_cons_zero, List.set_cons_succ]
        refine wpAnyZ_done (by kernel_rfl) ?_ _
        have mc := fun i => bx.cell i
        clear bf
        go_wp2_with fail
        go_ret
        exact ⟨rfl, B0⟩
      exact AllReadyZ.nil
    exact AllReadyZ.nil
  refine AllReadyZ.cons (opAt rfl) (fun K hK => ?_) ?_
  · skip
    go_simp
    refine (T1.out _).mono ?_
    rintro e wt ⟨rfl, hb1⟩
    replace B0 := B0.trans (hb1.mono (Nat.le_of_lt bx.lt))
    replace bx := bx.below hb1 bx.lt
    clear hb1
    try go_wp2_with fail
    refine hK.out _ _ (by exact ⟨bx.cell 0, bx.cell 1⟩) (fun hHeld => ?_)
    clear hK K
    try simp only [Act.put, List.setIfInBounds_toArray, List.set_cons_zero, List.set_cons_succ]
    refine wpAnyZ_ready (rs := [0]) (by kernel_rfl) (by simp) ?_
    refine AllReadyZ.cons (opAt rfl) (fun K hK => ?_) ?_
    · skip
      go_simp
      have bf := Blk.new wt 9 #[.string ⟨#[103, 101, 116]⟩, .string ⟨#[112, 117, 116]⟩, .string ⟨#[100, 101, 108, 101, 116, 101]⟩, .string ⟨#[115, 99, 97, 110]⟩]
      have hgb : w.heap.size < wt.heap.size := bx.lt
      replace bx := bx.alloc (.cells #[.string ⟨#[103, 101, 116]⟩, .string ⟨#[112, 117, 116]⟩, .string ⟨#[100, 101, 108, 101, 116, 101]⟩, .string ⟨#[115, 99, 97, 110]⟩] 9)
      replace B0 := B0.alloc B0.size (.cells #[.string ⟨#[103, 101, 116]⟩, .string ⟨#[112, 117, 116]⟩, .string ⟨#[100, 101, 108, 101, 116, 101]⟩, .string ⟨#[115, 99, 97, 110]⟩] 9)
      generalize wt.alloc (.cells #[.string ⟨#[103, 101, 116]⟩, .string ⟨#[112, 117, 116]⟩, .string ⟨#[100, 101, 108, 101, 116, 101]⟩, .string ⟨#[115, 99, 97, 110]⟩] 9) = wf at *
      generalize wt.heap.size = gf at *
      try go_wp2_with fail
      refine hK.out _ _ (by exact ⟨bx.cell 0, bx.cell 1⟩) (fun hHeld => ?_)
      clear hK K
      try simp only [Act.put, List.setIfInBounds_toArray, List.set_cons_zero, List.set_cons_succ]
      refine' wpAnyZ_takeA (i := 4) (v := ?_) (opAt rfl) (by kernel_rfl) (by kernel_rfl) (by kernel_rfl) (by kernel_rfl) (fun _ _ _ h => h) (by assumption) (by rfl) (fun w hSw => ?_) ?_
      rotate_left
      · (try dsimp only at hSw); go_simp; (try with_reducible rfl)
      try simp only [Act.put, List.setIfInBounds_toArray, List.set_cons_zero, List.set_cons_succ]
      refine wpAnyZ_ready (rs := [5]) (by kernel_rfl) (by simp) ?_
      refine AllReadyZ.cons (opAt rfl) (fun K hK => ?_) ?_
      · skip
        have zf := bf.cell 2
        go_simp
        clear zf
        refine hK.out _ _ (by exact ⟨bx.cell 0, bx.cell 1⟩) (fun hHeld => ?_)
        clear hK K
        try simp only [Act.put, List.setIfInBounds_toArray, List.set_cons_zero, List.set_cons_succ]
        refine' wpAnyZ_takeA (i := 6) (v := ?_) (opAt rfl) (by kernel_rfl) (by kernel_rfl) (by kernel_rfl) (by kernel_rfl) (fun _ _ _ h => h) (by assumption) (by rfl) (fun w hSw => ?_) ?_
        rotate_left
        · (try dsimp only at hSw); go_simp; (try rw [if_neg (by omega)]); (try with_reducible rfl)
        try simp only [Act.put, List.setIfInBounds_toArray, List.set_cons_zero, List.set_cons_succ]
        refine' wpAnyZ_takeA (i := 10) (v := ?_) (opAt rfl) (by kernel_rfl) (by kernel_rfl) (by kernel_rfl) (by kernel_rfl) (fun _ _ _ h => h) (by assumption) (by rfl) (fun w hSw => ?_) ?_
        rotate_left
        · (try dsimp only at hSw); go_simp; (try rw [if_neg (by omega)]); (try with_reducible rfl)
        try simp only [Act.put, List.setIfInBounds_toArray, List.set_cons_zero, List.set_cons_succ]
        refine' wpAnyZ_takeA (i := 11) (v := ?_) (opAt rfl) (by kernel_rfl) (by kernel_rfl) (by kernel_rfl) (by kernel_rfl) (fun _ _ _ h => h) (by assumption) (by rfl) (fun w hSw => ?_) ?_
        rotate_left
        · (try dsimp only at hSw); go_simp; (try with_reducible rfl)
        try simp only [Act.put, List.setIfInBounds_toArray, List.set_cons_zero, List.set_cons_succ]
        refine wpAnyZ_done (by kernel_rfl) ?_ _
        have mc := fun i => bx.cell i
        clear bf
        go_wp2_with fail
        go_ret
        exact ⟨rfl, B0⟩
      exact AllReadyZ.nil
    exact AllReadyZ.nil
  exact AllReadyZ.nil
set_option maxRecDepth 100000 in
set_option maxHeartbeats 4000000 in
theorem rop_4 (key : Nat) (hi : Nat) (mo : Int) (w : World) (h1 : key < 18446744073709551616) (h2 : hi < 18446744073709551616) (h3 : I64 mo) (hR : opRight 4 mo = true) : Calls Tryz.prog 62 #[.agg #[.int .i64 4, .int .u64 (key : Nat), .int .u64 0, .int .u64 (hi : Nat), .int .i64 mo]] w fun e w' => e = .returned (.string (joinT [nmd kindL 4, numT key, numT hi, intT mo])) ∧ Below w.heap.size w w' := by
  have B0 := (Below.refl w.heap.size w).alloc (Nat.le_refl _) (.cells #[.int .i64 4, .int .u64 (key : Nat), .int .u64 0, .int .u64 (hi : Nat), .int .i64 mo] 48)
  have bx := Blk.new w 48 #[.int .i64 4, .int .u64 (key : Nat), .int .u64 0, .int .u64 (hi : Nat), .int .i64 mo]
  have RR := hide (fun w2 => rright_any 4 key 0 hi mo w2)
  rw [hR] at RR
  rw [show ((0 : Nat) : Int) = 0 from rfl] at RR
  have T1 := hide (fun w2 => rform10_any key w2 h1)
  have s1 := numT_size key
  have T2 := hide (fun w2 => rform10_any hi w2 h2)
  have T3 := hide (fun w2 => rint_any mo w2 h3)
  rw [show strOfNums (intL mo) = intT mo from rfl] at T3
  have s2 := numT_size hi
  have s3 := intT_size mo
  rw [show nmd kindL 4 = ⟨#[115, 99, 97, 110]⟩ from rfl, joinT_fold]
  simp only [List.foldl_cons, List.foldl_nil]
  generalize numT key = tk at *
  generalize numT hi = th at *
  generalize intT mo = tm at *
  have mc := fun i => bx.cell i
  clear h1 h2 h3 hR
  go_enter Tryz.func62, Tryz.ntmps62
  go_wp2_with fail
  refine (RR.out _).mono ?_
  rintro e w1 ⟨rfl, hb1⟩
  replace B0 := B0.trans (hb1.mono (Nat.le_of_lt bx.lt))
  replace bx := bx.below hb1 bx.lt
  clear hb1 mc
  have mc := fun i => bx.cell i
  go_wp2_with fail
  have hwk : IntKind.i64.wrap 3 = 3 := by decide
  clear mc
  refine wp_region_heldZ [] (fun w' => w'.cell? ⟨w.heap.size, 0, none⟩ = some (.int .i64 4) ∧ w'.cell? ⟨w.heap.size, 1, none⟩ = some (.int .u64 (key : Nat))) (by kernel_rfl) (by exact ⟨bx.cell 0, bx.cell 1⟩) (fun hHeld => ?_)
  replace bx := bx.drew
  replace B0 := B0.drew
  generalize w1.drew = wz at *
  refine' wpAnyZ_takeA (i := 1) (v := ?_) (opAt rfl) (by kernel_rfl) (by kernel_rfl) (by kernel_rfl) (by kernel_rfl) (fun _ _ _ h => h) (by assumption) (by rfl) (fun w hSw => ?_) ?_
  rotate_left
  · (try dsimp only at hSw); go_simp; (try with_reducible rfl)
  try simp only [Act.put, List.setIfInBounds_toArray, List.set_cons_zero, List.set_cons_succ]
  refine' wpAnyZ_takeA (i := 2) (v := ?_) (opAt rfl) (by kernel_rfl) (by kernel_rfl) (by kernel_rfl) (by kernel_rfl) (fun _ _ _ h => h) (by assumption) (by rfl) (fun w hSw => ?_) ?_
  rotate_left
  · (try dsimp only at hSw); go_simp; (try with_reducible rfl)
  try simp only [Act.put, List.setIfInBounds_toArray, List.set_cons_zero, List.set_cons_succ]
  refine' wpAnyZ_takeA (i := 3) (v := ?_) (opAt rfl) (by kernel_rfl) (by kernel_rfl) (by kernel_rfl) (by kernel_rfl) (fun _ _ _ h => h) (by assumption) (by rfl) (fun w hSw => ?_) ?_
  rotate_left
  · (try dsimp only at hSw); go_simp; (try with_reducible rfl)
  try simp only [Act.put, List.setIfInBounds_toArray, List.set_cons_zero, List.set_cons_succ]
  refine' wpAnyZ_takeA (i := 7) (v := ?_) (opAt rfl) (by kernel_rfl) (by kernel_rfl) (by kernel_rfl) (by kernel_rfl) (fun _ _ _ h => h) (by assumption) (by rfl) (fun w hSw => ?_) ?_
  rotate_left
  · (try dsimp only at hSw); go_simp; (try with_reducible rfl)
  try simp only [Act.put, List.setIfInBounds_toArray, List.set_cons_zero, List.set_cons_succ]
  refine' wpAnyZ_takeA (i := 8) (v := ?_) (opAt rfl) (by kernel_rfl) (by kernel_rfl) (by kernel_rfl) (by kernel_rfl) (fun _ _ _ h => h) (by assumption) (by rfl) (fun w hSw => ?_) ?_
  rotate_left
  · (try dsimp only at hSw); go_simp; (try with_reducible rfl)
  try simp only [Act.put, List.setIfInBounds_toArray, List.set_cons_zero, List.set_cons_succ]
  refine wpAnyZ_ready (rs := [0, 9]) (by kernel_rfl) (by simp) ?_
  refine AllReadyZ.cons (opAt rfl) (fun K hK => ?_) ?_
  · skip
    go_simp
    have bf := Blk.new wz 9 #[.string ⟨#[103, 101, 116]⟩, .string ⟨#[112, 117, 116]⟩, .string ⟨#[100, 101, 108, 101, 116, 101]⟩, .string ⟨#[115, 99, 97, 110]⟩]
    have hgb : w.heap.size < wz.heap.size := bx.lt
    replace bx := bx.alloc (.cells #[.string ⟨#[103, 101, 116]⟩, .string ⟨#[112, 117, 116]⟩, .string ⟨#[100, 101, 108, 101, 116, 101]⟩, .string ⟨#[115, 99, 97, 110]⟩] 9)
    replace B0 := B0.alloc B0.size (.cells #[.string ⟨#[103, 101, 116]⟩, .string ⟨#[112, 117, 116]⟩, .string ⟨#[100, 101, 108, 101, 116, 101]⟩, .string ⟨#[115, 99, 97, 110]⟩] 9)
    generalize wz.alloc (.cells #[.string ⟨#[103, 101, 116]⟩, .string ⟨#[112, 117, 116]⟩, .string ⟨#[100, 101, 108, 101, 116, 101]⟩, .string ⟨#[115, 99, 97, 110]⟩] 9) = wf at *
    generalize wz.heap.size = gf at *
    try go_wp2_with fail
    refine hK.out _ _ (by exact ⟨bx.cell 0, bx.cell 1⟩) (fun hHeld => ?_)
    clear hK K
    try simp only [Act.put, List.setIfInBounds_toArray, List.set_cons_zero, List.set_cons_succ]
    refine' wpAnyZ_takeA (i := 4) (v := ?_) (opAt rfl) (by kernel_rfl) (by kernel_rfl) (by kernel_rfl) (by kernel_rfl) (fun _ _ _ h => h) (by assumption) (by rfl) (fun w hSw => ?_) ?_
    rotate_left
    · (try dsimp only at hSw); go_simp; (try with_reducible rfl)
    try simp only [Act.put, List.setIfInBounds_toArray, List.set_cons_zero, List.set_cons_succ]
    refine wpAnyZ_ready (rs := [5, 9]) (by kernel_rfl) (by simp) ?_
    refine AllReadyZ.cons (opAt rfl) (fun K hK => ?_) ?_
    · skip
      have zf := bf.cell 3
      go_simp
      clear zf
      refine hK.out _ _ (by exact ⟨bx.cell 0, bx.cell 1⟩) (fun hHeld => ?_)
      clear hK K
      try simp only [Act.put, List.setIfInBounds_toArray, List.set_cons_zero, List.set_cons_succ]
      refine' wpAnyZ_takeA (i := 6) (v := ?_) (opAt rfl) (by kernel_rfl) (by kernel_rfl) (by kernel_rfl) (by kernel_rfl) (fun _ _ _ h => h) (by assumption) (by rfl) (fun w hSw => ?_) ?_
      rotate_left
      · (try dsimp only at hSw); go_simp; (try rw [if_neg (by omega)]); (try with_reducible rfl)
      try simp only [Act.put, List.setIfInBounds_toArray, List.set_cons_zero, List.set_cons_succ]
      refine wpAnyZ_ready (rs := [9]) (by kernel_rfl) (by simp) ?_
      refine AllReadyZ.cons (opAt rfl) (fun K hK => ?_) ?_
      · skip
        go_simp
        refine (T1.out _).mono ?_
        rintro e wt ⟨rfl, hb1⟩
        replace bf := bf.below hb1 bf.lt
        replace B0 := B0.trans (hb1.mono (Nat.le_of_lt bx.lt))
        replace bx := bx.below hb1 bx.lt
        clear hb1
        try go_wp2_with fail
        refine hK.out _ _ (by exact ⟨bx.cell 0, bx.cell 1⟩) (fun hHeld => ?_)
        clear hK K
        try simp only [Act.put, List.setIfInBounds_toArray, List.set_cons_zero, List.set_cons_succ]
        refine' wpAnyZ_takeA (i := 10) (v := ?_) (opAt rfl) (by kernel_rfl) (by kernel_rfl) (by kernel_rfl) (by kernel_rfl) (fun _ _ _ h => h) (by assumption) (by rfl) (fun w hSw => ?_) ?_
        rotate_left
        · (try dsimp only at hSw); go_simp; (try rw [if_neg (by omega)]); (try with_reducible rfl)
        try simp only [Act.put, List.setIfInBounds_toArray, List.set_cons_zero, List.set_cons_succ]
        refine' wpAnyZ_takeA (i := 11) (v := ?_) (opAt rfl) (by kernel_rfl) (by kernel_rfl) (by kernel_rfl) (by kernel_rfl) (fun _ _ _ h => h) (by assumption) (by rfl) (fun w hSw => ?_) ?_
        rotate_left
        · (try dsimp only at hSw); go_simp; (try with_reducible rfl)
        try simp only [Act.put, List.setIfInBounds_toArray, List.set_cons_zero, List.set_cons_succ]
        refine wpAnyZ_done (by kernel_rfl) ?_ _
        have mc := fun i => bx.cell i
        clear bf
        go_wp2_with fail
        refine wp_region_heldZ [] (fun w' => w'.cell? ⟨w.heap.size, 3, none⟩ = some (.int .u64 (hi : Nat)) ∧ w'.cell? ⟨w.heap.size, 4, none⟩ = some (.int .i64 mo)) (by kernel_rfl) (by exact ⟨bx.cell 3, bx.cell 4⟩) (fun hHeld => ?_)
        replace bx := bx.drew
        replace B0 := B0.drew
        clear mc
        refine' wpAnyZ_takeA (i := 0) (v := ?_) (opAt rfl) (by kernel_rfl) (by kernel_rfl) (by kernel_rfl) (by kernel_rfl) (fun _ _ _ h => h) (by assumption) (by rfl) (fun w hSw => ?_) ?_
        rotate_left
        · (try dsimp only at hSw); go_simp; (try with_reducible rfl)
        try simp only [Act.put, List.setIfInBounds_toArray, List.set_cons_zero, List.set_cons_succ]
        refine' wpAnyZ_takeA (i := 1) (v := ?_) (opAt rfl) (by kernel_rfl) (by kernel_rfl) (by kernel_rfl) (by kernel_rfl) (fun _ _ _ h => h) (by assumption) (by rfl) (fun w hSw => ?_) ?_
        rotate_left
        · (try dsimp only at hSw); go_simp; (try rw [if_neg (by omega)]); (try with_reducible rfl)
        try simp only [Act.put, List.setIfInBounds_toArray, List.set_cons_zero, List.set_cons_succ]
        refine' wpAnyZ_takeA (i := 2) (v := ?_) (opAt rfl) (by kernel_rfl) (by kernel_rfl) (by kernel_rfl) (by kernel_rfl) (fun _ _ _ h => h) (by assumption) (by rfl) (fun w hSw => ?_) ?_
        rotate_left
        · (try dsimp only at hSw); go_simp; (try with_reducible rfl)
        try simp only [Act.put, List.setIfInBounds_toArray, List.set_cons_zero, List.set_cons_succ]
        refine' wpAnyZ_takeA (i := 3) (v := ?_) (opAt rfl) (by kernel_rfl) (by kernel_rfl) (by kernel_rfl) (by kernel_rfl) (fun _ _ _ h => h) (by assumption) (by rfl) (fun w hSw => ?_) ?_
        rotate_left
        · (try dsimp only at hSw); go_simp; (try with_reducible rfl)
        try simp only [Act.put, List.setIfInBounds_toArray, List.set_cons_zero, List.set_cons_succ]
        refine' wpAnyZ_takeA (i := 7) (v := ?_) (opAt rfl) (by kernel_rfl) (by kernel_rfl) (by kernel_rfl) (by kernel_rfl) (fun _ _ _ h => h) (by assumption) (by rfl) (fun w hSw => ?_) ?_
        rotate_left
        · (try dsimp only at hSw); go_simp; (try with_reducible rfl)
        try simp only [Act.put, List.setIfInBounds_toArray, List.set_cons_zero, List.set_cons_succ]
        refine' wpAnyZ_takeA (i := 8) (v := ?_) (opAt rfl) (by kernel_rfl) (by kernel_rfl) (by kernel_rfl) (by kernel_rfl) (fun _ _ _ h => h) (by assumption) (by rfl) (fun w hSw => ?_) ?_
        rotate_left
        · (try dsimp only at hSw); go_simp; (try with_reducible rfl)
        try simp only [Act.put, List.setIfInBounds_toArray, List.set_cons_zero, List.set_cons_succ]
        refine wpAnyZ_ready (rs := [4]) (by kernel_rfl) (by simp) ?_
        refine AllReadyZ.cons (opAt rfl) (fun K hK => ?_) ?_
        · skip
          go_simp
          refine (T2.out _).mono ?_
          rintro e wa ⟨rfl, hb1⟩
          replace B0 := B0.trans (hb1.mono (Nat.le_of_lt bx.lt))
          replace bx := bx.below hb1 bx.lt
          clear hb1
          try go_wp2_with fail
          refine hK.out _ _ (by exact ⟨bx.cell 3, bx.cell 4⟩) (fun hHeld => ?_)
          clear hK K
          try simp only [Act.put, List.setIfInBounds_toArray, List.set_cons_zero, List.set_cons_succ]
          refine' wpAnyZ_takeA (i := 5) (v := ?_) (opAt rfl) (by kernel_rfl) (by kernel_rfl) (by kernel_rfl) (by kernel_rfl) (fun _ _ _ h => h) (by assumption) (by rfl) (fun w hSw => ?_) ?_
          rotate_left
          · (try dsimp only at hSw); go_simp; (try rw [if_neg (by omega)]); (try with_reducible rfl)
          try simp only [Act.put, List.setIfInBounds_toArray, List.set_cons_zero, List.set_cons_succ]
          refine' wpAnyZ_takeA (i := 6) (v := ?_) (opAt rfl) (by kernel_rfl) (by kernel_rfl) (by kernel_rfl) (by kernel_rfl) (fun _ _ _ h => h) (by assumption) (by rfl) (fun w hSw => ?_) ?_
          rotate_left
          · (try dsimp only at hSw); go_simp; (try rw [if_neg (by omega)]); (try with_reducible rfl)
          try simp only [Act.put, List.setIfInBounds_toArray, List.set_cons_zero, List.set_cons_succ]
          refine wpAnyZ_ready (rs := [9]) (by kernel_rfl) (by simp) ?_
          refine AllReadyZ.cons (opAt rfl) (fun K hK => ?_) ?_
          · skip
            go_simp
            refine (T3.out _).mono ?_
            rintro e wb ⟨rfl, hb1⟩
            replace B0 := B0.trans (hb1.mono (Nat.le_of_lt bx.lt))
            replace bx := bx.below hb1 bx.lt
            clear hb1
            try go_wp2_with fail
            refine hK.out _ _ (by exact ⟨bx.cell 3, bx.cell 4⟩) (fun hHeld => ?_)
            clear hK K
            try simp only [Act.put, List.setIfInBounds_toArray, List.set_cons_zero, List.set_cons_succ]
            refine' wpAnyZ_takeA (i := 10) (v := ?_) (opAt rfl) (by kernel_rfl) (by kernel_rfl) (by kernel_rfl) (by kernel_rfl) (fun _ _ _ h => h) (by assumption) (by rfl) (fun w hSw => ?_) ?_
            rotate_left
            · (try dsimp only at hSw); go_simp; (try rw [if_neg (by omega)]); (try with_reducible rfl)
            try simp only [Act.put, List.setIfInBounds_toArray, List.set_cons_zero, List.set_cons_succ]
            refine' wpAnyZ_takeA (i := 11) (v := ?_) (opAt rfl) (by kernel_rfl) (by kernel_rfl) (by kernel_rfl) (by kernel_rfl) (fun _ _ _ h => h) (by assumption) (by rfl) (fun w hSw => ?_) ?_
            rotate_left
            · (try dsimp only at hSw); go_simp; (try with_reducible rfl)
            try simp only [Act.put, List.setIfInBounds_toArray, List.set_cons_zero, List.set_cons_succ]
            refine wpAnyZ_done (by kernel_rfl) ?_ _
            go_wp2_with fail
            go_ret
            exact ⟨rfl, B0⟩
          exact AllReadyZ.nil
        exact AllReadyZ.nil
      exact AllReadyZ.nil
    refine AllReadyZ.cons (opAt rfl) (fun K hK => ?_) ?_
    · skip
      go_simp
      refine (T1.out _).mono ?_
      rintro e wt ⟨rfl, hb1⟩
      replace bf := bf.below hb1 bf.lt
      replace B0 := B0.trans (hb1.mono (Nat.le_of_lt bx.lt))
      replace bx := bx.below hb1 bx.lt
      clear hb1
      try go_wp2_with fail
      refine hK.out _ _ (by exact ⟨bx.cell 0, bx.cell 1⟩) (fun hHeld => ?_)
      clear hK K
      try simp only [Act.put, List.setIfInBounds_toArray, List.set_cons_zero, List.set_cons_succ]
      refine wpAnyZ_ready (rs := [5]) (by kernel_rfl) (by simp) ?_
      refine AllReadyZ.cons (opAt rfl) (fun K hK => ?_) ?_
      · skip
        have zf := bf.cell 3
        go_simp
        clear zf
        refine hK.out _ _ (by exact ⟨bx.cell 0, bx.cell 1⟩) (fun hHeld => ?_)
        clear hK K
        try simp only [Act.put, List.setIfInBounds_toArray, List.set_cons_zero, List.set_cons_succ]
        refine' wpAnyZ_takeA (i := 6) (v := ?_) (opAt rfl) (by kernel_rfl) (by kernel_rfl) (by kernel_rfl) (by kernel_rfl) (fun _ _ _ h => h) (by assumption) (by rfl) (fun w hSw => ?_) ?_
        rotate_left
        · (try dsimp only at hSw); go_simp; (try rw [if_neg (by omega)]); (try with_reducible rfl)
        try simp only [Act.put, List.setIfInBounds_toArray, List.set_cons_zero, List.set_cons_succ]
        refine' wpAnyZ_takeA (i := 10) (v := ?_) (opAt rfl) (by kernel_rfl) (by kernel_rfl) (by kernel_rfl) (by kernel_rfl) (fun _ _ _ h => h) (by assumption) (by rfl) (fun w hSw => ?_) ?_
        rotate_left
        · (try dsimp only at hSw); go_simp; (try rw [if_neg (by omega)]); (try with_reducible rfl)
        try simp only [Act.put, List.setIfInBounds_toArray, List.set_cons_zero, List.set_cons_succ]
        refine' wpAnyZ_takeA (i := 11) (v := ?_) (opAt rfl) (by kernel_rfl) (by kernel_rfl) (by kernel_rfl) (by kernel_rfl) (fun _ _ _ h => h) (by assumption) (by rfl) (fun w hSw => ?_) ?_
        rotate_left
        · (try dsimp only at hSw); go_simp; (try with_reducible rfl)
        try simp only [Act.put, List.setIfInBounds_toArray, List.set_cons_zero, List.set_cons_succ]
        refine wpAnyZ_done (by kernel_rfl) ?_ _
        have mc := fun i => bx.cell i
        clear bf
        go_wp2_with fail
        refine wp_region_heldZ [] (fun w' => w'.cell? ⟨w.heap.size, 3, none⟩ = some (.int .u64 (hi : Nat)) ∧ w'.cell? ⟨w.heap.size, 4, none⟩ = some (.int .i64 mo)) (by kernel_rfl) (by exact ⟨bx.cell 3, bx.cell 4⟩) (fun hHeld => ?_)
        replace bx := bx.drew
        replace B0 := B0.drew
        clear mc
        refine' wpAnyZ_takeA (i := 0) (v := ?_) (opAt rfl) (by kernel_rfl) (by kernel_rfl) (by kernel_rfl) (by kernel_rfl) (fun _ _ _ h => h) (by assumption) (by rfl) (fun w hSw => ?_) ?_
        rotate_left
        · (try dsimp only at hSw); go_simp; (try with_reducible rfl)
        try simp only [Act.put, List.setIfInBounds_toArray, List.set_cons_zero, List.set_cons_succ]
        refine' wpAnyZ_takeA (i := 1) (v := ?_) (opAt rfl) (by kernel_rfl) (by kernel_rfl) (by kernel_rfl) (by kernel_rfl) (fun _ _ _ h => h) (by assumption) (by rfl) (fun w hSw => ?_) ?_
        rotate_left
        · (try dsimp only at hSw); go_simp; (try rw [if_neg (by omega)]); (try with_reducible rfl)
        try simp only [Act.put, List.setIfInBounds_toArray, List.set_cons_zero, List.set_cons_succ]
        refine' wpAnyZ_takeA (i := 2) (v := ?_) (opAt rfl) (by kernel_rfl) (by kernel_rfl) (by kernel_rfl) (by kernel_rfl) (fun _ _ _ h => h) (by assumption) (by rfl) (fun w hSw => ?_) ?_
        rotate_left
        · (try dsimp only at hSw); go_simp; (try with_reducible rfl)
        try simp only [Act.put, List.setIfInBounds_toArray, List.set_cons_zero, List.set_cons_succ]
        refine' wpAnyZ_takeA (i := 3) (v := ?_) (opAt rfl) (by kernel_rfl) (by kernel_rfl) (by kernel_rfl) (by kernel_rfl) (fun _ _ _ h => h) (by assumption) (by rfl) (fun w hSw => ?_) ?_
        rotate_left
        · (try dsimp only at hSw); go_simp; (try with_reducible rfl)
        try simp only [Act.put, List.setIfInBounds_toArray, List.set_cons_zero, List.set_cons_succ]
        refine' wpAnyZ_takeA (i := 7) (v := ?_) (opAt rfl) (by kernel_rfl) (by kernel_rfl) (by kernel_rfl) (by kernel_rfl) (fun _ _ _ h => h) (by assumption) (by rfl) (fun w hSw => ?_) ?_
        rotate_left
        · (try dsimp only at hSw); go_simp; (try with_reducible rfl)
        try simp only [Act.put, List.setIfInBounds_toArray, List.set_cons_zero, List.set_cons_succ]
        refine' wpAnyZ_takeA (i := 8) (v := ?_) (opAt rfl) (by kernel_rfl) (by kernel_rfl) (by kernel_rfl) (by kernel_rfl) (fun _ _ _ h => h) (by assumption) (by rfl) (fun w hSw => ?_) ?_
        rotate_left
        · (try dsimp only at hSw); go_simp; (try with_reducible rfl)
        try simp only [Act.put, List.setIfInBounds_toArray, List.set_cons_zero, List.set_cons_succ]
        refine wpAnyZ_ready (rs := [4]) (by kernel_rfl) (by simp) ?_
        refine AllReadyZ.cons (opAt rfl) (fun K hK => ?_) ?_
        · skip
          go_simp
          refine (T2.out _).mono ?_
          rintro e wa ⟨rfl, hb1⟩
          replace B0 := B0.trans (hb1.mono (Nat.le_of_lt bx.lt))
          replace bx := bx.below hb1 bx.lt
          clear hb1
          try go_wp2_with fail
          refine hK.out _ _ (by exact ⟨bx.cell 3, bx.cell 4⟩) (fun hHeld => ?_)
          clear hK K
          try simp only [Act.put, List.setIfInBounds_toArray, List.set_cons_zero, List.set_cons_succ]
          refine' wpAnyZ_takeA (i := 5) (v := ?_) (opAt rfl) (by kernel_rfl) (by kernel_rfl) (by kernel_rfl) (by kernel_rfl) (fun _ _ _ h => h) (by assumption) (by rfl) (fun w hSw => ?_) ?_
          rotate_left
          · (try dsimp only at hSw); go_simp; (try rw [if_neg (by omega)]); (try with_reducible rfl)
          try simp only [Act.put, List.setIfInBounds_toArray, List.set_cons_zero, List.set_cons_succ]
          refine' wpAnyZ_takeA (i := 6) (v := ?_) (opAt rfl) (by kernel_rfl) (by kernel_rfl) (by kernel_rfl) (by kernel_rfl) (fun _ _ _ h => h) (by assumption) (by rfl) (fun w hSw => ?_) ?_
          rotate_left
          · (try dsimp only at hSw); go_simp; (try rw [if_neg (by omega)]); (try with_reducible rfl)
          try simp only [Act.put, List.setIfInBounds_toArray, List.set_cons_zero, List.set_cons_succ]
          refine wpAnyZ_ready (rs := [9]) (by kernel_rfl) (by simp) ?_
          refine AllReadyZ.cons (opAt rfl) (fun K hK => ?_) ?_
          · skip
            go_simp
            refine (T3.out _).mono ?_
            rintro e wb ⟨rfl, hb1⟩
            replace B0 := B0.trans (hb1.mono (Nat.le_of_lt bx.lt))
            replace bx := bx.below hb1 bx.lt
            clear hb1
            try go_wp2_with fail
            refine hK.out _ _ (by exact ⟨bx.cell 3, bx.cell 4⟩) (fun hHeld => ?_)
            clear hK K
            try simp only [Act.put, List.setIfInBounds_toArray, List.set_cons_zero, List.set_cons_succ]
            refine' wpAnyZ_takeA (i := 10) (v := ?_) (opAt rfl) (by kernel_rfl) (by kernel_rfl) (by kernel_rfl) (by kernel_rfl) (fun _ _ _ h => h) (by assumption) (by rfl) (fun w hSw => ?_) ?_
            rotate_left
            · (try dsimp only at hSw); go_simp; (try rw [if_neg (by omega)]); (try with_reducible rfl)
            try simp only [Act.put, List.setIfInBounds_toArray, List.set_cons_zero, List.set_cons_succ]
            refine' wpAnyZ_takeA (i := 11) (v := ?_) (opAt rfl) (by kernel_rfl) (by kernel_rfl) (by kernel_rfl) (by kernel_rfl) (fun _ _ _ h => h) (by assumption) (by rfl) (fun w hSw => ?_) ?_
            rotate_left
            · (try dsimp only at hSw); go_simp; (try with_reducible rfl)
            try simp only [Act.put, List.setIfInBounds_toArray, List.set_cons_zero, List.set_cons_succ]
            refine wpAnyZ_done (by kernel_rfl) ?_ _
            go_wp2_with fail
            go_ret
            exact ⟨rfl, B0⟩
          exact AllReadyZ.nil
        exact AllReadyZ.nil
      exact AllReadyZ.nil
    exact AllReadyZ.nil
  refine AllReadyZ.cons (opAt rfl) (fun K hK => ?_) ?_
  · skip
    go_simp
    refine (T1.out _).mono ?_
    rintro e wt ⟨rfl, hb1⟩
    replace B0 := B0.trans (hb1.mono (Nat.le_of_lt bx.lt))
    replace bx := bx.below hb1 bx.lt
    clear hb1
    try go_wp2_with fail
    refine hK.out _ _ (by exact ⟨bx.cell 0, bx.cell 1⟩) (fun hHeld => ?_)
    clear hK K
    try simp only [Act.put, List.setIfInBounds_toArray, List.set_cons_zero, List.set_cons_succ]
    refine wpAnyZ_ready (rs := [0]) (by kernel_rfl) (by simp) ?_
    refine AllReadyZ.cons (opAt rfl) (fun K hK => ?_) ?_
    · skip
      go_simp
      have bf := Blk.new wt 9 #[.string ⟨#[103, 101, 116]⟩, .string ⟨#[112, 117, 116]⟩, .string ⟨#[100, 101, 108, 101, 116, 101]⟩, .string ⟨#[115, 99, 97, 110]⟩]
      have hgb : w.heap.size < wt.heap.size := bx.lt
      replace bx := bx.alloc (.cells #[.string ⟨#[103, 101, 116]⟩, .string ⟨#[112, 117, 116]⟩, .string ⟨#[100, 101, 108, 101, 116, 101]⟩, .string ⟨#[115, 99, 97, 110]⟩] 9)
      replace B0 := B0.alloc B0.size (.cells #[.string ⟨#[103, 101, 116]⟩, .string ⟨#[112, 117, 116]⟩, .string ⟨#[100, 101, 108, 101, 116, 101]⟩, .string ⟨#[115, 99, 97, 110]⟩] 9)
      generalize wt.alloc (.cells #[.string ⟨#[103, 101, 116]⟩, .string ⟨#[112, 117, 116]⟩, .string ⟨#[100, 101, 108, 101, 116, 101]⟩, .string ⟨#[115, 99, 97, 110]⟩] 9) = wf at *
      generalize wt.heap.size = gf at *
      try go_wp2_with fail
      refine hK.out _ _ (by exact ⟨bx.cell 0, bx.cell 1⟩) (fun hHeld => ?_)
      clear hK K
      try simp only [Act.put, List.setIfInBounds_toArray, List.set_cons_zero, List.set_cons_succ]
      refine' wpAnyZ_takeA (i := 4) (v := ?_) (opAt rfl) (by kernel_rfl) (by kernel_rfl) (by kernel_rfl) (by kernel_rfl) (fun _ _ _ h => h) (by assumption) (by rfl) (fun w hSw => ?_) ?_
      rotate_left
      · (try dsimp only at hSw); go_simp; (try with_reducible rfl)
      try simp only [Act.put, List.setIfInBounds_toArray, List.set_cons_zero, List.set_cons_succ]
      refine wpAnyZ_ready (rs := [5]) (by kernel_rfl) (by simp) ?_
      refine AllReadyZ.cons (opAt rfl) (fun K hK => ?_) ?_
      · skip
        have zf := bf.cell 3
        go_simp
        clear zf
        refine hK.out _ _ (by exact ⟨bx.cell 0, bx.cell 1⟩) (fun hHeld => ?_)
        clear hK K
        try simp only [Act.put, List.setIfInBounds_toArray, List.set_cons_zero, List.set_cons_succ]
        refine' wpAnyZ_takeA (i := 6) (v := ?_) (opAt rfl) (by kernel_rfl) (by kernel_rfl) (by kernel_rfl) (by kernel_rfl) (fun _ _ _ h => h) (by assumption) (by rfl) (fun w hSw => ?_) ?_
        rotate_left
        · (try dsimp only at hSw); go_simp; (try rw [if_neg (by omega)]); (try with_reducible rfl)
        try simp only [Act.put, List.setIfInBounds_toArray, List.set_cons_zero, List.set_cons_succ]
        refine' wpAnyZ_takeA (i := 10) (v := ?_) (opAt rfl) (by kernel_rfl) (by kernel_rfl) (by kernel_rfl) (by kernel_rfl) (fun _ _ _ h => h) (by assumption) (by rfl) (fun w hSw => ?_) ?_
        rotate_left
        · (try dsimp only at hSw); go_simp; (try rw [if_neg (by omega)]); (try with_reducible rfl)
        try simp only [Act.put, List.setIfInBounds_toArray, List.set_cons_zero, List.set_cons_succ]
        refine' wpAnyZ_takeA (i := 11) (v := ?_) (opAt rfl) (by kernel_rfl) (by kernel_rfl) (by kernel_rfl) (by kernel_rfl) (fun _ _ _ h => h) (by assumption) (by rfl) (fun w hSw => ?_) ?_
        rotate_left
        · (try dsimp only at hSw); go_simp; (try with_reducible rfl)
        try simp only [Act.put, List.setIfInBounds_toArray, List.set_cons_zero, List.set_cons_succ]
        refine wpAnyZ_done (by kernel_rfl) ?_ _
        have mc := fun i => bx.cell i
        clear bf
        go_wp2_with fail
        refine wp_region_heldZ [] (fun w' => w'.cell? ⟨w.heap.size, 3, none⟩ = some (.int .u64 (hi : Nat)) ∧ w'.cell? ⟨w.heap.size, 4, none⟩ = some (.int .i64 mo)) (by kernel_rfl) (by exact ⟨bx.cell 3, bx.cell 4⟩) (fun hHeld => ?_)
        replace bx := bx.drew
        replace B0 := B0.drew
        clear mc
        refine' wpAnyZ_takeA (i := 0) (v := ?_) (opAt rfl) (by kernel_rfl) (by kernel_rfl) (by kernel_rfl) (by kernel_rfl) (fun _ _ _ h => h) (by assumption) (by rfl) (fun w hSw => ?_) ?_
        rotate_left
        · (try dsimp only at hSw); go_simp; (try with_reducible rfl)
        try simp only [Act.put, List.setIfInBounds_toArray, List.set_cons_zero, List.set_cons_succ]
        refine' wpAnyZ_takeA (i := 1) (v := ?_) (opAt rfl) (by kernel_rfl) (by kernel_rfl) (by kernel_rfl) (by kernel_rfl) (fun _ _ _ h => h) (by assumption) (by rfl) (fun w hSw => ?_) ?_
        rotate_left
        · (try dsimp only at hSw); go_simp; (try rw [if_neg (by omega)]); (try with_reducible rfl)
        try simp only [Act.put, List.setIfInBounds_toArray, List.set_cons_zero, List.set_cons_succ]
        refine' wpAnyZ_takeA (i := 2) (v := ?_) (opAt rfl) (by kernel_rfl) (by kernel_rfl) (by kernel_rfl) (by kernel_rfl) (fun _ _ _ h => h) (by assumption) (by rfl) (fun w hSw => ?_) ?_
        rotate_left
        · (try dsimp only at hSw); go_simp; (try with_reducible rfl)
        try simp only [Act.put, List.setIfInBounds_toArray, List.set_cons_zero, List.set_cons_succ]
        refine' wpAnyZ_takeA (i := 3) (v := ?_) (opAt rfl) (by kernel_rfl) (by kernel_rfl) (by kernel_rfl) (by kernel_rfl) (fun _ _ _ h => h) (by assumption) (by rfl) (fun w hSw => ?_) ?_
        rotate_left
        · (try dsimp only at hSw); go_simp; (try with_reducible rfl)
        try simp only [Act.put, List.setIfInBounds_toArray, List.set_cons_zero, List.set_cons_succ]
        refine' wpAnyZ_takeA (i := 7) (v := ?_) (opAt rfl) (by kernel_rfl) (by kernel_rfl) (by kernel_rfl) (by kernel_rfl) (fun _ _ _ h => h) (by assumption) (by rfl) (fun w hSw => ?_) ?_
        rotate_left
        · (try dsimp only at hSw); go_simp; (try with_reducible rfl)
        try simp only [Act.put, List.setIfInBounds_toArray, List.set_cons_zero, List.set_cons_succ]
        refine' wpAnyZ_takeA (i := 8) (v := ?_) (opAt rfl) (by kernel_rfl) (by kernel_rfl) (by kernel_rfl) (by kernel_rfl) (fun _ _ _ h => h) (by assumption) (by rfl) (fun w hSw => ?_) ?_
        rotate_left
        · (try dsimp only at hSw); go_simp; (try with_reducible rfl)
        try simp only [Act.put, List.setIfInBounds_toArray, List.set_cons_zero, List.set_cons_succ]
        refine wpAnyZ_ready (rs := [4]) (by kernel_rfl) (by simp) ?_
        refine AllReadyZ.cons (opAt rfl) (fun K hK => ?_) ?_
        · skip
          go_simp
          refine (T2.out _).mono ?_
          rintro e wa ⟨rfl, hb1⟩
          replace B0 := B0.trans (hb1.mono (Nat.le_of_lt bx.lt))
          replace bx := bx.below hb1 bx.lt
          clear hb1
          try go_wp2_with fail
          refine hK.out _ _ (by exact ⟨bx.cell 3, bx.cell 4⟩) (fun hHeld => ?_)
          clear hK K
          try simp only [Act.put, List.setIfInBounds_toArray, List.set_cons_zero, List.set_cons_succ]
          refine' wpAnyZ_takeA (i := 5) (v := ?_) (opAt rfl) (by kernel_rfl) (by kernel_rfl) (by kernel_rfl) (by kernel_rfl) (fun _ _ _ h => h) (by assumption) (by rfl) (fun w hSw => ?_) ?_
          rotate_left
          · (try dsimp only at hSw); go_simp; (try rw [if_neg (by omega)]); (try with_reducible rfl)
          try simp only [Act.put, List.setIfInBounds_toArray, List.set_cons_zero, List.set_cons_succ]
          refine' wpAnyZ_takeA (i := 6) (v := ?_) (opAt rfl) (by kernel_rfl) (by kernel_rfl) (by kernel_rfl) (by kernel_rfl) (fun _ _ _ h => h) (by assumption) (by rfl) (fun w hSw => ?_) ?_
          rotate_left
          · (try dsimp only at hSw); go_simp; (try rw [if_neg (by omega)]); (try with_reducible rfl)
          try simp only [Act.put, List.setIfInBounds_toArray, List.set_cons_zero, List.set_cons_succ]
          refine wpAnyZ_ready (rs := [9]) (by kernel_rfl) (by simp) ?_
          refine AllReadyZ.cons (opAt rfl) (fun K hK => ?_) ?_
          · skip
            go_simp
            refine (T3.out _).mono ?_
            rintro e wb ⟨rfl, hb1⟩
            replace B0 := B0.trans (hb1.mono (Nat.le_of_lt bx.lt))
            replace bx := bx.below hb1 bx.lt
            clear hb1
            try go_wp2_with fail
            refine hK.out _ _ (by exact ⟨bx.cell 3, bx.cell 4⟩) (fun hHeld => ?_)
            clear hK K
            try simp only [Act.put, List.setIfInBounds_toArray, List.set_cons_zero, List.set_cons_succ]
            refine' wpAnyZ_takeA (i := 10) (v := ?_) (opAt rfl) (by kernel_rfl) (by kernel_rfl) (by kernel_rfl) (by kernel_rfl) (fun _ _ _ h => h) (by assumption) (by rfl) (fun w hSw => ?_) ?_
            rotate_left
            · (try dsimp only at hSw); go_simp; (try rw [if_neg (by omega)]); (try with_reducible rfl)
            try simp only [Act.put, List.setIfInBounds_toArray, List.set_cons_zero, List.set_cons_succ]
            refine' wpAnyZ_takeA (i := 11) (v := ?_) (opAt rfl) (by kernel_rfl) (by kernel_rfl) (by kernel_rfl) (by kernel_rfl) (fun _ _ _ h => h) (by assumption) (by rfl) (fun w hSw => ?_) ?_
            rotate_left
            · (try dsimp only at hSw); go_simp; (try with_reducible rfl)
            try simp only [Act.put, List.setIfInBounds_toArray, List.set_cons_zero, List.set_cons_succ]
            refine wpAnyZ_done (by kernel_rfl) ?_ _
            go_wp2_with fail
            go_ret
            exact ⟨rfl, B0⟩
          exact AllReadyZ.nil
        exact AllReadyZ.nil
      exact AllReadyZ.nil
    exact AllReadyZ.nil
  exact AllReadyZ.nil
theorem rop_any (k : Int) (key vl hi : Nat) (mo : Int) (w : World) (h1 : key < 18446744073709551616) (h2 : vl < 18446744073709551616) (h3 : hi < 18446744073709551616) (h4 : I64 mo) :
    Calls Tryz.prog 62 #[.agg #[.int .i64 k, .int .u64 (key : Nat), .int .u64 (vl : Nat), .int .u64 (hi : Nat), .int .i64 mo]] w fun e w' => e = .returned (.string (opT k key vl hi mo)) ∧ Below w.heap.size w w' := by
  cases hR : opRight k mo with
  | false =>
    rw [opT_no (by unfold opOk; rw [hR]; rfl)]
    exact rop_noR k key vl hi mo w hR
  | true =>
    have hk : k = 1 ∨ k = 2 ∨ k = 3 ∨ k = 4 := by
      unfold opRight at hR
      split at hR
      · omega
      · simp at hR; omega
    cases hok : opOk k vl hi mo with
    | true =>
      have E : opT k key vl hi mo = joinT (opW k key vl hi mo) := by unfold opT; rw [if_pos hok]
      rw [E]
      unfold opOk at hok
      rw [hR] at hok
      simp at hok
      rcases hk with rfl | rfl | rfl | rfl
      · obtain ⟨rfl, rfl, rfl⟩ : vl = 0 ∧ hi = 0 ∧ mo = 0 := by simpa [and_assoc] using hok
        exact rop_1 key w h1
      · obtain ⟨rfl, rfl⟩ : hi = 0 ∧ mo = 0 := by simpa using hok
        exact rop_2 key vl w h1 h2
      · obtain ⟨rfl, rfl, rfl⟩ : vl = 0 ∧ hi = 0 ∧ mo = 0 := by simpa [and_assoc] using hok
        exact rop_3 key w h1
      · obtain rfl : vl = 0 := by simpa using hok
        exact rop_4 key hi mo w h1 h3 h4 hR
    | false =>
      rw [opT_no hok]
      unfold opOk at hok
      rw [hR] at hok
      by_cases k2 : k = 2
      · subst k2
        by_cases q : hi = 0
        · subst q
          have hm : mo ≠ 0 := by intro e; subst e; simp at hok
          exact rop_noM2 key vl mo w hR (by simpa using hm)
        · exact rop_noH2 key vl hi mo w hR (by simp; omega)
      by_cases qv : vl = 0
      · subst qv
        have k4 : k ≠ 4 := by intro e; subst e; simp at hok
        by_cases q : hi = 0
        · subst q
          have hm : mo ≠ 0 := by intro e; subst e; simp at hok
          exact rop_noMx k key mo w hR (by simpa using k2) (by simpa using k4) (by simpa using hm)
        · exact rop_noHx k key hi mo w hR (by simpa using k2) (by simpa using k4) (by simp; omega)
      · exact rop_noV k key vl hi mo w hR (by simpa using k2) (by simp; omega)
end Go.Proofs.YtlnckjemfabckaaGreatDoor

/-
  dump.Result, gleaningref38.Result.
-/
namespace Go.Proofs.YtlnckjemfabckaaGreatDoor
open Go.RowKit

theorem pairs_succ {ps : List PairR} {j : Nat} {p : PairR} (h : ps[j]? = some p) : (ps.take (j + 1)).map PairR.text = (ps.take j).map PairR.text ++ [PairR.text p] := by
  rw [List.take_add_one, h]
  simp
def RsI (g N : Nat) (cells : Array Value) (ps : List PairR) (w : World) (v3 v25 : Value) (wr : World) : Prop :=
  ∃ (j : Nat) (A : Option Addr) (c : Nat), v25 = .int .i64 j ∧ j ≤ N ∧ v3 = .slice A (1 + j) c ∧ wr.ownsRow (g + 1) 9 1 (.slice A (1 + j) c) (1 + j) (strs (listedB :: (ps.take j).map PairR.text)) ∧ Blk wr g 46 cells ∧ Below g w wr
def RRsI (g N : Nat) (cells : Array Value) (ps : List PairR) (w : World) (v3 v4 : Value) (wr : World) : Prop :=
  ∃ (j : Nat), v4 = .int .i64 j ∧ j ≤ N ∧ v3 = .string (joinT (listedB :: (ps.take j).map PairR.text)) ∧ Blk wr g 46 cells ∧ Below g w wr
set_option maxRecDepth 100000 in
set_option maxHeartbeats 4000000 in
theorem dres_1 (v : Nat) (A0 : Option Addr) (N cm : Nat) (w : World) : Calls Tryz.prog 18 #[.agg #[.int .i64 1, .int .u64 (v : Nat), .slice A0 N cm]] w fun e w' => e = .returned (.string ⟨#[110, 111, 116, 104, 105, 110, 103]⟩) ∧ Below w.heap.size w w' := by
  have B0 := (Below.refl w.heap.size w).alloc (Nat.le_refl _) (.cells #[.int .i64 1, .int .u64 (v : Nat), .slice A0 N cm] 46)
  have bx := Blk.new w 46 #[.int .i64 1, .int .u64 (v : Nat), .slice A0 N cm]
  have mc := fun i => bx.cell i
  go_enter Tryz.func18, Tryz.ntmps18
  go_wp2_with fail
  go_ret
  exact ⟨rfl, B0⟩
set_option maxRecDepth 100000 in
set_option maxHeartbeats 4000000 in
theorem dres_3 (v : Nat) (A0 : Option Addr) (N cm : Nat) (w : World) : Calls Tryz.prog 18 #[.agg #[.int .i64 3, .int .u64 (v : Nat), .slice A0 N cm]] w fun e w' => e = .returned (.string ⟨#[102, 117, 108, 108]⟩) ∧ Below w.heap.size w w' := by
  have B0 := (Below.refl w.heap.size w).alloc (Nat.le_refl _) (.cells #[.int .i64 3, .int .u64 (v : Nat), .slice A0 N cm] 46)
  have bx := Blk.new w 46 #[.int .i64 3, .int .u64 (v : Nat), .slice A0 N cm]
  have mc := fun i => bx.cell i
  go_enter Tryz.func18, Tryz.ntmps18
  go_wp2_with fail
  go_ret
  exact ⟨rfl, B0⟩
set_option maxRecDepth 100000 in
set_option maxHeartbeats 4000000 in
theorem dres_x (k : Int) (v : Nat) (A0 : Option Addr) (N cm : Nat) (w : World) (q1 : (k == 1) = false) (q2 : (k == 2) = false) (q3 : (k == 3) = false) (q4 : (k == 4) = false) : Calls Tryz.prog 18 #[.agg #[.int .i64 k, .int .u64 (v : Nat), .slice A0 N cm]] w fun e w' => e = .returned (.string ⟨#[110, 111, 110, 101]⟩) ∧ Below w.heap.size w w' := by
  have B0 := (Below.refl w.heap.size w).alloc (Nat.le_refl _) (.cells #[.int .i64 k, .int .u64 (v : Nat), .slice A0 N cm] 46)
  have bx := Blk.new w 46 #[.int .i64 k, .int .u64 (v : Nat), .slice A0 N cm]
  have mc := fun i => bx.cell i
  go_enter Tryz.func18, Tryz.ntmps18
  go_wp2_with fail
  go_ret
  exact ⟨rfl, B0⟩
set_option maxRecDepth 100000 in
set_option maxHeartbeats 4000000 in
theorem dres_2 (v : Nat) (A0 : Option Addr) (N cm : Nat) (w : World) (h1 : v < 18446744073709551616) : Calls Tryz.prog 18 #[.agg #[.int .i64 2, .int .u64 (v : Nat), .slice A0 N cm]] w fun e w' => e = .returned (.string (joinT [foundB, numT v])) ∧ Below w.heap.size w w' := by
  have B0 := (Below.refl w.heap.size w).alloc (Nat.le_refl _) (.cells #[.int .i64 2, .int .u64 (v : Nat), .slice A0 N cm] 46)
  have bx := Blk.new w 46 #[.int .i64 2, .int .u64 (v : Nat), .slice A0 N cm]
  have mc := fun i => bx.cell i
  have T1 := hide (fun w2 => text_any v w2 h1)
  rw [show strOfNums (form 10 v) = numT v from rfl] at T1
  have HSZ := hide (show (joinT [foundB, numT v]).size ≤ 7000 from resT_size 2 v [] (by simp))
  rw [show foundB = ⟨#[102, 111, 117, 110, 100]⟩ from rfl] at HSZ ⊢
  generalize numT v = tv at *
  have TX := hide (fun A c w2 (ho : w2.ownsRow (w.heap.size + 1) 9 1 (.slice A 2 c) 2 (strs [⟨#[102, 111, 117, 110, 100]⟩, tv])) => dtext_any (w.heap.size + 1) 2 c A _ w2 ho (by omega) (by have := HSZ.out; omega) (by omega))
  generalize joinT [⟨#[102, 111, 117, 110, 100]⟩, tv] = Q at *
  clear h1
  go_enter Tryz.func18, Tryz.ntmps18
  go_wp2_with fail
  refine (T1.out _).mono ?_
  rintro e w1 ⟨rfl, hb1⟩
  replace B0 := B0.trans (hb1.mono (Nat.le_of_lt bx.lt))
  replace bx := bx.below hb1 bx.lt
  clear hb1 mc
  have hsz : w.heap.size + 1 ≤ w1.heap.size := bx.lt
  have ho := own_lit w1 9 #[.string ⟨#[102, 111, 117, 110, 100]⟩, .string tv] 2 (w.heap.size + 1) hsz rfl (by omega)
  replace B0 := B0.alloc B0.size (.cells #[.string ⟨#[102, 111, 117, 110, 100]⟩, .string tv] 9)
  go_wp2_with fail
  refine (TX.out _ _ _ ho).mono ?_
  rintro e w2 ⟨rfl, hb1⟩
  go_wp2_with fail
  go_ret
  exact ⟨rfl, B0.trans (hb1.mono B0.size)⟩
set_option maxRecDepth 100000 in
set_option maxHeartbeats 4000000 in
theorem dres_4 (v : Nat) (A0 : Option Addr) (N cm : Nat) (w : World) (ps : List PairR) (hps : ∀ p ∈ ps, PairOk p) (hN : ps.length = N) (hl : N ≤ 50) (hr : Reads w w.heap.size 2 A0 N (ps.flatMap PairR.cells)) : Calls Tryz.prog 18 #[.agg #[.int .i64 4, .int .u64 (v : Nat), .slice A0 N cm]] w fun e w' => e = .returned (.string (joinT (listedB :: ps.map PairR.text))) ∧ Below w.heap.size w w' := by
  have B0 := (Below.refl w.heap.size w).alloc (Nat.le_refl _) (.cells #[.int .i64 4, .int .u64 (v : Nat), .slice A0 N cm] 46)
  have bx := Blk.new w 46 #[.int .i64 4, .int .u64 (v : Nat), .slice A0 N cm]
  have mc := fun i => bx.cell i
  obtain ⟨i0, hi0, hz0, hs0, hb0⟩ := info_parts infoStr
  have DE := hide (fun (p : PairR) (hp : p ∈ ps) w2 => dentry_any (p.1 : Int) (p.2 : Int) w2 ⟨by omega, by have := (hps p hp).1; omega⟩ ⟨by omega, by have := (hps p hp).2; omega⟩)
  have HSZ := hide (listed_size ps (by omega))
  have HR := hide hr
  have HN := hide hN
  have hQ : ∃ Q, Q = joinT (listedB :: ps.map PairR.text) := ⟨_, rfl⟩
  obtain ⟨Q, hQ⟩ := hQ
  rw [← hQ] at HSZ ⊢
  have HQ := hide hQ
  clear hr hN hps hQ
  replace B0 := B0.alloc B0.size (.cells #[.string ⟨#[108, 105, 115, 116, 101, 100]⟩] 9)
  have hsz0 : w.heap.size + 1 ≤ (w.alloc (.cells #[.int .i64 4, .int .u64 (v : Nat), .slice A0 N cm] 46)).heap.size := by rw [World.size_alloc]; exact Nat.le_refl _
  have ho := own_lit (w.alloc (.cells #[.int .i64 4, .int .u64 (v : Nat), .slice A0 N cm] 46)) 9 #[.string ⟨#[108, 105, 115, 116, 101, 100]⟩] 1 (w.heap.size + 1) hsz0 rfl (by omega)
  rw [World.size_alloc] at ho
  replace bx := bx.alloc (.cells #[.string ⟨#[108, 105, 115, 116, 101, 100]⟩] 9)
  replace mc := fun i => bx.cell i
  go_enter Tryz.func18, Tryz.ntmps18
  go_wp2_with fail
  generalize hgw : w.heap.size = g at *
  have HGW := hide hgw
  generalize (w.alloc (.cells #[.int .i64 4, .int .u64 (v : Nat), .slice A0 N cm] 46)).alloc (.cells #[.string ⟨#[108, 105, 115, 116, 101, 100]⟩] 9) = w4 at *
  replace ho : w4.ownsRow (g + 1) 9 1 (.slice (some ⟨g + 1, 0, none⟩) (1 + 0) 1) (1 + 0) (strs (listedB :: (ps.take 0).map PairR.text)) := ho
  clear hgw mc hsz0
  go_loopw [3, 25] (RsI g N #[.int .i64 4, .int .u64 (v : Nat), .slice A0 N cm] ps w) (fun _ v _ => N - (intOf v).toNat)
  case atStart => exact ⟨0, _, 1, rfl, by omega, rfl, ho, bx, B0⟩
  case round =>
    clear ho bx B0
    obtain ⟨j, A, c, rfl, hj, rfl, ho, bx, B0⟩ := hrel
    have hlt0 := bx.lt
    by_cases hlt : j < N
    · have HRB := (HR.out.below B0)
      obtain ⟨ad, p, hA, hab, hpj, z0, zz⟩ := HRB.recAt PairR.cells_len (by omega) hlt
      have z1 := zz 1 (by omega) (by omega)
      clear zz HRB
      subst hA
      have HPP := hide (pairs_succ hpj)
      have DEJ := hide (fun w2 => DE.out p (List.mem_of_getElem? hpj) w2)
      obtain ⟨pa, pb⟩ := p
      replace z0 : wr.cell? (ad.add (j * 2)) = some (.int .u64 (pa : Nat)) := z0
      replace z1 : wr.cell? ⟨(ad.add (j * 2)).block, (ad.add (j * 2)).off + 1, none⟩ = some (.int .u64 (pb : Nat)) := z1
      have DEK := hide (show ∀ w2, Calls Tryz.prog 46 #[.int .u64 (pa : Nat), .int .u64 (pb : Nat)] w2 fun e w' => e = .returned (.string (PairR.text (pa, pb))) ∧ Below w2.heap.size w2 w' from DEJ.out)
      clear DEJ hpj hab
      generalize PairR.text (pa, pb) = en at *
      have hltz : (j : Int) < (N : Int) := by omega
      have mb0 := Blk.new wr 102 #[.int .u64 (pa : Nat), .int .u64 (pb : Nat)]
      replace bx := bx.alloc (.cells #[.int .u64 (pa : Nat), .int .u64 (pb : Nat)] 102)
      replace ho := World.ownsRow.alloc ho (.cells #[.int .u64 (pa : Nat), .int .u64 (pb : Nat)] 102)
      replace B0 := B0.alloc (show g ≤ wr.heap.size by omega) (.cells #[.int .u64 (pa : Nat), .int .u64 (pb : Nat)] 102)
      have mm := fun j => mb0.cell j
      go_wp2_with fail
      refine (DEK.out _).mono ?_
      rintro e w7 ⟨rfl, hb1⟩
      replace B0 := B0.trans (hb1.mono (Nat.le_of_lt bx.lt))
      replace bx := bx.below hb1 bx.lt
      replace ho := own_below ho hb1
      clear hb1 hlt0 mm mb0 z0 z1
      have hlt0 := bx.lt
      have hr6 := Reads.new w7 (strs [en]) 9 1 1 rfl
      replace bx := bx.alloc (.cells #[.string en] 9)
      replace ho := World.ownsRow.alloc ho (.cells #[.string en] 9)
      have hsz : g + 1 ≤ w7.heap.size := hlt0
      replace B0 := B0.alloc (show g ≤ w7.heap.size by omega) (.cells #[.string en] 9)
      go_wp2_with (at_builtin; refine wpList_append_any _ rfl (.tmp 29) (.tmp 35) _ rfl (g + 1) 9 i0 _ 1 16 Tryz.underlying87 hi0 hz0 hs0 hb0 rfl (by omega) _ (1 + j) _ rfl ho (w7.heap.size + 1) (some ⟨w7.heap.size, 0, none⟩) 1 1 (strs [en]) rfl hr6 (strs_one _) (by unfold maxLen; omega) (by omega) (by simp only [World.size_alloc]; omega) ?_; intro v3 w8 ho3 hg3 hat3; replace bx := blk_appended bx ho hg3 (by omega); replace B0 := below_appended B0 ho hg3 (by omega) (by simp only [World.size_alloc]; omega); obtain ⟨A3, c3, rfl, _⟩ := own_reads ho3; rw [← strs_app] at ho3; clear ho hg3 hat3 hr6 hsz; have ho := ho3; clear ho3)
      go_roundw
      case rel => exact ⟨j + 1, A3, c3, by go_num, by omega, rfl, by rw [HPP.out]; exact ho, bx, B0⟩
      case measure => simp [intOf]; omega
    · obtain rfl : j = N := by omega
      have hmap : (ps.take j).map PairR.text = ps.map PairR.text := by rw [List.take_of_length_le (by rw [HN.out]; exact Nat.le_refl _)]
      rw [hmap] at ho
      have hq := HQ.out
      have hs9 := HSZ.out
      rw [hq] at hs9
      have TX := hide (dtext_any (g + 1) (1 + j) c A _ wr ho (by omega) (by omega) (by omega))
      rw [← hq] at TX
      clear hmap hq hs9 ho HQ
      go_wp2_with fail
      refine (TX.out).mono ?_
      rintro e w9 ⟨rfl, hb1⟩
      go_wp2_with fail
      go_ret
      exact ⟨rfl, by rw [HGW.out]; exact B0.trans (hb1.mono (by omega))⟩
theorem dres_any (k : Int) (v : Nat) (ps : List PairR) (A0 : Option Addr) (cm : Nat) (w : World) (h1 : v < 18446744073709551616) (hps : ∀ p ∈ ps, PairOk p) (hl : ps.length ≤ 50) (hr : Reads w w.heap.size 2 A0 ps.length (ps.flatMap PairR.cells)) :
    Calls Tryz.prog 18 #[.agg #[.int .i64 k, .int .u64 (v : Nat), .slice A0 ps.length cm]] w fun e w' => e = .returned (.string (resT k v ps)) ∧ Below w.heap.size w w' := by
  by_cases e4 : k = 4
  · subst e4
    exact dres_4 v A0 ps.length cm w ps hps rfl hl hr
  by_cases e2 : k = 2
  · subst e2
    exact dres_2 v A0 ps.length cm w h1
  have E : resT k v ps = nmd resL k := by unfold resT; rw [if_neg e4, if_neg e2]
  rw [E]
  by_cases e1 : k = 1
  · subst e1
    exact dres_1 v A0 ps.length cm w
  by_cases e3 : k = 3
  · subst e3
    exact dres_3 v A0 ps.length cm w
  rw [nmd_no (by show k < 1 ∨ ((4 : Nat) : Int) < k; omega)]
  exact dres_x k v A0 ps.length cm w (by simpa using e1) (by simpa using e2) (by simpa using e3) (by simpa using e4)
set_option maxRecDepth 100000 in
set_option maxHeartbeats 4000000 in
theorem rres_x (k : Int) (v : Nat) (A0 : Option Addr) (N cm : Nat) (w : World) (hk : I64 k) (q2 : (k == 2) = false) (q4 : (k == 4) = false) : Calls Tryz.prog 19 #[.agg #[.int .i64 k, .int .u64 (v : Nat), .slice A0 N cm]] w fun e w' => e = .returned (.string (nmd resL k)) ∧ Below w.heap.size w w' := by
  have B0 := ((Below.refl w.heap.size w).alloc (Nat.le_refl _) (.cells #[.int .i64 k, .int .u64 (v : Nat), .slice A0 N cm] 46)).alloc (by simp only [World.size_alloc]; omega) (.cells #[.string ⟨#[110, 111, 116, 104, 105, 110, 103]⟩, .string ⟨#[102, 111, 117, 110, 100]⟩, .string ⟨#[102, 117, 108, 108]⟩, .string ⟨#[108, 105, 115, 116, 101, 100]⟩] 9)
  have bx := (Blk.new w 46 #[.int .i64 k, .int .u64 (v : Nat), .slice A0 N cm]).alloc (.cells #[.string ⟨#[110, 111, 116, 104, 105, 110, 103]⟩, .string ⟨#[102, 111, 117, 110, 100]⟩, .string ⟨#[102, 117, 108, 108]⟩, .string ⟨#[108, 105, 115, 116, 101, 100]⟩] 9)
  have bl := Blk.new (w.alloc (.cells #[.int .i64 k, .int .u64 (v : Nat), .slice A0 N cm] 46)) 9 (strs resL).toArray
  simp only [World.size_alloc] at bl
  have NM := hide (rname_any (w.heap.size + 1) 4 resL k _ hk bl)
  rw [show (strs resL).toArray = #[.string ⟨#[110, 111, 116, 104, 105, 110, 103]⟩, .string ⟨#[102, 111, 117, 110, 100]⟩, .string ⟨#[102, 117, 108, 108]⟩, .string ⟨#[108, 105, 115, 116, 101, 100]⟩] from rfl, show resL.length = 4 from rfl] at NM
  clear bl
  have mc := fun i => bx.cell i
  generalize nmd resL k = Q at *
  clear hk
  by_cases h0 : 0 < N
  · have h0z : (0 : Int) < (N : Int) := by omega
    go_enter Tryz.func19, Tryz.ntmps19
    go_wp2_with fail
    refine (NM.out).mono ?_
    rintro e w1 ⟨rfl, rfl⟩
    go_wp2_with fail
    go_loopw [3, 4] (fun u3 u wr => u3 = .string Q ∧ u = .int .i64 0 ∧ wr = (w.alloc (.cells #[.int .i64 k, .int .u64 (v : Nat), .slice A0 N cm] 46)).alloc (.cells #[.string ⟨#[110, 111, 116, 104, 105, 110, 103]⟩, .string ⟨#[102, 111, 117, 110, 100]⟩, .string ⟨#[102, 117, 108, 108]⟩, .string ⟨#[108, 105, 115, 116, 101, 100]⟩] 9)) (fun _ _ _ => 0)
    case atStart => exact ⟨rfl, rfl, rfl⟩
    case round =>
      obtain ⟨rfl, rfl, rfl⟩ := hrel
      go_wp2_with fail
      go_ret
      exact ⟨rfl, B0⟩
  · obtain rfl : N = 0 := by omega
    go_enter Tryz.func19, Tryz.ntmps19
    go_wp2_with fail
    refine (NM.out).mono ?_
    rintro e w1 ⟨rfl, rfl⟩
    go_wp2_with fail
    go_loopw [3, 4] (fun u3 u wr => u3 = .string Q ∧ u = .int .i64 0 ∧ wr = (w.alloc (.cells #[.int .i64 k, .int .u64 (v : Nat), .slice A0 0 cm] 46)).alloc (.cells #[.string ⟨#[110, 111, 116, 104, 105, 110, 103]⟩, .string ⟨#[102, 111, 117, 110, 100]⟩, .string ⟨#[102, 117, 108, 108]⟩, .string ⟨#[108, 105, 115, 116, 101, 100]⟩] 9)) (fun _ _ _ => 0)
    case atStart => exact ⟨rfl, rfl, rfl⟩
    case round =>
      obtain ⟨rfl, rfl, rfl⟩ := hrel
      go_wp2_with fail
      go_ret
      exact ⟨rfl, B0⟩
set_option maxRecDepth 100000 in
set_option maxHeartbeats 4000000 in
theorem rres_2 (v : Nat) (A0 : Option Addr) (N cm : Nat) (w : World) (h1 : v < 18446744073709551616) : Calls Tryz.prog 19 #[.agg #[.int .i64 2, .int .u64 (v : Nat), .slice A0 N cm]] w fun e w' => e = .returned (.string (joinT [foundB, numT v])) ∧ Below w.heap.size w w' := by
  have B0 := ((Below.refl w.heap.size w).alloc (Nat.le_refl _) (.cells #[.int .i64 2, .int .u64 (v : Nat), .slice A0 N cm] 46)).alloc (by simp only [World.size_alloc]; omega) (.cells #[.string ⟨#[110, 111, 116, 104, 105, 110, 103]⟩, .string ⟨#[102, 111, 117, 110, 100]⟩, .string ⟨#[102, 117, 108, 108]⟩, .string ⟨#[108, 105, 115, 116, 101, 100]⟩] 9)
  have bx := (Blk.new w 46 #[.int .i64 2, .int .u64 (v : Nat), .slice A0 N cm]).alloc (.cells #[.string ⟨#[110, 111, 116, 104, 105, 110, 103]⟩, .string ⟨#[102, 111, 117, 110, 100]⟩, .string ⟨#[102, 117, 108, 108]⟩, .string ⟨#[108, 105, 115, 116, 101, 100]⟩] 9)
  have bl := Blk.new (w.alloc (.cells #[.int .i64 2, .int .u64 (v : Nat), .slice A0 N cm] 46)) 9 (strs resL).toArray
  simp only [World.size_alloc] at bl
  have NM := hide (rname_any (w.heap.size + 1) 4 resL 2 _ ⟨by omega, by omega⟩ bl)
  rw [show (strs resL).toArray = #[.string ⟨#[110, 111, 116, 104, 105, 110, 103]⟩, .string ⟨#[102, 111, 117, 110, 100]⟩, .string ⟨#[102, 117, 108, 108]⟩, .string ⟨#[108, 105, 115, 116, 101, 100]⟩] from rfl, show resL.length = 4 from rfl] at NM
  clear bl
  have mc := fun i => bx.cell i
  have T1 := hide (fun w2 => number_any v w2 h1)
  have s1 := numT_size v
  rw [show nmd resL 2 = ⟨#[102, 111, 117, 110, 100]⟩ from rfl] at NM
  rw [show joinT [foundB, numT v] = foundB ++ sp1 ++ numT v from by rw [joinT_fold]; rfl, show foundB = ⟨#[102, 111, 117, 110, 100]⟩ from rfl]
  generalize numT v = tv at *
  have HBX := hide bx
  clear h1
  go_enter Tryz.func19, Tryz.ntmps19
  go_wp2_with fail
  refine (NM.out).mono ?_
  rintro e w1 ⟨rfl, rfl⟩
  go_wp2_with fail
  refine (T1.out _).mono ?_
  rintro e w1 ⟨rfl, hb1⟩
  replace B0 := B0.trans (hb1.mono B0.size)
  replace bx := HBX.out.below hb1 HBX.out.lt
  clear hb1 mc HBX
  have mc := fun i => bx.cell i
  have h0 := Nat.lt_or_ge 0 N
  go_wp2_with fail
  go_loopw [3, 4] (fun u3 u wr => u3 = .string (⟨#[102, 111, 117, 110, 100]⟩ ++ ⟨#[32]⟩ ++ tv) ∧ u = .int .i64 0 ∧ wr = w1) (fun _ _ _ => 0)
  case atStart => exact ⟨rfl, rfl, rfl⟩
  case round =>
    obtain ⟨rfl, rfl, rfl⟩ := hrel
    rcases h0 with h0 | h0
    · have h0z : (0 : Int) < (N : Int) := by omega
      go_wp2_with fail
      go_ret
      exact ⟨rfl, B0⟩
    · have h0z : ¬ (0 : Int) < (N : Int) := by omega
      go_wp2_with fail
      go_ret
      exact ⟨rfl, B0⟩
set_option maxRecDepth 100000 in
set_option maxHeartbeats 4000000 in
theorem rres_4 (v : Nat) (A0 : Option Addr) (N cm : Nat) (w : World) (ps : List PairR) (hps : ∀ p ∈ ps, PairOk p) (hN : ps.length = N) (hl : N ≤ 50) (hr : Reads w w.heap.size 2 A0 N (ps.flatMap PairR.cells)) : Calls Tryz.prog 19 #[.agg #[.int .i64 4, .int .u64 (v : Nat), .slice A0 N cm]] w fun e w' => e = .returned (.string (joinT (listedB :: ps.map PairR.text))) ∧ Below w.heap.size w w' := by
  have B0 := ((Below.refl w.heap.size w).alloc (Nat.le_refl _) (.cells #[.int .i64 4, .int .u64 (v : Nat), .slice A0 N cm] 46)).alloc (by simp only [World.size_alloc]; omega) (.cells #[.string ⟨#[110, 111, 116, 104, 105, 110, 103]⟩, .string ⟨#[102, 111, 117, 110, 100]⟩, .string ⟨#[102, 117, 108, 108]⟩, .string ⟨#[108, 105, 115, 116, 101, 100]⟩] 9)
  have bx := (Blk.new w 46 #[.int .i64 4, .int .u64 (v : Nat), .slice A0 N cm]).alloc (.cells #[.string ⟨#[110, 111, 116, 104, 105, 110, 103]⟩, .string ⟨#[102, 111, 117, 110, 100]⟩, .string ⟨#[102, 117, 108, 108]⟩, .string ⟨#[108, 105, 115, 116, 101, 100]⟩] 9)
  have bl := Blk.new (w.alloc (.cells #[.int .i64 4, .int .u64 (v : Nat), .slice A0 N cm] 46)) 9 (strs resL).toArray
  simp only [World.size_alloc] at bl
  have NM := hide (rname_any (w.heap.size + 1) 4 resL 4 _ ⟨by omega, by omega⟩ bl)
  rw [show (strs resL).toArray = #[.string ⟨#[110, 111, 116, 104, 105, 110, 103]⟩, .string ⟨#[102, 111, 117, 110, 100]⟩, .string ⟨#[102, 117, 108, 108]⟩, .string ⟨#[108, 105, 115, 116, 101, 100]⟩] from rfl, show resL.length = 4 from rfl] at NM
  clear bl
  have mc := fun i => bx.cell i
  rw [show nmd resL 4 = ⟨#[108, 105, 115, 116, 101, 100]⟩ from rfl] at NM
  have NB := hide (fun (p : PairR) (hp : p ∈ ps) => And.intro (fun w2 => numberi_any (p.1 : Int) w2 ⟨by omega, by have := (hps p hp).1; omega⟩) (fun w2 => numberi_any (p.2 : Int) w2 ⟨by omega, by have := (hps p hp).2; omega⟩))
  have HLZ := hide (fun j : Nat => listed_size (ps.take j) (by rw [List.length_take]; omega))
  have HR := hide hr
  have HN := hide hN
  have hQ : ∃ Q, Q = joinT (listedB :: ps.map PairR.text) := ⟨_, rfl⟩
  obtain ⟨Q, hQ⟩ := hQ
  rw [← hQ]
  have HQ := hide hQ
  clear hr hN hps hQ
  go_enter Tryz.func19, Tryz.ntmps19
  go_wp2_with fail
  refine (NM.out).mono ?_
  rintro e w1 ⟨rfl, rfl⟩
  generalize hgw : w.heap.size = g at *
  have HGW := hide hgw
  generalize (w.alloc (.cells #[.int .i64 4, .int .u64 (v : Nat), .slice A0 N cm] 46)).alloc (.cells #[.string ⟨#[110, 111, 116, 104, 105, 110, 103]⟩, .string ⟨#[102, 111, 117, 110, 100]⟩, .string ⟨#[102, 117, 108, 108]⟩, .string ⟨#[108, 105, 115, 116, 101, 100]⟩] 9) = w4 at *
  clear hgw
  go_wp2_with fail
  have E0 := hide (show (⟨#[108, 105, 115, 116, 101, 100]⟩ : ByteArray) = joinT (listedB :: (ps.take 0).map PairR.text) by rw [List.take_zero, List.map_nil, joinT_one]; rfl)
  clear mc
  go_loopw [3, 4] (RRsI g N #[.int .i64 4, .int .u64 (v : Nat), .slice A0 N cm] ps w) (fun _ v _ => N - (intOf v).toNat)
  case atStart => exact ⟨0, rfl, by omega, congrArg Value.string E0.out, bx, B0⟩
  case round =>
    clear bx B0
    obtain ⟨j, rfl, hj, rfl, bx, B0⟩ := hrel
    have mc := fun i => bx.cell i
    have hac := HLZ.out j
    by_cases hlt : j < N
    · have HRB := (HR.out.below B0)
      obtain ⟨ad, p, hA, hab, hpj, z0, zz⟩ := HRB.recAt PairR.cells_len (by omega) hlt
      have z1 := zz 1 (by omega) (by omega)
      clear zz HRB
      subst hA
      have HPP := hide (show joinT (listedB :: (ps.take (j + 1)).map PairR.text) = joinT (listedB :: (ps.take j).map PairR.text) ++ ⟨#[32]⟩ ++ numI (p.1 : Int) ++ ⟨#[61]⟩ ++ numI (p.2 : Int) by
        rw [pairs_succ hpj, ← List.cons_append, joinT_app1 (by simp)]
        unfold PairR.text entT
        simp only [ba_assoc]
        rfl)
      have N1 := hide (NB.out p (List.mem_of_getElem? hpj)).1
      have N2 := hide (NB.out p (List.mem_of_getElem? hpj)).2
      obtain ⟨pa, pb⟩ := p
      replace z0 : wr.cell? (ad.add (j * 2)) = some (.int .u64 (pa : Nat)) := z0
      replace z1 : wr.cell? ⟨(ad.add (j * 2)).block, (ad.add (j * 2)).off + 1, none⟩ = some (.int .u64 (pb : Nat)) := z1
      dsimp only at HPP N1 N2
      have s5 := numI_size (pa : Int)
      have s6 := numI_size (pb : Int)
      clear hpj hab
      generalize numI (pa : Int) = na at *
      generalize numI (pb : Int) = nb at *
      generalize joinT (listedB :: (ps.take j).map PairR.text) = acc at *
      have hltz : (j : Int) < (N : Int) := by omega
      go_wp2_with fail
      refine wp_region_heldZ [] (fun w' => w'.cell? ⟨g, 2, none⟩ = some (.slice (some ad) N cm) ∧ w'.cell? (ad.add (j * 2)) = some (.int .u64 (pa : Nat)) ∧ w'.cell? ⟨(ad.add (j * 2)).block, (ad.add (j * 2)).off + 1, none⟩ = some (.int .u64 (pb : Nat))) (by kernel_rfl) (by exact ⟨bx.cell 2, z0, z1⟩) (fun hHeld => ?_)
      replace bx := bx.drew
      replace B0 := B0.drew
      replace z0 := hHeld.2.1
      replace z1 := hHeld.2.2
      generalize wr.drew = wd at *
      clear mc
      refine' wpAnyZ_takeA (i := 0) (v := ?_) (opAt rfl) (by kernel_rfl) (by kernel_rfl) (by kernel_rfl) (by kernel_rfl) (fun _ _ _ h => h) (by assumption) (by rfl) (fun w hSw => ?_) ?_
      rotate_left
      · (try dsimp only at hSw); go_simp; (try with_reducible rfl)
      try simp only [Act.put, List.setIfInBounds_toArray, List.set_cons_zero, List.set_cons_succ]
      refine' wpAnyZ_takeA (i := 1) (v := ?_) (opAt rfl) (by kernel_rfl) (by kernel_rfl) (by kernel_rfl) (by kernel_rfl) (fun _ _ _ h => h) (by assumption) (by rfl) (fun w hSw => ?_) ?_
      rotate_left
      · (try dsimp only at hSw); go_simp; (try rw [if_neg (by omega)]); (try with_reducible rfl)
      try simp only [Act.put, List.setIfInBounds_toArray, List.set_cons_zero, List.set_cons_succ]
      refine' wpAnyZ_takeA (i := 2) (v := ?_) (opAt rfl) (by kernel_rfl) (by kernel_rfl) (by kernel_rfl) (by kernel_rfl) (fun _ _ _ h => h) (by assumption) (by rfl) (fun w hSw => ?_) ?_
      rotate_left
      · (try dsimp only at hSw); go_simp; (try with_reducible rfl)
      try simp only [Act.put, List.setIfInBounds_toArray, List.set_cons_zero, List.set_cons_succ]
      refine' wpAnyZ_takeA (i := 3) (v := ?_) (opAt rfl) (by kernel_rfl) (by kernel_rfl) (by kernel_rfl) (by kernel_rfl) (fun _ _ _ h => h) (by assumption) (by rfl) (fun w hSw => ?_) ?_
      rotate_left
      · (try dsimp only at hSw); go_simp; (try with_reducible rfl)
      try simp only [Act.put, List.setIfInBounds_toArray, List.set_cons_zero, List.set_cons_succ]
      refine' wpAnyZ_takeA (i := 4) (v := ?_) (opAt rfl) (by kernel_rfl) (by kernel_rfl) (by kernel_rfl) (by kernel_rfl) (fun _ _ _ h => h) (by assumption) (by rfl) (fun w hSw => ?_) ?_
      rotate_left
      · (try dsimp only at hSw); go_simp; (try with_reducible rfl)
      try simp only [Act.put, List.setIfInBounds_toArray, List.set_cons_zero, List.set_cons_succ]
      refine' wpAnyZ_takeA (i := 5) (v := ?_) (opAt rfl) (by kernel_rfl) (by kernel_rfl) (by kernel_rfl) (by kernel_rfl) (fun _ _ _ h => h) (by assumption) (by rfl) (fun w hSw => ?_) ?_
      rotate_left
      · (try dsimp only at hSw); go_simp; (try with_reducible rfl)
      try simp only [Act.put, List.setIfInBounds_toArray, List.set_cons_zero, List.set_cons_succ]
      refine' wpAnyZ_takeA (i := 6) (v := ?_) (opAt rfl) (by kernel_rfl) (by kernel_rfl) (by kernel_rfl) (by kernel_rfl) (fun _ _ _ h => h) (by assumption) (by rfl) (fun w hSw => ?_) ?_
      rotate_left
      · (try dsimp only at hSw); go_simp; (try with_reducible rfl)
      try simp only [Act.put, List.setIfInBounds_toArray, List.set_cons_zero, List.set_cons_succ]
      refine' wpAnyZ_takeA (i := 7) (v := ?_) (opAt rfl) (by kernel_rfl) (by kernel_rfl) (by kernel_rfl) (by kernel_rfl) (fun _ _ _ h => h) (by assumption) (by rfl) (fun w hSw => ?_) ?_
      rotate_left
      · (try dsimp only at hSw); go_simp; (try with_reducible rfl)
      try simp only [Act.put, List.setIfInBounds_toArray, List.set_cons_zero, List.set_cons_succ]
      refine' wpAnyZ_takeA (i := 11) (v := ?_) (opAt rfl) (by kernel_rfl) (by kernel_rfl) (by kernel_rfl) (by kernel_rfl) (fun _ _ _ h => h) (by assumption) (by rfl) (fun w hSw => ?_) ?_
      rotate_left
      · (try dsimp only at hSw); go_simp; (try with_reducible rfl)
      try simp only [Act.put, List.setIfInBounds_toArray, List.set_cons_zero, List.set_cons_succ]
      refine' wpAnyZ_takeA (i := 12) (v := ?_) (opAt rfl) (by kernel_rfl) (by kernel_rfl) (by kernel_rfl) (by kernel_rfl) (fun _ _ _ h => h) (by assumption) (by rfl) (fun w hSw => ?_) ?_
      rotate_left
      · (try dsimp only at hSw); go_simp; (try with_reducible rfl)
      try simp only [Act.put, List.setIfInBounds_toArray, List.set_cons_zero, List.set_cons_succ]
      refine' wpAnyZ_takeA (i := 13) (v := ?_) (opAt rfl) (by kernel_rfl) (by kernel_rfl) (by kernel_rfl) (by kernel_rfl) (fun _ _ _ h => h) (by assumption) (by rfl) (fun w hSw => ?_) ?_
      rotate_left
      · (try dsimp only at hSw); go_simp; (try with_reducible rfl)
      try simp only [Act.put, List.setIfInBounds_toArray, List.set_cons_zero, List.set_cons_succ]
      refine' wpAnyZ_takeA (i := 14) (v := ?_) (opAt rfl) (by kernel_rfl) (by kernel_rfl) (by kernel_rfl) (by kernel_rfl) (fun _ _ _ h => h) (by assumption) (by rfl) (fun w hSw => ?_) ?_
      rotate_left
      · (try dsimp only at hSw); go_simp; (try with_reducible rfl)
      try simp only [Act.put, List.setIfInBounds_toArray, List.set_cons_zero, List.set_cons_succ]
      refine' wpAnyZ_takeA (i := 15) (v := ?_) (opAt rfl) (by kernel_rfl) (by kernel_rfl) (by kernel_rfl) (by kernel_rfl) (fun _ _ _ h => h) (by assumption) (by rfl) (fun w hSw => ?_) ?_
      rotate_left
      · (try dsimp only at hSw); go_simp; (try with_reducible rfl)
      try simp only [Act.put, List.setIfInBounds_toArray, List.set_cons_zero, List.set_cons_succ]
      refine' wpAnyZ_takeA (i := 16) (v := ?_) (opAt rfl) (by kernel_rfl) (by kernel_rfl) (by kernel_rfl) (by kernel_rfl) (fun _ _ _ h => h) (by assumption) (by rfl) (fun w hSw => ?_) ?_
      rotate_left
      · (try dsimp only at hSw); go_simp; (try with_reducible rfl)
      try simp only [Act.put, List.setIfInBounds_toArray, List.set_cons_zero, List.set_cons_succ]
      refine wpAnyZ_ready (rs := [8]) (by kernel_rfl) (by simp) ?_
      refine AllReadyZ.cons (opAt rfl) (fun K hK => ?_) ?_
      · skip
        go_simp
        refine (N1.out _).mono ?_
        rintro e w7 ⟨rfl, hb1⟩
        replace B0 := B0.trans (hb1.mono (Nat.le_of_lt bx.lt))
        replace bx := bx.below hb1 bx.lt
        replace z0 := keepCell hb1 z0
        replace z1 := keepCell hb1 z1
        clear hb1
        try go_wp2_with fail
        refine hK.out _ _ (by exact ⟨bx.cell 2, z0, z1⟩) (fun hHeld => ?_)
        clear hK K
        try simp only [Act.put, List.setIfInBounds_toArray, List.set_cons_zero, List.set_cons_succ]
        refine' wpAnyZ_takeA (i := 9) (v := ?_) (opAt rfl) (by kernel_rfl) (by kernel_rfl) (by kernel_rfl) (by kernel_rfl) (fun _ _ _ h => h) (by assumption) (by rfl) (fun w hSw => ?_) ?_
        rotate_left
        · (try dsimp only at hSw); go_simp; (try rw [if_neg (by omega)]); (try with_reducible rfl)
        try simp only [Act.put, List.setIfInBounds_toArray, List.set_cons_zero, List.set_cons_succ]
        refine' wpAnyZ_takeA (i := 10) (v := ?_) (opAt rfl) (by kernel_rfl) (by kernel_rfl) (by kernel_rfl) (by kernel_rfl) (fun _ _ _ h => h) (by assumption) (by rfl) (fun w hSw => ?_) ?_
        rotate_left
        · (try dsimp only at hSw); go_simp; (try rw [if_neg (by omega)]); (try with_reducible rfl)
        try simp only [Act.put, List.setIfInBounds_toArray, List.set_cons_zero, List.set_cons_succ]
        refine wpAnyZ_ready (rs := [17]) (by kernel_rfl) (by simp) ?_
        refine AllReadyZ.cons (opAt rfl) (fun K hK => ?_) ?_
        · skip
          go_simp
          refine (N2.out _).mono ?_
          rintro e w8 ⟨rfl, hb1⟩
          replace B0 := B0.trans (hb1.mono (Nat.le_of_lt bx.lt))
          replace bx := bx.below hb1 bx.lt
          replace z0 := keepCell hb1 z0
          replace z1 := keepCell hb1 z1
          clear hb1
          try go_wp2_with fail
          refine hK.out _ _ (by exact ⟨bx.cell 2, z0, z1⟩) (fun hHeld => ?_)
          clear hK K
          try simp only [Act.put, List.setIfInBounds_toArray, List.set_cons_zero, List.set_cons_succ]
          refine' wpAnyZ_takeA (i := 18) (v := ?_) (opAt rfl) (by kernel_rfl) (by kernel_rfl) (by kernel_rfl) (by kernel_rfl) (fun _ _ _ h => h) (by assumption) (by rfl) (fun w hSw => ?_) ?_
          rotate_left
          · (try dsimp only at hSw); go_simp; (try rw [if_neg (by omega)]); (try with_reducible rfl)
          try simp only [Act.put, List.setIfInBounds_toArray, List.set_cons_zero, List.set_cons_succ]
          refine' wpAnyZ_takeA (i := 19) (v := ?_) (opAt rfl) (by kernel_rfl) (by kernel_rfl) (by kernel_rfl) (by kernel_rfl) (fun _ _ _ h => h) (by assumption) (by rfl) (fun w hSw => ?_) ?_
          rotate_left
          · (try dsimp only at hSw); go_simp; (try with_reducible rfl)
          try simp only [Act.put, List.setIfInBounds_toArray, List.set_cons_zero, List.set_cons_succ]
          refine wpAnyZ_done (by kernel_rfl) ?_ _
          go_wp2_with fail
          go_roundw
          case rel => exact ⟨j + 1, by go_num, by omega, by rw [HPP.out], bx, B0⟩
          case measure => simp [intOf]; omega
        exact AllReadyZ.nil
      exact AllReadyZ.nil
    · obtain rfl : j = N := by omega
      have hE : Q = joinT (listedB :: (ps.take j).map PairR.text) := by rw [HQ.out, List.take_of_length_le (by rw [HN.out]; exact Nat.le_refl _)]
      have HE := hide hE
      clear hE
      generalize joinT (listedB :: (ps.take j).map PairR.text) = acc at *
      go_wp2_with fail
      go_ret
      exact ⟨by rw [HE.out]; rfl, by rw [HGW.out]; exact B0⟩
theorem rres_any (k : Int) (v : Nat) (ps : List PairR) (A0 : Option Addr) (cm : Nat) (w : World) (hk : I64 k) (h1 : v < 18446744073709551616) (hps : ∀ p ∈ ps, PairOk p) (hl : ps.length ≤ 50) (hr : Reads w w.heap.size 2 A0 ps.length (ps.flatMap PairR.cells)) :
    Calls Tryz.prog 19 #[.agg #[.int .i64 k, .int .u64 (v : Nat), .slice A0 ps.length cm]] w fun e w' => e = .returned (.string (resT k v ps)) ∧ Below w.heap.size w w' := by
  by_cases e4 : k = 4
  · subst e4
    exact rres_4 v A0 ps.length cm w ps hps rfl hl hr
  by_cases e2 : k = 2
  · subst e2
    exact rres_2 v A0 ps.length cm w h1
  have E : resT k v ps = nmd resL k := by unfold resT; rw [if_neg e4, if_neg e2]
  rw [E]
  exact rres_x k v A0 ps.length cm w hk (by simpa using e2) (by simpa using e4)
end Go.Proofs.YtlnckjemfabckaaGreatDoor

