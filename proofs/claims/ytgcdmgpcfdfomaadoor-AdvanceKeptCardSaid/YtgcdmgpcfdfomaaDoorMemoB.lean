/-
  gleaningref09: Do, New; memory.New.
-/
import Derived.Test.YtgcdmgpcfdfomaaDoorMemo
namespace Go.Proofs.YtgcdmgpcfdfomaaDoor
open Go.RowKit
attribute [local go_sem] past_cell past_cell_add

/-- Words that the call has made, as a slice. -/
def RefOk (w : World) (gr : Nat) (ws : List Int) : Prop := Blk w gr 29 (ints .u64 ws).toArray
section
variable {w w' : World} {gr : Nat} {ws : List Int}
theorem RefOk.at_ (h : RefOk w gr ws) {j : Nat} (hj : j < ws.length) : w.cell? ⟨gr, j, none⟩ = some (.int .u64 (ws.getD j 0)) := by
  rw [Blk.cell h j, List.getElem?_toArray, ints_get ws j hj, List.getD_eq_getElem?_getD, List.getElem?_eq_getElem hj]
  rfl
theorem RefOk.grown {row : Option Nat} (h : RefOk w gr ws) (hg : w.grownBy w' row) (h1 : some gr ≠ row) : RefOk w' gr ws := Blk.grown h hg h1
theorem RefOk.below (h : RefOk w gr ws) (hb : Below w.heap.size w w') : RefOk w' gr ws := h.grown (grown_below hb none) (by simp)
theorem RefOk.set_ (h : RefOk w gr ws) (j : Nat) (x : Int) : RefOk (w.setCell ⟨gr, j, none⟩ (.int .u64 x)) gr (ws.set j x) := by
  have := Blk.set_ h j (.int .u64 x)
  have e : (ints .u64 (ws.set j x)).toArray = (ints .u64 ws).toArray.setIfInBounds j (.int .u64 x) := by
    unfold ints
    rw [List.map_set, List.setIfInBounds_toArray]
  unfold RefOk
  rw [e]
  exact this
end

set_option maxHeartbeats 1000000 in
theorem rdo_out (gr c : Nat) (k a o n : Int) (N : Nat) (w : World) (h : a < 0 ∨ (0 ≤ a ∧ (N : Int) ≤ a) ∨ (0 ≤ a ∧ a < N ∧ k < 1) ∨ (0 ≤ a ∧ a < N ∧ 1 ≤ k ∧ 3 < k)) :
    Calls Tryd.prog 8 #[.slice (some ⟨gr, 0, none⟩) N c, .agg #[.int .i64 k, .int .i64 a, .int .u64 o, .int .u64 n]] w fun e w' => e = .returned (.int .u64 0) ∧ Below w.heap.size w w' := by
  have bx := Blk.new w 34 #[.int .i64 k, .int .i64 a, .int .u64 o, .int .u64 n]
  have B0 := (Below.refl w.heap.size w).alloc (Nat.le_refl _) (.cells #[.int .i64 k, .int .i64 a, .int .u64 o, .int .u64 n] 34)
  clear bx
  rcases h with h | ⟨h1, h2⟩ | ⟨h1, h2, h3⟩ | ⟨h1, h2, h3, h4⟩
  all_goals
    go_enter Tryd.func8, Tryd.ntmps8
    go_wp2_with fail
    go_ret
    exact ⟨rfl, B0⟩
set_option maxHeartbeats 1000000 in
theorem rdo_1 (gr c j : Nat) (o n : Int) (ws : List Int) (w : World) (hm : RefOk w gr ws) (hj : j < ws.length)  :
    Calls Tryd.prog 8 #[.slice (some ⟨gr, 0, none⟩) ws.length c, .agg #[.int .i64 1, .int .i64 (j : Int), .int .u64 o, .int .u64 n]] w fun e w' => e = .returned (.int .u64 (ws.getD j 0)) ∧ RefOk w' gr (ws) ∧ w.grownBy w' (some gr) := by
  skip
  have HM := hide hm
  have HJ := hide hj
  have hjz : (j : Int) < (ws.length : Int) := by omega
  have lgr : gr < w.heap.size := Blk.lt hm
  have z := hm.at_ hj
  have zf := Blk.frozen hm j
  have b0 := (Below.refl w.heap.size w).alloc (Nat.le_refl _) (.cells #[.int .i64 1, .int .i64 (j : Int), .int .u64 o, .int .u64 n] 34)
  have HB := hide b0
  clear hm hj b0
  generalize hx : ws.getD j 0 = x at *
  have HX := hide hx
  clear hx
  go_enter Tryd.func8, Tryd.ntmps8
  go_wp2_with fail
  go_ret
  exact ⟨rfl, HM.out.below HB.out, grown_below HB.out _⟩
set_option maxHeartbeats 1000000 in
theorem rdo_3n (gr c j : Nat) (o n : Int) (ws : List Int) (w : World) (hm : RefOk w gr ws) (hj : j < ws.length) (hne : ws.getD j 0 ≠ o) :
    Calls Tryd.prog 8 #[.slice (some ⟨gr, 0, none⟩) ws.length c, .agg #[.int .i64 3, .int .i64 (j : Int), .int .u64 o, .int .u64 n]] w fun e w' => e = .returned (.int .u64 (0)) ∧ RefOk w' gr (ws) ∧ w.grownBy w' (some gr) := by
  have q : (ws.getD j 0 == o) = false := by simpa using hne
  have q2 : (ws.getD j 0 != o) = true := by rw [bne, q]; rfl
  clear hne
  have HM := hide hm
  have HJ := hide hj
  have hjz : (j : Int) < (ws.length : Int) := by omega
  have lgr : gr < w.heap.size := Blk.lt hm
  have z := hm.at_ hj
  have zf := Blk.frozen hm j
  have b0 := (Below.refl w.heap.size w).alloc (Nat.le_refl _) (.cells #[.int .i64 3, .int .i64 (j : Int), .int .u64 o, .int .u64 n] 34)
  have HB := hide b0
  clear hm hj b0
  generalize hx : ws.getD j 0 = x at *
  have HX := hide hx
  clear hx
  go_enter Tryd.func8, Tryd.ntmps8
  go_wp2_with fail
  go_ret
  exact ⟨rfl, HM.out.below HB.out, grown_below HB.out _⟩
set_option maxHeartbeats 1000000 in
theorem rdo_2 (gr c j : Nat) (o n : Int) (ws : List Int) (w : World) (hm : RefOk w gr ws) (hj : j < ws.length)  :
    Calls Tryd.prog 8 #[.slice (some ⟨gr, 0, none⟩) ws.length c, .agg #[.int .i64 2, .int .i64 (j : Int), .int .u64 o, .int .u64 n]] w fun e w' => e = .returned (.int .u64 (0)) ∧ RefOk w' gr (ws.set j n) ∧ w.grownBy w' (some gr) := by
  skip
  have HM := hide hm
  have HJ := hide hj
  have hjz : (j : Int) < (ws.length : Int) := by omega
  have lgr : gr < w.heap.size := Blk.lt hm
  have z := hm.at_ hj
  have zf := Blk.frozen hm j
  have b0 := (Below.refl w.heap.size w).alloc (Nat.le_refl _) (.cells #[.int .i64 2, .int .i64 (j : Int), .int .u64 o, .int .u64 n] 34)
  have HB := hide b0
  clear hm hj b0
  generalize hx : ws.getD j 0 = x at *
  have HX := hide hx
  clear hx
  go_enter Tryd.func8, Tryd.ntmps8
  go_wp2_with fail
  go_ret
  have H1 := HM.out.set_ j n
  exact ⟨rfl, H1.below ((Below.refl _ _).alloc (Nat.le_refl _) _), grown_trans (grown_set w gr j (.int .u64 n)) (grown_below ((Below.refl _ _).alloc (Nat.le_refl _) _) _)⟩
set_option maxHeartbeats 1000000 in
theorem rdo_3y (gr c j : Nat) (o n : Int) (ws : List Int) (w : World) (hm : RefOk w gr ws) (hj : j < ws.length) (heq : ws.getD j 0 = o) :
    Calls Tryd.prog 8 #[.slice (some ⟨gr, 0, none⟩) ws.length c, .agg #[.int .i64 3, .int .i64 (j : Int), .int .u64 o, .int .u64 n]] w fun e w' => e = .returned (.int .u64 (1)) ∧ RefOk w' gr (ws.set j n) ∧ w.grownBy w' (some gr) := by
  have q : (ws.getD j 0 == o) = true := by simpa using heq
  have q2 : (ws.getD j 0 != o) = false := by rw [bne, q]; rfl
  clear heq
  have HM := hide hm
  have HJ := hide hj
  have hjz : (j : Int) < (ws.length : Int) := by omega
  have lgr : gr < w.heap.size := Blk.lt hm
  have z := hm.at_ hj
  have zf := Blk.frozen hm j
  have b0 := (Below.refl w.heap.size w).alloc (Nat.le_refl _) (.cells #[.int .i64 3, .int .i64 (j : Int), .int .u64 o, .int .u64 n] 34)
  have HB := hide b0
  clear hm hj b0
  generalize hx : ws.getD j 0 = x at *
  have HX := hide hx
  clear hx
  go_enter Tryd.func8, Tryd.ntmps8
  go_wp2_with fail
  go_ret
  have H1 := HM.out.set_ j n
  exact ⟨rfl, H1.below ((Below.refl _ _).alloc (Nat.le_refl _) _), grown_trans (grown_set w gr j (.int .u64 n)) (grown_below ((Below.refl _ _).alloc (Nat.le_refl _) _) _)⟩

theorem rdo_any (gr c : Nat) (k a o n : Int) (ws : List Int) (w : World) (hm : RefOk w gr ws) :
    Calls Tryd.prog 8 #[.slice (some ⟨gr, 0, none⟩) ws.length c, .agg #[.int .i64 k, .int .i64 a, .int .u64 o, .int .u64 n]] w fun e w' => e = .returned (.int .u64 (mDo ws k a o n).1) ∧ RefOk w' gr (mDo ws k a o n).2 ∧ w.grownBy w' (some gr) := by
  have out : ∀ e0, mDo ws k a o n = e0 → e0 = (0, ws) → (a < 0 ∨ (0 ≤ a ∧ (ws.length : Int) ≤ a) ∨ (0 ≤ a ∧ a < ws.length ∧ k < 1) ∨ (0 ≤ a ∧ a < ws.length ∧ 1 ≤ k ∧ 3 < k)) →
      Calls Tryd.prog 8 #[.slice (some ⟨gr, 0, none⟩) ws.length c, .agg #[.int .i64 k, .int .i64 a, .int .u64 o, .int .u64 n]] w fun e w' => e = .returned (.int .u64 (mDo ws k a o n).1) ∧ RefOk w' gr (mDo ws k a o n).2 ∧ w.grownBy w' (some gr) := by
    intro e0 h1 h2 h
    rw [h1, h2]
    exact (rdo_out gr c k a o n ws.length w h).mono fun e w' ⟨he, hb⟩ => ⟨he, hm.below hb, grown_below hb _⟩
  by_cases hin : 0 ≤ a ∧ a < ws.length
  · obtain ⟨j, rfl⟩ := Int.eq_ofNat_of_zero_le hin.1
    have hj : j < ws.length := by omega
    by_cases h1 : k = 1
    · subst h1
      unfold mDo
      rw [wGet_at hj]
      exact rdo_1 gr c j o n ws w hm hj
    by_cases h2 : k = 2
    · subst h2
      unfold mDo
      rw [wPut_at hj]
      exact rdo_2 gr c j o n ws w hm hj
    by_cases h3 : k = 3
    · subst h3
      unfold mDo
      rw [wGet_at hj, wPut_at hj]
      by_cases he : ws.getD j 0 = o
      · rw [if_neg (by omega), if_neg (by omega), if_pos ⟨rfl, by omega, by omega, he⟩]
        exact rdo_3y gr c j o n ws w hm hj he
      · rw [if_neg (by omega), if_neg (by omega), if_neg (fun h => he h.2.2.2)]
        exact rdo_3n gr c j o n ws w hm hj he
    · refine out _ rfl ?_ ?_
      · unfold mDo
        rw [if_neg h1, if_neg h2, if_neg (fun h => h3 h.1)]
      · by_cases hk : k < 1
        · exact .inr (.inr (.inl ⟨by omega, by omega, hk⟩))
        · exact .inr (.inr (.inr ⟨by omega, by omega, by omega, by omega⟩))
  · refine out _ rfl ?_ (by omega)
    unfold mDo wGet wPut
    rw [if_neg hin, if_neg hin]
    split
    · rfl
    · split
      · rfl
      · rw [if_neg (fun h => hin ⟨h.2.1, h.2.2.1⟩)]
end Go.Proofs.YtgcdmgpcfdfomaaDoor
