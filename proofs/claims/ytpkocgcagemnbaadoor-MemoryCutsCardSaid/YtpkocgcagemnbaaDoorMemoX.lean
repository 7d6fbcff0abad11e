/-
  memory.Copy of a memory that stands; a copy's words (their slice may have more room than words).
-/
import Derived.Test.YtpkocgcagemnbaaDoorMemoW
namespace Go.Proofs.YtpkocgcagemnbaaDoor
open Go.RowKit
attribute [local go_sem] past_cell past_cell_add

set_option maxHeartbeats 400000 in
theorem has_c (gm : Nat) (A : Option Addr) (N c : Nat) (a : Int) (w : World) (hc : w.cell? ⟨gm, 5, none⟩ = some (.slice A N c)) (h0 : 0 ≤ a) (h1 : a < N) : Calls Tryd.prog 52 #[.pointer (some ⟨gm, 0, none⟩), .int .i64 a] w fun e w' => e = .returned (.bool true) ∧ w = w' := by
  go_enter Tryd.func52, Tryd.ntmps52
  go_wp2_with fail
  go_ret
  exact ⟨rfl, rfl⟩
set_option maxHeartbeats 400000 in
theorem word_c (gm gw N c j : Nat) (x : Int) (w : World) (hc : w.cell? ⟨gm, 5, none⟩ = some (.slice (some ⟨gw, 0, none⟩) N c)) (h1 : j < N) (hx : w.cell? ⟨gw, j, none⟩ = some (.int .u64 x)) : Calls Tryd.prog 32 #[.pointer (some ⟨gm, 0, none⟩), .int .i64 j] w fun e w' => e = .returned (.int .u64 x) ∧ w = w' := by
  have F := hide (has_c gm _ N c j w hc (by omega) (by omega))
  go_enter Tryd.func32, Tryd.ntmps32
  go_wp2_with fail
  refine (F.out).mono ?_
  rintro e w' ⟨rfl, rfl⟩
  go_wp2_with fail
  go_ret
  exact ⟨rfl, rfl⟩
set_option maxHeartbeats 400000 in
theorem put_c (gm gw N c j : Nat) (x y : Int) (w : World) (hc : w.cell? ⟨gm, 5, none⟩ = some (.slice (some ⟨gw, 0, none⟩) N c)) (h1 : j < N) (hx : w.cell? ⟨gw, j, none⟩ = some (.int .u64 y)) (hz : w.frozen? ⟨gw, j, none⟩ = false) :
    Calls Tryd.prog 51 #[.pointer (some ⟨gm, 0, none⟩), .int .i64 j, .int .u64 x] w fun e w' => (∃ v, e = .returned v) ∧ w.setCell ⟨gw, j, none⟩ (.int .u64 x) = w' := by
  have F := hide (has_c gm _ N c j w hc (by omega) (by omega))
  go_enter Tryd.func51, Tryd.ntmps51
  go_wp2_with fail
  refine (F.out).mono ?_
  rintro e w' ⟨rfl, rfl⟩
  go_wp2_with fail
  go_end0
  exact ⟨⟨_, rfl⟩, rfl⟩

/-- A copy that stands: its row may have more room than words. -/
def CopOk (w : World) (gm gw c : Nat) (s t f l p : Int) (ws : List Int) : Prop :=
  Blk w gm 58 #[.int .i64 s, .int .i64 t, .int .i64 f, .int .i64 l, .int .i64 p, .slice (some ⟨gw, 0, none⟩) ws.length c] ∧ (∃ cur : Array Value, Blk w gw 43 cur ∧ cur.toList.take ws.length = ints .u64 ws) ∧ gm ≠ gw
section
variable {w w' : World} {gm gw c : Nat} {s t f l p : Int} {ws : List Int}
theorem CopOk.lt (h : CopOk w gm gw c s t f l p ws) : gw < w.heap.size := by
  obtain ⟨_, ⟨cur, h, _⟩, _⟩ := h
  exact h.lt
theorem CopOk.at_ (h : CopOk w gm gw c s t f l p ws) {j : Nat} (hj : j < ws.length) : w.cell? ⟨gw, j, none⟩ = some (.int .u64 (ws.getD j 0)) := by
  obtain ⟨_, ⟨cur, h, e⟩, _⟩ := h
  have := ints_get (κ := .u64) ws j hj
  rw [← e, List.getElem?_take, if_pos hj, Array.getElem?_toList] at this
  rw [h.cell j, this, List.getD_eq_getElem?_getD, List.getElem?_eq_getElem hj]
  rfl
theorem CopOk.frozen (h : CopOk w gm gw c s t f l p ws) (j : Nat) : w.frozen? ⟨gw, j, none⟩ = false := by
  obtain ⟨_, ⟨cur, h, _⟩, _⟩ := h
  exact h.frozen j
theorem CopOk.grown {row : Option Nat} (h : CopOk w gm gw c s t f l p ws) (hg : w.grownBy w' row) (h1 : some gm ≠ row) (h2 : some gw ≠ row) : CopOk w' gm gw c s t f l p ws := by
  obtain ⟨h0, ⟨cur, h, e⟩, hn⟩ := h
  exact ⟨h0.grown hg h1, ⟨cur, h.grown hg h2, e⟩, hn⟩
theorem CopOk.below (h : CopOk w gm gw c s t f l p ws) (hb : Below w.heap.size w w') : CopOk w' gm gw c s t f l p ws := h.grown (grown_below hb none) (by simp) (by simp)
theorem CopOk.set_ (h : CopOk w gm gw c s t f l p ws) (j : Nat) (x : Int) : CopOk (w.setCell ⟨gw, j, none⟩ (.int .u64 x)) gm gw c s t f l p (ws.set j x) := by
  obtain ⟨h0, ⟨cur, h, e⟩, hn⟩ := h
  refine ⟨?_, ⟨_, h.set_ j (.int .u64 x), ?_⟩, hn⟩
  · rw [List.length_set]
    exact h0.far (p := ⟨gw, j, none⟩) hn _
  · rw [List.length_set, Array.toList_setIfInBounds, List.take_set, e]
    unfold ints
    rw [List.map_set]
theorem CopOk.reads (h : CopOk w gm gw c s t f l p ws) : Reads w w.heap.size 1 (some ⟨gw, 0, none⟩) ws.length (ints .u64 ws) := by
  have hl := h.lt
  refine ⟨by rw [ints_len]; omega, fun _ => ⟨_, rfl, hl, fun j u hu => ?_⟩⟩
  have hj : j < ws.length := by
    have := (List.getElem?_eq_some_iff.1 hu).1
    rwa [ints_len] at this
  rw [Addr.add_lit, Nat.zero_add, h.at_ hj, ← hu, ints_get ws j hj, List.getD_eq_getElem?_getD, List.getElem?_eq_getElem hj]
  rfl
end

set_option maxHeartbeats 1000000 in
theorem copy_any (gm gw : Nat) (s t f l p : Int) (ws : List Int) (w : World) (hm : MemOk w gm gw s t f l p ws) (h0 : 0 < ws.length) (hN : ws.length ≤ 1000000) :
    Calls Tryd.prog 36 #[.pointer (some ⟨gm, 0, none⟩)] w fun e w' => (∃ gm' gw' c', e = .returned (.pointer (some ⟨gm', 0, none⟩)) ∧ CopOk w' gm' gw' c' s t f l p ws ∧ w.heap.size ≤ gm' ∧ w.heap.size ≤ gw' ∧ ws.length ≤ c') ∧ Below w.heap.size w w' := by
  have CL := hide (fun w2 (hb : Below w.heap.size w w2) => clone_any (.slice (some ⟨gw, 0, none⟩) ws.length ws.length) ws w2 hN ⟨_, _, rfl, by omega, by omega, reads_words (hm.below hb).2.1⟩)
  have bo := hm.1
  have mo := fun i => bo.cell i
  have lo := bo.lt
  have H0 := hide h0
  clear hm h0
  have bd := bo.drewN 1
  have Bd := below_drewN (Below.refl w.heap.size w) 1
  generalize hk : ws.length = N at *
  have HK := hide hk
  clear hk
  go_enter Tryd.func36, Tryd.ntmps36
  go_wp2_with fail
  go_region_held3 (fun w' => w'.cell? ⟨gm, 0, none⟩ = some (.int .i64 s) ∧ w'.cell? ⟨gm, 1, none⟩ = some (.int .i64 t) ∧ w'.cell? ⟨gm, 2, none⟩ = some (.int .i64 f) ∧ w'.cell? ⟨gm, 3, none⟩ = some (.int .i64 l) ∧ w'.cell? ⟨gm, 4, none⟩ = some (.int .i64 p) ∧ w'.cell? ⟨gm, 5, none⟩ = some (.slice (some ⟨gw, 0, none⟩) N N)) (go_keep) ((go_at_call 53; refine (CL.out _ Bd).mono ?_; rintro e w3 ⟨⟨u3, rfl, hu3⟩, hb3⟩; have b3 := bd.below hb3 bd.lt; have m3 := fun i => b3.cell i; have B3 := Bd.trans (hb3.mono Bd.size); have l3 := b3.lt; obtain ⟨g3, c3, rfl, lg, lg2⟩ := World.ownsRow.form hu3 (by rw [HK.out]; exact H0.out)))
  all_goals
    go_wp2_with fail
    go_ret
    have hs3 := B3.size
    refine ⟨⟨w3.heap.size, g3, c3, rfl, ⟨?_, ?_, by omega⟩, hs3, lg, ?_⟩, B3.alloc hs3 _⟩
    · exact Blk.new w3 _ _
    · rcases hu3.2 with ⟨h, _⟩ | ⟨g, cap, cur, h, _, hb, _, _, _, ht⟩
      · cases h
      · cases h
        exact ⟨cur, Blk.alloc (show Blk w3 g3 43 cur from hb) _, by simpa using ht⟩
    · rcases hu3.2 with ⟨h, _⟩ | ⟨g, cap, cur, h, _, hb, hle, _, _, ht⟩
      · cases h
      · cases h
        rw [← HK.out]; exact hle
end Go.Proofs.YtpkocgcagemnbaaDoor
