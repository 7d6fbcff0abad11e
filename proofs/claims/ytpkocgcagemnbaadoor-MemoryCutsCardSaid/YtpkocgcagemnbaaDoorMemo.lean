/-
  Package memory: has, Word, put, Do; gleaningref09.Do.
-/
import Derived.Test.YtpkocgcagemnbaaDoorLayG
import Derived.Test.YtpkocgcagemnbaaDoorWords
namespace Go.Proofs.YtpkocgcagemnbaaDoor
open Go.RowKit
attribute [local go_sem] past_cell past_cell_add

/-- A memory's words: of which slice, and how many. -/
def WordsAt (w : World) (gm : Nat) (A : Option Addr) (N : Nat) : Prop := w.cell? ⟨gm, 5, none⟩ = some (.slice A N N)
/-- There is no such word. -/
def NoWord (w : World) (m : Value) (a : Int) : Prop := m = .pointer none ∨ ∃ gm A N, m = .pointer (some ⟨gm, 0, none⟩) ∧ WordsAt w gm A N ∧ (a < 0 ∨ (0 ≤ a ∧ (N : Int) ≤ a))

set_option maxHeartbeats 400000 in
theorem has_f (m : Value) (a : Int) (w : World) (h : NoWord w m a) : Calls Tryd.prog 52 #[m, .int .i64 a] w fun e w' => e = .returned (.bool false) ∧ w = w' := by
  rcases h with rfl | ⟨gm, A, N, rfl, hc, h⟩
  · go_enter Tryd.func52, Tryd.ntmps52
    go_wp2_with fail
    go_ret
    exact ⟨rfl, rfl⟩
  · unfold WordsAt at hc
    rcases h with h | ⟨h1, h2⟩
    · go_enter Tryd.func52, Tryd.ntmps52
      go_wp2_with fail
      go_ret
      exact ⟨rfl, rfl⟩
    · have h3 : decide (a < (N : Int)) = false := by simpa using h2
      go_enter Tryd.func52, Tryd.ntmps52
      go_wp2_with fail
      go_ret
      exact ⟨rfl, rfl⟩
set_option maxHeartbeats 400000 in
theorem has_t (gm : Nat) (A : Option Addr) (N : Nat) (a : Int) (w : World) (hc : WordsAt w gm A N) (h0 : 0 ≤ a) (h1 : a < N) : Calls Tryd.prog 52 #[.pointer (some ⟨gm, 0, none⟩), .int .i64 a] w fun e w' => e = .returned (.bool true) ∧ w = w' := by
  unfold WordsAt at hc
  go_enter Tryd.func52, Tryd.ntmps52
  go_wp2_with fail
  go_ret
  exact ⟨rfl, rfl⟩
set_option maxHeartbeats 400000 in
theorem word_f (m : Value) (a : Int) (w : World) (h : NoWord w m a) : Calls Tryd.prog 32 #[m, .int .i64 a] w fun e w' => e = .returned (.int .u64 0) ∧ w = w' := by
  have F := hide (has_f m a w h)
  clear h
  go_enter Tryd.func32, Tryd.ntmps32
  go_wp2_with fail
  refine (F.out).mono ?_
  rintro e w' ⟨rfl, rfl⟩
  go_wp2_with fail
  go_ret
  exact ⟨rfl, rfl⟩
set_option maxHeartbeats 400000 in
theorem word_t (gm gw N j : Nat) (x : Int) (w : World) (hc : WordsAt w gm (some ⟨gw, 0, none⟩) N) (h1 : j < N) (hx : w.cell? ⟨gw, j, none⟩ = some (.int .u64 x)) : Calls Tryd.prog 32 #[.pointer (some ⟨gm, 0, none⟩), .int .i64 j] w fun e w' => e = .returned (.int .u64 x) ∧ w = w' := by
  have F := hide (has_t gm _ N j w hc (by omega) (by omega))
  unfold WordsAt at hc
  go_enter Tryd.func32, Tryd.ntmps32
  go_wp2_with fail
  refine (F.out).mono ?_
  rintro e w' ⟨rfl, rfl⟩
  go_wp2_with fail
  go_ret
  exact ⟨rfl, rfl⟩
set_option maxHeartbeats 400000 in
theorem put_f (m : Value) (a x : Int) (w : World) (h : NoWord w m a) : Calls Tryd.prog 51 #[m, .int .i64 a, .int .u64 x] w fun e w' => (∃ v, e = .returned v) ∧ w = w' := by
  have F := hide (has_f m a w h)
  clear h
  go_enter Tryd.func51, Tryd.ntmps51
  go_wp2_with fail
  refine (F.out).mono ?_
  rintro e w' ⟨rfl, rfl⟩
  go_wp2_with fail
  go_end0
  exact ⟨⟨_, rfl⟩, rfl⟩
set_option maxHeartbeats 400000 in
theorem put_t (gm gw N j : Nat) (x y : Int) (w : World) (hc : WordsAt w gm (some ⟨gw, 0, none⟩) N) (h1 : j < N) (hx : w.cell? ⟨gw, j, none⟩ = some (.int .u64 y)) (hz : w.frozen? ⟨gw, j, none⟩ = false) :
    Calls Tryd.prog 51 #[.pointer (some ⟨gm, 0, none⟩), .int .i64 j, .int .u64 x] w fun e w' => (∃ v, e = .returned v) ∧ w.setCell ⟨gw, j, none⟩ (.int .u64 x) = w' := by
  have F := hide (has_t gm _ N j w hc (by omega) (by omega))
  unfold WordsAt at hc
  go_enter Tryd.func51, Tryd.ntmps51
  go_wp2_with fail
  refine (F.out).mono ?_
  rintro e w' ⟨rfl, rfl⟩
  go_wp2_with fail
  go_end0
  exact ⟨⟨_, rfl⟩, rfl⟩

theorem NoWord.below {w w' : World} {m : Value} {a : Int} (h : NoWord w m a) (hb : Below w.heap.size w w') : NoWord w' m a := by
  rcases h with rfl | ⟨gm, A, N, rfl, hc, h⟩
  · exact .inl rfl
  · exact .inr ⟨gm, A, N, rfl, keepCell hb hc, h⟩

/-- What an access does to words, and tells. -/
def wGet (l : List Int) (a : Int) : Int := if 0 ≤ a ∧ a < l.length then l.getD a.toNat 0 else 0
def wPut (l : List Int) (a x : Int) : List Int := if 0 ≤ a ∧ a < l.length then l.set a.toNat x else l
def mDo (l : List Int) (k a o n : Int) : Int × List Int :=
  if k = 1 then (wGet l a, l) else if k = 2 then (0, wPut l a n) else if k = 3 ∧ 0 ≤ a ∧ a < l.length ∧ wGet l a = o then (1, wPut l a n) else (0, l)
theorem wPut_len (l : List Int) (a x : Int) : (wPut l a x).length = l.length := by unfold wPut; split <;> simp
theorem mDo_len (l : List Int) (k a o n : Int) : (mDo l k a o n).2.length = l.length := by
  unfold mDo
  repeat' split
  all_goals simp [wPut_len]

def AllW64 (l : List Int) : Prop := ∀ x ∈ l, W64 x
theorem wPut_w64 {l : List Int} {a x : Int} (h : AllW64 l) (hx : W64 x) : AllW64 (wPut l a x) := by
  unfold wPut
  split
  · intro y hy
    rcases List.mem_or_eq_of_mem_set hy with hy | rfl
    · exact h y hy
    · exact hx
  · exact h
theorem mDo_w64 {l : List Int} {k a o n : Int} (h : AllW64 l) (hn : W64 n) : AllW64 (mDo l k a o n).2 := by
  unfold mDo
  repeat' split
  · exact h
  · exact wPut_w64 h hn
  · exact wPut_w64 h hn
  · exact h

/-- A memory that the call has made, with its words. -/
def MemOk (w : World) (gm gw : Nat) (s t f l p : Int) (ws : List Int) : Prop :=
  Blk w gm 58 #[.int .i64 s, .int .i64 t, .int .i64 f, .int .i64 l, .int .i64 p, .slice (some ⟨gw, 0, none⟩) ws.length ws.length] ∧ Blk w gw 43 (ints .u64 ws).toArray ∧ gm ≠ gw
section
variable {w w' : World} {gm gw : Nat} {s t f l p : Int} {ws : List Int}
theorem MemOk.words (h : MemOk w gm gw s t f l p ws) : WordsAt w gm (some ⟨gw, 0, none⟩) ws.length := h.1.cell 5
theorem MemOk.at_ (h : MemOk w gm gw s t f l p ws) {j : Nat} (hj : j < ws.length) : w.cell? ⟨gw, j, none⟩ = some (.int .u64 (ws.getD j 0)) := by
  rw [h.2.1.cell j, List.getElem?_toArray, ints_get ws j hj, List.getD_eq_getElem?_getD, List.getElem?_eq_getElem hj]
  rfl
theorem MemOk.grown {row : Option Nat} (h : MemOk w gm gw s t f l p ws) (hg : w.grownBy w' row) (h1 : some gm ≠ row) (h2 : some gw ≠ row) : MemOk w' gm gw s t f l p ws :=
  ⟨h.1.grown hg h1, h.2.1.grown hg h2, h.2.2⟩
theorem grown_below (hb : Below w.heap.size w w') (row : Option Nat) : w.grownBy w' row := ⟨hb.os, hb.tape, hb.output, hb.size, fun k hk _ => hb.block k hk⟩
theorem MemOk.below (h : MemOk w gm gw s t f l p ws) (hb : Below w.heap.size w w') : MemOk w' gm gw s t f l p ws := h.grown (grown_below hb none) (by simp) (by simp)
theorem grown_set (w : World) (g j : Nat) (v : Value) : w.grownBy (w.setCell ⟨g, j, none⟩ v) (some g) :=
  ⟨rfl, rfl, rfl, by simp, fun k _ hk => Below.heap_setCell w ⟨g, j, none⟩ v k (fun e => hk (by rw [e]))⟩
theorem MemOk.set_ (h : MemOk w gm gw s t f l p ws) (j : Nat) (x : Int) : MemOk (w.setCell ⟨gw, j, none⟩ (.int .u64 x)) gm gw s t f l p (ws.set j x) := by
  refine ⟨?_, ?_, h.2.2⟩
  · rw [List.length_set]
    exact h.1.far (p := ⟨gw, j, none⟩) h.2.2 _
  · have := h.2.1.set_ j (.int .u64 x)
    have e : (ints .u64 (ws.set j x)).toArray = (ints .u64 ws).toArray.setIfInBounds j (.int .u64 x) := by
      unfold ints
      rw [List.map_set, List.setIfInBounds_toArray]
    rw [e]
    exact this
end
theorem wGet_at {l : List Int} {j : Nat} (h : j < l.length) : wGet l j = l.getD j 0 := by
  unfold wGet
  rw [if_pos ⟨by omega, by omega⟩, Int.toNat_natCast]
theorem wPut_at {l : List Int} {j : Nat} {x : Int} (h : j < l.length) : wPut l j x = l.set j x := by
  unfold wPut
  rw [if_pos ⟨by omega, by omega⟩, Int.toNat_natCast]

set_option maxHeartbeats 1000000 in
theorem do_none1 (m : Value) (a o n : Int) (w : World) (h : NoWord w m a) : Calls Tryd.prog 27 #[m, .agg #[.int .i64 1, .int .i64 a, .int .u64 o, .int .u64 n]] w fun e w' => e = .returned (.int .u64 0) ∧ Below w.heap.size w w' := by
  have F := hide (fun w2 (hb : Below w.heap.size w w2) => word_f m a w2 (h.below hb))
  clear h
  go_enter Tryd.func27, Tryd.ntmps27
  go_wp2_with fail
  have bx := Blk.new w 46 #[.int .i64 1, .int .i64 a, .int .u64 o, .int .u64 n]
  have B0 := (Below.refl w.heap.size w).alloc (Nat.le_refl _) (.cells #[.int .i64 1, .int .i64 a, .int .u64 o, .int .u64 n] 46)
  generalize w.alloc (.cells #[.int .i64 1, .int .i64 a, .int .u64 o, .int .u64 n] 46) = w1 at *
  try clear mx lx
  try clear mo lo zo
  try clear my ly zy
  try have mx := fun i => bx.cell i
  try have lx := bx.lt
  try have mo := fun i => bo.cell i
  try have lo := bo.lt
  try have zo := fun i => bo.frozen i
  try have my := fun i => by_.cell i
  try have ly := by_.lt
  try have zy := fun i => by_.frozen i
  refine (F.out _ B0).mono ?_
  rintro e w' ⟨rfl, rfl⟩
  go_wp2_with fail
  go_ret
  exact ⟨rfl, B0⟩
set_option maxHeartbeats 1000000 in
theorem do_none2 (m : Value) (a o n : Int) (w : World) (h : NoWord w m a) : Calls Tryd.prog 27 #[m, .agg #[.int .i64 2, .int .i64 a, .int .u64 o, .int .u64 n]] w fun e w' => e = .returned (.int .u64 0) ∧ Below w.heap.size w w' := by
  have F := hide (fun w2 (hb : Below w.heap.size w w2) => put_f m a n w2 (h.below hb))
  clear h
  go_enter Tryd.func27, Tryd.ntmps27
  go_wp2_with fail
  have bx := Blk.new w 46 #[.int .i64 2, .int .i64 a, .int .u64 o, .int .u64 n]
  have B0 := (Below.refl w.heap.size w).alloc (Nat.le_refl _) (.cells #[.int .i64 2, .int .i64 a, .int .u64 o, .int .u64 n] 46)
  generalize w.alloc (.cells #[.int .i64 2, .int .i64 a, .int .u64 o, .int .u64 n] 46) = w1 at *
  try clear mx lx
  try clear mo lo zo
  try clear my ly zy
  try have mx := fun i => bx.cell i
  try have lx := bx.lt
  try have mo := fun i => bo.cell i
  try have lo := bo.lt
  try have zo := fun i => bo.frozen i
  try have my := fun i => by_.cell i
  try have ly := by_.lt
  try have zy := fun i => by_.frozen i
  refine (F.out _ B0).mono ?_
  rintro e w' ⟨⟨v, rfl⟩, rfl⟩
  go_wp2_with fail
  go_ret
  exact ⟨rfl, B0⟩
set_option maxHeartbeats 1000000 in
theorem do_none3 (m : Value) (a o n : Int) (w : World) (h : NoWord w m a) : Calls Tryd.prog 27 #[m, .agg #[.int .i64 3, .int .i64 a, .int .u64 o, .int .u64 n]] w fun e w' => e = .returned (.int .u64 0) ∧ Below w.heap.size w w' := by
  have F := hide (fun w2 (hb : Below w.heap.size w w2) => has_f m a w2 (h.below hb))
  clear h
  go_enter Tryd.func27, Tryd.ntmps27
  go_wp2_with fail
  have bx := Blk.new w 46 #[.int .i64 3, .int .i64 a, .int .u64 o, .int .u64 n]
  have B0 := (Below.refl w.heap.size w).alloc (Nat.le_refl _) (.cells #[.int .i64 3, .int .i64 a, .int .u64 o, .int .u64 n] 46)
  generalize w.alloc (.cells #[.int .i64 3, .int .i64 a, .int .u64 o, .int .u64 n] 46) = w1 at *
  try clear mx lx
  try clear mo lo zo
  try clear my ly zy
  try have mx := fun i => bx.cell i
  try have lx := bx.lt
  try have mo := fun i => bo.cell i
  try have lo := bo.lt
  try have zo := fun i => bo.frozen i
  try have my := fun i => by_.cell i
  try have ly := by_.lt
  try have zy := fun i => by_.frozen i
  go_quiet ((go_at_call 52; exact quiet_left (F.out _ (below_drewN B0 _))))
  go_wp2_with fail
  go_ret
  exact ⟨rfl, below_drewN B0 _⟩
set_option maxHeartbeats 1000000 in
theorem do_other (m : Value) (k a o n : Int) (w : World) (k1 : (k == 1) = false) (k2 : (k == 2) = false) (k3 : (k == 3) = false) : Calls Tryd.prog 27 #[m, .agg #[.int .i64 k, .int .i64 a, .int .u64 o, .int .u64 n]] w fun e w' => e = .returned (.int .u64 0) ∧ Below w.heap.size w w' := by
  go_enter Tryd.func27, Tryd.ntmps27
  go_wp2_with fail
  have bx := Blk.new w 46 #[.int .i64 k, .int .i64 a, .int .u64 o, .int .u64 n]
  have B0 := (Below.refl w.heap.size w).alloc (Nat.le_refl _) (.cells #[.int .i64 k, .int .i64 a, .int .u64 o, .int .u64 n] 46)
  generalize w.alloc (.cells #[.int .i64 k, .int .i64 a, .int .u64 o, .int .u64 n] 46) = w1 at *
  try clear mx lx
  try clear mo lo zo
  try clear my ly zy
  try have mx := fun i => bx.cell i
  try have lx := bx.lt
  try have mo := fun i => bo.cell i
  try have lo := bo.lt
  try have zo := fun i => bo.frozen i
  try have my := fun i => by_.cell i
  try have ly := by_.lt
  try have zy := fun i => by_.frozen i
  go_quiet (fail)
  go_wp2_with fail
  go_ret
  exact ⟨rfl, below_drewN B0 _⟩
theorem do_none (m : Value) (k a o n : Int) (w : World) (h : NoWord w m a) : Calls Tryd.prog 27 #[m, .agg #[.int .i64 k, .int .i64 a, .int .u64 o, .int .u64 n]] w fun e w' => e = .returned (.int .u64 0) ∧ Below w.heap.size w w' := by
  by_cases h1 : k = 1
  · subst h1
    exact do_none1 m a o n w h
  by_cases h2 : k = 2
  · subst h2
    exact do_none2 m a o n w h
  by_cases h3 : k = 3
  · subst h3
    exact do_none3 m a o n w h
  exact do_other m k a o n w (by simpa using h1) (by simpa using h2) (by simpa using h3)

theorem grown_trans {w w1 w2 : World} {row : Option Nat} (h1 : w.grownBy w1 row) (h2 : w1.grownBy w2 row) : w.grownBy w2 row :=
  ⟨h2.os.trans h1.os, h2.tape.trans h1.tape, h2.output.trans h1.output, Nat.le_trans h1.size h2.size, fun k hk hr => (h2.block k (Nat.lt_of_lt_of_le hk h1.size) hr).trans (h1.block k hk hr)⟩
theorem below_grown {B : Nat} {w0 w w' : World} {g : Nat} (hb : Below B w0 w) (hg : w.grownBy w' (some g)) (hB : B ≤ g) (hs : B ≤ w.heap.size) : Below B w0 w' :=
  ⟨hg.os.trans hb.os, hg.tape.trans hb.tape, hg.output.trans hb.output, Nat.le_trans hb.size hg.size, fun k hk => (hg.block k (Nat.lt_of_lt_of_le hk hs) (fun e => by injection e with e; omega)).trans (hb.block k hk)⟩
theorem below_drewN' {w w1 : World} (hb : Below w.heap.size w w1) (n : Nat) : Below w.heap.size w (w1.drewN n) := below_drewN hb n
set_option maxHeartbeats 1000000 in
theorem do_t1 (gm gw j : Nat) (s t f l p o n : Int) (ws : List Int) (w : World) (hm : MemOk w gm gw s t f l p ws) (hj : j < ws.length) :
    Calls Tryd.prog 27 #[.pointer (some ⟨gm, 0, none⟩), .agg #[.int .i64 1, .int .i64 (j : Int), .int .u64 o, .int .u64 n]] w fun e w' => e = .returned (.int .u64 (ws.getD j 0)) ∧ MemOk w' gm gw s t f l p ws ∧ w.grownBy w' (some gw) := by
  have hb0 := (Below.refl w.heap.size w).alloc (Nat.le_refl _) (.cells #[.int .i64 1, .int .i64 (j : Int), .int .u64 o, .int .u64 n] 46)
  have bx := Blk.new w 46 #[.int .i64 1, .int .i64 (j : Int), .int .u64 o, .int .u64 n]
  have M1 := hm.below hb0
  have mx := fun i => bx.cell i
  have lgw : gw < w.heap.size := hm.2.1.lt
  have F := hide (word_t gm gw ws.length j (ws.getD j 0) _ M1.words hj (M1.at_ hj))
  have HM := hide (show MemOk _ gm gw s t f l p ws ∧ w.grownBy _ (some gw) from ⟨M1, grown_below hb0 _⟩)
  clear M1 hm hb0 hj bx
  generalize ws.getD j 0 = x at *
  go_enter Tryd.func27, Tryd.ntmps27
  go_wp2_with fail
  refine (F.out).mono ?_
  rintro e w' ⟨rfl, rfl⟩
  go_wp2_with fail
  go_ret
  exact ⟨rfl, HM.out⟩
set_option maxHeartbeats 1000000 in
theorem do_t2 (gm gw j : Nat) (s t f l p o n : Int) (ws : List Int) (w : World) (hm : MemOk w gm gw s t f l p ws) (hj : j < ws.length) :
    Calls Tryd.prog 27 #[.pointer (some ⟨gm, 0, none⟩), .agg #[.int .i64 2, .int .i64 (j : Int), .int .u64 o, .int .u64 n]] w fun e w' => e = .returned (.int .u64 0) ∧ MemOk w' gm gw s t f l p (ws.set j n) ∧ w.grownBy w' (some gw) := by
  have F := hide (fun w1 (M1 : MemOk w1 gm gw s t f l p ws) => put_t gm gw ws.length j n (ws.getD j 0) w1 M1.words hj (M1.at_ hj) (M1.2.1.frozen j))
  have HM := hide hm
  clear hm hj
  go_enter Tryd.func27, Tryd.ntmps27
  go_wp2_with fail
  have bx := Blk.new w 46 #[.int .i64 2, .int .i64 (j : Int), .int .u64 o, .int .u64 n]
  have B0 := (Below.refl w.heap.size w).alloc (Nat.le_refl _) (.cells #[.int .i64 2, .int .i64 (j : Int), .int .u64 o, .int .u64 n] 46)
  generalize w.alloc (.cells #[.int .i64 2, .int .i64 (j : Int), .int .u64 o, .int .u64 n] 46) = w1 at *
  have M1 := HM.out.below B0
  refine (F.out _ M1).mono ?_
  rintro e w' ⟨⟨v, rfl⟩, rfl⟩
  go_wp2_with fail
  go_ret
  exact ⟨rfl, M1.set_ j n, grown_trans (grown_below B0 _) (grown_set _ gw j (.int .u64 n))⟩
set_option maxHeartbeats 1000000 in
theorem do_t3n (gm gw j : Nat) (s t f l p o n : Int) (ws : List Int) (w : World) (hm : MemOk w gm gw s t f l p ws) (hj : j < ws.length) (hne : ws.getD j 0 ≠ o) :
    Calls Tryd.prog 27 #[.pointer (some ⟨gm, 0, none⟩), .agg #[.int .i64 3, .int .i64 (j : Int), .int .u64 o, .int .u64 n]] w fun e w' => e = .returned (.int .u64 0) ∧ MemOk w' gm gw s t f l p ws ∧ w.grownBy w' (some gw) := by
  have hb0 := (Below.refl w.heap.size w).alloc (Nat.le_refl _) (.cells #[.int .i64 3, .int .i64 (j : Int), .int .u64 o, .int .u64 n] 46)
  have bx := Blk.new w 46 #[.int .i64 3, .int .i64 (j : Int), .int .u64 o, .int .u64 n]
  have M1 := hm.below hb0
  have mx := fun i => bx.cell i
  have lgw : gw < w.heap.size := hm.2.1.lt
  have HM := hide (fun k => show MemOk (World.drewN _ k) gm gw s t f l p ws ∧ w.grownBy _ (some gw) from ⟨M1.below (below_drewN (Below.refl _ _) k), grown_below (below_drewN hb0 k) _⟩)
  have F := hide (fun k => has_t gm (some ⟨gw, 0, none⟩) ws.length j (World.drewN _ k) (M1.below (below_drewN (Below.refl _ _) k)).words (by omega) (by omega))
  have z5 : _ = _ := M1.words
  have z := M1.at_ hj
  have q : (ws.getD j 0 == o) = false := by simpa using hne
  have hjz : (j : Int) < (ws.length : Int) := by omega
  unfold WordsAt at z5
  clear M1 hm hb0 bx hne hj
  generalize ws.getD j 0 = x at *
  generalize ws.length = N at *
  go_enter Tryd.func27, Tryd.ntmps27
  go_wp2_with fail
  go_quiet ((go_at_call 52; exact quiet_left (F.out _)))
  go_wp2_with fail
  go_ret
  exact ⟨rfl, HM.out _⟩
set_option maxHeartbeats 1000000 in
theorem do_t3y (gm gw j : Nat) (s t f l p o n : Int) (ws : List Int) (w : World) (hm : MemOk w gm gw s t f l p ws) (hj : j < ws.length) (heq : ws.getD j 0 = o) :
    Calls Tryd.prog 27 #[.pointer (some ⟨gm, 0, none⟩), .agg #[.int .i64 3, .int .i64 (j : Int), .int .u64 o, .int .u64 n]] w fun e w' => e = .returned (.int .u64 1) ∧ MemOk w' gm gw s t f l p (ws.set j n) ∧ w.grownBy w' (some gw) := by
  have F := hide (fun w1 (M1 : MemOk w1 gm gw s t f l p ws) => has_t gm (some ⟨gw, 0, none⟩) ws.length j w1 M1.words (by omega) (by omega))
  have PT := hide (fun w1 (M1 : MemOk w1 gm gw s t f l p ws) => put_t gm gw ws.length j n (ws.getD j 0) w1 M1.words hj (M1.at_ hj) (M1.2.1.frozen j))
  have HM := hide hm
  have HQ := hide heq
  have hjz : (j : Int) < (ws.length : Int) := by omega
  have HJ := hide hj
  clear hm hj heq
  go_enter Tryd.func27, Tryd.ntmps27
  go_wp2_with fail
  have bx := Blk.new w 46 #[.int .i64 3, .int .i64 (j : Int), .int .u64 o, .int .u64 n]
  have B0 := (Below.refl w.heap.size w).alloc (Nat.le_refl _) (.cells #[.int .i64 3, .int .i64 (j : Int), .int .u64 o, .int .u64 n] 46)
  generalize w.alloc (.cells #[.int .i64 3, .int .i64 (j : Int), .int .u64 o, .int .u64 n] 46) = w1 at *
  have M1 := hide (HM.out.below B0)
  have z5 : _ = _ := M1.out.words
  have z := M1.out.at_ HJ.out
  rw [HQ.out] at z
  unfold WordsAt at z5
  have mx := fun i => bx.cell i
  go_quiet ((go_at_call 52; exact quiet_left (F.out _ (M1.out.below (below_drewN (Below.refl _ _) _)))))
  go_wp2_with fail
  have M2 := M1.out.below (below_drewN (Below.refl _ _) nq)
  refine (PT.out _ M2).mono ?_
  rintro e w' ⟨⟨v, rfl⟩, rfl⟩
  go_wp2_with fail
  go_ret
  exact ⟨rfl, M2.set_ j n, grown_trans (grown_below (below_drewN B0 _) _) (grown_set _ gw j (.int .u64 n))⟩

theorem do_any (gm gw : Nat) (s t f l p k a o n : Int) (ws : List Int) (w : World) (hm : MemOk w gm gw s t f l p ws) :
    Calls Tryd.prog 27 #[.pointer (some ⟨gm, 0, none⟩), .agg #[.int .i64 k, .int .i64 a, .int .u64 o, .int .u64 n]] w fun e w' => e = .returned (.int .u64 (mDo ws k a o n).1) ∧ MemOk w' gm gw s t f l p (mDo ws k a o n).2 ∧ w.grownBy w' (some gw) := by
  by_cases hin : 0 ≤ a ∧ a < ws.length
  · obtain ⟨j, rfl⟩ := Int.eq_ofNat_of_zero_le hin.1
    have hj : j < ws.length := by omega
    unfold mDo
    rw [wGet_at hj, wPut_at hj]
    by_cases h1 : k = 1
    · subst h1
      exact do_t1 gm gw j s t f l p o n ws w hm hj
    rw [if_neg h1]
    by_cases h2 : k = 2
    · subst h2
      exact do_t2 gm gw j s t f l p o n ws w hm hj
    rw [if_neg h2]
    by_cases h3 : k = 3
    · subst h3
      by_cases he : ws.getD j 0 = o
      · rw [if_pos ⟨rfl, by omega, by omega, he⟩]
        exact do_t3y gm gw j s t f l p o n ws w hm hj he
      · rw [if_neg (fun h => he h.2.2.2)]
        exact do_t3n gm gw j s t f l p o n ws w hm hj he
    · rw [if_neg (fun h => h3 h.1)]
      exact (do_other _ k j o n w (by simpa using h1) (by simpa using h2) (by simpa using h3)).mono fun e w' ⟨he, hb⟩ => ⟨he, hm.below hb, grown_below hb _⟩
  · have e1 : mDo ws k a o n = (0, ws) := by
      unfold mDo wGet wPut
      rw [if_neg hin, if_neg hin]
      split
      · rfl
      · split
        · rfl
        · rw [if_neg (fun h => hin ⟨h.2.1, h.2.2.1⟩)]
    rw [e1]
    exact (do_none _ k a o n w (.inr ⟨gm, _, _, rfl, hm.words, by omega⟩)).mono fun e w' ⟨he, hb⟩ => ⟨he, hm.below hb, grown_below hb _⟩
end Go.Proofs.YtpkocgcagemnbaaDoor
