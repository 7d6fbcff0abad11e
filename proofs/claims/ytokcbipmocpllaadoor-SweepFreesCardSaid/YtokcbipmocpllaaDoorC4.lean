/-
  Package sweep: the next handle's turn.
-/
import Derived.Test.YtokcbipmocpllaaDoorC3
import Derived.Maps.Own
import Derived.Maps.OwnOps
import Derived.Maps.Views
namespace Go.Proofs.YtokcbipmocpllaaDoor
open Go.RowKit

theorem Tr.first [Inhabited GhT] {w : World} {e : TypeId} {s n : Nat} {ad : Addr} {c : Nat} {u : Value} {xs : List Value} (h : Tr w e s (.slice (some ad) n c) n (u :: xs)) : w.cell? ad = some u := by
  have := h.holds ad rfl 0 u (by simp)
  simpa [Addr.add] using this
theorem Tr.some_ [Inhabited GhT] {w : World} {e : TypeId} {s n : Nat} {A : Option Addr} {c : Nat} {xs : List Value} (h : Tr w e s (.slice A n c) n xs) (h0 : 0 < n) : ∃ ad, A = some ad := by
  obtain ⟨ad, h1, _⟩ := h.reads.2 h0
  exact ⟨ad, h1⟩
theorem Blk.rangeO {w : World} {g : Nat} {T : TypeId} {cs : Array Value} (h : Blk w g T cs) (o : Nat) (l : List Value) (hl : ∀ j v, l[j]? = some v → cs[o + j]? = some v) : w.rangeAt g o l := fun j v hv => by
  rw [h.cell (o + j)]
  exact hl j v hv
theorem Blk.thereO {w : World} {g n : Nat} {T : TypeId} {cs : Array Value} (h : Blk w g T cs) (o : Nat) (hn : o + n ≤ cs.size) : w.there g o n := fun j hj => by
  refine ⟨?_, h.frozen _⟩
  rw [h.cell (o + j)]
  simp
  omega

set_option linter.unusedSimpArgs false in
set_option maxRecDepth 100000 in
set_option maxHeartbeats 4000000 in
theorem snext_nil [Inhabited GhT] (s t f l p k ep : Int) (r : List (Int × Int)) (ks hz : List Int) (q0 q1 q2 q3 q4 pk sl hd tr : Int) (fr : List Int) (ju : Int) (v : Value) (w : World) (hv : SwV w s t f l p k ep r ks hz [] q0 q1 q2 q3 q4 pk sl hd tr fr ju v) :
    Calls Tryd.prog 51 #[v] w fun e w' => (∃ v', e = .returned v' ∧ SwV w' s t f l p 0 ep r ks hz [] q0 q1 q2 q3 q4 pk sl hd tr fr ju v') ∧ Below w.heap.size w w' := by
  obtain ⟨A1, c1, A2, c2, A3, c3, A4, c4, A5, c5, rfl, t1, t2, t3, t4, t5⟩ := hv
  simp only [List.length_nil] at t4 ⊢
  have B0 := ((Below.refl w.heap.size w).alloc (Nat.le_refl _) (.cells #[.slice A1 r.length c1, .slice A2 ks.length c2, .int .i64 s, .int .i64 t, .int .i64 f, .int .i64 l, .int .i64 p, .int .i64 k, .int .u64 ep, .slice A3 hz.length c3, .slice A4 0 c4, .int .i64 q0, .int .i64 q1, .int .i64 q2, .int .i64 q3, .int .i64 q4, .int .i64 pk, .int .i64 sl, .int .u64 hd, .int .i64 tr, .slice A5 fr.length c5, .int .i64 ju] 51)).alloc (by simp only [World.size_alloc]; omega) (.cells #[.slice none 0 0, .slice none 0 0, .int .i64 0, .int .i64 0, .int .i64 0, .int .i64 0, .int .i64 0, .int .i64 0, .int .u64 0, .slice none 0 0, .slice none 0 0, .int .i64 0, .int .i64 0, .int .i64 0, .int .i64 0, .int .i64 0, .int .i64 0, .int .i64 0, .int .u64 0, .int .i64 0, .slice none 0 0, .int .i64 0] 51)
  have bs := (Blk.new w 51 #[.slice A1 r.length c1, .slice A2 ks.length c2, .int .i64 s, .int .i64 t, .int .i64 f, .int .i64 l, .int .i64 p, .int .i64 k, .int .u64 ep, .slice A3 hz.length c3, .slice A4 0 c4, .int .i64 q0, .int .i64 q1, .int .i64 q2, .int .i64 q3, .int .i64 q4, .int .i64 pk, .int .i64 sl, .int .u64 hd, .int .i64 tr, .slice A5 fr.length c5, .int .i64 ju]).alloc (.cells #[.slice none 0 0, .slice none 0 0, .int .i64 0, .int .i64 0, .int .i64 0, .int .i64 0, .int .i64 0, .int .i64 0, .int .u64 0, .slice none 0 0, .slice none 0 0, .int .i64 0, .int .i64 0, .int .i64 0, .int .i64 0, .int .i64 0, .int .i64 0, .int .i64 0, .int .u64 0, .int .i64 0, .slice none 0 0, .int .i64 0] 51)
  have bo := Blk.new (w.alloc (.cells #[.slice A1 r.length c1, .slice A2 ks.length c2, .int .i64 s, .int .i64 t, .int .i64 f, .int .i64 l, .int .i64 p, .int .i64 k, .int .u64 ep, .slice A3 hz.length c3, .slice A4 0 c4, .int .i64 q0, .int .i64 q1, .int .i64 q2, .int .i64 q3, .int .i64 q4, .int .i64 pk, .int .i64 sl, .int .u64 hd, .int .i64 tr, .slice A5 fr.length c5, .int .i64 ju] 51)) 51 #[.slice none 0 0, .slice none 0 0, .int .i64 0, .int .i64 0, .int .i64 0, .int .i64 0, .int .i64 0, .int .i64 0, .int .u64 0, .slice none 0 0, .slice none 0 0, .int .i64 0, .int .i64 0, .int .i64 0, .int .i64 0, .int .i64 0, .int .i64 0, .int .i64 0, .int .u64 0, .int .i64 0, .slice none 0 0, .int .i64 0]
  simp only [World.size_alloc] at bo
  replace t1 := (t1.alloc (.cells #[.slice A1 r.length c1, .slice A2 ks.length c2, .int .i64 s, .int .i64 t, .int .i64 f, .int .i64 l, .int .i64 p, .int .i64 k, .int .u64 ep, .slice A3 hz.length c3, .slice A4 0 c4, .int .i64 q0, .int .i64 q1, .int .i64 q2, .int .i64 q3, .int .i64 q4, .int .i64 pk, .int .i64 sl, .int .u64 hd, .int .i64 tr, .slice A5 fr.length c5, .int .i64 ju] 51)).alloc (.cells #[.slice none 0 0, .slice none 0 0, .int .i64 0, .int .i64 0, .int .i64 0, .int .i64 0, .int .i64 0, .int .i64 0, .int .u64 0, .slice none 0 0, .slice none 0 0, .int .i64 0, .int .i64 0, .int .i64 0, .int .i64 0, .int .i64 0, .int .i64 0, .int .i64 0, .int .u64 0, .int .i64 0, .slice none 0 0, .int .i64 0] 51)
  replace t2 := (t2.alloc (.cells #[.slice A1 r.length c1, .slice A2 ks.length c2, .int .i64 s, .int .i64 t, .int .i64 f, .int .i64 l, .int .i64 p, .int .i64 k, .int .u64 ep, .slice A3 hz.length c3, .slice A4 0 c4, .int .i64 q0, .int .i64 q1, .int .i64 q2, .int .i64 q3, .int .i64 q4, .int .i64 pk, .int .i64 sl, .int .u64 hd, .int .i64 tr, .slice A5 fr.length c5, .int .i64 ju] 51)).alloc (.cells #[.slice none 0 0, .slice none 0 0, .int .i64 0, .int .i64 0, .int .i64 0, .int .i64 0, .int .i64 0, .int .i64 0, .int .u64 0, .slice none 0 0, .slice none 0 0, .int .i64 0, .int .i64 0, .int .i64 0, .int .i64 0, .int .i64 0, .int .i64 0, .int .i64 0, .int .u64 0, .int .i64 0, .slice none 0 0, .int .i64 0] 51)
  replace t3 := (t3.alloc (.cells #[.slice A1 r.length c1, .slice A2 ks.length c2, .int .i64 s, .int .i64 t, .int .i64 f, .int .i64 l, .int .i64 p, .int .i64 k, .int .u64 ep, .slice A3 hz.length c3, .slice A4 0 c4, .int .i64 q0, .int .i64 q1, .int .i64 q2, .int .i64 q3, .int .i64 q4, .int .i64 pk, .int .i64 sl, .int .u64 hd, .int .i64 tr, .slice A5 fr.length c5, .int .i64 ju] 51)).alloc (.cells #[.slice none 0 0, .slice none 0 0, .int .i64 0, .int .i64 0, .int .i64 0, .int .i64 0, .int .i64 0, .int .i64 0, .int .u64 0, .slice none 0 0, .slice none 0 0, .int .i64 0, .int .i64 0, .int .i64 0, .int .i64 0, .int .i64 0, .int .i64 0, .int .i64 0, .int .u64 0, .int .i64 0, .slice none 0 0, .int .i64 0] 51)
  replace t4 := (t4.alloc (.cells #[.slice A1 r.length c1, .slice A2 ks.length c2, .int .i64 s, .int .i64 t, .int .i64 f, .int .i64 l, .int .i64 p, .int .i64 k, .int .u64 ep, .slice A3 hz.length c3, .slice A4 0 c4, .int .i64 q0, .int .i64 q1, .int .i64 q2, .int .i64 q3, .int .i64 q4, .int .i64 pk, .int .i64 sl, .int .u64 hd, .int .i64 tr, .slice A5 fr.length c5, .int .i64 ju] 51)).alloc (.cells #[.slice none 0 0, .slice none 0 0, .int .i64 0, .int .i64 0, .int .i64 0, .int .i64 0, .int .i64 0, .int .i64 0, .int .u64 0, .slice none 0 0, .slice none 0 0, .int .i64 0, .int .i64 0, .int .i64 0, .int .i64 0, .int .i64 0, .int .i64 0, .int .i64 0, .int .u64 0, .int .i64 0, .slice none 0 0, .int .i64 0] 51)
  replace t5 := (t5.alloc (.cells #[.slice A1 r.length c1, .slice A2 ks.length c2, .int .i64 s, .int .i64 t, .int .i64 f, .int .i64 l, .int .i64 p, .int .i64 k, .int .u64 ep, .slice A3 hz.length c3, .slice A4 0 c4, .int .i64 q0, .int .i64 q1, .int .i64 q2, .int .i64 q3, .int .i64 q4, .int .i64 pk, .int .i64 sl, .int .u64 hd, .int .i64 tr, .slice A5 fr.length c5, .int .i64 ju] 51)).alloc (.cells #[.slice none 0 0, .slice none 0 0, .int .i64 0, .int .i64 0, .int .i64 0, .int .i64 0, .int .i64 0, .int .i64 0, .int .u64 0, .slice none 0 0, .slice none 0 0, .int .i64 0, .int .i64 0, .int .i64 0, .int .i64 0, .int .i64 0, .int .i64 0, .int .i64 0, .int .u64 0, .int .i64 0, .slice none 0 0, .int .i64 0] 51)
  go_enter Tryd.func51, Tryd.ntmps51
  go_wp2_with fail
  generalize (w.alloc (.cells #[.slice A1 r.length c1, .slice A2 ks.length c2, .int .i64 s, .int .i64 t, .int .i64 f, .int .i64 l, .int .i64 p, .int .i64 k, .int .u64 ep, .slice A3 hz.length c3, .slice A4 0 c4, .int .i64 q0, .int .i64 q1, .int .i64 q2, .int .i64 q3, .int .i64 q4, .int .i64 pk, .int .i64 sl, .int .u64 hd, .int .i64 tr, .slice A5 fr.length c5, .int .i64 ju] 51)).alloc (.cells #[.slice none 0 0, .slice none 0 0, .int .i64 0, .int .i64 0, .int .i64 0, .int .i64 0, .int .i64 0, .int .i64 0, .int .u64 0, .slice none 0 0, .slice none 0 0, .int .i64 0, .int .i64 0, .int .i64 0, .int .i64 0, .int .i64 0, .int .i64 0, .int .i64 0, .int .u64 0, .int .i64 0, .slice none 0 0, .int .i64 0] 51) = w0 at *
  have ms := fun i => bs.cell i
  have zs := fun i => bs.frozen i
  go_wp2_with fail
  refine wp_loop_once ?_
  replace t1 := t1.set_ bs (by decide) 7 (.int .i64 0)
  replace t2 := t2.set_ bs (by decide) 7 (.int .i64 0)
  replace t3 := t3.set_ bs (by decide) 7 (.int .i64 0)
  replace t4 := t4.set_ bs (by decide) 7 (.int .i64 0)
  replace t5 := t5.set_ bs (by decide) 7 (.int .i64 0)
  replace bo := bo.far (p := ⟨w.heap.size, 7, none⟩) (by show w.heap.size + 1 ≠ w.heap.size; omega) (.int .i64 0)
  replace B0 := B0.setCell (p := ⟨w.heap.size, 7, none⟩) (Nat.le_refl _) (.int .i64 0)
  replace bs := bs.set_ 7 (.int .i64 0)
  simp only [List.setIfInBounds_toArray, List.set_cons_zero, List.set_cons_succ] at bs
  go_wp2_with (first | (refine wpList_load_mid rfl 51 (.tmp 1) rfl w.heap.size 0 (by rfl) [.slice A1 r.length c1, .slice A2 ks.length c2, .int .i64 s, .int .i64 t, .int .i64 f, .int .i64 l, .int .i64 p, .int .i64 0, .int .u64 ep, .slice A3 hz.length c3, .slice A4 0 c4, .int .i64 q0, .int .i64 q1, .int .i64 q2, .int .i64 q3, .int .i64 q4, .int .i64 pk, .int .i64 sl, .int .u64 hd, .int .i64 tr, .slice A5 fr.length c5, .int .i64 ju] _ bs.range Tryd.underlying51 rfl (by kernel_rfl) ?_) | (refine wpList_store_mid rfl 51 (.tmp 2) (.tmp 34) rfl (w.heap.size + 1) 0 #[.slice A1 r.length c1, .slice A2 ks.length c2, .int .i64 s, .int .i64 t, .int .i64 f, .int .i64 l, .int .i64 p, .int .i64 0, .int .u64 ep, .slice A3 hz.length c3, .slice A4 0 c4, .int .i64 q0, .int .i64 q1, .int .i64 q2, .int .i64 q3, .int .i64 q4, .int .i64 pk, .int .i64 sl, .int .u64 hd, .int .i64 tr, .slice A5 fr.length c5, .int .i64 ju] (by rfl) (by rfl) (bo.there rfl) (by kernel_rfl) (by kernel_rfl) ?_))
  replace t1 := (show Tr ((w0.setCell ⟨w.heap.size, 7, none⟩ (.int .i64 0)).setCells (w.heap.size + 1) 0 [.slice A1 r.length c1, .slice A2 ks.length c2, .int .i64 s, .int .i64 t, .int .i64 f, .int .i64 l, .int .i64 p, .int .i64 0, .int .u64 ep, .slice A3 hz.length c3, .slice A4 0 c4, .int .i64 q0, .int .i64 q1, .int .i64 q2, .int .i64 q3, .int .i64 q4, .int .i64 pk, .int .i64 sl, .int .u64 hd, .int .i64 tr, .slice A5 fr.length c5, .int .i64 ju]) _ _ _ _ _ from by rw [putL_eq]; exact Tr.putL (by decide) _ 0 bo t1)
  replace t2 := (show Tr ((w0.setCell ⟨w.heap.size, 7, none⟩ (.int .i64 0)).setCells (w.heap.size + 1) 0 [.slice A1 r.length c1, .slice A2 ks.length c2, .int .i64 s, .int .i64 t, .int .i64 f, .int .i64 l, .int .i64 p, .int .i64 0, .int .u64 ep, .slice A3 hz.length c3, .slice A4 0 c4, .int .i64 q0, .int .i64 q1, .int .i64 q2, .int .i64 q3, .int .i64 q4, .int .i64 pk, .int .i64 sl, .int .u64 hd, .int .i64 tr, .slice A5 fr.length c5, .int .i64 ju]) _ _ _ _ _ from by rw [putL_eq]; exact Tr.putL (by decide) _ 0 bo t2)
  replace t3 := (show Tr ((w0.setCell ⟨w.heap.size, 7, none⟩ (.int .i64 0)).setCells (w.heap.size + 1) 0 [.slice A1 r.length c1, .slice A2 ks.length c2, .int .i64 s, .int .i64 t, .int .i64 f, .int .i64 l, .int .i64 p, .int .i64 0, .int .u64 ep, .slice A3 hz.length c3, .slice A4 0 c4, .int .i64 q0, .int .i64 q1, .int .i64 q2, .int .i64 q3, .int .i64 q4, .int .i64 pk, .int .i64 sl, .int .u64 hd, .int .i64 tr, .slice A5 fr.length c5, .int .i64 ju]) _ _ _ _ _ from by rw [putL_eq]; exact Tr.putL (by decide) _ 0 bo t3)
  replace t4 := (show Tr ((w0.setCell ⟨w.heap.size, 7, none⟩ (.int .i64 0)).setCells (w.heap.size + 1) 0 [.slice A1 r.length c1, .slice A2 ks.length c2, .int .i64 s, .int .i64 t, .int .i64 f, .int .i64 l, .int .i64 p, .int .i64 0, .int .u64 ep, .slice A3 hz.length c3, .slice A4 0 c4, .int .i64 q0, .int .i64 q1, .int .i64 q2, .int .i64 q3, .int .i64 q4, .int .i64 pk, .int .i64 sl, .int .u64 hd, .int .i64 tr, .slice A5 fr.length c5, .int .i64 ju]) _ _ _ _ _ from by rw [putL_eq]; exact Tr.putL (by decide) _ 0 bo t4)
  replace t5 := (show Tr ((w0.setCell ⟨w.heap.size, 7, none⟩ (.int .i64 0)).setCells (w.heap.size + 1) 0 [.slice A1 r.length c1, .slice A2 ks.length c2, .int .i64 s, .int .i64 t, .int .i64 f, .int .i64 l, .int .i64 p, .int .i64 0, .int .u64 ep, .slice A3 hz.length c3, .slice A4 0 c4, .int .i64 q0, .int .i64 q1, .int .i64 q2, .int .i64 q3, .int .i64 q4, .int .i64 pk, .int .i64 sl, .int .u64 hd, .int .i64 tr, .slice A5 fr.length c5, .int .i64 ju]) _ _ _ _ _ from by rw [putL_eq]; exact Tr.putL (by decide) _ 0 bo t5)
  replace B0 := (show Below w.heap.size w ((w0.setCell ⟨w.heap.size, 7, none⟩ (.int .i64 0)).setCells (w.heap.size + 1) 0 [.slice A1 r.length c1, .slice A2 ks.length c2, .int .i64 s, .int .i64 t, .int .i64 f, .int .i64 l, .int .i64 p, .int .i64 0, .int .u64 ep, .slice A3 hz.length c3, .slice A4 0 c4, .int .i64 q0, .int .i64 q1, .int .i64 q2, .int .i64 q3, .int .i64 q4, .int .i64 pk, .int .i64 sl, .int .u64 hd, .int .i64 tr, .slice A5 fr.length c5, .int .i64 ju]) from by rw [putL_eq]; exact Below.putL (by omega) _ _ 0 B0)
  replace bo := (show Blk ((w0.setCell ⟨w.heap.size, 7, none⟩ (.int .i64 0)).setCells (w.heap.size + 1) 0 [.slice A1 r.length c1, .slice A2 ks.length c2, .int .i64 s, .int .i64 t, .int .i64 f, .int .i64 l, .int .i64 p, .int .i64 0, .int .u64 ep, .slice A3 hz.length c3, .slice A4 0 c4, .int .i64 q0, .int .i64 q1, .int .i64 q2, .int .i64 q3, .int .i64 q4, .int .i64 pk, .int .i64 sl, .int .u64 hd, .int .i64 tr, .slice A5 fr.length c5, .int .i64 ju]) (w.heap.size + 1) 51 #[.slice A1 r.length c1, .slice A2 ks.length c2, .int .i64 s, .int .i64 t, .int .i64 f, .int .i64 l, .int .i64 p, .int .i64 0, .int .u64 ep, .slice A3 hz.length c3, .slice A4 0 c4, .int .i64 q0, .int .i64 q1, .int .i64 q2, .int .i64 q3, .int .i64 q4, .int .i64 pk, .int .i64 sl, .int .u64 hd, .int .i64 tr, .slice A5 fr.length c5, .int .i64 ju] from by rw [putL_eq]; have h9 := Blk.putL [.slice A1 r.length c1, .slice A2 ks.length c2, .int .i64 s, .int .i64 t, .int .i64 f, .int .i64 l, .int .i64 p, .int .i64 0, .int .u64 ep, .slice A3 hz.length c3, .slice A4 0 c4, .int .i64 q0, .int .i64 q1, .int .i64 q2, .int .i64 q3, .int .i64 q4, .int .i64 pk, .int .i64 sl, .int .u64 hd, .int .i64 tr, .slice A5 fr.length c5, .int .i64 ju] _ _ 0 bo; simpa only [setL, List.setIfInBounds_toArray, List.set_cons_zero, List.set_cons_succ] using h9)
  clear bs
  generalize (w0.setCell ⟨w.heap.size, 7, none⟩ (.int .i64 0)).setCells (w.heap.size + 1) 0 [.slice A1 r.length c1, .slice A2 ks.length c2, .int .i64 s, .int .i64 t, .int .i64 f, .int .i64 l, .int .i64 p, .int .i64 0, .int .u64 ep, .slice A3 hz.length c3, .slice A4 0 c4, .int .i64 q0, .int .i64 q1, .int .i64 q2, .int .i64 q3, .int .i64 q4, .int .i64 pk, .int .i64 sl, .int .u64 hd, .int .i64 tr, .slice A5 fr.length c5, .int .i64 ju] = w12 at *
  have hres : (loadVar 51 ⟨w.heap.size + 1, 0, none⟩).run Tryd.prog w12 = .ok (.agg #[.slice A1 r.length c1, .slice A2 ks.length c2, .int .i64 s, .int .i64 t, .int .i64 f, .int .i64 l, .int .i64 p, .int .i64 0, .int .u64 ep, .slice A3 hz.length c3, .slice A4 0 c4, .int .i64 q0, .int .i64 q1, .int .i64 q2, .int .i64 q3, .int .i64 q4, .int .i64 pk, .int .i64 sl, .int .u64 hd, .int .i64 tr, .slice A5 fr.length c5, .int .i64 ju]) w12 := run_loadVar_mid w12 _ 0 _ [.slice A1 r.length c1, .slice A2 ks.length c2, .int .i64 s, .int .i64 t, .int .i64 f, .int .i64 l, .int .i64 p, .int .i64 0, .int .u64 ep, .slice A3 hz.length c3, .slice A4 0 c4, .int .i64 q0, .int .i64 q1, .int .i64 q2, .int .i64 q3, .int .i64 q4, .int .i64 pk, .int .i64 sl, .int .u64 hd, .int .i64 tr, .slice A5 fr.length c5, .int .i64 ju] _ bo.range Tryd.underlying51 rfl (by kernel_rfl)
  refine bodyPost_ret (v := .agg #[.slice A1 r.length c1, .slice A2 ks.length c2, .int .i64 s, .int .i64 t, .int .i64 f, .int .i64 l, .int .i64 p, .int .i64 0, .int .u64 ep, .slice A3 hz.length c3, .slice A4 0 c4, .int .i64 q0, .int .i64 q1, .int .i64 q2, .int .i64 q3, .int .i64 q4, .int .i64 pk, .int .i64 sl, .int .u64 hd, .int .i64 tr, .slice A5 fr.length c5, .int .i64 ju]) (by simp [results, Tryd.results51, Act.put, asAddr, hres]) rfl ⟨⟨_, rfl, _, _, _, _, _, _, _, _, _, _, rfl, t1, t2, t3, t4, t5⟩, B0⟩
set_option linter.unusedSimpArgs false in
set_option maxRecDepth 100000 in
set_option maxHeartbeats 4000000 in
theorem snext_one [Inhabited GhT] (s t f l p k ep : Int) (r : List (Int × Int)) (ks hz : List Int) (td : List (Int × Bool)) (q0 q1 q2 q3 q4 pk sl hd tr : Int) (fr : List Int) (ju : Int) (h : Int) (kp : Bool) (v : Value) (w : World) (hv : SwV w s t f l p k ep r ks hz ((h, kp) :: td) q0 q1 q2 q3 q4 pk sl hd tr fr ju v) (hh : W64 h) (hs : 1 ≤ s ∧ s ≤ 1000) (ht : 1 ≤ t ∧ t ≤ 64) (hf : 4 ≤ f ∧ f ≤ 64) (h0 : 1 ≤ h % 65536) (h1 : h % 65536 ≤ s) :
    Calls Tryd.prog 51 #[v] w fun e w' => (∃ v', e = .returned v' ∧ SwV w' s t f l p 3 ep r ks hz ((h, kp) :: td) s t f l p 1 (h % 65536) 0 0 fr ju v') ∧ Below w.heap.size w w' := by
  obtain ⟨A1, c1, A2, c2, A3, c3, A4, c4, A5, c5, rfl, t1, t2, t3, t4, t5⟩ := hv
  have SL := hide (fun w2 => Slot_any h w2 hh)
  have NW := hide (fun w2 => psnew_yes s t f l p (h % 65536) w2 hs ht hf h0 h1)
  have DN := hide (fun w2 => psdone_1 s t f l p (h % 65536) 0 0 1 w2 rfl)
  clear hs ht hf h0 h1 hh
  generalize hq : h % 65536 = sw at *
  clear hq
  obtain ⟨m4, HM4⟩ : ∃ m, Hid (m = ((h, kp) :: td).length) := ⟨_, hide rfl⟩
  rw [← HM4.out] at t4
  have hm4 : (0 : Int) < (m4 : Int) := by rw [HM4.out, List.length_cons]; omega
  have hm4n : 0 < m4 := by omega
  obtain ⟨ad, rfl⟩ := t4.some_ hm4n
  rw [← HM4.out]
  have B0 := ((Below.refl w.heap.size w).alloc (Nat.le_refl _) (.cells #[.slice A1 r.length c1, .slice A2 ks.length c2, .int .i64 s, .int .i64 t, .int .i64 f, .int .i64 l, .int .i64 p, .int .i64 k, .int .u64 ep, .slice A3 hz.length c3, .slice (some ad) m4 c4, .int .i64 q0, .int .i64 q1, .int .i64 q2, .int .i64 q3, .int .i64 q4, .int .i64 pk, .int .i64 sl, .int .u64 hd, .int .i64 tr, .slice A5 fr.length c5, .int .i64 ju] 51)).alloc (by simp only [World.size_alloc]; omega) (.cells #[.slice none 0 0, .slice none 0 0, .int .i64 0, .int .i64 0, .int .i64 0, .int .i64 0, .int .i64 0, .int .i64 0, .int .u64 0, .slice none 0 0, .slice none 0 0, .int .i64 0, .int .i64 0, .int .i64 0, .int .i64 0, .int .i64 0, .int .i64 0, .int .i64 0, .int .u64 0, .int .i64 0, .slice none 0 0, .int .i64 0] 51)
  have bs := (Blk.new w 51 #[.slice A1 r.length c1, .slice A2 ks.length c2, .int .i64 s, .int .i64 t, .int .i64 f, .int .i64 l, .int .i64 p, .int .i64 k, .int .u64 ep, .slice A3 hz.length c3, .slice (some ad) m4 c4, .int .i64 q0, .int .i64 q1, .int .i64 q2, .int .i64 q3, .int .i64 q4, .int .i64 pk, .int .i64 sl, .int .u64 hd, .int .i64 tr, .slice A5 fr.length c5, .int .i64 ju]).alloc (.cells #[.slice none 0 0, .slice none 0 0, .int .i64 0, .int .i64 0, .int .i64 0, .int .i64 0, .int .i64 0, .int .i64 0, .int .u64 0, .slice none 0 0, .slice none 0 0, .int .i64 0, .int .i64 0, .int .i64 0, .int .i64 0, .int .i64 0, .int .i64 0, .int .i64 0, .int .u64 0, .int .i64 0, .slice none 0 0, .int .i64 0] 51)
  have bo := Blk.new (w.alloc (.cells #[.slice A1 r.length c1, .slice A2 ks.length c2, .int .i64 s, .int .i64 t, .int .i64 f, .int .i64 l, .int .i64 p, .int .i64 k, .int .u64 ep, .slice A3 hz.length c3, .slice (some ad) m4 c4, .int .i64 q0, .int .i64 q1, .int .i64 q2, .int .i64 q3, .int .i64 q4, .int .i64 pk, .int .i64 sl, .int .u64 hd, .int .i64 tr, .slice A5 fr.length c5, .int .i64 ju] 51)) 51 #[.slice none 0 0, .slice none 0 0, .int .i64 0, .int .i64 0, .int .i64 0, .int .i64 0, .int .i64 0, .int .i64 0, .int .u64 0, .slice none 0 0, .slice none 0 0, .int .i64 0, .int .i64 0, .int .i64 0, .int .i64 0, .int .i64 0, .int .i64 0, .int .i64 0, .int .u64 0, .int .i64 0, .slice none 0 0, .int .i64 0]
  simp only [World.size_alloc] at bo
  replace t1 := (t1.alloc (.cells #[.slice A1 r.length c1, .slice A2 ks.length c2, .int .i64 s, .int .i64 t, .int .i64 f, .int .i64 l, .int .i64 p, .int .i64 k, .int .u64 ep, .slice A3 hz.length c3, .slice (some ad) m4 c4, .int .i64 q0, .int .i64 q1, .int .i64 q2, .int .i64 q3, .int .i64 q4, .int .i64 pk, .int .i64 sl, .int .u64 hd, .int .i64 tr, .slice A5 fr.length c5, .int .i64 ju] 51)).alloc (.cells #[.slice none 0 0, .slice none 0 0, .int .i64 0, .int .i64 0, .int .i64 0, .int .i64 0, .int .i64 0, .int .i64 0, .int .u64 0, .slice none 0 0, .slice none 0 0, .int .i64 0, .int .i64 0, .int .i64 0, .int .i64 0, .int .i64 0, .int .i64 0, .int .i64 0, .int .u64 0, .int .i64 0, .slice none 0 0, .int .i64 0] 51)
  replace t2 := (t2.alloc (.cells #[.slice A1 r.length c1, .slice A2 ks.length c2, .int .i64 s, .int .i64 t, .int .i64 f, .int .i64 l, .int .i64 p, .int .i64 k, .int .u64 ep, .slice A3 hz.length c3, .slice (some ad) m4 c4, .int .i64 q0, .int .i64 q1, .int .i64 q2, .int .i64 q3, .int .i64 q4, .int .i64 pk, .int .i64 sl, .int .u64 hd, .int .i64 tr, .slice A5 fr.length c5, .int .i64 ju] 51)).alloc (.cells #[.slice none 0 0, .slice none 0 0, .int .i64 0, .int .i64 0, .int .i64 0, .int .i64 0, .int .i64 0, .int .i64 0, .int .u64 0, .slice none 0 0, .slice none 0 0, .int .i64 0, .int .i64 0, .int .i64 0, .int .i64 0, .int .i64 0, .int .i64 0, .int .i64 0, .int .u64 0, .int .i64 0, .slice none 0 0, .int .i64 0] 51)
  replace t3 := (t3.alloc (.cells #[.slice A1 r.length c1, .slice A2 ks.length c2, .int .i64 s, .int .i64 t, .int .i64 f, .int .i64 l, .int .i64 p, .int .i64 k, .int .u64 ep, .slice A3 hz.length c3, .slice (some ad) m4 c4, .int .i64 q0, .int .i64 q1, .int .i64 q2, .int .i64 q3, .int .i64 q4, .int .i64 pk, .int .i64 sl, .int .u64 hd, .int .i64 tr, .slice A5 fr.length c5, .int .i64 ju] 51)).alloc (.cells #[.slice none 0 0, .slice none 0 0, .int .i64 0, .int .i64 0, .int .i64 0, .int .i64 0, .int .i64 0, .int .i64 0, .int .u64 0, .slice none 0 0, .slice none 0 0, .int .i64 0, .int .i64 0, .int .i64 0, .int .i64 0, .int .i64 0, .int .i64 0, .int .i64 0, .int .u64 0, .int .i64 0, .slice none 0 0, .int .i64 0] 51)
  replace t4 := (t4.alloc (.cells #[.slice A1 r.length c1, .slice A2 ks.length c2, .int .i64 s, .int .i64 t, .int .i64 f, .int .i64 l, .int .i64 p, .int .i64 k, .int .u64 ep, .slice A3 hz.length c3, .slice (some ad) m4 c4, .int .i64 q0, .int .i64 q1, .int .i64 q2, .int .i64 q3, .int .i64 q4, .int .i64 pk, .int .i64 sl, .int .u64 hd, .int .i64 tr, .slice A5 fr.length c5, .int .i64 ju] 51)).alloc (.cells #[.slice none 0 0, .slice none 0 0, .int .i64 0, .int .i64 0, .int .i64 0, .int .i64 0, .int .i64 0, .int .i64 0, .int .u64 0, .slice none 0 0, .slice none 0 0, .int .i64 0, .int .i64 0, .int .i64 0, .int .i64 0, .int .i64 0, .int .i64 0, .int .i64 0, .int .u64 0, .int .i64 0, .slice none 0 0, .int .i64 0] 51)
  replace t5 := (t5.alloc (.cells #[.slice A1 r.length c1, .slice A2 ks.length c2, .int .i64 s, .int .i64 t, .int .i64 f, .int .i64 l, .int .i64 p, .int .i64 k, .int .u64 ep, .slice A3 hz.length c3, .slice (some ad) m4 c4, .int .i64 q0, .int .i64 q1, .int .i64 q2, .int .i64 q3, .int .i64 q4, .int .i64 pk, .int .i64 sl, .int .u64 hd, .int .i64 tr, .slice A5 fr.length c5, .int .i64 ju] 51)).alloc (.cells #[.slice none 0 0, .slice none 0 0, .int .i64 0, .int .i64 0, .int .i64 0, .int .i64 0, .int .i64 0, .int .i64 0, .int .u64 0, .slice none 0 0, .slice none 0 0, .int .i64 0, .int .i64 0, .int .i64 0, .int .i64 0, .int .i64 0, .int .i64 0, .int .i64 0, .int .u64 0, .int .i64 0, .slice none 0 0, .int .i64 0] 51)
  go_enter Tryd.func51, Tryd.ntmps51
  go_wp2_with fail
  generalize (w.alloc (.cells #[.slice A1 r.length c1, .slice A2 ks.length c2, .int .i64 s, .int .i64 t, .int .i64 f, .int .i64 l, .int .i64 p, .int .i64 k, .int .u64 ep, .slice A3 hz.length c3, .slice (some ad) m4 c4, .int .i64 q0, .int .i64 q1, .int .i64 q2, .int .i64 q3, .int .i64 q4, .int .i64 pk, .int .i64 sl, .int .u64 hd, .int .i64 tr, .slice A5 fr.length c5, .int .i64 ju] 51)).alloc (.cells #[.slice none 0 0, .slice none 0 0, .int .i64 0, .int .i64 0, .int .i64 0, .int .i64 0, .int .i64 0, .int .i64 0, .int .u64 0, .slice none 0 0, .slice none 0 0, .int .i64 0, .int .i64 0, .int .i64 0, .int .i64 0, .int .i64 0, .int .i64 0, .int .i64 0, .int .u64 0, .int .i64 0, .slice none 0 0, .int .i64 0] 51) = w0 at *
  have ms := fun i => bs.cell i
  have zs := fun i => bs.frozen i
  go_wp2_with fail
  refine wp_loop_once ?_
  go_wp2_with fail
  refine wp_region_heldZ [10] (fun w' => w'.cell? ⟨w.heap.size, 2, none⟩ = some (.int .i64 s) ∧ w'.cell? ⟨w.heap.size, 3, none⟩ = some (.int .i64 t) ∧ w'.cell? ⟨w.heap.size, 4, none⟩ = some (.int .i64 f) ∧ w'.cell? ⟨w.heap.size, 5, none⟩ = some (.int .i64 l) ∧ w'.cell? ⟨w.heap.size, 6, none⟩ = some (.int .i64 p) ∧ w'.cell? ⟨w.heap.size, 10, none⟩ = some (.slice (some ad) m4 c4) ∧ w'.cell? ad = some (.int .u64 h)) (by kernel_rfl) (by exact ⟨bs.cell 2, bs.cell 3, bs.cell 4, bs.cell 5, bs.cell 6, bs.cell 10, t4.first⟩) (fun hHeld => ?_)
  replace t1 := t1.drew
  replace t2 := t2.drew
  replace t3 := t3.drew
  replace t4 := t4.drew
  replace t5 := t5.drew
  replace bs := bs.drew
  replace bo := bo.drew
  replace B0 := B0.drew
  generalize w0.drew = wd at *
  clear ms
  refine' wpAnyZ_takeA (i := 0) (v := ?_) (opAt rfl) (by kernel_rfl) (by kernel_rfl) (by kernel_rfl) (by kernel_rfl) (fun _ _ _ h => h) (by assumption) (by rfl) (fun w hSw => ?_) ?_
  rotate_left
  · (try dsimp only at hSw); go_simp; (try with_reducible rfl)
  try simp only [Act.put, List.setIfInBounds_toArray, List.set_cons_zero, List.set_cons_succ]
  refine' wpAnyZ_takeA (i := 1) (v := ?_) (opAt rfl) (by kernel_rfl) (by kernel_rfl) (by kernel_rfl) (by kernel_rfl) (fun _ _ _ h => h) (by assumption) (by rfl) (fun w hSw => ?_) ?_
  rotate_left
  · (try dsimp only at hSw); go_simp; (try with_reducible rfl)
  try simp only [Act.put, List.setIfInBounds_toArray, List.set_cons_zero, List.set_cons_succ]
  refine' wpAnyZ_takeA (i := 2) (v := ?_) (opAt rfl) (by kernel_rfl) (by kernel_rfl) (by kernel_rfl) (by kernel_rfl) (fun _ _ _ h => h) (by assumption) (by rfl) (fun w hSw => ?_) ?_
  rotate_left
  · (try dsimp only at hSw); go_simp; (try with_reducible rfl)
  try simp only [Act.put, List.setIfInBounds_toArray, List.set_cons_zero, List.set_cons_succ]
  refine' wpAnyZ_takeA (i := 3) (v := ?_) (opAt rfl) (by kernel_rfl) (by kernel_rfl) (by kernel_rfl) (by kernel_rfl) (fun _ _ _ h => h) (by assumption) (by rfl) (fun w hSw => ?_) ?_
  rotate_left
  · (try dsimp only at hSw); go_simp; (try with_reducible rfl)
  try simp only [Act.put, List.setIfInBounds_toArray, List.set_cons_zero, List.set_cons_succ]
  refine' wpAnyZ_takeA (i := 4) (v := ?_) (opAt rfl) (by kernel_rfl) (by kernel_rfl) (by kernel_rfl) (by kernel_rfl) (fun _ _ _ h => h) (by assumption) (by rfl) (fun w hSw => ?_) ?_
  rotate_left
  · (try dsimp only at hSw); go_simp; (try with_reducible rfl)
  try simp only [Act.put, List.setIfInBounds_toArray, List.set_cons_zero, List.set_cons_succ]
  refine' wpAnyZ_takeA (i := 5) (v := ?_) (opAt rfl) (by kernel_rfl) (by kernel_rfl) (by kernel_rfl) (by kernel_rfl) (fun _ _ _ h => h) (by assumption) (by rfl) (fun w hSw => ?_) ?_
  rotate_left
  · (try dsimp only at hSw); go_simp; (try with_reducible rfl)
  try simp only [Act.put, List.setIfInBounds_toArray, List.set_cons_zero, List.set_cons_succ]
  refine' wpAnyZ_takeA (i := 6) (v := ?_) (opAt rfl) (by kernel_rfl) (by kernel_rfl) (by kernel_rfl) (by kernel_rfl) (fun _ _ _ h => h) (by assumption) (by rfl) (fun w hSw => ?_) ?_
  rotate_left
  · (try dsimp only at hSw); go_simp; (try with_reducible rfl)
  try simp only [Act.put, List.setIfInBounds_toArray, List.set_cons_zero, List.set_cons_succ]
  refine wpAnyZ_ready (rs := [7]) (by kernel_rfl) (by simp) ?_
  refine AllReadyZ.cons (opAt rfl) (fun K hK => ?_) ?_
  · skip
    go_simp
    refine (SL.out _).mono ?_
    rintro e w' ⟨rfl, rfl⟩
    try go_wp2_with fail
    refine hK.out _ _ (by exact ⟨bs.cell 2, bs.cell 3, bs.cell 4, bs.cell 5, bs.cell 6, bs.cell 10, t4.first⟩) (fun hHeld => ?_)
    clear hK K
    try simp only [Act.put, List.setIfInBounds_toArray, List.set_cons_zero, List.set_cons_succ]
    refine wpAnyZ_ready (rs := [8]) (by kernel_rfl) (by simp) ?_
    refine AllReadyZ.cons (opAt rfl) (fun K hK => ?_) ?_
    · skip
      go_simp
      refine (NW.out _).mono ?_
      rintro e w1 ⟨rfl, hb⟩
      replace t1 := t1.below (Nat.le_refl _) hb
      replace t2 := t2.below (Nat.le_refl _) hb
      replace t3 := t3.below (Nat.le_refl _) hb
      replace t4 := t4.below (Nat.le_refl _) hb
      replace t5 := t5.below (Nat.le_refl _) hb
      replace bs := bs.below hb bs.lt
      replace bo := bo.below hb bo.lt
      replace B0 := B0.trans (hb.mono B0.size)
      clear hb
      try go_wp2_with fail
      refine hK.out _ _ (by exact ⟨bs.cell 2, bs.cell 3, bs.cell 4, bs.cell 5, bs.cell 6, bs.cell 10, t4.first⟩) (fun hHeld => ?_)
      clear hK K
      try simp only [Act.put, List.setIfInBounds_toArray, List.set_cons_zero, List.set_cons_succ]
      refine' wpAnyZ_takeA (i := 9) (v := ?_) (opAt rfl) (by kernel_rfl) (by kernel_rfl) (by kernel_rfl) (by kernel_rfl) (fun _ _ _ h => h) (by assumption) (by rfl) (fun w hSw => ?_) ?_
      rotate_left
      · (try dsimp only at hSw); go_simp; (try with_reducible rfl)
      try simp only [Act.put, List.setIfInBounds_toArray, List.set_cons_zero, List.set_cons_succ]
      refine wpAnyZ_ready (rs := [10]) (by kernel_rfl) (by simp) ?_
      refine AllReadyZ.last (opAt rfl) (by kernel_rfl) (fun K hK => ?_) ?_
      · skip
        refine wp_store_mid 49 (.tmp 16) (.tmp 15) rfl w.heap.size 11 #[.int .i64 s, .int .i64 t, .int .i64 f, .int .i64 l, .int .i64 p, .int .i64 1, .int .i64 sw, .int .u64 0, .int .i64 0] (by rfl) (by rfl) (bs.thereO 11 (show 11 + 9 ≤ 22 by omega)) (by kernel_rfl) (by kernel_rfl) ?_
        refine hK.out _ _ ?_
        clear hK K
        try simp only [Act.put, List.setIfInBounds_toArray, List.set_cons_zero, List.set_cons_succ]
        refine wpAnyZ_done (by kernel_rfl) ?_ _
        replace t1 := (show Tr (w1.setCells w.heap.size 11 [.int .i64 s, .int .i64 t, .int .i64 f, .int .i64 l, .int .i64 p, .int .i64 1, .int .i64 sw, .int .u64 0, .int .i64 0]) _ _ _ _ _ from by rw [putL_eq]; exact Tr.putL (by decide) _ 11 bs t1)
        replace t2 := (show Tr (w1.setCells w.heap.size 11 [.int .i64 s, .int .i64 t, .int .i64 f, .int .i64 l, .int .i64 p, .int .i64 1, .int .i64 sw, .int .u64 0, .int .i64 0]) _ _ _ _ _ from by rw [putL_eq]; exact Tr.putL (by decide) _ 11 bs t2)
        replace t3 := (show Tr (w1.setCells w.heap.size 11 [.int .i64 s, .int .i64 t, .int .i64 f, .int .i64 l, .int .i64 p, .int .i64 1, .int .i64 sw, .int .u64 0, .int .i64 0]) _ _ _ _ _ from by rw [putL_eq]; exact Tr.putL (by decide) _ 11 bs t3)
        replace t4 := (show Tr (w1.setCells w.heap.size 11 [.int .i64 s, .int .i64 t, .int .i64 f, .int .i64 l, .int .i64 p, .int .i64 1, .int .i64 sw, .int .u64 0, .int .i64 0]) _ _ _ _ _ from by rw [putL_eq]; exact Tr.putL (by decide) _ 11 bs t4)
        replace t5 := (show Tr (w1.setCells w.heap.size 11 [.int .i64 s, .int .i64 t, .int .i64 f, .int .i64 l, .int .i64 p, .int .i64 1, .int .i64 sw, .int .u64 0, .int .i64 0]) _ _ _ _ _ from by rw [putL_eq]; exact Tr.putL (by decide) _ 11 bs t5)
        replace bo := (show Blk (w1.setCells w.heap.size 11 [.int .i64 s, .int .i64 t, .int .i64 f, .int .i64 l, .int .i64 p, .int .i64 1, .int .i64 sw, .int .u64 0, .int .i64 0]) _ _ _ from by rw [putL_eq]; exact Blk.offL (by omega) _ _ 11 bo)
        replace B0 := (show Below w.heap.size w (w1.setCells w.heap.size 11 [.int .i64 s, .int .i64 t, .int .i64 f, .int .i64 l, .int .i64 p, .int .i64 1, .int .i64 sw, .int .u64 0, .int .i64 0]) from by rw [putL_eq]; exact Below.putL (Nat.le_refl _) _ _ 11 B0)
        replace bs := (show Blk (w1.setCells w.heap.size 11 [.int .i64 s, .int .i64 t, .int .i64 f, .int .i64 l, .int .i64 p, .int .i64 1, .int .i64 sw, .int .u64 0, .int .i64 0]) w.heap.size 51 #[.slice A1 r.length c1, .slice A2 ks.length c2, .int .i64 s, .int .i64 t, .int .i64 f, .int .i64 l, .int .i64 p, .int .i64 k, .int .u64 ep, .slice A3 hz.length c3, .slice (some ad) m4 c4, .int .i64 s, .int .i64 t, .int .i64 f, .int .i64 l, .int .i64 p, .int .i64 1, .int .i64 sw, .int .u64 0, .int .i64 0, .slice A5 fr.length c5, .int .i64 ju] from by rw [putL_eq]; have h9 := Blk.putL [.int .i64 s, .int .i64 t, .int .i64 f, .int .i64 l, .int .i64 p, .int .i64 1, .int .i64 sw, .int .u64 0, .int .i64 0] _ _ 11 bs; simpa only [setL, List.setIfInBounds_toArray, List.set_cons_zero, List.set_cons_succ] using h9)
        clear hHeld zs
        generalize w1.setCells w.heap.size 11 [.int .i64 s, .int .i64 t, .int .i64 f, .int .i64 l, .int .i64 p, .int .i64 1, .int .i64 sw, .int .u64 0, .int .i64 0] = w2 at *
        have zs := fun i => bs.frozen i
        have RP := bs.rangeO 11 [.int .i64 s, .int .i64 t, .int .i64 f, .int .i64 l, .int .i64 p, .int .i64 1, .int .i64 sw, .int .u64 0, .int .i64 0] (fun j v hv => by have : j < 9 := (List.getElem?_eq_some_iff.1 hv).1; match j, this, hv with | 0, _, h => exact h | 1, _, h => exact h | 2, _, h => exact h | 3, _, h => exact h | 4, _, h => exact h | 5, _, h => exact h | 6, _, h => exact h | 7, _, h => exact h | 8, _, h => exact h)
        go_wp2_with (first | (refine wpList_load_mid rfl 49 (.tmp 17) rfl w.heap.size 11 (by rfl) [.int .i64 s, .int .i64 t, .int .i64 f, .int .i64 l, .int .i64 p, .int .i64 1, .int .i64 sw, .int .u64 0, .int .i64 0] _ RP Tryd.underlying49 rfl (by kernel_rfl) ?_))
        refine (DN.out _).mono ?_
        rintro e w3 ⟨rfl, hb⟩
        replace t1 := t1.below (Nat.le_refl _) hb
        replace t2 := t2.below (Nat.le_refl _) hb
        replace t3 := t3.below (Nat.le_refl _) hb
        replace t4 := t4.below (Nat.le_refl _) hb
        replace t5 := t5.below (Nat.le_refl _) hb
        replace bs := bs.below hb bs.lt
        replace bo := bo.below hb bo.lt
        replace B0 := B0.trans (hb.mono B0.size)
        clear hb zs RP
        have zs := fun i => bs.frozen i
        have ms := fun i => bs.cell i
        replace t1 := t1.set_ bs (by decide) 7 (.int .i64 3)
        replace t2 := t2.set_ bs (by decide) 7 (.int .i64 3)
        replace t3 := t3.set_ bs (by decide) 7 (.int .i64 3)
        replace t4 := t4.set_ bs (by decide) 7 (.int .i64 3)
        replace t5 := t5.set_ bs (by decide) 7 (.int .i64 3)
        replace bo := bo.far (p := ⟨w.heap.size, 7, none⟩) (by show w.heap.size + 1 ≠ w.heap.size; omega) (.int .i64 3)
        replace B0 := B0.setCell (p := ⟨w.heap.size, 7, none⟩) (Nat.le_refl _) (.int .i64 3)
        replace bs := bs.set_ 7 (.int .i64 3)
        simp only [List.setIfInBounds_toArray, List.set_cons_zero, List.set_cons_succ] at bs
        go_wp2_with (first | (refine wpList_load_mid rfl 51 (.tmp 1) rfl w.heap.size 0 (by rfl) [.slice A1 r.length c1, .slice A2 ks.length c2, .int .i64 s, .int .i64 t, .int .i64 f, .int .i64 l, .int .i64 p, .int .i64 3, .int .u64 ep, .slice A3 hz.length c3, .slice (some ad) m4 c4, .int .i64 s, .int .i64 t, .int .i64 f, .int .i64 l, .int .i64 p, .int .i64 1, .int .i64 sw, .int .u64 0, .int .i64 0, .slice A5 fr.length c5, .int .i64 ju] _ bs.range Tryd.underlying51 rfl (by kernel_rfl) ?_) | (refine wpList_store_mid rfl 51 (.tmp 2) (.tmp 22) rfl (w.heap.size + 1) 0 #[.slice A1 r.length c1, .slice A2 ks.length c2, .int .i64 s, .int .i64 t, .int .i64 f, .int .i64 l, .int .i64 p, .int .i64 3, .int .u64 ep, .slice A3 hz.length c3, .slice (some ad) m4 c4, .int .i64 s, .int .i64 t, .int .i64 f, .int .i64 l, .int .i64 p, .int .i64 1, .int .i64 sw, .int .u64 0, .int .i64 0, .slice A5 fr.length c5, .int .i64 ju] (by rfl) (by rfl) (bo.there rfl) (by kernel_rfl) (by kernel_rfl) ?_))
        replace t1 := (show Tr ((w3.setCell ⟨w.heap.size, 7, none⟩ (.int .i64 3)).setCells (w.heap.size + 1) 0 [.slice A1 r.length c1, .slice A2 ks.length c2, .int .i64 s, .int .i64 t, .int .i64 f, .int .i64 l, .int .i64 p, .int .i64 3, .int .u64 ep, .slice A3 hz.length c3, .slice (some ad) m4 c4, .int .i64 s, .int .i64 t, .int .i64 f, .int .i64 l, .int .i64 p, .int .i64 1, .int .i64 sw, .int .u64 0, .int .i64 0, .slice A5 fr.length c5, .int .i64 ju]) _ _ _ _ _ from by rw [putL_eq]; exact Tr.putL (by decide) _ 0 bo t1)
        replace t2 := (show Tr ((w3.setCell ⟨w.heap.size, 7, none⟩ (.int .i64 3)).setCells (w.heap.size + 1) 0 [.slice A1 r.length c1, .slice A2 ks.length c2, .int .i64 s, .int .i64 t, .int .i64 f, .int .i64 l, .int .i64 p, .int .i64 3, .int .u64 ep, .slice A3 hz.length c3, .slice (some ad) m4 c4, .int .i64 s, .int .i64 t, .int .i64 f, .int .i64 l, .int .i64 p, .int .i64 1, .int .i64 sw, .int .u64 0, .int .i64 0, .slice A5 fr.length c5, .int .i64 ju]) _ _ _ _ _ from by rw [putL_eq]; exact Tr.putL (by decide) _ 0 bo t2)
        replace t3 := (show Tr ((w3.setCell ⟨w.heap.size, 7, none⟩ (.int .i64 3)).setCells (w.heap.size + 1) 0 [.slice A1 r.length c1, .slice A2 ks.length c2, .int .i64 s, .int .i64 t, .int .i64 f, .int .i64 l, .int .i64 p, .int .i64 3, .int .u64 ep, .slice A3 hz.length c3, .slice (some ad) m4 c4, .int .i64 s, .int .i64 t, .int .i64 f, .int .i64 l, .int .i64 p, .int .i64 1, .int .i64 sw, .int .u64 0, .int .i64 0, .slice A5 fr.length c5, .int .i64 ju]) _ _ _ _ _ from by rw [putL_eq]; exact Tr.putL (by decide) _ 0 bo t3)
        replace t4 := (show Tr ((w3.setCell ⟨w.heap.size, 7, none⟩ (.int .i64 3)).setCells (w.heap.size + 1) 0 [.slice A1 r.length c1, .slice A2 ks.length c2, .int .i64 s, .int .i64 t, .int .i64 f, .int .i64 l, .int .i64 p, .int .i64 3, .int .u64 ep, .slice A3 hz.length c3, .slice (some ad) m4 c4, .int .i64 s, .int .i64 t, .int .i64 f, .int .i64 l, .int .i64 p, .int .i64 1, .int .i64 sw, .int .u64 0, .int .i64 0, .slice A5 fr.length c5, .int .i64 ju]) _ _ _ _ _ from by rw [putL_eq]; exact Tr.putL (by decide) _ 0 bo t4)
        replace t5 := (show Tr ((w3.setCell ⟨w.heap.size, 7, none⟩ (.int .i64 3)).setCells (w.heap.size + 1) 0 [.slice A1 r.length c1, .slice A2 ks.length c2, .int .i64 s, .int .i64 t, .int .i64 f, .int .i64 l, .int .i64 p, .int .i64 3, .int .u64 ep, .slice A3 hz.length c3, .slice (some ad) m4 c4, .int .i64 s, .int .i64 t, .int .i64 f, .int .i64 l, .int .i64 p, .int .i64 1, .int .i64 sw, .int .u64 0, .int .i64 0, .slice A5 fr.length c5, .int .i64 ju]) _ _ _ _ _ from by rw [putL_eq]; exact Tr.putL (by decide) _ 0 bo t5)
        replace B0 := (show Below w.heap.size w ((w3.setCell ⟨w.heap.size, 7, none⟩ (.int .i64 3)).setCells (w.heap.size + 1) 0 [.slice A1 r.length c1, .slice A2 ks.length c2, .int .i64 s, .int .i64 t, .int .i64 f, .int .i64 l, .int .i64 p, .int .i64 3, .int .u64 ep, .slice A3 hz.length c3, .slice (some ad) m4 c4, .int .i64 s, .int .i64 t, .int .i64 f, .int .i64 l, .int .i64 p, .int .i64 1, .int .i64 sw, .int .u64 0, .int .i64 0, .slice A5 fr.length c5, .int .i64 ju]) from by rw [putL_eq]; exact Below.putL (by omega) _ _ 0 B0)
        replace bo := (show Blk ((w3.setCell ⟨w.heap.size, 7, none⟩ (.int .i64 3)).setCells (w.heap.size + 1) 0 [.slice A1 r.length c1, .slice A2 ks.length c2, .int .i64 s, .int .i64 t, .int .i64 f, .int .i64 l, .int .i64 p, .int .i64 3, .int .u64 ep, .slice A3 hz.length c3, .slice (some ad) m4 c4, .int .i64 s, .int .i64 t, .int .i64 f, .int .i64 l, .int .i64 p, .int .i64 1, .int .i64 sw, .int .u64 0, .int .i64 0, .slice A5 fr.length c5, .int .i64 ju]) (w.heap.size + 1) 51 #[.slice A1 r.length c1, .slice A2 ks.length c2, .int .i64 s, .int .i64 t, .int .i64 f, .int .i64 l, .int .i64 p, .int .i64 3, .int .u64 ep, .slice A3 hz.length c3, .slice (some ad) m4 c4, .int .i64 s, .int .i64 t, .int .i64 f, .int .i64 l, .int .i64 p, .int .i64 1, .int .i64 sw, .int .u64 0, .int .i64 0, .slice A5 fr.length c5, .int .i64 ju] from by rw [putL_eq]; have h9 := Blk.putL [.slice A1 r.length c1, .slice A2 ks.length c2, .int .i64 s, .int .i64 t, .int .i64 f, .int .i64 l, .int .i64 p, .int .i64 3, .int .u64 ep, .slice A3 hz.length c3, .slice (some ad) m4 c4, .int .i64 s, .int .i64 t, .int .i64 f, .int .i64 l, .int .i64 p, .int .i64 1, .int .i64 sw, .int .u64 0, .int .i64 0, .slice A5 fr.length c5, .int .i64 ju] _ _ 0 bo; simpa only [setL, List.setIfInBounds_toArray, List.set_cons_zero, List.set_cons_succ] using h9)
        clear bs
        generalize (w3.setCell ⟨w.heap.size, 7, none⟩ (.int .i64 3)).setCells (w.heap.size + 1) 0 [.slice A1 r.length c1, .slice A2 ks.length c2, .int .i64 s, .int .i64 t, .int .i64 f, .int .i64 l, .int .i64 p, .int .i64 3, .int .u64 ep, .slice A3 hz.length c3, .slice (some ad) m4 c4, .int .i64 s, .int .i64 t, .int .i64 f, .int .i64 l, .int .i64 p, .int .i64 1, .int .i64 sw, .int .u64 0, .int .i64 0, .slice A5 fr.length c5, .int .i64 ju] = w12 at *
        have hres : (loadVar 51 ⟨w.heap.size + 1, 0, none⟩).run Tryd.prog w12 = .ok (.agg #[.slice A1 r.length c1, .slice A2 ks.length c2, .int .i64 s, .int .i64 t, .int .i64 f, .int .i64 l, .int .i64 p, .int .i64 3, .int .u64 ep, .slice A3 hz.length c3, .slice (some ad) m4 c4, .int .i64 s, .int .i64 t, .int .i64 f, .int .i64 l, .int .i64 p, .int .i64 1, .int .i64 sw, .int .u64 0, .int .i64 0, .slice A5 fr.length c5, .int .i64 ju]) w12 := run_loadVar_mid w12 _ 0 _ [.slice A1 r.length c1, .slice A2 ks.length c2, .int .i64 s, .int .i64 t, .int .i64 f, .int .i64 l, .int .i64 p, .int .i64 3, .int .u64 ep, .slice A3 hz.length c3, .slice (some ad) m4 c4, .int .i64 s, .int .i64 t, .int .i64 f, .int .i64 l, .int .i64 p, .int .i64 1, .int .i64 sw, .int .u64 0, .int .i64 0, .slice A5 fr.length c5, .int .i64 ju] _ bo.range Tryd.underlying51 rfl (by kernel_rfl)
        refine bodyPost_ret (v := .agg #[.slice A1 r.length c1, .slice A2 ks.length c2, .int .i64 s, .int .i64 t, .int .i64 f, .int .i64 l, .int .i64 p, .int .i64 3, .int .u64 ep, .slice A3 hz.length c3, .slice (some ad) m4 c4, .int .i64 s, .int .i64 t, .int .i64 f, .int .i64 l, .int .i64 p, .int .i64 1, .int .i64 sw, .int .u64 0, .int .i64 0, .slice A5 fr.length c5, .int .i64 ju]) (by simp [results, Tryd.results51, Act.put, asAddr, hres]) rfl (by have hm := HM4.out; subst hm; exact ⟨⟨_, rfl, _, _, _, _, _, _, _, _, _, _, rfl, t1, t2, t3, t4, t5⟩, B0⟩)
      exact AllReadyZ.nil
    exact AllReadyZ.nil
  exact AllReadyZ.nil
end Go.Proofs.YtokcbipmocpllaaDoor

/-
  A map from words to bools that the call itself makes: what stands at a key, behind a store.
-/
namespace Go.Proofs.YtokcbipmocpllaaDoor
open Go.RowKit Go.Maps

theorem lawU64 : Keyed Tryd.prog 29 := int_keyed Tryd.underlying29
theorem zeroBool (w : World) : (zeroValue 4).run Tryd.prog w = .ok (.bool false) w := by kernel_rfl

theorem plainElem_bool_inv {H : Type} {P : Program} {e : TypeId} (he : P.underlying e = some .bool) {v : Value} {z : DataW H × List MemPlace} (h : plainElem P e v = some z) : ∃ a, v = .bool a ∧ z = (.lit (.bool a), []) := by
  unfold plainElem at h
  rw [he] at h
  cases v <;> simp at h
  exact ⟨_, rfl, h.symm⟩

/-- Block b is a map of at most n entries that answers f. -/
def MapIs (w : World) (b n : Nat) (f : Int → Bool) : Prop :=
  ∃ D : DataW Unit, IsMap D ∧ w.ownsMap Tryd.prog 29 (plainElem Tryd.prog 4) b n D ∧ ∀ k : Int, (Lit.int .u64 k).wf = true → D.atKey (.int .u64 k) (.lit (.bool false)) = .lit (.bool (f k))

theorem MapIs.made (w : World) : MapIs (w.alloc (.map #[] 0)) w.heap.size 0 (fun _ => false) :=
  ⟨.map [], ⟨[], rfl⟩, World.ownsMap_made _ _ _ _, fun _ _ => rfl⟩
theorem MapIs.below {w w' : World} {b n : Nat} {f : Int → Bool} (h : MapIs w b n f) (hb : Below w.heap.size w w') : MapIs w' b n f := by
  obtain ⟨D, hi, ho, ha⟩ := h
  exact ⟨D, hi, ho.kept (row := none) ⟨hb.os, hb.tape, hb.output, hb.size, fun k hk _ => hb.block k hk⟩ (by simp), ha⟩
theorem MapIs.below' {w w' : World} {b n B : Nat} {f : Int → Bool} (h : MapIs w b n f) (hB : b < B) (hb : Below B w w') : MapIs w' b n f := by
  obtain ⟨D, hi, ⟨es, cl, hh, r⟩, ha⟩ := h
  exact ⟨D, hi, ⟨es, cl, (hb.block b hB).trans hh, r⟩, ha⟩
theorem MapIs.alloc {w : World} {b n : Nat} {f : Int → Bool} (h : MapIs w b n f) (o : Obj) : MapIs (w.alloc o) b n f := by
  obtain ⟨D, hi, ho, ha⟩ := h
  exact ⟨D, hi, ho.alloc o, ha⟩
theorem MapIs.lt {w : World} {b n : Nat} {f : Int → Bool} (h : MapIs w b n f) : b < w.heap.size := by
  obtain ⟨D, hi, ho, ha⟩ := h
  exact ho.lt

theorem MapIs.look {w : World} {b n : Nat} {f : Int → Bool} (h : MapIs w b n f) (x : Int) (hx : (Lit.int .u64 x).wf = true) :
    (Instr.lookup 122 (.map (some b)) (.int .u64 x) false).run Tryd.prog w = .ok (.bool (f x)) w := by
  obtain ⟨D, hi, ho, ha⟩ := h
  obtain ⟨v, ps, hrun, hv⟩ := ho.lookup lawU64 Tryd.underlying122 (zeroBool w) (plainElem_bool Tryd.underlying4 false) (keyOf_int_mk Tryd.underlying29 hx)
  obtain ⟨a, rfl, e⟩ := plainElem_bool_inv Tryd.underlying4 hv
  have := ha x hx
  simp only [Prod.mk.injEq] at e
  rw [this] at e
  have e' : f x = a := by have := e.1; simpa using this
  rw [hrun, e']

theorem atKey_put {D : DataW Unit} (hi : IsMap D) (x k : Int) (y : Bool) (z : DataW Unit) : (D.put (.int .u64 x) (.lit (.bool y))).atKey (.int .u64 k) z = if k = x then .lit (.bool y) else D.atKey (.int .u64 k) z := by
  by_cases h : k = x
  · subst h
    rw [if_pos rfl]
    exact atKey_put_same hi (by simp [WideAt.IsKeyLit]) _ _
  · rw [if_neg h]
    exact atKey_put_other (fun e => h (by injection e)) _ _

theorem wpList_mapUpdate_bool {w : World} {ops : Array Oper} {rest : List Oper} {o : Oper} {a : Act} {Q : Exit → Act → World → Prop}
    (hg : o.guard = none) (m x v : Operand) (hop : o.op = Op.mapUpdate 122 m x v) {b n : Nat} {f : Int → Bool}
    (hm : a.eval m = .map (some b)) (hown : MapIs w b n f) (hn : n < maxLen) (k : Int) (y : Bool) (hx : a.eval x = .int .u64 k) (hv : a.eval v = .bool y) (hk : (Lit.int .u64 k).wf = true)
    (hK : ∀ w', MapIs w' b (n + 1) (fun j => if j = k then y else f j) → w.grownBy w' (some b) → wpList Tryd.prog ops Q rest (a.put o.dst undef) w') :
    wpList Tryd.prog ops Q (o :: rest) a w := by
  obtain ⟨D, hi, ho, ha⟩ := hown
  refine wpList_mapUpdate_own w hg m x v _ hop 29 4 lawU64 Tryd.underlying122 _ b n D hm ho hn _ _ (.int .u64 k) hx hv (keyOf_int_mk Tryd.underlying29 hk) (.lit (.bool y)) [] (plainElem_bool Tryd.underlying4 y) ?_
  intro w' h1 h2
  refine hK w' ⟨_, hi.put _ _, h1, fun j hj => ?_⟩ h2
  rw [atKey_put hi]
  by_cases hjk : j = k
  · simp [hjk]
  · simp only [if_neg hjk]
    exact ha j hj

end Go.Proofs.YtokcbipmocpllaaDoor

/-
  limbo.Covered: the handles that are covered by hazards, and the others.
-/
namespace Go.Proofs.YtokcbipmocpllaaDoor
open Go.RowKit

/-- Whether a word is among the hazards, and no 0. -/
def coverB (hz : List Int) (x : Int) : Bool := decide (x ∈ hz) && x != 0
theorem coverB_snoc (l : List Int) (h x : Int) : coverB (l ++ [h]) x = if x = h then h != 0 else coverB l x := by
  unfold coverB
  by_cases e : x = h
  · subst e; simp
  · simp [e]

def CovIn (n : Nat) (l : List Int) (w : World) (i : Value) (wr : World) : Prop :=
  ∃ k : Nat, i = .int .i64 k ∧ k ≤ n ∧ Below w.heap.size w wr ∧ MapIs wr w.heap.size k (coverB (l.take k)) ∧ wr.cell? ⟨w.heap.size + 1, 0, none⟩ = some (.map (some w.heap.size)) ∧ w.heap.size + 1 < wr.heap.size

set_option maxHeartbeats 400000 in
theorem covered1_any (x : Int) (w : World) (g b n : Nat) (f : Int → Bool) (hx : (Lit.int .u64 x).wf = true) (hc : w.cell? ⟨g, 0, none⟩ = some (.map (some b))) (hm : MapIs w b n f) :
    Calls Tryd.prog 91 #[.int .u64 x, .pointer (some ⟨g, 0, none⟩)] w fun e w' => e = .returned (.bool (f x)) ∧ Below w.heap.size w w' := by
  have hl := hm.look x hx
  clear hm
  go_enter Tryd.func91, Tryd.ntmps91
  go_wp2_with fail
  go_ret
  exact ⟨rfl, Below.refl _ _⟩

set_option maxHeartbeats 400000 in
theorem Covered_any (A B : Option Addr) (n c m d : Nat) (l hz : List Int) (w : World) (hn : n ≤ 1000) (hm : m ≤ 1000) (hr : Reads w w.heap.size 1 A n (ints .u64 l)) (hrz : Reads w w.heap.size 1 B m (ints .u64 hz))
    (hwl : ∀ x ∈ l, (Lit.int .u64 x).wf = true) (hwz : ∀ x ∈ hz, (Lit.int .u64 x).wf = true) :
    Calls Tryd.prog 67 #[.slice A n c, .slice B m d] w fun e w' => (∃ A1 n1 c1 A2 n2 c2, e = .returned (.tuple #[.slice A1 n1 c1, .slice A2 n2 c2]) ∧ n1 = (l.filter (coverB hz)).length ∧ n2 = (l.filter (fun x => !coverB hz x)).length ∧
      Reads w' w'.heap.size 1 A1 n1 (ints .u64 (l.filter (coverB hz))) ∧ Reads w' w'.heap.size 1 A2 n2 (ints .u64 (l.filter fun x => !coverB hz x))) ∧ Below w.heap.size w w' := by
  have hmm := @run_makeMap Tryd.prog
  go_enter Tryd.func67, Tryd.ntmps67
  go_wp2_with fail
  go_loopw [12] (CovIn m hz w) (fun i _ => m - (intOf i).toNat)
  case atStart => 
    refine ⟨0, rfl, by omega, ((Below.refl _ _).alloc (Nat.le_refl _) _).alloc (by simp) _, ?_, by simp [go_sem], by simp⟩
    exact (MapIs.made w).alloc _
  case round =>
    obtain ⟨k, rfl, hk, hb, hmap, hcell, hz1⟩ := hrel
    by_cases hlt : k < m
    · obtain ⟨a, rfl, hkl, z1⟩ := (hrz.below hb).word hlt
      have Hw := hwz hz[k] (List.getElem_mem hkl)
      have Htk := hide (take_snoc' hz k hkl)
      generalize hz[k] = x at *
      go_wp2_with (at_mapUpdate; refine wpList_mapUpdate_bool rfl (.tmp 16) (.tmp 17) (.tmp 19) rfl rfl hmap (by unfold maxLen; omega) x (x != 0) rfl rfl Hw ?_; intro w1 hm1 hg1)
      have hb1 : Below w.heap.size w w1 := hb.grown hg1 hb.size (fun g e => by injection e; omega)
      have hc1 : w1.cell? ⟨w.heap.size + 1, 0, none⟩ = some (.map (some w.heap.size)) := hg1.cell hcell (by simp)
      have hz2 : w.heap.size + 1 < w1.heap.size := Nat.lt_of_lt_of_le hz1 hg1.size
      have hf : (fun j => if j = x then x != 0 else coverB (hz.take k) j) = coverB (hz.take (k + 1)) := by
        rw [Htk.out]
        funext j
        rw [coverB_snoc]
      rw [hf] at hm1
      clear hf
      go_roundw
      case rel => exact ⟨k + 1, by go_num, by omega, hb1, hm1, hc1, hz2⟩
      case measure => simp [intOf]; omega
    · have e : hz.take k = hz := List.take_of_length_le (by have := hrz.lenWord; omega)
      rw [e] at hmap
      go_wp2_with fail
      refine (parted_u64 A n c l 91 #[.pointer (some ⟨w.heap.size + 1, 0, none⟩)] (coverB hz) wr hr.lenWord hn ((hr.below hb).more hb.size) (fun args w' => run_enter Tryd.func91 (by decide) (by simp [Tryd.f91]) args w') ?_).mono ?_
      · intro x hx w' hb'
        refine covered1_any x w' (w.heap.size + 1) w.heap.size k (coverB hz) (hwl x hx) ?_ (hmap.below hb')
        rw [hb'.cell (p := ⟨w.heap.size + 1, 0, none⟩) hz1]
        exact hcell
      · rintro e w2 ⟨⟨A1, n1, c1, A2, n2, c2, rfl, e1, e2, r1, r2⟩, hb2⟩
        have E1 := hide e1
        have E2 := hide e2
        clear e1 e2
        go_wp2_with fail
        go_ret2
        exact ⟨⟨A1, n1, c1, A2, n2, c2, rfl, E1.out, E2.out, r1, r2⟩, hb.trans (hb2.mono hb.size)⟩
end Go.Proofs.YtokcbipmocpllaaDoor

/-
  limbo.Part, limbo.Covered: the lists that they make lie in blocks of their own.
-/
namespace Go.Proofs.YtokcbipmocpllaaDoor
open Go.RowKit

def PartRecO (n : Nat) (l : List (Int × Int)) (p : Int × Int → Bool) (w : World) (v1 v2 i : Value) (wr : World) : Prop :=
  ∃ (k : Nat) (A1 A2 : Option Addr) (n1 n2 c1 c2 : Nat), i = .int .i64 k ∧ k ≤ n ∧ v1 = .slice A1 n1 c1 ∧ v2 = .slice A2 n2 c2 ∧ Below w.heap.size w wr ∧ n1 = ((l.take k).filter p).length ∧ n2 = ((l.take k).filter (fun x => !p x)).length ∧
    wr.ownsRow w.heap.size 31 2 (.slice A1 n1 c1) n1 (rec2 ((l.take k).filter p)) ∧ wr.ownsRow w.heap.size 31 2 (.slice A2 n2 c2) n2 (rec2 ((l.take k).filter (fun x => !p x))) ∧
    Apart (.slice A1 n1 c1) (.slice A2 n2 c2)

set_option maxHeartbeats 400000 in
theorem parted_rec_o (A : Option Addr) (n c : Nat) (l : List (Int × Int)) (fid : FuncId) (caps : Array Value) (p : Int × Int → Bool) (w : World) (hl : l.length = n) (hn : n ≤ 1000) (hr : Reads w w.heap.size 2 A n (rec2 l))
    (hcf : ∀ args w', (callFunc fid args).run Tryd.prog w' = .ok (.enter fid args) w')
    (hyes : ∀ x ∈ l, ∀ w', Below w.heap.size w w' → Calls Tryd.prog fid (#[.agg #[.int .u64 x.1, .int .u64 x.2]] ++ caps) w' fun e w'' => e = .returned (.bool (p x)) ∧ Below w'.heap.size w' w'') :
    Calls Tryd.prog 88 #[.slice A n c, .func (.func fid) #[] caps] w fun e w' => (∃ A1 n1 c1 A2 n2 c2, e = .returned (.tuple #[.slice A1 n1 c1, .slice A2 n2 c2]) ∧ n1 = (l.filter p).length ∧ n2 = (l.filter (fun x => !p x)).length ∧
      w'.ownsRow w.heap.size 31 2 (.slice A1 n1 c1) n1 (rec2 (l.filter p)) ∧ w'.ownsRow w.heap.size 31 2 (.slice A2 n2 c2) n2 (rec2 (l.filter fun x => !p x))) ∧ Below w.heap.size w w' := by
  obtain ⟨i0, hi0, hz0, hs0, hb0⟩ := info_parts infoRec'
  have Hl := hide hl
  have Hy := hide hyes
  clear hl hyes
  go_enter Tryd.func88, Tryd.ntmps88
  go_wp2_with fail
  go_loopw [6, 7, 12] (PartRecO n l p w) (fun _ _ i _ => n - (intOf i).toNat)
  case atStart => exact ⟨0, none, none, 0, 0, 0, 0, rfl, by omega, rfl, rfl, Below.refl _ _, rfl, rfl, World.ownsRow_nil _ _ _ _, World.ownsRow_nil _ _ _ _, .inl rfl⟩
  case round =>
    obtain ⟨k, A1, A2, n1, n2, c1, c2, rfl, hk, rfl, rfl, hb, hn1, hn2, hown1, hown2, hap⟩ := hrel
    have Hn1 := hide hn1
    have Hn2 := hide hn2
    clear hn1 hn2
    by_cases hlt : k < n
    · obtain ⟨a, rfl, hkl, z1, z2⟩ := (hr.below hb).pair hlt
      have Hy1 := hide (Hy.out l[k] (List.getElem_mem hkl))
      have Htk := hide (take_snoc' l k hkl)
      generalize l[k] = x at *
      obtain ⟨h0, e0⟩ := x
      simp only at z1 z2 Hy1
      by_cases hp : p (h0, e0) = true
      · skip
        have Hp := hide hp
        have Hf1 := hide ((congrArg (List.filter p) Htk.out).trans (filter_snoc_yes hp))
        have Hf2 := hide ((congrArg (List.filter fun x => !p x) Htk.out).trans (filter_snoc_no (by simp [hp])))
        clear hp
        have hm1 : n1 ≤ 4294967296 := by rw [Hn1.out]; have := filter_len_take p l k; omega
        have hm2 : n2 ≤ 4294967296 := by rw [Hn2.out]; have := filter_len_take (fun x => !p x) l k; omega
        go_wp2_with fail
        refine (Hy1.out _ (hb.alloc hb.size _)).mono ?_
        rintro e w2 ⟨rfl, hb2⟩
        rw [Hp.out]
        have hz2 := hb2.size
        have hzw := hb.size
        simp only [World.size_alloc] at hz2
        have hbw := (hb.alloc hzw (.cells #[.int .u64 h0, .int .u64 e0] 31)).trans (hb2.mono (by simp; omega))
        obtain ⟨q0, q1⟩ : w2.cell? ⟨wr.heap.size, 0, none⟩ = some (.int .u64 h0) ∧ w2.cell? ⟨wr.heap.size, 1, none⟩ = some (.int .u64 e0) := by
          obtain ⟨h1, _⟩ := bcell hb2
          rw [h1 _ _ (by simp), h1 _ _ (by simp)]
          simp [go_sem]
        have ho1 := (own_below (hown1.alloc _) hb2).alloc (.cells #[.int .u64 h0, .int .u64 e0] 31)
        have ho2 := (own_below (hown2.alloc _) hb2).alloc (.cells #[.int .u64 h0, .int .u64 e0] 31)
        go_wp2_with (at_builtin; refine wpList_append_one rfl (.tmp 19) (.tmp 21) _ rfl w.heap.size 31 i0 _ 2 16 Tryd.underlying22 hi0 hz0 hs0 hb0 rfl (by omega) (by omega) (.slice A1 n1 c1) n1 _ rfl ho1 w2.heap.size #[.int .u64 h0, .int .u64 e0] rfl (Blk.new _ _ _) rfl rfl hm1 (by simp; omega) ?_; intro A3 c3 w3 hown3 hg3 hat3)
        have hb3 := below_appended (hbw.alloc (by omega) _) ho1 hg3 (Nat.le_refl _) (by simp; omega)
        go_roundw
        case measure => simp [intOf]; omega
        case rel => exact ⟨k + 1, A3, A2, n1 + 1, n2, c3, c2, by go_num, by omega, rfl, rfl, hb3, by rw [Hf1.out, List.length_append, ← Hn1.out]; rfl, by rw [Hf2.out]; exact Hn2.out, by rw [Hf1.out, rec2_append]; exact hown3, by rw [Hf2.out]; exact own_kept ho2 hg3 hap, Apart.grown hap ho2 hat3⟩
      · replace hp : p (h0, e0) = false := by simpa using hp
        have Hp := hide hp
        have Hf1 := hide ((congrArg (List.filter p) Htk.out).trans (filter_snoc_no hp))
        have Hf2 := hide ((congrArg (List.filter fun x => !p x) Htk.out).trans (filter_snoc_yes (by simp [hp])))
        clear hp
        have hm1 : n1 ≤ 4294967296 := by rw [Hn1.out]; have := filter_len_take p l k; omega
        have hm2 : n2 ≤ 4294967296 := by rw [Hn2.out]; have := filter_len_take (fun x => !p x) l k; omega
        go_wp2_with fail
        refine (Hy1.out _ (hb.alloc hb.size _)).mono ?_
        rintro e w2 ⟨rfl, hb2⟩
        rw [Hp.out]
        have hz2 := hb2.size
        have hzw := hb.size
        simp only [World.size_alloc] at hz2
        have hbw := (hb.alloc hzw (.cells #[.int .u64 h0, .int .u64 e0] 31)).trans (hb2.mono (by simp; omega))
        obtain ⟨q0, q1⟩ : w2.cell? ⟨wr.heap.size, 0, none⟩ = some (.int .u64 h0) ∧ w2.cell? ⟨wr.heap.size, 1, none⟩ = some (.int .u64 e0) := by
          obtain ⟨h1, _⟩ := bcell hb2
          rw [h1 _ _ (by simp), h1 _ _ (by simp)]
          simp [go_sem]
        have ho1 := (own_below (hown1.alloc _) hb2).alloc (.cells #[.int .u64 h0, .int .u64 e0] 31)
        have ho2 := (own_below (hown2.alloc _) hb2).alloc (.cells #[.int .u64 h0, .int .u64 e0] 31)
        go_wp2_with (at_builtin; refine wpList_append_one rfl (.tmp 23) (.tmp 25) _ rfl w.heap.size 31 i0 _ 2 16 Tryd.underlying22 hi0 hz0 hs0 hb0 rfl (by omega) (by omega) (.slice A2 n2 c2) n2 _ rfl ho2 w2.heap.size #[.int .u64 h0, .int .u64 e0] rfl (Blk.new _ _ _) rfl rfl hm2 (by simp; omega) ?_; intro A3 c3 w3 hown3 hg3 hat3)
        have hb3 := below_appended (hbw.alloc (by omega) _) ho2 hg3 (Nat.le_refl _) (by simp; omega)
        go_roundw
        case measure => simp [intOf]; omega
        case rel => exact ⟨k + 1, A1, A3, n1, n2 + 1, c1, c3, by go_num, by omega, rfl, rfl, hb3, by rw [Hf1.out]; exact Hn1.out, by rw [Hf2.out, List.length_append, ← Hn2.out]; rfl, by rw [Hf1.out]; exact own_kept ho1 hg3 hap.symm, by rw [Hf2.out, rec2_append]; exact hown3, (Apart.grown hap.symm ho1 hat3).symm⟩
    · go_wp2_with fail
      go_ret2
      have e : l.take k = l := List.take_of_length_le (by rw [Hl.out]; omega)
      have Hn1' := Hn1.out
      have Hn2' := Hn2.out
      rw [e] at hown1 hown2 Hn1' Hn2'
      exact ⟨⟨A1, n1, c1, A2, n2, c2, rfl, Hn1', Hn2', hown1, hown2⟩, hb⟩
def PartInO (n : Nat) (l : List Int) (p : Int → Bool) (w : World) (v1 v2 i : Value) (wr : World) : Prop :=
  ∃ (k : Nat) (A1 A2 : Option Addr) (n1 n2 c1 c2 : Nat), i = .int .i64 k ∧ k ≤ n ∧ v1 = .slice A1 n1 c1 ∧ v2 = .slice A2 n2 c2 ∧ Below w.heap.size w wr ∧ n1 = ((l.take k).filter p).length ∧ n2 = ((l.take k).filter (fun x => !p x)).length ∧
    wr.ownsRow w.heap.size 29 1 (.slice A1 n1 c1) n1 (ints .u64 ((l.take k).filter p)) ∧ wr.ownsRow w.heap.size 29 1 (.slice A2 n2 c2) n2 (ints .u64 ((l.take k).filter (fun x => !p x))) ∧
    Apart (.slice A1 n1 c1) (.slice A2 n2 c2)

set_option maxHeartbeats 400000 in
theorem parted_u64_o (A : Option Addr) (n c : Nat) (l : List Int) (fid : FuncId) (caps : Array Value) (p : Int → Bool) (w : World) (hl : l.length = n) (hn : n ≤ 1000) (hr : Reads w w.heap.size 1 A n (ints .u64 l))
    (hcf : ∀ args w', (callFunc fid args).run Tryd.prog w' = .ok (.enter fid args) w')
    (hyes : ∀ x ∈ l, ∀ w', Below w.heap.size w w' → Calls Tryd.prog fid (#[.int .u64 x] ++ caps) w' fun e w'' => e = .returned (.bool (p x)) ∧ Below w'.heap.size w' w'') :
    Calls Tryd.prog 90 #[.slice A n c, .func (.func fid) #[] caps] w fun e w' => (∃ A1 n1 c1 A2 n2 c2, e = .returned (.tuple #[.slice A1 n1 c1, .slice A2 n2 c2]) ∧ n1 = (l.filter p).length ∧ n2 = (l.filter (fun x => !p x)).length ∧
      w'.ownsRow w.heap.size 29 1 (.slice A1 n1 c1) n1 (ints .u64 (l.filter p)) ∧ w'.ownsRow w.heap.size 29 1 (.slice A2 n2 c2) n2 (ints .u64 (l.filter fun x => !p x))) ∧ Below w.heap.size w w' := by
  obtain ⟨i0, hi0, hz0, hs0, hb0⟩ := info_parts infoU64
  have Hl := hide hl
  have Hy := hide hyes
  clear hl hyes
  go_enter Tryd.func90, Tryd.ntmps90
  go_wp2_with fail
  go_loopw [6, 7, 12] (PartInO n l p w) (fun _ _ i _ => n - (intOf i).toNat)
  case atStart => exact ⟨0, none, none, 0, 0, 0, 0, rfl, by omega, rfl, rfl, Below.refl _ _, rfl, rfl, World.ownsRow_nil _ _ _ _, World.ownsRow_nil _ _ _ _, .inl rfl⟩
  case round =>
    obtain ⟨k, A1, A2, n1, n2, c1, c2, rfl, hk, rfl, rfl, hb, hn1, hn2, hown1, hown2, hap⟩ := hrel
    have Hn1 := hide hn1
    have Hn2 := hide hn2
    clear hn1 hn2
    by_cases hlt : k < n
    · obtain ⟨a, rfl, hkl, z1⟩ := (hr.below hb).word hlt
      have Hy1 := hide (Hy.out l[k] (List.getElem_mem hkl))
      have Htk := hide (take_snoc' l k hkl)
      generalize l[k] = x at *
      by_cases hp : p x = true
      · skip
        have Hp := hide hp
        have Hf1 := hide ((congrArg (List.filter p) Htk.out).trans (filter_snoc_yes hp))
        have Hf2 := hide ((congrArg (List.filter fun x => !p x) Htk.out).trans (filter_snoc_no (by simp [hp])))
        clear hp
        have hm1 : n1 ≤ 4294967296 := by rw [Hn1.out]; have := filter_len_take p l k; omega
        have hm2 : n2 ≤ 4294967296 := by rw [Hn2.out]; have := filter_len_take (fun x => !p x) l k; omega
        go_wp2_with fail
        refine (Hy1.out wr hb).mono ?_
        rintro e w2 ⟨rfl, hb2⟩
        rw [Hp.out]
        have hz2 := hb2.size
        have hzw := hb.size
        have hbw := hb.trans (hb2.mono hzw)
        have ho1 := (own_below hown1 hb2).alloc (.cells #[.int .u64 x] 29)
        have ho2 := (own_below hown2 hb2).alloc (.cells #[.int .u64 x] 29)
        go_wp2_with (at_builtin; refine wpList_append_one rfl (.tmp 19) (.tmp 21) _ rfl w.heap.size 29 i0 _ 1 8 Tryd.underlying23 hi0 hz0 hs0 hb0 rfl (by omega) (by omega) (.slice A1 n1 c1) n1 _ rfl ho1 w2.heap.size #[.int .u64 x] rfl (Blk.new _ _ _) rfl rfl hm1 (by simp; omega) ?_; intro A3 c3 w3 hown3 hg3 hat3)
        have hb3 := below_appended (hbw.alloc (by omega) _) ho1 hg3 (Nat.le_refl _) (by simp; omega)
        go_roundw
        case measure => simp [intOf]; omega
        case rel => exact ⟨k + 1, A3, A2, n1 + 1, n2, c3, c2, by go_num, by omega, rfl, rfl, hb3, by rw [Hf1.out, List.length_append, ← Hn1.out]; rfl, by rw [Hf2.out]; exact Hn2.out, by rw [Hf1.out, ints_append]; exact hown3, by rw [Hf2.out]; exact own_kept ho2 hg3 hap, Apart.grown hap ho2 hat3⟩
      · replace hp : p x = false := by simpa using hp
        have Hp := hide hp
        have Hf1 := hide ((congrArg (List.filter p) Htk.out).trans (filter_snoc_no hp))
        have Hf2 := hide ((congrArg (List.filter fun x => !p x) Htk.out).trans (filter_snoc_yes (by simp [hp])))
        clear hp
        have hm1 : n1 ≤ 4294967296 := by rw [Hn1.out]; have := filter_len_take p l k; omega
        have hm2 : n2 ≤ 4294967296 := by rw [Hn2.out]; have := filter_len_take (fun x => !p x) l k; omega
        go_wp2_with fail
        refine (Hy1.out wr hb).mono ?_
        rintro e w2 ⟨rfl, hb2⟩
        rw [Hp.out]
        have hz2 := hb2.size
        have hzw := hb.size
        have hbw := hb.trans (hb2.mono hzw)
        have ho1 := (own_below hown1 hb2).alloc (.cells #[.int .u64 x] 29)
        have ho2 := (own_below hown2 hb2).alloc (.cells #[.int .u64 x] 29)
        go_wp2_with (at_builtin; refine wpList_append_one rfl (.tmp 23) (.tmp 25) _ rfl w.heap.size 29 i0 _ 1 8 Tryd.underlying23 hi0 hz0 hs0 hb0 rfl (by omega) (by omega) (.slice A2 n2 c2) n2 _ rfl ho2 w2.heap.size #[.int .u64 x] rfl (Blk.new _ _ _) rfl rfl hm2 (by simp; omega) ?_; intro A3 c3 w3 hown3 hg3 hat3)
        have hb3 := below_appended (hbw.alloc (by omega) _) ho2 hg3 (Nat.le_refl _) (by simp; omega)
        go_roundw
        case measure => simp [intOf]; omega
        case rel => exact ⟨k + 1, A1, A3, n1, n2 + 1, c1, c3, by go_num, by omega, rfl, rfl, hb3, by rw [Hf1.out]; exact Hn1.out, by rw [Hf2.out, List.length_append, ← Hn2.out]; rfl, by rw [Hf1.out]; exact own_kept ho1 hg3 hap.symm, by rw [Hf2.out, ints_append]; exact hown3, (Apart.grown hap.symm ho1 hat3).symm⟩
    · go_wp2_with fail
      go_ret2
      have e : l.take k = l := List.take_of_length_le (by rw [Hl.out]; omega)
      have Hn1' := Hn1.out
      have Hn2' := Hn2.out
      rw [e] at hown1 hown2 Hn1' Hn2'
      exact ⟨⟨A1, n1, c1, A2, n2, c2, rfl, Hn1', Hn2', hown1, hown2⟩, hb⟩
set_option maxHeartbeats 400000 in
theorem Part_own (A : Option Addr) (n c : Nat) (l : List (Int × Int)) (ep : Int) (w : World) (hn : n ≤ 1000) (hr : Reads w w.heap.size 2 A n (rec2 l)) (hw : ∀ r ∈ l, W64 r.1 ∧ W64 r.2) (hp : W64 ep) :
    Calls Tryd.prog 66 #[.slice A n c, .int .u64 ep] w fun e w' => (∃ A1 n1 c1 A2 n2 c2, e = .returned (.tuple #[.slice A1 n1 c1, .slice A2 n2 c2]) ∧ n1 = (l.filter (fun r => ripeB r.2 ep)).length ∧ n2 = (l.filter (fun r => !ripeB r.2 ep)).length ∧
      w'.ownsRow w.heap.size 31 2 (.slice A1 n1 c1) n1 (rec2 (l.filter fun r => ripeB r.2 ep)) ∧ w'.ownsRow w.heap.size 31 2 (.slice A2 n2 c2) n2 (rec2 (l.filter fun r => !ripeB r.2 ep))) ∧ Below w.heap.size w w' := by
  go_enter Tryd.func66, Tryd.ntmps66
  go_wp2_with fail
  refine (parted_rec_o A n c l 89 #[.pointer (some ⟨w.heap.size, 0, none⟩)] (fun r => ripeB r.2 ep) _ hr.lenPair hn ((hr.alloc (Nat.le_refl _) _).more (by simp)) (fun args w' => run_enter Tryd.func89 (by decide) (by simp [Tryd.f89]) args w') ?_).mono ?_
  · intro x hx w' hb
    refine part1_any x.1 x.2 ep w' w.heap.size (hw x hx).2 hp ?_
    obtain ⟨h1, _⟩ := bcell hb
    rw [h1 _ _ (by simp)]
    simp [go_sem]
  · rintro e w2 ⟨⟨A1, n1, c1, A2, n2, c2, rfl, e1, e2, r1, r2⟩, hb2⟩
    have E1 := hide e1
    have E2 := hide e2
    clear e1 e2
    go_wp2_with fail
    go_ret2
    exact ⟨⟨A1, n1, c1, A2, n2, c2, rfl, E1.out, E2.out, own_mono r1 (by simp), own_mono r2 (by simp)⟩, ((Below.refl _ _).alloc (Nat.le_refl _) _).trans (hb2.mono (by simp))⟩

set_option maxHeartbeats 400000 in
theorem Covered_own (A B : Option Addr) (n c m d : Nat) (l hz : List Int) (w : World) (hn : n ≤ 1000) (hm : m ≤ 1000) (hr : Reads w w.heap.size 1 A n (ints .u64 l)) (hrz : Reads w w.heap.size 1 B m (ints .u64 hz))
    (hwl : ∀ x ∈ l, (Lit.int .u64 x).wf = true) (hwz : ∀ x ∈ hz, (Lit.int .u64 x).wf = true) :
    Calls Tryd.prog 67 #[.slice A n c, .slice B m d] w fun e w' => (∃ A1 n1 c1 A2 n2 c2, e = .returned (.tuple #[.slice A1 n1 c1, .slice A2 n2 c2]) ∧ n1 = (l.filter (coverB hz)).length ∧ n2 = (l.filter (fun x => !coverB hz x)).length ∧
      w'.ownsRow w.heap.size 29 1 (.slice A1 n1 c1) n1 (ints .u64 (l.filter (coverB hz))) ∧ w'.ownsRow w.heap.size 29 1 (.slice A2 n2 c2) n2 (ints .u64 (l.filter fun x => !coverB hz x))) ∧ Below w.heap.size w w' := by
  have hmm := @run_makeMap Tryd.prog
  go_enter Tryd.func67, Tryd.ntmps67
  go_wp2_with fail
  go_loopw [12] (CovIn m hz w) (fun i _ => m - (intOf i).toNat)
  case atStart => 
    refine ⟨0, rfl, by omega, ((Below.refl _ _).alloc (Nat.le_refl _) _).alloc (by simp) _, ?_, by simp [go_sem], by simp⟩
    exact (MapIs.made w).alloc _
  case round =>
    obtain ⟨k, rfl, hk, hb, hmap, hcell, hz1⟩ := hrel
    by_cases hlt : k < m
    · obtain ⟨a, rfl, hkl, z1⟩ := (hrz.below hb).word hlt
      have Hw := hwz hz[k] (List.getElem_mem hkl)
      have Htk := hide (take_snoc' hz k hkl)
      generalize hz[k] = x at *
      go_wp2_with (at_mapUpdate; refine wpList_mapUpdate_bool rfl (.tmp 16) (.tmp 17) (.tmp 19) rfl rfl hmap (by unfold maxLen; omega) x (x != 0) rfl rfl Hw ?_; intro w1 hm1 hg1)
      have hb1 : Below w.heap.size w w1 := hb.grown hg1 hb.size (fun g e => by injection e; omega)
      have hc1 : w1.cell? ⟨w.heap.size + 1, 0, none⟩ = some (.map (some w.heap.size)) := hg1.cell hcell (by simp)
      have hz2 : w.heap.size + 1 < w1.heap.size := Nat.lt_of_lt_of_le hz1 hg1.size
      have hf : (fun j => if j = x then x != 0 else coverB (hz.take k) j) = coverB (hz.take (k + 1)) := by
        rw [Htk.out]
        funext j
        rw [coverB_snoc]
      rw [hf] at hm1
      clear hf
      go_roundw
      case rel => exact ⟨k + 1, by go_num, by omega, hb1, hm1, hc1, hz2⟩
      case measure => simp [intOf]; omega
    · have e : hz.take k = hz := List.take_of_length_le (by have := hrz.lenWord; omega)
      rw [e] at hmap
      go_wp2_with fail
      refine (parted_u64_o A n c l 91 #[.pointer (some ⟨w.heap.size + 1, 0, none⟩)] (coverB hz) wr hr.lenWord hn ((hr.below hb).more hb.size) (fun args w' => run_enter Tryd.func91 (by decide) (by simp [Tryd.f91]) args w') ?_).mono ?_
      · intro x hx w' hb'
        refine covered1_any x w' (w.heap.size + 1) w.heap.size k (coverB hz) (hwl x hx) ?_ (hmap.below hb')
        rw [hb'.cell (p := ⟨w.heap.size + 1, 0, none⟩) hz1]
        exact hcell
      · rintro e w2 ⟨⟨A1, n1, c1, A2, n2, c2, rfl, e1, e2, r1, r2⟩, hb2⟩
        have E1 := hide e1
        have E2 := hide e2
        clear e1 e2
        go_wp2_with fail
        go_ret2
        exact ⟨⟨A1, n1, c1, A2, n2, c2, rfl, E1.out, E2.out, own_mono r1 hb.size, own_mono r2 hb.size⟩, hb.trans (hb2.mono hb.size)⟩
end Go.Proofs.YtokcbipmocpllaaDoor

/-
  Blocks of other types than two lie as they lay.
-/
namespace Go.Proofs.YtokcbipmocpllaaDoor
open Go.RowKit

def KeepB (T1 T2 : TypeId) (w w' : World) : Prop :=
  w.heap.size ≤ w'.heap.size ∧ ∀ (g : Nat) (cs : Array Value) (e : TypeId) cur, w.heap[g]? = some (Obj.cells cs e cur) → e ≠ T1 → e ≠ T2 → w'.heap[g]? = w.heap[g]?
section
variable {T1 T2 : TypeId} {w w' w'' : World}
theorem KeepB.refl (w : World) : KeepB T1 T2 w w := ⟨Nat.le_refl _, fun _ _ _ _ _ _ _ => rfl⟩
theorem KeepB.trans (h : KeepB T1 T2 w w') (h' : KeepB T1 T2 w' w'') : KeepB T1 T2 w w'' :=
  ⟨Nat.le_trans h.1 h'.1, fun g cs e cur hg h1 h2 => (h'.2 g cs e cur ((h.2 g cs e cur hg h1 h2).trans hg) h1 h2).trans (h.2 g cs e cur hg h1 h2)⟩
theorem KeepB.alloc (h : KeepB T1 T2 w w') (o : Obj) : KeepB T1 T2 w (w'.alloc o) :=
  h.trans ⟨by simp, fun g _ _ _ hg _ _ => Below.heap_alloc w' o g (heap_lt hg)⟩
theorem KeepB.drew (h : KeepB T1 T2 w w') : KeepB T1 T2 w w'.drew := h.trans ⟨Nat.le_refl _, fun _ _ _ _ _ _ _ => rfl⟩
theorem KeepB.below (h : KeepB T1 T2 w w') (hb : Below w'.heap.size w' w'') : KeepB T1 T2 w w'' :=
  h.trans ⟨hb.size, fun g _ _ _ hg _ _ => hb.block g (heap_lt hg)⟩
theorem KeepB.set_ {g : Nat} {T : TypeId} {cs : Array Value} (h : KeepB T1 T2 w w') (hb : Blk w' g T cs) (hT : T = T1 ∨ T = T2) (i : Nat) (u : Value) : KeepB T1 T2 w (w'.setCell ⟨g, i, none⟩ u) :=
  h.trans ⟨by rw [World.size_setCell]; exact Nat.le_refl _, fun k cs' e cur hg h1 h2 => Below.heap_setCell w' ⟨g, i, none⟩ u k (fun he => by
    subst he
    unfold Blk at hb
    rw [hb] at hg
    injection hg with hg
    injection hg with _ ht
    rcases hT with hT | hT
    · exact h1 (by rw [← ht, hT])
    · exact h2 (by rw [← ht, hT]))⟩
theorem KeepB.appended {base m s2 : Nat} {e2 : TypeId} {u : Value} {ys : List Value} (h : KeepB T1 T2 w w') (ho : w'.ownsRow base e2 s2 u m ys) (hT : e2 = T1 ∨ e2 = T2) (hg : w'.grownBy w'' u.ownBlock) : KeepB T1 T2 w w'' :=
  h.trans ⟨hg.size, fun k cs e cur hk h1 h2 => hg.block k (heap_lt hk) (fun he => by
    rcases ho.2 with ⟨rfl, _⟩ | ⟨g', cap, cur', rfl, _, hh', _⟩
    · simp [Value.ownBlock] at he
    · have : k = g' := by simpa [Value.ownBlock] using he
      subst this
      rw [hh'] at hk
      injection hk with hk
      injection hk with _ ht
      rcases hT with hT | hT
      · exact h1 (by rw [← ht, hT])
      · exact h2 (by rw [← ht, hT]))⟩
theorem Tr.keepB [Inhabited GhT] {e : TypeId} {s n : Nat} {v : Value} {xs : List Value} (h : Tr w e s v n xs) (hk : KeepB T1 T2 w w') (h1 : e ≠ T1) (h2 : e ≠ T2) : Tr w' e s v n xs :=
  h.keep hk.1 fun g cs cur hg => hk.2 g cs e cur hg h1 h2
end
end Go.Proofs.YtokcbipmocpllaaDoor

/-
  Package sweep: who is covered, and who goes.
-/
namespace Go.Proofs.YtokcbipmocpllaaDoor
open Go.RowKit

theorem W64.wf {x : Int} (h : W64 x) : (Lit.int .u64 x).wf = true := by
  show (decide (IntKind.u64.min ≤ x) && decide (x ≤ IntKind.u64.max)) = true
  rw [Bool.and_eq_true, decide_eq_true_iff, decide_eq_true_iff]
  exact h
def askRipe (r : List (Int × Int)) (ep : Int) : List Int := (r.filter fun x => ripeB x.2 ep).map (·.1)
def askOver (r : List (Int × Int)) (hz : List Int) (ep : Int) : List Int := (askRipe r ep).filter (coverB hz)
def askFree (r : List (Int × Int)) (hz : List Int) (ep : Int) : List Int := (askRipe r ep).filter fun x => !coverB hz x
def askBare (ks hz : List Int) : List Int := ks.filter fun x => !coverB hz x
def askTd (r : List (Int × Int)) (ks hz : List Int) (ep : Int) : List (Int × Bool) := (askBare ks hz).map (fun x => (x, true)) ++ (askFree r hz ep).map (fun x => (x, false))
def askL (ep : Int) (r : List (Int × Int)) (over : List Int) : List (Int × Int) := over.foldl (fun r h => r.eraseP fun x => x.1 == h && ripeB x.2 ep) r
theorem askL_next (ep : Int) (r : List (Int × Int)) (o : List Int) (k : Nat) (h : k < o.length) : askL ep r (o.take (k + 1)) = (askL ep r (o.take k)).eraseP fun x => x.1 == o[k] && ripeB x.2 ep := by
  unfold askL
  rw [List.take_succ_eq_append_getElem h, List.foldl_append]
  rfl
theorem askL_sub (ep : Int) (r : List (Int × Int)) (o : List Int) : (askL ep r o).Sublist r := by
  unfold askL
  induction o generalizing r with
  | nil => exact List.Sublist.refl _
  | cons x o ih => exact (ih _).trans List.eraseP_sublist
theorem ones_next (pre : List (Int × Bool)) (src : List Int) (b : Bool) (k : Nat) (h : k < src.length) : ones (pre ++ (src.take (k + 1)).map fun x => (x, b)) = ones (pre ++ (src.take k).map fun x => (x, b)) ++ [.int .u64 src[k], .bool b] := by
  unfold ones
  rw [List.take_succ_eq_append_getElem h, List.map_append, ← List.append_assoc, List.flatMap_append]
  simp only [List.map_cons, List.map_nil, List.flatMap_cons, List.flatMap_nil, List.append_nil]
theorem infoOne : (Tryd.prog.info? 82).map (fun i => (i.zero, i.size, i.bytes)) = some (some (.agg #[.int .u64 0, .bool false]), 2, 16) := by kernel_rfl

/-- The loops that lay what is to be done. -/
def AskI (w w4 : World) (cs : Value → Array Value) (co : Array Value) (pre : List (Int × Bool)) (src : List Int) (b : Bool) (iv : Value) (wr : World) : Prop :=
  ∃ (k n : Nat) (A : Option Addr) (c : Nat), iv = .int .i64 k ∧ k ≤ src.length ∧ n = pre.length + k ∧ wr.ownsRow w.heap.size 82 2 (.slice A n c) n (ones (pre ++ (src.take k).map fun x => (x, b))) ∧
    Blk wr w.heap.size 51 (cs (.slice A n c)) ∧ Blk wr (w.heap.size + 1) 51 co ∧ Below w.heap.size w wr ∧ KeepB 51 82 w4 wr
/-- The loop that takes who is covered off the limbo. -/
def AskO [Inhabited GhT] (w w4 : World) (cs : Value → Array Value) (co : Array Value) (ep : Int) (r : List (Int × Int)) (over : List Int) (iv : Value) (wr : World) : Prop :=
  ∃ (k n : Nat) (A : Option Addr) (c : Nat), iv = .int .i64 k ∧ k ≤ over.length ∧ n = (askL ep r (over.take k)).length ∧ Tr wr 31 2 (.slice A n c) n (rec2 (askL ep r (over.take k))) ∧
    Blk wr w.heap.size 51 (cs (.slice A n c)) ∧ Blk wr (w.heap.size + 1) 51 co ∧ Below w.heap.size w wr ∧ KeepB 51 51 w4 wr
set_option linter.unusedSimpArgs false in
set_option maxRecDepth 100000 in
set_option maxHeartbeats 4000000 in
theorem sasked_any [Inhabited GhT] (s t f l p k ep : Int) (r : List (Int × Int)) (ks hz : List Int) (td : List (Int × Bool)) (q0 q1 q2 q3 q4 pk sl hd tr : Int) (fr : List Int) (ju : Int) (v : Value) (w : World) (hv : SwV w s t f l p k ep r ks hz td q0 q1 q2 q3 q4 pk sl hd tr fr ju v) (h1 : r.length ≤ 1000) (h2 : ks.length ≤ 1000) (h3 : hz.length ≤ 1000) (hwr : ∀ x ∈ r, W64 x.1 ∧ W64 x.2) (hwk : ∀ x ∈ ks, W64 x) (hwz : ∀ x ∈ hz, W64 x) (hp : W64 ep)
    (PP : Int → Int → Int → Int → Int → Int → Int → Int → Int → Int → Prop)
    (NX : ∀ v w1, SwV w1 s t f l p k ep (askL ep r (askOver r hz ep)) (ks ++ askOver r hz ep) hz (askTd r ks hz ep) q0 q1 q2 q3 q4 pk sl hd tr fr ju v → Calls Tryd.prog 51 #[v] w1 fun e w2 => (∃ v2 k2 p0 p1 p2 p3 p4 pk2 sl2 hd2 tr2, e = .returned v2 ∧ SwV w2 s t f l p k2 ep (askL ep r (askOver r hz ep)) (ks ++ askOver r hz ep) hz (askTd r ks hz ep) p0 p1 p2 p3 p4 pk2 sl2 hd2 tr2 fr ju v2 ∧ PP k2 p0 p1 p2 p3 p4 pk2 sl2 hd2 tr2) ∧ Below w1.heap.size w1 w2) :
    Calls Tryd.prog 47 #[v] w fun e w' => (∃ v2 k2 p0 p1 p2 p3 p4 pk2 sl2 hd2 tr2, e = .returned v2 ∧ SwV w' s t f l p k2 ep (askL ep r (askOver r hz ep)) (ks ++ askOver r hz ep) hz (askTd r ks hz ep) p0 p1 p2 p3 p4 pk2 sl2 hd2 tr2 fr ju v2 ∧ PP k2 p0 p1 p2 p3 p4 pk2 sl2 hd2 tr2) ∧ Below w.heap.size w w' := by
  obtain ⟨A1, c1, A2, c2, A3, c3, A4, c4, A5, c5, rfl, t1, t2, t3, t4, t5⟩ := hv
  obtain ⟨i1, hi1, hz1, hs1, hb1⟩ := info_parts infoOne
  have B0 := ((Below.refl w.heap.size w).alloc (Nat.le_refl _) (.cells #[.slice A1 r.length c1, .slice A2 ks.length c2, .int .i64 s, .int .i64 t, .int .i64 f, .int .i64 l, .int .i64 p, .int .i64 k, .int .u64 ep, .slice A3 hz.length c3, .slice A4 td.length c4, .int .i64 q0, .int .i64 q1, .int .i64 q2, .int .i64 q3, .int .i64 q4, .int .i64 pk, .int .i64 sl, .int .u64 hd, .int .i64 tr, .slice A5 fr.length c5, .int .i64 ju] 51)).alloc (by simp only [World.size_alloc]; omega) (.cells #[.slice none 0 0, .slice none 0 0, .int .i64 0, .int .i64 0, .int .i64 0, .int .i64 0, .int .i64 0, .int .i64 0, .int .u64 0, .slice none 0 0, .slice none 0 0, .int .i64 0, .int .i64 0, .int .i64 0, .int .i64 0, .int .i64 0, .int .i64 0, .int .i64 0, .int .u64 0, .int .i64 0, .slice none 0 0, .int .i64 0] 51)
  have bs := (Blk.new w 51 #[.slice A1 r.length c1, .slice A2 ks.length c2, .int .i64 s, .int .i64 t, .int .i64 f, .int .i64 l, .int .i64 p, .int .i64 k, .int .u64 ep, .slice A3 hz.length c3, .slice A4 td.length c4, .int .i64 q0, .int .i64 q1, .int .i64 q2, .int .i64 q3, .int .i64 q4, .int .i64 pk, .int .i64 sl, .int .u64 hd, .int .i64 tr, .slice A5 fr.length c5, .int .i64 ju]).alloc (.cells #[.slice none 0 0, .slice none 0 0, .int .i64 0, .int .i64 0, .int .i64 0, .int .i64 0, .int .i64 0, .int .i64 0, .int .u64 0, .slice none 0 0, .slice none 0 0, .int .i64 0, .int .i64 0, .int .i64 0, .int .i64 0, .int .i64 0, .int .i64 0, .int .i64 0, .int .u64 0, .int .i64 0, .slice none 0 0, .int .i64 0] 51)
  have bo := Blk.new (w.alloc (.cells #[.slice A1 r.length c1, .slice A2 ks.length c2, .int .i64 s, .int .i64 t, .int .i64 f, .int .i64 l, .int .i64 p, .int .i64 k, .int .u64 ep, .slice A3 hz.length c3, .slice A4 td.length c4, .int .i64 q0, .int .i64 q1, .int .i64 q2, .int .i64 q3, .int .i64 q4, .int .i64 pk, .int .i64 sl, .int .u64 hd, .int .i64 tr, .slice A5 fr.length c5, .int .i64 ju] 51)) 51 #[.slice none 0 0, .slice none 0 0, .int .i64 0, .int .i64 0, .int .i64 0, .int .i64 0, .int .i64 0, .int .i64 0, .int .u64 0, .slice none 0 0, .slice none 0 0, .int .i64 0, .int .i64 0, .int .i64 0, .int .i64 0, .int .i64 0, .int .i64 0, .int .i64 0, .int .u64 0, .int .i64 0, .slice none 0 0, .int .i64 0]
  simp only [World.size_alloc] at bo
  have PT := hide (fun w2 (h : Tr w2 31 2 (.slice A1 r.length c1) r.length (rec2 r)) => Part_own A1 r.length c1 r ep w2 h1 h.reads hwr hp)
  have CV := hide (fun w2 (ha : Tr w2 29 1 (.slice A2 ks.length c2) ks.length (ints .u64 ks)) (hb : Tr w2 29 1 (.slice A3 hz.length c3) hz.length (ints .u64 hz)) => Covered_own A2 A3 ks.length c2 hz.length c3 ks hz w2 h2 h3 ha.reads hb.reads (fun x hx => (hwk x hx).wf) (fun x hx => (hwz x hx).wf))
  have HL1 := hide h1
  have HWR := hide hwr
  have HWZ := hide hwz
  have HP := hide hp
  have HN := hide NX
  have H123 := hide (show ks.length + r.length ≤ 2000 by omega)
  clear hwr hwk hwz hp NX
  have HGH := hide t1.gh
  replace t1 := (t1.alloc (.cells #[.slice A1 r.length c1, .slice A2 ks.length c2, .int .i64 s, .int .i64 t, .int .i64 f, .int .i64 l, .int .i64 p, .int .i64 k, .int .u64 ep, .slice A3 hz.length c3, .slice A4 td.length c4, .int .i64 q0, .int .i64 q1, .int .i64 q2, .int .i64 q3, .int .i64 q4, .int .i64 pk, .int .i64 sl, .int .u64 hd, .int .i64 tr, .slice A5 fr.length c5, .int .i64 ju] 51)).alloc (.cells #[.slice none 0 0, .slice none 0 0, .int .i64 0, .int .i64 0, .int .i64 0, .int .i64 0, .int .i64 0, .int .i64 0, .int .u64 0, .slice none 0 0, .slice none 0 0, .int .i64 0, .int .i64 0, .int .i64 0, .int .i64 0, .int .i64 0, .int .i64 0, .int .i64 0, .int .u64 0, .int .i64 0, .slice none 0 0, .int .i64 0] 51)
  replace t2 := (t2.alloc (.cells #[.slice A1 r.length c1, .slice A2 ks.length c2, .int .i64 s, .int .i64 t, .int .i64 f, .int .i64 l, .int .i64 p, .int .i64 k, .int .u64 ep, .slice A3 hz.length c3, .slice A4 td.length c4, .int .i64 q0, .int .i64 q1, .int .i64 q2, .int .i64 q3, .int .i64 q4, .int .i64 pk, .int .i64 sl, .int .u64 hd, .int .i64 tr, .slice A5 fr.length c5, .int .i64 ju] 51)).alloc (.cells #[.slice none 0 0, .slice none 0 0, .int .i64 0, .int .i64 0, .int .i64 0, .int .i64 0, .int .i64 0, .int .i64 0, .int .u64 0, .slice none 0 0, .slice none 0 0, .int .i64 0, .int .i64 0, .int .i64 0, .int .i64 0, .int .i64 0, .int .i64 0, .int .i64 0, .int .u64 0, .int .i64 0, .slice none 0 0, .int .i64 0] 51)
  replace t3 := (t3.alloc (.cells #[.slice A1 r.length c1, .slice A2 ks.length c2, .int .i64 s, .int .i64 t, .int .i64 f, .int .i64 l, .int .i64 p, .int .i64 k, .int .u64 ep, .slice A3 hz.length c3, .slice A4 td.length c4, .int .i64 q0, .int .i64 q1, .int .i64 q2, .int .i64 q3, .int .i64 q4, .int .i64 pk, .int .i64 sl, .int .u64 hd, .int .i64 tr, .slice A5 fr.length c5, .int .i64 ju] 51)).alloc (.cells #[.slice none 0 0, .slice none 0 0, .int .i64 0, .int .i64 0, .int .i64 0, .int .i64 0, .int .i64 0, .int .i64 0, .int .u64 0, .slice none 0 0, .slice none 0 0, .int .i64 0, .int .i64 0, .int .i64 0, .int .i64 0, .int .i64 0, .int .i64 0, .int .i64 0, .int .u64 0, .int .i64 0, .slice none 0 0, .int .i64 0] 51)
  replace t4 := (t4.alloc (.cells #[.slice A1 r.length c1, .slice A2 ks.length c2, .int .i64 s, .int .i64 t, .int .i64 f, .int .i64 l, .int .i64 p, .int .i64 k, .int .u64 ep, .slice A3 hz.length c3, .slice A4 td.length c4, .int .i64 q0, .int .i64 q1, .int .i64 q2, .int .i64 q3, .int .i64 q4, .int .i64 pk, .int .i64 sl, .int .u64 hd, .int .i64 tr, .slice A5 fr.length c5, .int .i64 ju] 51)).alloc (.cells #[.slice none 0 0, .slice none 0 0, .int .i64 0, .int .i64 0, .int .i64 0, .int .i64 0, .int .i64 0, .int .i64 0, .int .u64 0, .slice none 0 0, .slice none 0 0, .int .i64 0, .int .i64 0, .int .i64 0, .int .i64 0, .int .i64 0, .int .i64 0, .int .i64 0, .int .u64 0, .int .i64 0, .slice none 0 0, .int .i64 0] 51)
  replace t5 := (t5.alloc (.cells #[.slice A1 r.length c1, .slice A2 ks.length c2, .int .i64 s, .int .i64 t, .int .i64 f, .int .i64 l, .int .i64 p, .int .i64 k, .int .u64 ep, .slice A3 hz.length c3, .slice A4 td.length c4, .int .i64 q0, .int .i64 q1, .int .i64 q2, .int .i64 q3, .int .i64 q4, .int .i64 pk, .int .i64 sl, .int .u64 hd, .int .i64 tr, .slice A5 fr.length c5, .int .i64 ju] 51)).alloc (.cells #[.slice none 0 0, .slice none 0 0, .int .i64 0, .int .i64 0, .int .i64 0, .int .i64 0, .int .i64 0, .int .i64 0, .int .u64 0, .slice none 0 0, .slice none 0 0, .int .i64 0, .int .i64 0, .int .i64 0, .int .i64 0, .int .i64 0, .int .i64 0, .int .i64 0, .int .u64 0, .int .i64 0, .slice none 0 0, .int .i64 0] 51)
  go_enter Tryd.func47, Tryd.ntmps47
  go_wp2_with fail
  generalize (w.alloc (.cells #[.slice A1 r.length c1, .slice A2 ks.length c2, .int .i64 s, .int .i64 t, .int .i64 f, .int .i64 l, .int .i64 p, .int .i64 k, .int .u64 ep, .slice A3 hz.length c3, .slice A4 td.length c4, .int .i64 q0, .int .i64 q1, .int .i64 q2, .int .i64 q3, .int .i64 q4, .int .i64 pk, .int .i64 sl, .int .u64 hd, .int .i64 tr, .slice A5 fr.length c5, .int .i64 ju] 51)).alloc (.cells #[.slice none 0 0, .slice none 0 0, .int .i64 0, .int .i64 0, .int .i64 0, .int .i64 0, .int .i64 0, .int .i64 0, .int .u64 0, .slice none 0 0, .slice none 0 0, .int .i64 0, .int .i64 0, .int .i64 0, .int .i64 0, .int .i64 0, .int .i64 0, .int .i64 0, .int .u64 0, .int .i64 0, .slice none 0 0, .int .i64 0] 51) = w0 at *
  have ms := fun i => bs.cell i
  go_wp2_with fail
  have HG6 := hide t1.gh
  refine (PT.out _ t1).mono ?_
  rintro e w1 ⟨⟨A6, n6, c6, A7, n7, c7, rfl, e6, e7, o6, o7⟩, hb⟩
  replace t1 := t1.below (Nat.le_refl _) hb
  replace t2 := t2.below (Nat.le_refl _) hb
  replace t3 := t3.below (Nat.le_refl _) hb
  replace t4 := t4.below (Nat.le_refl _) hb
  replace t5 := t5.below (Nat.le_refl _) hb
  replace bs := bs.below hb bs.lt
  replace bo := bo.below hb bo.lt
  replace B0 := B0.trans (hb.mono B0.size)
  have E6 := hide e6
  replace B0 := B0
  have t6 := Tr.of_own o6 HG6.out hb.size
  clear hb o6 o7 e6 e7 ms
  have ms := fun i => bs.cell i
  go_wp2_with fail
  have HG9 := hide t2.gh
  refine (CV.out _ t2 t3).mono ?_
  rintro e w2 ⟨⟨A8, n8, c8, A9, n9, c9, rfl, e8, e9, o8, o9⟩, hb⟩
  replace t1 := t1.below (Nat.le_refl _) hb
  replace t2 := t2.below (Nat.le_refl _) hb
  replace t3 := t3.below (Nat.le_refl _) hb
  replace t4 := t4.below (Nat.le_refl _) hb
  replace t5 := t5.below (Nat.le_refl _) hb
  replace t6 := t6.below (Nat.le_refl _) hb
  replace bs := bs.below hb bs.lt
  replace bo := bo.below hb bo.lt
  replace B0 := B0.trans (hb.mono B0.size)
  have E9 := hide e9
  have t9 := Tr.of_own o9 HG9.out hb.size
  clear hb o8 o9 e8 e9 ms
  go_wp2_with fail
  refine wp_region_heldZ [] (fun w' => w'.cell? ⟨w.heap.size, 9, none⟩ = some (.slice A3 hz.length c3)) (by kernel_rfl) (by exact bs.cell 9) (fun hHeld => ?_)
  replace bs := bs.drew
  replace bo := bo.drew
  replace B0 := B0.drew
  replace t1 := t1.drew
  replace t2 := t2.drew
  replace t3 := t3.drew
  replace t4 := t4.drew
  replace t5 := t5.drew
  replace t6 := t6.drew
  replace t9 := t9.drew
  generalize w2.drew = wd at *
  refine' wpAnyZ_takeA (i := 0) (v := ?_) (opAt rfl) (by kernel_rfl) (by kernel_rfl) (by kernel_rfl) (by kernel_rfl) (fun _ _ _ h => h) (by assumption) (by rfl) (fun w hSw => ?_) ?_
  rotate_left
  · (try dsimp only at hSw); go_simp; (try with_reducible rfl)
  try simp only [Act.put, List.setIfInBounds_toArray, List.set_cons_zero, List.set_cons_succ]
  refine' wpAnyZ_takeA (i := 2) (v := ?_) (opAt rfl) (by kernel_rfl) (by kernel_rfl) (by kernel_rfl) (by kernel_rfl) (fun _ _ _ h => h) (by assumption) (by rfl) (fun w hSw => ?_) ?_
  rotate_left
  · (try dsimp only at hSw); go_simp; (try with_reducible rfl)
  try simp only [Act.put, List.setIfInBounds_toArray, List.set_cons_zero, List.set_cons_succ]
  refine' wpAnyZ_takeA (i := 3) (v := ?_) (opAt rfl) (by kernel_rfl) (by kernel_rfl) (by kernel_rfl) (by kernel_rfl) (fun _ _ _ h => h) (by assumption) (by rfl) (fun w hSw => ?_) ?_
  rotate_left
  · (try dsimp only at hSw); go_simp; (try with_reducible rfl)
  try simp only [Act.put, List.setIfInBounds_toArray, List.set_cons_zero, List.set_cons_succ]
  refine wpAnyZ_ready (rs := [1]) (by kernel_rfl) (by simp) ?_
  refine AllReadyZ.cons (opAt rfl) (fun K hK => ?_) ?_
  · skip
    go_simp
    have HG10 := hide t6.gh
    refine (handles_own A6 n6 c6 _ _ (by rw [E6.out]; exact Nat.le_trans (List.length_filter_le _ _) HL1.out) t6.reads).mono ?_
    rintro e w3 ⟨⟨u, rfl, o10⟩, hb⟩
    replace o10 : Own w3 _ u (askRipe r ep) := o10
    replace t1 := t1.below (Nat.le_refl _) hb
    replace t2 := t2.below (Nat.le_refl _) hb
    replace t3 := t3.below (Nat.le_refl _) hb
    replace t4 := t4.below (Nat.le_refl _) hb
    replace t5 := t5.below (Nat.le_refl _) hb
    replace t9 := t9.below (Nat.le_refl _) hb
    replace bs := bs.below hb bs.lt
    replace bo := bo.below hb bo.lt
    replace B0 := B0.trans (hb.mono B0.size)
    obtain ⟨A10, c10, rfl⟩ := o10.val
    have t10 := Tr.of_own o10 HG10.out hb.size
    clear hb o10 t6
    try go_wp2_with fail
    refine hK.out _ _ (by exact bs.cell 9) (fun hHeld => ?_)
    clear hK K
    try simp only [Act.put, List.setIfInBounds_toArray, List.set_cons_zero, List.set_cons_succ]
    refine wpAnyZ_ready (rs := [4]) (by kernel_rfl) (by simp) ?_
    refine AllReadyZ.cons (opAt rfl) (fun K hK => ?_) ?_
    · skip
      go_simp
      have HG11 := hide t10.gh
      refine (Covered_own A10 A3 (askRipe r ep).length c10 hz.length c3 (askRipe r ep) hz _ (by unfold askRipe; rw [List.length_map]; exact Nat.le_trans (List.length_filter_le _ _) HL1.out) h3 t10.reads t3.reads (fun x hx => by unfold askRipe at hx; rw [List.mem_map] at hx; obtain ⟨y, hy, rfl⟩ := hx; exact (HWR.out y (List.mem_filter.1 hy).1).1.wf) (fun x hx => (HWZ.out x hx).wf)).mono ?_
      rintro e w4 ⟨⟨A11, n11, c11, A12, n12, c12, rfl, e11, e12, o11, o12⟩, hb⟩
      replace t1 := t1.below (Nat.le_refl _) hb
      replace t2 := t2.below (Nat.le_refl _) hb
      replace t3 := t3.below (Nat.le_refl _) hb
      replace t4 := t4.below (Nat.le_refl _) hb
      replace t5 := t5.below (Nat.le_refl _) hb
      replace t9 := t9.below (Nat.le_refl _) hb
      replace bs := bs.below hb bs.lt
      replace bo := bo.below hb bo.lt
      replace B0 := B0.trans (hb.mono B0.size)
      have E11 := hide e11
      have E12 := hide e12
      have t11 := Tr.of_own o11 HG11.out hb.size
      have t12 := Tr.of_own o12 HG11.out hb.size
      clear hb o11 o12 e11 e12 t10
      try go_wp2_with fail
      refine hK.out _ _ (by exact bs.cell 9) (fun hHeld => ?_)
      clear hK K
      try simp only [Act.put, List.setIfInBounds_toArray, List.set_cons_zero, List.set_cons_succ]
      refine' wpAnyZ_takeA (i := 5) (v := ?_) (opAt rfl) (by kernel_rfl) (by kernel_rfl) (by kernel_rfl) (by kernel_rfl) (fun _ _ _ h => h) (by assumption) (by rfl) (fun w hSw => ?_) ?_
      rotate_left
      · (try dsimp only at hSw); go_simp; (try with_reducible rfl)
      try simp only [Act.put, List.setIfInBounds_toArray, List.set_cons_zero, List.set_cons_succ]
      refine' wpAnyZ_takeA (i := 6) (v := ?_) (opAt rfl) (by kernel_rfl) (by kernel_rfl) (by kernel_rfl) (by kernel_rfl) (fun _ _ _ h => h) (by assumption) (by rfl) (fun w hSw => ?_) ?_
      rotate_left
      · (try dsimp only at hSw); go_simp; (try with_reducible rfl)
      try simp only [Act.put, List.setIfInBounds_toArray, List.set_cons_zero, List.set_cons_succ]
      refine' wpAnyZ_takeA (i := 7) (v := ?_) (opAt rfl) (by kernel_rfl) (by kernel_rfl) (by kernel_rfl) (by kernel_rfl) (fun _ _ _ h => h) (by assumption) (by rfl) (fun w hSw => ?_) ?_
      rotate_left
      · (try dsimp only at hSw); go_simp; (try with_reducible rfl)
      try simp only [Act.put, List.setIfInBounds_toArray, List.set_cons_zero, List.set_cons_succ]
      refine' wpAnyZ_takeA (i := 8) (v := ?_) (opAt rfl) (by kernel_rfl) (by kernel_rfl) (by kernel_rfl) (by kernel_rfl) (fun _ _ _ h => h) (by assumption) (by rfl) (fun w hSw => ?_) ?_
      rotate_left
      · (try dsimp only at hSw); go_simp; (try with_reducible rfl)
      try simp only [Act.put, List.setIfInBounds_toArray, List.set_cons_zero, List.set_cons_succ]
      refine' wpAnyZ_takeA (i := 9) (v := ?_) (opAt rfl) (by kernel_rfl) (by kernel_rfl) (by kernel_rfl) (by kernel_rfl) (fun _ _ _ h => h) (by assumption) (by rfl) (fun w hSw => ?_) ?_
      rotate_left
      · (try dsimp only at hSw); go_simp; (try with_reducible rfl)
      try simp only [Act.put, List.setIfInBounds_toArray, List.set_cons_zero, List.set_cons_succ]
      refine wpAnyZ_done (by kernel_rfl) ?_ _
      have T9 : Tr w4 29 1 (.slice A9 n9 c9) n9 (ints .u64 (askBare ks hz)) := t9
      have T11 : Tr w4 29 1 (.slice A11 n11 c11) n11 (ints .u64 (askOver r hz ep)) := t11
      have T12 : Tr w4 29 1 (.slice A12 n12 c12) n12 (ints .u64 (askFree r hz ep)) := t12
      replace E9 := hide (show n9 = (askBare ks hz).length from E9.out)
      replace E11 := hide (show n11 = (askOver r hz ep).length from E11.out)
      replace E12 := hide (show n12 = (askFree r hz ep).length from E12.out)
      clear t9 t11 t12 E6 PT CV HWZ hHeld h1 h2 h3
      have HT := hide (show askTd r ks hz ep = (askBare ks hz).map (fun x => (x, true)) ++ (askFree r hz ep).map (fun x => (x, false)) from rfl)
      have LB := hide (show (askBare ks hz).length ≤ ks.length from List.length_filter_le _ _)
      have LF := hide (show (askFree r hz ep).length ≤ r.length by unfold askFree askRipe; exact Nat.le_trans (List.length_filter_le _ _) (by rw [List.length_map]; exact List.length_filter_le _ _))
      have LO := hide (show (askOver r hz ep).length ≤ r.length by unfold askOver askRipe; exact Nat.le_trans (List.length_filter_le _ _) (by rw [List.length_map]; exact List.length_filter_le _ _))
      generalize askBare ks hz = bare at *
      generalize askFree r hz ep = free at *
      generalize hOV : askOver r hz ep = over at *
      have HOV := hide hOV
      clear hOV
      generalize hTD : askTd r ks hz ep = tdl at *
      have HTD := hide hTD
      clear hTD
      clear t4
      have ms := fun i => bs.cell i
      have zs := fun i => bs.frozen i
      replace t1 := hide (t1.set_ bs (by decide) 10 (.slice none 0 0))
      replace t2 := hide (t2.set_ bs (by decide) 10 (.slice none 0 0))
      replace t3 := hide (t3.set_ bs (by decide) 10 (.slice none 0 0))
      replace t5 := hide (t5.set_ bs (by decide) 10 (.slice none 0 0))
      replace T9 := hide (T9.set_ bs (by decide) 10 (.slice none 0 0))
      replace T11 := hide (T11.set_ bs (by decide) 10 (.slice none 0 0))
      replace T12 := hide (T12.set_ bs (by decide) 10 (.slice none 0 0))
      have bs5 := bs.set_ 10 (.slice none 0 0)
      simp only [List.setIfInBounds_toArray, List.set_cons_zero, List.set_cons_succ] at bs5
      have bo5 := bo.far (p := ⟨w.heap.size, 10, none⟩) (by show w.heap.size + 1 ≠ w.heap.size; omega) (.slice none 0 0)
      replace B0 := B0.setCell (p := ⟨w.heap.size, 10, none⟩) (Nat.le_refl _) (.slice none 0 0)
      go_wp2_with fail
      generalize w4.setCell ⟨w.heap.size, 10, none⟩ (.slice none 0 0) = w5 at *
      go_loopw [44] (AskI w w5 (fun u => #[.slice A1 r.length c1, .slice A2 ks.length c2, .int .i64 s, .int .i64 t, .int .i64 f, .int .i64 l, .int .i64 p, .int .i64 k, .int .u64 ep, .slice A3 hz.length c3, u, .int .i64 q0, .int .i64 q1, .int .i64 q2, .int .i64 q3, .int .i64 q4, .int .i64 pk, .int .i64 sl, .int .u64 hd, .int .i64 tr, .slice A5 fr.length c5, .int .i64 ju]) #[.slice none 0 0, .slice none 0 0, .int .i64 0, .int .i64 0, .int .i64 0, .int .i64 0, .int .i64 0, .int .i64 0, .int .u64 0, .slice none 0 0, .slice none 0 0, .int .i64 0, .int .i64 0, .int .i64 0, .int .i64 0, .int .i64 0, .int .i64 0, .int .i64 0, .int .u64 0, .int .i64 0, .slice none 0 0, .int .i64 0] [] bare true) (fun i _ => n9 - (intOf i).toNat)
      case atStart => exact ⟨0, 0, none, 0, rfl, Nat.zero_le _, rfl, World.ownsRow_nil _ _ _ _, bs5, bo5, B0, KeepB.refl _⟩
      case round =>
        clear bs bo ms zs bs5 bo5 B0
        obtain ⟨k9, m9, Aj, cj, rfl, hk9, hm9, oa, bs, bo, hb, hkp⟩ := hrel
        dsimp only at bs
        have HM9 := hide hm9
        clear hm9
        have ez := E9.out
        by_cases hlt : k9 < n9
        · skip
          have tsrc := T9.out.keepB hkp (by decide) (by decide)
          have hkl : k9 < bare.length := by omega
          obtain ⟨a, ea, hkl2, z1⟩ := tsrc.reads.word hlt
          have ON := hide (ones_next [] bare true k9 hkl)
          generalize bare[k9] = x at *
          subst ea
          clear tsrc
          have hlt2 : (k9 : Int) < (n9 : Int) := by omega
          have hk3 : (k9 : Int) ≤ 4000 := by have := H123.out; have := LB.out; have := LF.out; have := LO.out; omega
          have HPN := hide (show m9 ≤ 4294967296 by rw [HM9.out]; have := H123.out; have := LB.out; have := LF.out; simp only [List.length_nil, List.length_map]; omega)
          have HKL := hide (show k9 + 1 ≤ bare.length from hkl)
          clear hkl hkl2 ez
          have ms := fun i => bs.cell i
          have hsz := hb.size
          go_wp2_with (at_builtin; refine wpList_append_one rfl (.tmp 49) (.tmp 52) _ rfl w.heap.size 82 i1 _ 2 16 Tryd.underlying45 hi1 hz1 hs1 hb1 rfl (by omega) (by omega) _ _ _ rfl (oa.alloc (.cells #[.int .u64 x, .bool true] 82)) wr.heap.size #[.int .u64 x, .bool true] rfl (Blk.new _ _ _) rfl rfl HPN.out (by rw [World.size_alloc]; omega) ?_; intro A13 c13 w13 oa7 hg7 hat7; have bs7 := (bs.alloc (.cells #[.int .u64 x, .bool true] 82)).grown hg7 (own_blk_ne (oa.alloc (.cells #[.int .u64 x, .bool true] 82)) (bs.alloc (.cells #[.int .u64 x, .bool true] 82)) (by decide)).symm; have bo7 := (bo.alloc (.cells #[.int .u64 x, .bool true] 82)).grown hg7 (own_blk_ne (oa.alloc (.cells #[.int .u64 x, .bool true] 82)) (bo.alloc (.cells #[.int .u64 x, .bool true] 82)) (by decide)).symm; have B7 := below_appended (hb.alloc (by omega) (.cells #[.int .u64 x, .bool true] 82)) (oa.alloc (.cells #[.int .u64 x, .bool true] 82)) hg7 (Nat.le_refl _) (by rw [World.size_alloc]; omega); have K7 := (hkp.alloc (.cells #[.int .u64 x, .bool true] 82)).appended (oa.alloc (.cells #[.int .u64 x, .bool true] 82)) (.inr rfl) hg7; clear hg7 hat7; have ms7 := fun i => bs7.cell i; have zs7 := fun i => bs7.frozen i)
          go_roundw
          case measure => simp [intOf]; omega
          case rel => exact ⟨k9 + 1, m9 + 1, A13, c13, by go_num, HKL.out, by rw [HM9.out, Nat.add_assoc], by rw [ON.out]; exact own_set1 oa7 bs7 (by decide) _, by have h9 := bs7.set_ 10 (.slice A13 (m9 + 1) c13); simpa only [List.setIfInBounds_toArray, List.set_cons_zero, List.set_cons_succ] using h9, bo7.far (p := ⟨w.heap.size, 10, none⟩) (by show w.heap.size + 1 ≠ w.heap.size; omega) _, B7.setCell (p := ⟨w.heap.size, 10, none⟩) (Nat.le_refl _) _, K7.set_ bs7 (.inl rfl) 10 _⟩
        · skip
          have hkk : k9 = bare.length := by omega
          have et : bare.take k9 = bare := List.take_of_length_le (by omega)
          rw [et, List.nil_append] at oa
          have HM2 := hide (show m9 = (bare.map fun x => (x, true)).length + 0 by rw [HM9.out, List.length_nil, List.length_map]; omega)
          have hlt2 : ¬ (k9 : Int) < (n9 : Int) := by omega
          clear hkk et HM9 ez hlt hk9
          have ms := fun i => bs.cell i
          go_wp2_with fail
          clear hlt2
          go_loopw [58] (AskI w w5 (fun u => #[.slice A1 r.length c1, .slice A2 ks.length c2, .int .i64 s, .int .i64 t, .int .i64 f, .int .i64 l, .int .i64 p, .int .i64 k, .int .u64 ep, .slice A3 hz.length c3, u, .int .i64 q0, .int .i64 q1, .int .i64 q2, .int .i64 q3, .int .i64 q4, .int .i64 pk, .int .i64 sl, .int .u64 hd, .int .i64 tr, .slice A5 fr.length c5, .int .i64 ju]) #[.slice none 0 0, .slice none 0 0, .int .i64 0, .int .i64 0, .int .i64 0, .int .i64 0, .int .i64 0, .int .i64 0, .int .u64 0, .slice none 0 0, .slice none 0 0, .int .i64 0, .int .i64 0, .int .i64 0, .int .i64 0, .int .i64 0, .int .i64 0, .int .i64 0, .int .u64 0, .int .i64 0, .slice none 0 0, .int .i64 0] (bare.map fun x => (x, true)) free false) (fun i _ => n12 - (intOf i).toNat)
          case atStart => exact ⟨0, m9, Aj, cj, rfl, Nat.zero_le _, HM2.out, by rw [List.take_zero, List.map_nil, List.append_nil]; exact oa, bs, bo, hb, hkp⟩
          case round =>
            clear oa bs bo hb hkp ms HM2
            obtain ⟨k9, m9, Aj, cj, rfl, hk9, hm9, oa, bs, bo, hb, hkp⟩ := hrel
            dsimp only at bs
            have HM9 := hide hm9
            clear hm9
            have ez := E12.out
            by_cases hlt : k9 < n12
            · skip
              have tsrc := T12.out.keepB hkp (by decide) (by decide)
              have hkl : k9 < free.length := by omega
              obtain ⟨a, ea, hkl2, z1⟩ := tsrc.reads.word hlt
              have ON := hide (ones_next (bare.map fun x => (x, true)) free false k9 hkl)
              generalize free[k9] = x at *
              subst ea
              clear tsrc
              have hlt2 : (k9 : Int) < (n12 : Int) := by omega
              have hk3 : (k9 : Int) ≤ 4000 := by have := H123.out; have := LB.out; have := LF.out; have := LO.out; omega
              have HPN := hide (show m9 ≤ 4294967296 by rw [HM9.out]; have := H123.out; have := LB.out; have := LF.out; simp only [List.length_nil, List.length_map]; omega)
              have HKL := hide (show k9 + 1 ≤ free.length from hkl)
              clear hkl hkl2 ez
              have ms := fun i => bs.cell i
              have hsz := hb.size
              go_wp2_with (at_builtin; refine wpList_append_one rfl (.tmp 63) (.tmp 66) _ rfl w.heap.size 82 i1 _ 2 16 Tryd.underlying45 hi1 hz1 hs1 hb1 rfl (by omega) (by omega) _ _ _ rfl (oa.alloc (.cells #[.int .u64 x, .bool false] 82)) wr.heap.size #[.int .u64 x, .bool false] rfl (Blk.new _ _ _) rfl rfl HPN.out (by rw [World.size_alloc]; omega) ?_; intro A13 c13 w13 oa7 hg7 hat7; have bs7 := (bs.alloc (.cells #[.int .u64 x, .bool false] 82)).grown hg7 (own_blk_ne (oa.alloc (.cells #[.int .u64 x, .bool false] 82)) (bs.alloc (.cells #[.int .u64 x, .bool false] 82)) (by decide)).symm; have bo7 := (bo.alloc (.cells #[.int .u64 x, .bool false] 82)).grown hg7 (own_blk_ne (oa.alloc (.cells #[.int .u64 x, .bool false] 82)) (bo.alloc (.cells #[.int .u64 x, .bool false] 82)) (by decide)).symm; have B7 := below_appended (hb.alloc (by omega) (.cells #[.int .u64 x, .bool false] 82)) (oa.alloc (.cells #[.int .u64 x, .bool false] 82)) hg7 (Nat.le_refl _) (by rw [World.size_alloc]; omega); have K7 := (hkp.alloc (.cells #[.int .u64 x, .bool false] 82)).appended (oa.alloc (.cells #[.int .u64 x, .bool false] 82)) (.inr rfl) hg7; clear hg7 hat7; have ms7 := fun i => bs7.cell i; have zs7 := fun i => bs7.frozen i)
              go_roundw
              case measure => simp [intOf]; omega
              case rel => exact ⟨k9 + 1, m9 + 1, A13, c13, by go_num, HKL.out, by rw [HM9.out, Nat.add_assoc], by rw [ON.out]; exact own_set1 oa7 bs7 (by decide) _, by have h9 := bs7.set_ 10 (.slice A13 (m9 + 1) c13); simpa only [List.setIfInBounds_toArray, List.set_cons_zero, List.set_cons_succ] using h9, bo7.far (p := ⟨w.heap.size, 10, none⟩) (by show w.heap.size + 1 ≠ w.heap.size; omega) _, B7.setCell (p := ⟨w.heap.size, 10, none⟩) (Nat.le_refl _) _, K7.set_ bs7 (.inl rfl) 10 _⟩
            · skip
              have hkk : k9 = free.length := by omega
              have et : free.take k9 = free := List.take_of_length_le (by omega)
              rw [et, ← HT.out] at oa
              have HM4 := hide (show m9 = tdl.length by rw [HM9.out, HT.out, List.length_append, List.length_map, List.length_map, hkk])
              have hlt2 : ¬ (k9 : Int) < (n12 : Int) := by omega
              have T4 := hide (Tr.of_own oa HGH.out hb.size)
              replace t1 := hide (t1.out.keepB hkp (by decide) (by decide))
              replace t2 := hide (t2.out.keepB hkp (by decide) (by decide))
              replace t3 := hide (t3.out.keepB hkp (by decide) (by decide))
              replace t5 := hide (t5.out.keepB hkp (by decide) (by decide))
              replace T11 := hide (T11.out.keepB hkp (by decide) (by decide))
              clear hkk et HM9 ez hlt hk9 oa T9 T12 hkp
              have ms := fun i => bs.cell i
              go_wp2_with fail
              clear hlt2
              go_loopw [72] (AskO w wr (fun u => #[u, .slice A2 ks.length c2, .int .i64 s, .int .i64 t, .int .i64 f, .int .i64 l, .int .i64 p, .int .i64 k, .int .u64 ep, .slice A3 hz.length c3, .slice Aj m9 cj, .int .i64 q0, .int .i64 q1, .int .i64 q2, .int .i64 q3, .int .i64 q4, .int .i64 pk, .int .i64 sl, .int .u64 hd, .int .i64 tr, .slice A5 fr.length c5, .int .i64 ju]) #[.slice none 0 0, .slice none 0 0, .int .i64 0, .int .i64 0, .int .i64 0, .int .i64 0, .int .i64 0, .int .i64 0, .int .u64 0, .slice none 0 0, .slice none 0 0, .int .i64 0, .int .i64 0, .int .i64 0, .int .i64 0, .int .i64 0, .int .i64 0, .int .i64 0, .int .u64 0, .int .i64 0, .slice none 0 0, .int .i64 0] ep r over) (fun i _ => n11 - (intOf i).toNat)
              case atStart => exact ⟨0, r.length, A1, c1, rfl, Nat.zero_le _, by rw [List.take_zero]; rfl, by rw [List.take_zero]; exact t1.out, bs, bo, hb, KeepB.refl _⟩
              case round =>
                clear bs bo hb ms
                rename_i w6
                obtain ⟨k9, m8, Ak, ck, rfl, hk9, hm8, tk, bs, bo, hb, hkp⟩ := hrel
                dsimp only at bs
                have HM8 := hide hm8
                clear hm8
                have ez := E11.out
                by_cases hlt : k9 < n11
                · skip
                  have tsrc := T11.out.keepB hkp (by decide) (by decide)
                  have hkl : k9 < over.length := by omega
                  obtain ⟨a, ea, hkl2, z1⟩ := tsrc.reads.word hlt
                  have AL := hide (askL_next ep r over k9 hkl)
                  have SUB := hide (askL_sub ep r (over.take k9))
                  generalize over[k9] = x at *
                  generalize askL ep r (over.take k9) = rk at *
                  have hm := HM8.out
                  subst hm ea
                  clear tsrc HM8
                  have hlt2 : (k9 : Int) < (n11 : Int) := by omega
                  have hk3 : (k9 : Int) ≤ 4000 := by have := H123.out; have := LO.out; omega
                  have HKL := hide (show k9 + 1 ≤ over.length from hkl)
                  clear hkl hkl2 ez
                  have ms := fun i => bs.cell i
                  have hsz := hb.size
                  have hl1 := bs.lt
                  go_wp2_with fail
                  have bh := Blk.new wr 29 #[.int .u64 x]
                  replace bs := bs.alloc (.cells #[.int .u64 x] 29)
                  replace bo := bo.alloc (.cells #[.int .u64 x] 29)
                  replace tk := tk.alloc (.cells #[.int .u64 x] 29)
                  replace hkp := hkp.alloc (.cells #[.int .u64 x] 29)
                  replace hb := hb.alloc hb.size (.cells #[.int .u64 x] 29)
                  clear ms
                  generalize wr.alloc (.cells #[.int .u64 x] 29) = w8 at *
                  generalize wr.heap.size = g8 at *
                  refine (withoutR_any _ rk 69 #[] #[.pointer (some ⟨g8, 0, none⟩), .pointer (some ⟨w.heap.size, 0, none⟩)] (fun y => y.1 == x && ripeB y.2 ep) w8 (Nat.le_trans SUB.out.length_le HL1.out) tk (fun args w' => run_enter Tryd.func69 (by decide) (by simp [Tryd.f69]) args w') (fun y hy w' hbb => asked1_any _ _ _ _ _ _ _ _ _ _ _ _ _ _ _ _ _ _ _ _ _ ep y.1 y.2 x w' _ _ (HWR.out y (SUB.out.subset hy)).2 HP.out (bh.below hbb bh.lt) (bs.below hbb bs.lt))).mono ?_
                  rintro e w9 ⟨⟨u, rfl, o2⟩, hbb⟩
                  obtain ⟨A13, c13, rfl⟩ := o2.val
                  replace bs := bs.below hbb bs.lt
                  replace bo := bo.below hbb bo.lt
                  replace hb := hb.trans (hbb.mono hb.size)
                  replace hkp := hkp.below hbb
                  clear hbb tk bh
                  have ms := fun i => bs.cell i
                  have zs := fun i => bs.frozen i
                  go_wp2_with fail
                  go_roundw
                  case measure => simp [intOf]; omega
                  case rel => exact ⟨k9 + 1, _, A13, c13, by go_num, HKL.out, by rw [AL.out], by rw [AL.out]; exact o2.set_ bs (by decide) 0 _, by have h9 := bs.set_ 0 (.slice A13 (rk.eraseP fun y => y.1 == x && ripeB y.2 ep).length c13); simpa only [List.setIfInBounds_toArray, List.set_cons_zero, List.set_cons_succ] using h9, bo.far (p := ⟨w.heap.size, 0, none⟩) (by show w.heap.size + 1 ≠ w.heap.size; omega) _, hb.setCell (p := ⟨w.heap.size, 0, none⟩) (Nat.le_refl _) _, hkp.set_ bs (.inl rfl) 0 _⟩
                · skip
                  have hkk : k9 = over.length := by omega
                  have et : over.take k9 = over := List.take_of_length_le (by omega)
                  rw [et] at tk HM8
                  have hlt2 : ¬ (k9 : Int) < (n11 : Int) := by omega
                  have t2 := t2.out.keepB hkp (by decide) (by decide)
                  have t3 := t3.out.keepB hkp (by decide) (by decide)
                  have t4 := T4.out.keepB hkp (by decide) (by decide)
                  have t5 := t5.out.keepB hkp (by decide) (by decide)
                  have t11 := T11.out.keepB hkp (by decide) (by decide)
                  have hm := HM8.out
                  subst hm
                  have t1 := tk
                  clear tk hkk et hlt hk9 ez hkp HM8
                  generalize hRR : askL ep r over = rr at *
                  have HRR := hide hRR
                  clear hRR
                  have ms := fun i => bs.cell i
                  have zs := fun i => bs.frozen i
                  have HLO := hide (show (ks ++ over).length ≤ 1000000 by rw [List.length_append]; have := H123.out; have := LO.out; omega)
                  go_wp2_with fail
                  have HG2 := hide (t2.alloc (.cells #[.slice A2 ks.length c2, .slice A11 n11 c11] 23)).gh
                  refine (catU_two _ _ ks over _ _ _ _ (Blk.new wr _ _) (t2.alloc _) (t11.alloc _) HLO.out).mono ?_
                  rintro e w9 ⟨⟨u, rfl, o2⟩, hbb⟩
                  replace t1 := (t1.alloc (.cells #[.slice A2 ks.length c2, .slice A11 n11 c11] 23)).below (Nat.le_refl _) hbb
                  replace t3 := (t3.alloc (.cells #[.slice A2 ks.length c2, .slice A11 n11 c11] 23)).below (Nat.le_refl _) hbb
                  replace t4 := (t4.alloc (.cells #[.slice A2 ks.length c2, .slice A11 n11 c11] 23)).below (Nat.le_refl _) hbb
                  replace t5 := (t5.alloc (.cells #[.slice A2 ks.length c2, .slice A11 n11 c11] 23)).below (Nat.le_refl _) hbb
                  replace bs := (bs.alloc (.cells #[.slice A2 ks.length c2, .slice A11 n11 c11] 23)).below hbb (bs.alloc (.cells #[.slice A2 ks.length c2, .slice A11 n11 c11] 23)).lt
                  replace bo := (bo.alloc (.cells #[.slice A2 ks.length c2, .slice A11 n11 c11] 23)).below hbb (bo.alloc (.cells #[.slice A2 ks.length c2, .slice A11 n11 c11] 23)).lt
                  have HW2 := hide hbb.size
                  replace hb := (hb.alloc hb.size (.cells #[.slice A2 ks.length c2, .slice A11 n11 c11] 23)).trans (hbb.mono (hb.alloc hb.size (.cells #[.slice A2 ks.length c2, .slice A11 n11 c11] 23)).size)
                  clear hbb t2 t11 HLO ms zs
                  generalize hKK : ks ++ over = kk at *
                  have HKK := hide hKK
                  clear hKK
                  have t2 := Tr.of_own o2 HG2.out HW2.out
                  obtain ⟨A13, c13, rfl⟩ := t2.val
                  clear o2
                  have hm := HM4.out
                  subst hm
                  have ms := fun i => bs.cell i
                  have zs := fun i => bs.frozen i
                  replace t1 := t1.set_ bs (by decide) 1 (.slice A13 kk.length c13)
                  replace t2 := t2.set_ bs (by decide) 1 (.slice A13 kk.length c13)
                  replace t3 := t3.set_ bs (by decide) 1 (.slice A13 kk.length c13)
                  replace t4 := t4.set_ bs (by decide) 1 (.slice A13 kk.length c13)
                  replace t5 := t5.set_ bs (by decide) 1 (.slice A13 kk.length c13)
                  replace bo := bo.far (p := ⟨w.heap.size, 1, none⟩) (by show w.heap.size + 1 ≠ w.heap.size; omega) (.slice A13 kk.length c13)
                  replace hb := hb.setCell (p := ⟨w.heap.size, 1, none⟩) (Nat.le_refl _) (.slice A13 kk.length c13)
                  replace bs := bs.set_ 1 (.slice A13 kk.length c13)
                  simp only [List.setIfInBounds_toArray, List.set_cons_zero, List.set_cons_succ] at bs
                  go_wp2_with (first | (refine wpList_load_mid rfl 51 (.tmp 1) rfl w.heap.size 0 (by rfl) [.slice Ak rr.length ck, .slice A13 kk.length c13, .int .i64 s, .int .i64 t, .int .i64 f, .int .i64 l, .int .i64 p, .int .i64 k, .int .u64 ep, .slice A3 hz.length c3, .slice Aj tdl.length cj, .int .i64 q0, .int .i64 q1, .int .i64 q2, .int .i64 q3, .int .i64 q4, .int .i64 pk, .int .i64 sl, .int .u64 hd, .int .i64 tr, .slice A5 fr.length c5, .int .i64 ju] _ bs.range Tryd.underlying51 rfl (by kernel_rfl) ?_))
                  refine (HN.out _ _ ⟨_, _, _, _, _, _, _, _, _, _, rfl, t1, t2, t3, t4, t5⟩).mono ?_
                  rintro e w10 ⟨⟨v2, k2, p0, p1, p2, p3, p4, pk2, sl2, hd2, tr2, rfl, hv2, hpp⟩, hbb⟩
                  clear t1 t2 t3 t4 t5 bs ms zs
                  obtain ⟨B1, d1, B2, d2, B3, d3, B4, d4, B5, d5, rfl, t1, t2, t3, t4, t5⟩ := hv2
                  replace bo := bo.below hbb bo.lt
                  have B0 := hb.trans (hbb.mono hb.size)
                  have HPP := hide hpp
                  clear hb hbb hpp
                  go_wp2_with (first | (refine wpList_store_mid rfl 51 (.tmp 2) (.tmp 93) rfl (w.heap.size + 1) 0 #[.slice B1 rr.length d1, .slice B2 kk.length d2, .int .i64 s, .int .i64 t, .int .i64 f, .int .i64 l, .int .i64 p, .int .i64 k2, .int .u64 ep, .slice B3 hz.length d3, .slice B4 tdl.length d4, .int .i64 p0, .int .i64 p1, .int .i64 p2, .int .i64 p3, .int .i64 p4, .int .i64 pk2, .int .i64 sl2, .int .u64 hd2, .int .i64 tr2, .slice B5 fr.length d5, .int .i64 ju] (by rfl) (by rfl) (bo.there rfl) (by kernel_rfl) (by kernel_rfl) ?_))
                  replace t1 := (show Tr (w10.setCells (w.heap.size + 1) 0 [.slice B1 rr.length d1, .slice B2 kk.length d2, .int .i64 s, .int .i64 t, .int .i64 f, .int .i64 l, .int .i64 p, .int .i64 k2, .int .u64 ep, .slice B3 hz.length d3, .slice B4 tdl.length d4, .int .i64 p0, .int .i64 p1, .int .i64 p2, .int .i64 p3, .int .i64 p4, .int .i64 pk2, .int .i64 sl2, .int .u64 hd2, .int .i64 tr2, .slice B5 fr.length d5, .int .i64 ju]) _ _ _ _ _ from by rw [putL_eq]; exact Tr.putL (by decide) _ 0 bo t1)
                  replace t2 := (show Tr (w10.setCells (w.heap.size + 1) 0 [.slice B1 rr.length d1, .slice B2 kk.length d2, .int .i64 s, .int .i64 t, .int .i64 f, .int .i64 l, .int .i64 p, .int .i64 k2, .int .u64 ep, .slice B3 hz.length d3, .slice B4 tdl.length d4, .int .i64 p0, .int .i64 p1, .int .i64 p2, .int .i64 p3, .int .i64 p4, .int .i64 pk2, .int .i64 sl2, .int .u64 hd2, .int .i64 tr2, .slice B5 fr.length d5, .int .i64 ju]) _ _ _ _ _ from by rw [putL_eq]; exact Tr.putL (by decide) _ 0 bo t2)
                  replace t3 := (show Tr (w10.setCells (w.heap.size + 1) 0 [.slice B1 rr.length d1, .slice B2 kk.length d2, .int .i64 s, .int .i64 t, .int .i64 f, .int .i64 l, .int .i64 p, .int .i64 k2, .int .u64 ep, .slice B3 hz.length d3, .slice B4 tdl.length d4, .int .i64 p0, .int .i64 p1, .int .i64 p2, .int .i64 p3, .int .i64 p4, .int .i64 pk2, .int .i64 sl2, .int .u64 hd2, .int .i64 tr2, .slice B5 fr.length d5, .int .i64 ju]) _ _ _ _ _ from by rw [putL_eq]; exact Tr.putL (by decide) _ 0 bo t3)
                  replace t4 := (show Tr (w10.setCells (w.heap.size + 1) 0 [.slice B1 rr.length d1, .slice B2 kk.length d2, .int .i64 s, .int .i64 t, .int .i64 f, .int .i64 l, .int .i64 p, .int .i64 k2, .int .u64 ep, .slice B3 hz.length d3, .slice B4 tdl.length d4, .int .i64 p0, .int .i64 p1, .int .i64 p2, .int .i64 p3, .int .i64 p4, .int .i64 pk2, .int .i64 sl2, .int .u64 hd2, .int .i64 tr2, .slice B5 fr.length d5, .int .i64 ju]) _ _ _ _ _ from by rw [putL_eq]; exact Tr.putL (by decide) _ 0 bo t4)
                  replace t5 := (show Tr (w10.setCells (w.heap.size + 1) 0 [.slice B1 rr.length d1, .slice B2 kk.length d2, .int .i64 s, .int .i64 t, .int .i64 f, .int .i64 l, .int .i64 p, .int .i64 k2, .int .u64 ep, .slice B3 hz.length d3, .slice B4 tdl.length d4, .int .i64 p0, .int .i64 p1, .int .i64 p2, .int .i64 p3, .int .i64 p4, .int .i64 pk2, .int .i64 sl2, .int .u64 hd2, .int .i64 tr2, .slice B5 fr.length d5, .int .i64 ju]) _ _ _ _ _ from by rw [putL_eq]; exact Tr.putL (by decide) _ 0 bo t5)
                  replace B0 := (show Below w.heap.size w (w10.setCells (w.heap.size + 1) 0 [.slice B1 rr.length d1, .slice B2 kk.length d2, .int .i64 s, .int .i64 t, .int .i64 f, .int .i64 l, .int .i64 p, .int .i64 k2, .int .u64 ep, .slice B3 hz.length d3, .slice B4 tdl.length d4, .int .i64 p0, .int .i64 p1, .int .i64 p2, .int .i64 p3, .int .i64 p4, .int .i64 pk2, .int .i64 sl2, .int .u64 hd2, .int .i64 tr2, .slice B5 fr.length d5, .int .i64 ju]) from by rw [putL_eq]; exact Below.putL (by omega) _ _ 0 B0)
                  replace bo := (show Blk (w10.setCells (w.heap.size + 1) 0 [.slice B1 rr.length d1, .slice B2 kk.length d2, .int .i64 s, .int .i64 t, .int .i64 f, .int .i64 l, .int .i64 p, .int .i64 k2, .int .u64 ep, .slice B3 hz.length d3, .slice B4 tdl.length d4, .int .i64 p0, .int .i64 p1, .int .i64 p2, .int .i64 p3, .int .i64 p4, .int .i64 pk2, .int .i64 sl2, .int .u64 hd2, .int .i64 tr2, .slice B5 fr.length d5, .int .i64 ju]) (w.heap.size + 1) 51 #[.slice B1 rr.length d1, .slice B2 kk.length d2, .int .i64 s, .int .i64 t, .int .i64 f, .int .i64 l, .int .i64 p, .int .i64 k2, .int .u64 ep, .slice B3 hz.length d3, .slice B4 tdl.length d4, .int .i64 p0, .int .i64 p1, .int .i64 p2, .int .i64 p3, .int .i64 p4, .int .i64 pk2, .int .i64 sl2, .int .u64 hd2, .int .i64 tr2, .slice B5 fr.length d5, .int .i64 ju] from by rw [putL_eq]; have h9 := Blk.putL [.slice B1 rr.length d1, .slice B2 kk.length d2, .int .i64 s, .int .i64 t, .int .i64 f, .int .i64 l, .int .i64 p, .int .i64 k2, .int .u64 ep, .slice B3 hz.length d3, .slice B4 tdl.length d4, .int .i64 p0, .int .i64 p1, .int .i64 p2, .int .i64 p3, .int .i64 p4, .int .i64 pk2, .int .i64 sl2, .int .u64 hd2, .int .i64 tr2, .slice B5 fr.length d5, .int .i64 ju] _ _ 0 bo; simpa only [setL, List.setIfInBounds_toArray, List.set_cons_zero, List.set_cons_succ] using h9)
                  generalize w10.setCells (w.heap.size + 1) 0 [.slice B1 rr.length d1, .slice B2 kk.length d2, .int .i64 s, .int .i64 t, .int .i64 f, .int .i64 l, .int .i64 p, .int .i64 k2, .int .u64 ep, .slice B3 hz.length d3, .slice B4 tdl.length d4, .int .i64 p0, .int .i64 p1, .int .i64 p2, .int .i64 p3, .int .i64 p4, .int .i64 pk2, .int .i64 sl2, .int .u64 hd2, .int .i64 tr2, .slice B5 fr.length d5, .int .i64 ju] = w12 at *
                  have hres : (loadVar 51 ⟨w.heap.size + 1, 0, none⟩).run Tryd.prog w12 = .ok (.agg #[.slice B1 rr.length d1, .slice B2 kk.length d2, .int .i64 s, .int .i64 t, .int .i64 f, .int .i64 l, .int .i64 p, .int .i64 k2, .int .u64 ep, .slice B3 hz.length d3, .slice B4 tdl.length d4, .int .i64 p0, .int .i64 p1, .int .i64 p2, .int .i64 p3, .int .i64 p4, .int .i64 pk2, .int .i64 sl2, .int .u64 hd2, .int .i64 tr2, .slice B5 fr.length d5, .int .i64 ju]) w12 := run_loadVar_mid w12 _ 0 _ [.slice B1 rr.length d1, .slice B2 kk.length d2, .int .i64 s, .int .i64 t, .int .i64 f, .int .i64 l, .int .i64 p, .int .i64 k2, .int .u64 ep, .slice B3 hz.length d3, .slice B4 tdl.length d4, .int .i64 p0, .int .i64 p1, .int .i64 p2, .int .i64 p3, .int .i64 p4, .int .i64 pk2, .int .i64 sl2, .int .u64 hd2, .int .i64 tr2, .slice B5 fr.length d5, .int .i64 ju] _ bo.range Tryd.underlying51 rfl (by kernel_rfl)
                  refine bodyPost_ret (v := .agg #[.slice B1 rr.length d1, .slice B2 kk.length d2, .int .i64 s, .int .i64 t, .int .i64 f, .int .i64 l, .int .i64 p, .int .i64 k2, .int .u64 ep, .slice B3 hz.length d3, .slice B4 tdl.length d4, .int .i64 p0, .int .i64 p1, .int .i64 p2, .int .i64 p3, .int .i64 p4, .int .i64 pk2, .int .i64 sl2, .int .u64 hd2, .int .i64 tr2, .slice B5 fr.length d5, .int .i64 ju]) (by simp [results, Tryd.results47, Act.put, asAddr, hres]) rfl (by have h1 := HTD.out; have h2 := HKK.out; have h3 := HRR.out; have h4 := HOV.out; subst h1 h2 h3 h4; exact ⟨⟨_, k2, p0, p1, p2, p3, p4, pk2, sl2, hd2, tr2, rfl, ⟨_, _, _, _, _, _, _, _, _, _, rfl, t1, t2, t3, t4, t5⟩, HPP.out⟩, B0⟩)
    exact AllReadyZ.nil
  exact AllReadyZ.nil
end Go.Proofs.YtokcbipmocpllaaDoor

