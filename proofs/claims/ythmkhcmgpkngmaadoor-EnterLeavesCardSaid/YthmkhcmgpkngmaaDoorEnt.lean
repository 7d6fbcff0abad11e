/-
  A thread that announces itself: what it becomes of what it is told.
-/
import Derived.Test.YthmkhcmgpkngmaaDoorEntP
import Derived.Test.YthmkhcmgpkngmaaDoorRow
import Derived.Test.YthmkhcmgpkngmaaDoorPast
import Derived.Test.YthmkhcmgpkngmaaDoorAwordB
namespace Go.Proofs.YthmkhcmgpkngmaaDoor
open Go.RowKit
attribute [local go_sem] past_cell past_cell_add

set_option maxHeartbeats 1000000 in
theorem etook_0 (s t f l p th : Int) (sl : Bool) (ep ck g : Int) (w : World) :
    Calls Tryd.prog 16 #[.agg #[.int .i64 s, .int .i64 t, .int .i64 f, .int .i64 l, .int .i64 p, .int .i64 th, .int .i64 0, .bool sl, .int .u64 ep, .int .u64 ck], .int .u64 g] w fun e w' => e = .returned (.agg #[.int .i64 s, .int .i64 t, .int .i64 f, .int .i64 l, .int .i64 p, .int .i64 th, .int .i64 0, .bool sl, .int .u64 ep, .int .u64 ck]) ∧ Below w.heap.size w w' := by
  go_enter Tryd.func16, Tryd.ntmps16
  go_wp2_with fail
  refine bodyPost_ret (v := .agg #[.int .i64 s, .int .i64 t, .int .i64 f, .int .i64 l, .int .i64 p, .int .i64 th, .int .i64 0, .bool sl, .int .u64 ep, .int .u64 ck]) (by simp [results, Tryd.results16, go_sem]) rfl ⟨rfl, ?_⟩
  repeat (first | exact Below.refl _ _ | exact B0 | (refine Below.setCell ?_ (by first | (show w.heap.size ≤ w.heap.size; omega) | (show w.heap.size ≤ w.heap.size + 1; omega) | (show w.heap.size ≤ _; simp)) _) | (refine Below.alloc ?_ (by first | exact Nat.le_refl _ | simp) _))
set_option maxHeartbeats 1000000 in
theorem etook_2 (s t f l p th : Int) (sl : Bool) (ep ck g : Int) (w : World) :
    Calls Tryd.prog 16 #[.agg #[.int .i64 s, .int .i64 t, .int .i64 f, .int .i64 l, .int .i64 p, .int .i64 th, .int .i64 2, .bool sl, .int .u64 ep, .int .u64 ck], .int .u64 g] w fun e w' => e = .returned (.agg #[.int .i64 s, .int .i64 t, .int .i64 f, .int .i64 l, .int .i64 p, .int .i64 th, .int .i64 3, .bool sl, .int .u64 g, .int .u64 ck]) ∧ Below w.heap.size w w' := by
  go_enter Tryd.func16, Tryd.ntmps16
  go_wp2_with fail
  refine bodyPost_ret (v := .agg #[.int .i64 s, .int .i64 t, .int .i64 f, .int .i64 l, .int .i64 p, .int .i64 th, .int .i64 3, .bool sl, .int .u64 g, .int .u64 ck]) (by simp [results, Tryd.results16, go_sem]) rfl ⟨rfl, ?_⟩
  repeat (first | exact Below.refl _ _ | exact B0 | (refine Below.setCell ?_ (by first | (show w.heap.size ≤ w.heap.size; omega) | (show w.heap.size ≤ w.heap.size + 1; omega) | (show w.heap.size ≤ _; simp)) _) | (refine Below.alloc ?_ (by first | exact Nat.le_refl _ | simp) _))
set_option maxHeartbeats 1000000 in
theorem etook_3 (s t f l p th : Int) (sl : Bool) (ep ck g : Int) (w : World) :
    Calls Tryd.prog 16 #[.agg #[.int .i64 s, .int .i64 t, .int .i64 f, .int .i64 l, .int .i64 p, .int .i64 th, .int .i64 3, .bool sl, .int .u64 ep, .int .u64 ck], .int .u64 g] w fun e w' => e = .returned (.agg #[.int .i64 s, .int .i64 t, .int .i64 f, .int .i64 l, .int .i64 p, .int .i64 th, .int .i64 4, .bool sl, .int .u64 ep, .int .u64 g]) ∧ Below w.heap.size w w' := by
  go_enter Tryd.func16, Tryd.ntmps16
  go_wp2_with fail
  refine bodyPost_ret (v := .agg #[.int .i64 s, .int .i64 t, .int .i64 f, .int .i64 l, .int .i64 p, .int .i64 th, .int .i64 4, .bool sl, .int .u64 ep, .int .u64 g]) (by simp [results, Tryd.results16, go_sem]) rfl ⟨rfl, ?_⟩
  repeat (first | exact Below.refl _ _ | exact B0 | (refine Below.setCell ?_ (by first | (show w.heap.size ≤ w.heap.size; omega) | (show w.heap.size ≤ w.heap.size + 1; omega) | (show w.heap.size ≤ _; simp)) _) | (refine Below.alloc ?_ (by first | exact Nat.le_refl _ | simp) _))
set_option maxHeartbeats 1000000 in
theorem etook_4 (s t f l p th : Int) (sl : Bool) (ep ck g : Int) (w : World) :
    Calls Tryd.prog 16 #[.agg #[.int .i64 s, .int .i64 t, .int .i64 f, .int .i64 l, .int .i64 p, .int .i64 th, .int .i64 4, .bool sl, .int .u64 ep, .int .u64 ck], .int .u64 g] w fun e w' => e = .returned (.agg #[.int .i64 s, .int .i64 t, .int .i64 f, .int .i64 l, .int .i64 p, .int .i64 th, .int .i64 0, .bool sl, .int .u64 ep, .int .u64 ck]) ∧ Below w.heap.size w w' := by
  go_enter Tryd.func16, Tryd.ntmps16
  go_wp2_with fail
  refine bodyPost_ret (v := .agg #[.int .i64 s, .int .i64 t, .int .i64 f, .int .i64 l, .int .i64 p, .int .i64 th, .int .i64 0, .bool sl, .int .u64 ep, .int .u64 ck]) (by simp [results, Tryd.results16, go_sem]) rfl ⟨rfl, ?_⟩
  repeat (first | exact Below.refl _ _ | exact B0 | (refine Below.setCell ?_ (by first | (show w.heap.size ≤ w.heap.size; omega) | (show w.heap.size ≤ w.heap.size + 1; omega) | (show w.heap.size ≤ _; simp)) _) | (refine Below.alloc ?_ (by first | exact Nat.le_refl _ | simp) _))
set_option maxHeartbeats 1000000 in
theorem ertook_0 (th : Int) (sl : Bool) (ep ck g : Int) (w : World) :
    Calls Tryd.prog 17 #[.agg #[.int .i64 th, .int .i64 0, .bool sl, .int .u64 ep, .int .u64 ck], .int .u64 g] w fun e w' => e = .returned (.agg #[.int .i64 th, .int .i64 0, .bool sl, .int .u64 ep, .int .u64 ck]) ∧ Below w.heap.size w w' := by
  go_enter Tryd.func17, Tryd.ntmps17
  go_wp2_with fail
  refine bodyPost_ret (v := .agg #[.int .i64 th, .int .i64 0, .bool sl, .int .u64 ep, .int .u64 ck]) (by simp [results, Tryd.results17, go_sem]) rfl ⟨rfl, ?_⟩
  repeat (first | exact Below.refl _ _ | exact B0 | (refine Below.setCell ?_ (by first | (show w.heap.size ≤ w.heap.size; omega) | (show w.heap.size ≤ w.heap.size + 1; omega) | (show w.heap.size ≤ _; simp)) _) | (refine Below.alloc ?_ (by first | exact Nat.le_refl _ | simp) _))
set_option maxHeartbeats 1000000 in
theorem ertook_2 (th : Int) (sl : Bool) (ep ck g : Int) (w : World) :
    Calls Tryd.prog 17 #[.agg #[.int .i64 th, .int .i64 2, .bool sl, .int .u64 ep, .int .u64 ck], .int .u64 g] w fun e w' => e = .returned (.agg #[.int .i64 th, .int .i64 3, .bool sl, .int .u64 g, .int .u64 ck]) ∧ Below w.heap.size w w' := by
  go_enter Tryd.func17, Tryd.ntmps17
  go_wp2_with fail
  refine bodyPost_ret (v := .agg #[.int .i64 th, .int .i64 3, .bool sl, .int .u64 g, .int .u64 ck]) (by simp [results, Tryd.results17, go_sem]) rfl ⟨rfl, ?_⟩
  repeat (first | exact Below.refl _ _ | exact B0 | (refine Below.setCell ?_ (by first | (show w.heap.size ≤ w.heap.size; omega) | (show w.heap.size ≤ w.heap.size + 1; omega) | (show w.heap.size ≤ _; simp)) _) | (refine Below.alloc ?_ (by first | exact Nat.le_refl _ | simp) _))
set_option maxHeartbeats 1000000 in
theorem ertook_3 (th : Int) (sl : Bool) (ep ck g : Int) (w : World) :
    Calls Tryd.prog 17 #[.agg #[.int .i64 th, .int .i64 3, .bool sl, .int .u64 ep, .int .u64 ck], .int .u64 g] w fun e w' => e = .returned (.agg #[.int .i64 th, .int .i64 4, .bool sl, .int .u64 ep, .int .u64 g]) ∧ Below w.heap.size w w' := by
  go_enter Tryd.func17, Tryd.ntmps17
  go_wp2_with fail
  refine bodyPost_ret (v := .agg #[.int .i64 th, .int .i64 4, .bool sl, .int .u64 ep, .int .u64 g]) (by simp [results, Tryd.results17, go_sem]) rfl ⟨rfl, ?_⟩
  repeat (first | exact Below.refl _ _ | exact B0 | (refine Below.setCell ?_ (by first | (show w.heap.size ≤ w.heap.size; omega) | (show w.heap.size ≤ w.heap.size + 1; omega) | (show w.heap.size ≤ _; simp)) _) | (refine Below.alloc ?_ (by first | exact Nat.le_refl _ | simp) _))
set_option maxHeartbeats 1000000 in
theorem ertook_4 (th : Int) (sl : Bool) (ep ck g : Int) (w : World) :
    Calls Tryd.prog 17 #[.agg #[.int .i64 th, .int .i64 4, .bool sl, .int .u64 ep, .int .u64 ck], .int .u64 g] w fun e w' => e = .returned (.agg #[.int .i64 th, .int .i64 0, .bool sl, .int .u64 ep, .int .u64 ck]) ∧ Below w.heap.size w w' := by
  go_enter Tryd.func17, Tryd.ntmps17
  go_wp2_with fail
  refine bodyPost_ret (v := .agg #[.int .i64 th, .int .i64 0, .bool sl, .int .u64 ep, .int .u64 ck]) (by simp [results, Tryd.results17, go_sem]) rfl ⟨rfl, ?_⟩
  repeat (first | exact Below.refl _ _ | exact B0 | (refine Below.setCell ?_ (by first | (show w.heap.size ≤ w.heap.size; omega) | (show w.heap.size ≤ w.heap.size + 1; omega) | (show w.heap.size ≤ _; simp)) _) | (refine Below.alloc ?_ (by first | exact Nat.le_refl _ | simp) _))
end Go.Proofs.YthmkhcmgpkngmaaDoor
