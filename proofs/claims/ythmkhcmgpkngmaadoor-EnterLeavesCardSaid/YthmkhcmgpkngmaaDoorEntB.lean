/-
  A thread that announces itself, told its own word; whatever it is told.
-/
import Derived.Test.YthmkhcmgpkngmaaDoorEnt
import Derived.Test.YthmkhcmgpkngmaaDoorEntP
import Derived.Test.YthmkhcmgpkngmaaDoorAwordB
namespace Go.Proofs.YthmkhcmgpkngmaaDoor
open Go.RowKit
attribute [local go_sem] past_cell past_cell_add

set_option maxHeartbeats 1000000 in
theorem etook_1t (s t f l p th ep ck g : Int) (w : World) :
    Calls Tryd.prog 16 #[.agg #[.int .i64 s, .int .i64 t, .int .i64 f, .int .i64 l, .int .i64 p, .int .i64 th, .int .i64 1, .bool true, .int .u64 ep, .int .u64 ck], .int .u64 g] w fun e w' => e = .returned (.agg #[.int .i64 s, .int .i64 t, .int .i64 f, .int .i64 l, .int .i64 p, .int .i64 th, .int .i64 2, .bool true, .int .u64 ep, .int .u64 ck]) ∧ Below w.heap.size w w' := by
  skip
  go_enter Tryd.func16, Tryd.ntmps16
  go_wp2_with fail

  refine bodyPost_ret (v := .agg #[.int .i64 s, .int .i64 t, .int .i64 f, .int .i64 l, .int .i64 p, .int .i64 th, .int .i64 2, .bool true, .int .u64 ep, .int .u64 ck]) (by simp [results, Tryd.results16, go_sem]) rfl ⟨rfl, ?_⟩
  repeat (first | exact Below.refl _ _ | exact B0 | (refine Below.setCell ?_ (by first | (show w.heap.size ≤ w.heap.size; omega) | (show w.heap.size ≤ w.heap.size + 1; omega) | (show w.heap.size ≤ _; simp)) _) | (refine Below.alloc ?_ (by first | exact Nat.le_refl _ | simp) _))
set_option maxHeartbeats 1000000 in
theorem etook_1f (s t f l p th ep ck g : Int) (w : World) (hg : W64 g) :
    Calls Tryd.prog 16 #[.agg #[.int .i64 s, .int .i64 t, .int .i64 f, .int .i64 l, .int .i64 p, .int .i64 th, .int .i64 1, .bool false, .int .u64 ep, .int .u64 ck], .int .u64 g] w fun e w' => e = .returned (.agg #[.int .i64 s, .int .i64 t, .int .i64 f, .int .i64 l, .int .i64 p, .int .i64 th, .int .i64 2, .bool (g % 4 == 2), .int .u64 ep, .int .u64 ck]) ∧ Below w.heap.size w w' := by
  have C := hide (fun w2 => astate_any g w2 hg)
  go_enter Tryd.func16, Tryd.ntmps16
  go_wp2_with fail
  refine (C.out _).mono ?_
  rintro e w' ⟨rfl, rfl⟩
  go_wp2_with fail
  refine bodyPost_ret (v := .agg #[.int .i64 s, .int .i64 t, .int .i64 f, .int .i64 l, .int .i64 p, .int .i64 th, .int .i64 2, .bool (g % 4 == 2), .int .u64 ep, .int .u64 ck]) (by simp [results, Tryd.results16, go_sem]) rfl ⟨rfl, ?_⟩
  repeat (first | exact Below.refl _ _ | exact B0 | (refine Below.setCell ?_ (by first | (show w.heap.size ≤ w.heap.size; omega) | (show w.heap.size ≤ w.heap.size + 1; omega) | (show w.heap.size ≤ _; simp)) _) | (refine Below.alloc ?_ (by first | exact Nat.le_refl _ | simp) _))
set_option maxHeartbeats 1000000 in
theorem ertook_1yt (th ep ck g : Int) (w : World) (hg : W64 g) (h : g % 4 = 2) :
    Calls Tryd.prog 17 #[.agg #[.int .i64 th, .int .i64 1, .bool true, .int .u64 ep, .int .u64 ck], .int .u64 g] w fun e w' => e = .returned (.agg #[.int .i64 th, .int .i64 2, .bool true, .int .u64 ep, .int .u64 ck]) ∧ Below w.heap.size w w' := by
  have C := hide (fun w2 => rastate_any g w2 hg)
  have q : (g % 4 == 2) = true := by rw [beq_iff_eq]; exact h
  go_enter Tryd.func17, Tryd.ntmps17
  go_wp2_with fail
  refine (C.out _).mono ?_
  rintro e w' ⟨rfl, rfl⟩
  go_wp2_with fail
  refine bodyPost_ret (v := .agg #[.int .i64 th, .int .i64 2, .bool true, .int .u64 ep, .int .u64 ck]) (by simp [results, Tryd.results17, go_sem]) rfl ⟨rfl, ?_⟩
  repeat (first | exact Below.refl _ _ | exact B0 | (refine Below.setCell ?_ (by first | (show w.heap.size ≤ w.heap.size; omega) | (show w.heap.size ≤ w.heap.size + 1; omega) | (show w.heap.size ≤ _; simp)) _) | (refine Below.alloc ?_ (by first | exact Nat.le_refl _ | simp) _))
set_option maxHeartbeats 1000000 in
theorem ertook_1nt (th ep ck g : Int) (w : World) (hg : W64 g) (h : ¬ g % 4 = 2) :
    Calls Tryd.prog 17 #[.agg #[.int .i64 th, .int .i64 1, .bool true, .int .u64 ep, .int .u64 ck], .int .u64 g] w fun e w' => e = .returned (.agg #[.int .i64 th, .int .i64 2, .bool true, .int .u64 ep, .int .u64 ck]) ∧ Below w.heap.size w w' := by
  have C := hide (fun w2 => rastate_any g w2 hg)
  have q : (g % 4 == 2) = false := by rw [beq_eq_false_iff_ne]; exact h
  go_enter Tryd.func17, Tryd.ntmps17
  go_wp2_with fail
  refine (C.out _).mono ?_
  rintro e w' ⟨rfl, rfl⟩
  go_wp2_with fail
  refine bodyPost_ret (v := .agg #[.int .i64 th, .int .i64 2, .bool true, .int .u64 ep, .int .u64 ck]) (by simp [results, Tryd.results17, go_sem]) rfl ⟨rfl, ?_⟩
  repeat (first | exact Below.refl _ _ | exact B0 | (refine Below.setCell ?_ (by first | (show w.heap.size ≤ w.heap.size; omega) | (show w.heap.size ≤ w.heap.size + 1; omega) | (show w.heap.size ≤ _; simp)) _) | (refine Below.alloc ?_ (by first | exact Nat.le_refl _ | simp) _))
set_option maxHeartbeats 1000000 in
theorem ertook_1yf (th ep ck g : Int) (w : World) (hg : W64 g) (h : g % 4 = 2) :
    Calls Tryd.prog 17 #[.agg #[.int .i64 th, .int .i64 1, .bool false, .int .u64 ep, .int .u64 ck], .int .u64 g] w fun e w' => e = .returned (.agg #[.int .i64 th, .int .i64 2, .bool true, .int .u64 ep, .int .u64 ck]) ∧ Below w.heap.size w w' := by
  have C := hide (fun w2 => rastate_any g w2 hg)
  have q : (g % 4 == 2) = true := by rw [beq_iff_eq]; exact h
  go_enter Tryd.func17, Tryd.ntmps17
  go_wp2_with fail
  refine (C.out _).mono ?_
  rintro e w' ⟨rfl, rfl⟩
  go_wp2_with fail
  refine bodyPost_ret (v := .agg #[.int .i64 th, .int .i64 2, .bool true, .int .u64 ep, .int .u64 ck]) (by simp [results, Tryd.results17, go_sem]) rfl ⟨rfl, ?_⟩
  repeat (first | exact Below.refl _ _ | exact B0 | (refine Below.setCell ?_ (by first | (show w.heap.size ≤ w.heap.size; omega) | (show w.heap.size ≤ w.heap.size + 1; omega) | (show w.heap.size ≤ _; simp)) _) | (refine Below.alloc ?_ (by first | exact Nat.le_refl _ | simp) _))
set_option maxHeartbeats 1000000 in
theorem ertook_1nf (th ep ck g : Int) (w : World) (hg : W64 g) (h : ¬ g % 4 = 2) :
    Calls Tryd.prog 17 #[.agg #[.int .i64 th, .int .i64 1, .bool false, .int .u64 ep, .int .u64 ck], .int .u64 g] w fun e w' => e = .returned (.agg #[.int .i64 th, .int .i64 2, .bool false, .int .u64 ep, .int .u64 ck]) ∧ Below w.heap.size w w' := by
  have C := hide (fun w2 => rastate_any g w2 hg)
  have q : (g % 4 == 2) = false := by rw [beq_eq_false_iff_ne]; exact h
  go_enter Tryd.func17, Tryd.ntmps17
  go_wp2_with fail
  refine (C.out _).mono ?_
  rintro e w' ⟨rfl, rfl⟩
  go_wp2_with fail
  refine bodyPost_ret (v := .agg #[.int .i64 th, .int .i64 2, .bool false, .int .u64 ep, .int .u64 ck]) (by simp [results, Tryd.results17, go_sem]) rfl ⟨rfl, ?_⟩
  repeat (first | exact Below.refl _ _ | exact B0 | (refine Below.setCell ?_ (by first | (show w.heap.size ≤ w.heap.size; omega) | (show w.heap.size ≤ w.heap.size + 1; omega) | (show w.heap.size ≤ _; simp)) _) | (refine Below.alloc ?_ (by first | exact Nat.le_refl _ | simp) _))

def enV (s t f l p th : Int) (x : Int × Bool × Int × Int) : Value := .agg #[.int .i64 s, .int .i64 t, .int .i64 f, .int .i64 l, .int .i64 p, .int .i64 th, .int .i64 x.1, .bool x.2.1, .int .u64 x.2.2.1, .int .u64 x.2.2.2]
def renV (th : Int) (x : Int × Bool × Int × Int) : Value := .agg #[.int .i64 th, .int .i64 x.1, .bool x.2.1, .int .u64 x.2.2.1, .int .u64 x.2.2.2]
theorem etook_any (s t f l p th g : Int) (x : Int × Bool × Int × Int) (w : World) (hx : EnOk x) (hg : W64 g) :
    Calls Tryd.prog 16 #[enV s t f l p th x, .int .u64 g] w fun e w' => e = .returned (enV s t f l p th (eTook x g)) ∧ Below w.heap.size w w' := by
  obtain ⟨k, sl, ep, ck⟩ := x
  obtain ⟨hk, _⟩ := hx
  simp only at hk
  rcases hk with rfl | rfl | rfl | rfl | rfl
  · exact etook_0 s t f l p th sl ep ck g w
  · cases sl
    · exact etook_1f s t f l p th ep ck g w hg
    · exact etook_1t s t f l p th ep ck g w
  · exact etook_2 s t f l p th sl ep ck g w
  · exact etook_3 s t f l p th sl ep ck g w
  · exact etook_4 s t f l p th sl ep ck g w
theorem ertook_any (th g : Int) (x : Int × Bool × Int × Int) (w : World) (hx : EnOk x) (hg : W64 g) :
    Calls Tryd.prog 17 #[renV th x, .int .u64 g] w fun e w' => e = .returned (renV th (eTook x g)) ∧ Below w.heap.size w w' := by
  obtain ⟨k, sl, ep, ck⟩ := x
  obtain ⟨hk, _⟩ := hx
  simp only at hk
  rcases hk with rfl | rfl | rfl | rfl | rfl
  · exact ertook_0 th sl ep ck g w
  · by_cases h : g % 4 = 2
    · have e : eTook (1, sl, ep, ck) g = (2, true, ep, ck) := by simp [eTook, h]
      rw [e]
      cases sl
      · exact ertook_1yf th ep ck g w hg h
      · exact ertook_1yt th ep ck g w hg h
    · have e : eTook (1, sl, ep, ck) g = (2, sl, ep, ck) := by simp [eTook, h]
      rw [e]
      cases sl
      · exact ertook_1nf th ep ck g w hg h
      · exact ertook_1nt th ep ck g w hg h
  · exact ertook_2 th sl ep ck g w
  · exact ertook_3 th sl ep ck g w
  · exact ertook_4 th sl ep ck g w
end Go.Proofs.YthmkhcmgpkngmaaDoor
