/-
  handle.Slot and its reference.
-/
import Derived.Test.YtenoekfcffkpeaaField
namespace Go.Proofs.Ytenoekfcffkpeaa
open Go.RowKit

theorem fget_slot {h : Int} (_ : W64 h) : fget h 0 16 = h % 65536 := by
  have e1 : fget h 0 16 = h / 2 ^ (0 : Int).toNat % 2 ^ (min 16 (64 - 0) : Int).toNat := if_neg (by omega)
  rw [e1]
  have e2 : (min 16 (64 - 0) : Int).toNat = 16 := by decide
  rw [e2]
  simp

set_option maxHeartbeats 400000 in
theorem Slot_any (h : Int) (w : World) (hh : W64 h) :
    Calls Try.prog 27 #[.int .u64 h] w fun r w' => r = .returned (.int .i64 (h % 65536)) ∧ w = w' := by
  have G := hide (get_any h 0 16 w hh ⟨by omega, by omega⟩ ⟨by omega, by omega⟩)
  rw [fget_slot hh] at G
  have b1 : 0 ≤ h % 65536 := by omega
  have b2 : h % 65536 < 65536 := by omega
  generalize h % 65536 = y at *
  go_enter Try.func27, Try.ntmps27
  go_wp2_with fail
  refine G.out.mono ?_
  rintro e w' ⟨rfl, rfl⟩
  go_wp2_with fail
  go_ret
  exact ⟨rfl, rfl⟩
set_option maxHeartbeats 400000 in
theorem RSlot_any (h : Int) (w : World) (hh : W64 h) :
    Calls Try.prog 28 #[.int .u64 h] w fun r w' => r = .returned (.int .i64 (h % 65536)) ∧ w = w' := by
  obtain ⟨h0, h1⟩ := hh
  have b1 : 0 ≤ h % 65536 := by omega
  have b2 : h % 65536 < 65536 := by omega
  go_enter Try.func28, Try.ntmps28
  go_wp2_with fail
  go_ret
  exact ⟨rfl, rfl⟩
end Go.Proofs.Ytenoekfcffkpeaa
