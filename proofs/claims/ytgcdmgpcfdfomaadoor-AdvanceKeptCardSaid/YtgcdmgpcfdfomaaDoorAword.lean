/-
  Package aword and its reference.
-/
import Derived.Test.YtgcdmgpcfdfomaaDoorField
import Derived.Test.YtgcdmgpcfdfomaaDoorMem
namespace Go.Proofs.YtgcdmgpcfdfomaaDoor
open Go.RowKit

def amake (state epoch tick : Int) : Int := if state < 0 ∨ 3 < state then 0 else tick % 4294967296 * 4294967296 + epoch % 1073741824 * 4 + state
theorem amake_bound (state epoch tick : Int) : W64 (amake state epoch tick) := by
  unfold amake
  split
  · exact ⟨by omega, by omega⟩
  · exact ⟨by omega, by omega⟩
theorem aget_state (a : Int) : fget a 0 2 = a % 4 := by
  have h1 := fget_at a 0 2 (by omega)
  simpa using h1
theorem aget_epoch (a : Int) : fget a 2 30 = a / 4 % 1073741824 := by
  have h1 := fget_at a 2 30 (by omega)
  simpa using h1
theorem aget_tick {a : Int} (h : W64 a) : fget a 32 32 = a / 4294967296 := by
  have h1 := fget_at a 32 32 (by omega)
  obtain ⟨h2, h3⟩ := h
  simp at h1
  rw [h1]
  omega
theorem aput_evict (a : Int) : fput a 0 2 2 = a - a % 4 + 2 := by
  have h1 := fput_at a 2 0 2 (by omega)
  simpa using h1
theorem aput_make {state epoch tick : Int} (hs : 0 ≤ state ∧ state ≤ 3) : fput (fput state 2 30 epoch) 32 32 tick = amake state epoch tick := by
  have h1 := fput_at state epoch 2 30 (by omega)
  have h2 := fput_at (fput state 2 30 epoch) tick 32 32 (by omega)
  unfold amake
  rw [if_neg (by omega)]
  simp at h1 h2
  rw [h2, h1]
  omega

theorem astate_any (a : Int) (w : World) (ha : W64 a) :
    Calls Tryd.prog 44 #[.int .u64 a] w fun r w' => r = .returned (.int .i64 (a % 4)) ∧ w = w' := by
  have G := hide (get_any a 0 2 w ha ⟨by omega, by omega⟩ ⟨by omega, by omega⟩)
  rw [aget_state] at G
  obtain ⟨h0, h1⟩ := ha
  have b : 0 ≤ a % 4 ∧ a % 4 ≤ 3 := by omega
  generalize a % 4 = s at *
  obtain ⟨b0, b1⟩ := b
  go_enter Tryd.func44, Tryd.ntmps44
  go_wp2_with fail
  refine G.out.mono ?_
  rintro e w' ⟨rfl, rfl⟩
  go_wp2_with fail
  go_ret
  exact ⟨rfl, rfl⟩
theorem rastate_any (a : Int) (w : World) (ha : W64 a) :
    Calls Tryd.prog 37 #[.int .u64 a] w fun r w' => r = .returned (.int .i64 (a % 4)) ∧ w = w' := by
  obtain ⟨h0, h1⟩ := ha
  have b : 0 ≤ a % 4 ∧ a % 4 ≤ 3 := by omega
  obtain ⟨b0, b1⟩ := b
  have e : a.tmod 4 = a % 4 := Int.tmod_eq_emod_of_nonneg h0
  go_enter Tryd.func37, Tryd.ntmps37
  go_wp2_with fail
  go_ret
  exact ⟨rfl, rfl⟩
theorem aepoch_any (a : Int) (w : World) (ha : W64 a) :
    Calls Tryd.prog 45 #[.int .u64 a] w fun r w' => r = .returned (.int .u64 (a / 4 % 1073741824)) ∧ w = w' := by
  have G := hide (get_any a 2 30 w ha ⟨by omega, by omega⟩ ⟨by omega, by omega⟩)
  rw [aget_epoch] at G
  generalize a / 4 % 1073741824 = s at *
  go_enter Tryd.func45, Tryd.ntmps45
  go_wp2_with fail
  refine G.out.mono ?_
  rintro e w' ⟨rfl, rfl⟩
  go_wp2_with fail
  go_ret
  exact ⟨rfl, rfl⟩
theorem atick_any (a : Int) (w : World) (ha : W64 a) :
    Calls Tryd.prog 47 #[.int .u64 a] w fun r w' => r = .returned (.int .u64 (a / 4294967296)) ∧ w = w' := by
  have G := hide (get_any a 32 32 w ha ⟨by omega, by omega⟩ ⟨by omega, by omega⟩)
  rw [aget_tick ha] at G
  generalize a / 4294967296 = s at *
  go_enter Tryd.func47, Tryd.ntmps47
  go_wp2_with fail
  refine G.out.mono ?_
  rintro e w' ⟨rfl, rfl⟩
  go_wp2_with fail
  go_ret
  exact ⟨rfl, rfl⟩
theorem aevict_any (a : Int) (w : World) (ha : W64 a) :
    Calls Tryd.prog 36 #[.int .u64 a] w fun r w' => r = .returned (.int .u64 (a - a % 4 + 2)) ∧ w = w' := by
  have G := hide (put_any a 0 2 2 w ha ⟨by omega, by omega⟩ ⟨by omega, by omega⟩ ⟨by omega, by omega⟩)
  rw [aput_evict] at G
  generalize a - a % 4 + 2 = s at *
  go_enter Tryd.func36, Tryd.ntmps36
  go_wp2_with fail
  refine G.out.mono ?_
  rintro e w' ⟨rfl, rfl⟩
  go_wp2_with fail
  go_ret
  exact ⟨rfl, rfl⟩
end Go.Proofs.YtgcdmgpcfdfomaaDoor
