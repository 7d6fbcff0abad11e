/-
  Package aword and its reference.
-/
import Derived.Test.YthmkhcmgpkngmaaDoorField
import Derived.Test.YthmkhcmgpkngmaaDoorMem
namespace Go.Proofs.YthmkhcmgpkngmaaDoor
open Go.RowKit

def amake (state epoch tick : Int) : Int := if state < 0 ∨ 3 < state then 0 else tick % 4294967296 * 4294967296 + epoch % 1073741824 * 4 + state
theorem amake_bound (state epoch tick : Int) : W64 (amake state epoch tick) := by
  unfold amake
  split
  · exact ⟨by omega, by omega⟩
  · exact ⟨by omega, by omega⟩
theorem aget_state (a : Int) : fget a 0 2 = a % 4 := by
  have h1 := fget_at a 0 2 (by omega)
  simpa using h1
theorem aget_epoch (a : Int) : fget a 2 30 = a / 4 % 1073741824 := by
  have h1 := fget_at a 2 30 (by omega)
  simpa using h1
theorem aget_tick {a : Int} (h : W64 a) : fget a 32 32 = a / 4294967296 := by
  have h1 := fget_at a 32 32 (by omega)
  obtain ⟨h2, h3⟩ := h
  simp at h1
  rw [h1]
  omega
theorem aput_evict (a : Int) : fput a 0 2 2 = a - a % 4 + 2 := by
  have h1 := fput_at a 2 0 2 (by omega)
  simpa using h1
theorem aput_make {state epoch tick : Int} (hs : 0 ≤ state ∧ state ≤ 3) : fput (fput state 2 30 epoch) 32 32 tick = amake state epoch tick := by
  have h1 := fput_at state epoch 2 30 (by omega)
  have h2 := fput_at (fput state 2 30 epoch) tick 32 32 (by omega)
  unfold amake
  rw [if_neg (by omega)]
  simp at h1 h2
  rw [h2, h1]
  omega

theorem astate_any (a : Int) (w : World) (ha : W64 a) :
    Calls Tryd.prog 48 #[.int .u64 a] w fun r w' => r = .returned (.int .i64 (a % 4)) ∧ w = w' := by
  have G := hide (get_any a 0 2 w ha ⟨by omega, by omega⟩ ⟨by omega, by omega⟩)
  rw [aget_state] at G
  obtain ⟨h0, h1⟩ := ha
  have b : 0 ≤ a % 4 ∧ a % 4 ≤ 3 := by omega
  generalize a % 4 = s at *
  obtain ⟨b0, b1⟩ := b
  go_enter Tryd.func48, Tryd.ntmps48
  go_wp2_with fail
  refine G.out.mono ?_
  rintro e w' ⟨rfl, rfl⟩
  go_wp2_with fail
  go_ret
  exact ⟨rfl, rfl⟩
theorem rastate_any (a : Int) (w : World) (ha : W64 a) :
    Calls Tryd.prog 49 #[.int .u64 a] w fun r w' => r = .returned (.int .i64 (a % 4)) ∧ w = w' := by
  obtain ⟨h0, h1⟩ := ha
  have b : 0 ≤ a % 4 ∧ a % 4 ≤ 3 := by omega
  obtain ⟨b0, b1⟩ := b
  have e : a.tmod 4 = a % 4 := Int.tmod_eq_emod_of_nonneg h0
  go_enter Tryd.func49, Tryd.ntmps49
  go_wp2_with fail
  go_ret
  exact ⟨rfl, rfl⟩
theorem amake_any (state epoch tick : Int) (w : World) (hs : I64 state) (he : W64 epoch) (ht : W64 tick) :
    Calls Tryd.prog 68 #[.int .i64 state, .int .u64 epoch, .int .u64 tick] w fun r w' => r = .returned (.int .u64 (amake state epoch tick)) ∧ w = w' := by
  obtain ⟨h0, h1⟩ := hs
  by_cases c : state < 0
  · have E := hide (show amake state epoch tick = 0 from if_pos (.inl c))
    go_enter Tryd.func68, Tryd.ntmps68
    go_wp2_with fail
    go_ret
    exact ⟨by rw [E.out]; rfl, rfl⟩
  by_cases c2 : 3 < state
  · have E := hide (show amake state epoch tick = 0 from if_pos (.inr c2))
    go_enter Tryd.func68, Tryd.ntmps68
    go_wp2_with fail
    go_ret
    exact ⟨by rw [E.out]; rfl, rfl⟩
  have hs : 0 ≤ state ∧ state ≤ 3 := by omega
  have b0 : W64 state := ⟨by omega, by omega⟩
  have P := hide (put_any state 2 30 epoch w b0 ⟨by omega, by omega⟩ ⟨by omega, by omega⟩ he)
  have Q := hide (put_any (fput state 2 30 epoch) 32 32 tick w (fput_bound b0 he) ⟨by omega, by omega⟩ ⟨by omega, by omega⟩ ht)
  rw [aput_make hs] at Q
  generalize amake state epoch tick = m at *
  generalize fput state 2 30 epoch = p at *
  obtain ⟨h2, h3⟩ := hs
  go_enter Tryd.func68, Tryd.ntmps68
  go_wp2_with fail
  refine P.out.mono ?_
  rintro e w' ⟨rfl, rfl⟩
  go_wp2_with fail
  refine Q.out.mono ?_
  rintro e w' ⟨rfl, rfl⟩
  go_wp2_with fail
  go_ret
  exact ⟨rfl, rfl⟩
end Go.Proofs.YthmkhcmgpkngmaaDoor
