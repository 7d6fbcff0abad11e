/-
  Package gleaningref05, and which announcements keep an epoch from going on.
-/
import Derived.Test.YthdkfledopbofaaAword
namespace Go.Proofs.Ythdkfledopbofaa
open Go.RowKit

theorem raepoch_any (a : Int) (w : World) (ha : W64 a) :
    Calls Try.prog 16 #[.int .u64 a] w fun r w' => r = .returned (.int .u64 (a / 4 % 1073741824)) ∧ w = w' := by
  obtain ⟨h0, h1⟩ := ha
  have q0 : 0 ≤ a / 4 := by omega
  have e1 : a.tdiv 4 = a / 4 := Int.tdiv_eq_ediv_of_nonneg h0
  have e2 : (a / 4).tmod 1073741824 = a / 4 % 1073741824 := Int.tmod_eq_emod_of_nonneg q0
  go_enter Try.func16, Try.ntmps16
  go_wp2_with fail
  go_ret
  exact ⟨rfl, rfl⟩
theorem ratick_any (a : Int) (w : World) (ha : W64 a) :
    Calls Try.prog 18 #[.int .u64 a] w fun r w' => r = .returned (.int .u64 (a / 4294967296)) ∧ w = w' := by
  obtain ⟨h0, h1⟩ := ha
  have e1 : a.tdiv 4294967296 = a / 4294967296 := Int.tdiv_eq_ediv_of_nonneg h0
  go_enter Try.func18, Try.ntmps18
  go_wp2_with fail
  go_ret
  exact ⟨rfl, rfl⟩
theorem raevict_any (a : Int) (w : World) (ha : W64 a) :
    Calls Try.prog 20 #[.int .u64 a] w fun r w' => r = .returned (.int .u64 (a - a % 4 + 2)) ∧ w = w' := by
  obtain ⟨h0, h1⟩ := ha
  have e1 : a.tmod 4 = a % 4 := Int.tmod_eq_emod_of_nonneg h0
  have b1 : 0 ≤ a - a % 4 := by omega
  have b2 : a - a % 4 ≤ 18446744073709551612 := by omega
  go_enter Try.func20, Try.ntmps20
  go_wp2_with fail
  go_ret
  exact ⟨rfl, rfl⟩
theorem ramake_any (state epoch tick : Int) (w : World) (hs : I64 state) (he : W64 epoch) (ht : W64 tick) :
    Calls Try.prog 12 #[.int .i64 state, .int .u64 epoch, .int .u64 tick] w fun r w' => r = .returned (.int .u64 (amake state epoch tick)) ∧ w = w' := by
  obtain ⟨h0, h1⟩ := hs
  obtain ⟨e0, e9⟩ := he
  obtain ⟨t0, t9⟩ := ht
  by_cases c : state < 0
  · have E := hide (show amake state epoch tick = 0 from if_pos (.inl c))
    go_enter Try.func12, Try.ntmps12
    go_wp2_with fail
    go_ret
    exact ⟨by rw [E.out]; rfl, rfl⟩
  by_cases c2 : 3 < state
  · have E := hide (show amake state epoch tick = 0 from if_pos (.inr c2))
    go_enter Try.func12, Try.ntmps12
    go_wp2_with fail
    go_ret
    exact ⟨by rw [E.out]; rfl, rfl⟩
  have E := hide (show amake state epoch tick = tick % 4294967296 * 4294967296 + epoch % 1073741824 * 4 + state from if_neg (by omega))
  have q1 : 0 ≤ state := by omega
  have q2 : state ≤ 3 := by omega
  have e1 : tick.tmod 4294967296 = tick % 4294967296 := Int.tmod_eq_emod_of_nonneg t0
  have e2 : epoch.tmod 1073741824 = epoch % 1073741824 := Int.tmod_eq_emod_of_nonneg e0
  have b1 : 0 ≤ tick % 4294967296 := by omega
  have b2 : tick % 4294967296 ≤ 4294967295 := by omega
  have b3 : 0 ≤ epoch % 1073741824 := by omega
  have b4 : epoch % 1073741824 ≤ 1073741823 := by omega
  generalize tick % 4294967296 = x at *
  generalize epoch % 1073741824 = y at *
  clear c c2
  go_enter Try.func12, Try.ntmps12
  go_wp2_with fail
  go_ret
  exact ⟨by rw [E.out]; rfl, rfl⟩
end Go.Proofs.Ythdkfledopbofaa
