/-
  Package gleaningref05, and which announcements keep an epoch from going on.
-/
import Derived.Test.YthmkhcmgpkngmaaDoorAword
namespace Go.Proofs.YthmkhcmgpkngmaaDoor
open Go.RowKit

theorem ramake_any (state epoch tick : Int) (w : World) (hs : I64 state) (he : W64 epoch) (ht : W64 tick) :
    Calls Tryd.prog 47 #[.int .i64 state, .int .u64 epoch, .int .u64 tick] w fun r w' => r = .returned (.int .u64 (amake state epoch tick)) ∧ w = w' := by
  obtain ⟨h0, h1⟩ := hs
  obtain ⟨e0, e9⟩ := he
  obtain ⟨t0, t9⟩ := ht
  by_cases c : state < 0
  · have E := hide (show amake state epoch tick = 0 from if_pos (.inl c))
    go_enter Tryd.func47, Tryd.ntmps47
    go_wp2_with fail
    go_ret
    exact ⟨by rw [E.out]; rfl, rfl⟩
  by_cases c2 : 3 < state
  · have E := hide (show amake state epoch tick = 0 from if_pos (.inr c2))
    go_enter Tryd.func47, Tryd.ntmps47
    go_wp2_with fail
    go_ret
    exact ⟨by rw [E.out]; rfl, rfl⟩
  have E := hide (show amake state epoch tick = tick % 4294967296 * 4294967296 + epoch % 1073741824 * 4 + state from if_neg (by omega))
  have q1 : 0 ≤ state := by omega
  have q2 : state ≤ 3 := by omega
  have e1 : tick.tmod 4294967296 = tick % 4294967296 := Int.tmod_eq_emod_of_nonneg t0
  have e2 : epoch.tmod 1073741824 = epoch % 1073741824 := Int.tmod_eq_emod_of_nonneg e0
  have b1 : 0 ≤ tick % 4294967296 := by omega
  have b2 : tick % 4294967296 ≤ 4294967295 := by omega
  have b3 : 0 ≤ epoch % 1073741824 := by omega
  have b4 : epoch % 1073741824 ≤ 1073741823 := by omega
  generalize tick % 4294967296 = x at *
  generalize epoch % 1073741824 = y at *
  clear c c2
  go_enter Tryd.func47, Tryd.ntmps47
  go_wp2_with fail
  go_ret
  exact ⟨by rw [E.out]; rfl, rfl⟩
end Go.Proofs.YthmkhcmgpkngmaaDoor
