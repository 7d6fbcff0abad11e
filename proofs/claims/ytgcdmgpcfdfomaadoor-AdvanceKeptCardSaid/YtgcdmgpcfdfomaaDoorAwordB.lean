/-
  Package gleaningref05, and which announcements keep an epoch from going on.
-/
import Derived.Test.YtgcdmgpcfdfomaaDoorAword
namespace Go.Proofs.YtgcdmgpcfdfomaaDoor
open Go.RowKit

theorem raepoch_any (a : Int) (w : World) (ha : W64 a) :
    Calls Tryd.prog 38 #[.int .u64 a] w fun r w' => r = .returned (.int .u64 (a / 4 % 1073741824)) ∧ w = w' := by
  obtain ⟨h0, h1⟩ := ha
  have q0 : 0 ≤ a / 4 := by omega
  have e1 : a.tdiv 4 = a / 4 := Int.tdiv_eq_ediv_of_nonneg h0
  have e2 : (a / 4).tmod 1073741824 = a / 4 % 1073741824 := Int.tmod_eq_emod_of_nonneg q0
  go_enter Tryd.func38, Tryd.ntmps38
  go_wp2_with fail
  go_ret
  exact ⟨rfl, rfl⟩
theorem ratick_any (a : Int) (w : World) (ha : W64 a) :
    Calls Tryd.prog 39 #[.int .u64 a] w fun r w' => r = .returned (.int .u64 (a / 4294967296)) ∧ w = w' := by
  obtain ⟨h0, h1⟩ := ha
  have e1 : a.tdiv 4294967296 = a / 4294967296 := Int.tdiv_eq_ediv_of_nonneg h0
  go_enter Tryd.func39, Tryd.ntmps39
  go_wp2_with fail
  go_ret
  exact ⟨rfl, rfl⟩
theorem raevict_any (a : Int) (w : World) (ha : W64 a) :
    Calls Tryd.prog 18 #[.int .u64 a] w fun r w' => r = .returned (.int .u64 (a - a % 4 + 2)) ∧ w = w' := by
  obtain ⟨h0, h1⟩ := ha
  have e1 : a.tmod 4 = a % 4 := Int.tmod_eq_emod_of_nonneg h0
  have b1 : 0 ≤ a - a % 4 := by omega
  have b2 : a - a % 4 ≤ 18446744073709551612 := by omega
  go_enter Tryd.func18, Tryd.ntmps18
  go_wp2_with fail
  go_ret
  exact ⟨rfl, rfl⟩
end Go.Proofs.YtgcdmgpcfdfomaaDoor
