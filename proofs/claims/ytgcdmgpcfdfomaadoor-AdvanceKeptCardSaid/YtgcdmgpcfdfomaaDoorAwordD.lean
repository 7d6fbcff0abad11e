/-
  Which announcements were made long ago.
-/
import Derived.Test.YtgcdmgpcfdfomaaDoorAwordC
namespace Go.Proofs.YtgcdmgpcfdfomaaDoor
open Go.RowKit

def astall (a clock patience : Int) : Bool := decide (1 ≤ patience) && decide (patience ≤ (clock - a / 4294967296) % 4294967296)

theorem rastall_any (a clock patience : Int) (w : World) (ha : W64 a) (hc : W64 clock) (hp : I64 patience) :
    Calls Tryd.prog 17 #[.int .u64 a, .int .u64 clock, .int .i64 patience] w fun r w' => r = .returned (.bool (astall a clock patience)) ∧ w = w' := by
  have Tk := hide (ratick_any a w ha)
  have E := hide (show astall a clock patience = (decide (1 ≤ patience) && decide (patience ≤ (clock - a / 4294967296) % 4294967296)) from rfl)
  obtain ⟨a0, a9⟩ := ha
  obtain ⟨c0, c9⟩ := hc
  obtain ⟨p0, p9⟩ := hp
  have t0 : 0 ≤ a / 4294967296 := by omega
  have t9 : a / 4294967296 ≤ 4294967295 := by omega
  have e1 : clock.tmod 4294967296 = clock % 4294967296 := Int.tmod_eq_emod_of_nonneg c0
  have n0 : 0 ≤ clock % 4294967296 := by omega
  have n9 : clock % 4294967296 ≤ 4294967295 := by omega
  generalize astall a clock patience = r at *
  generalize a / 4294967296 = t at *
  by_cases hp1 : patience < 1
  · have F := hide (show r = false by rw [E.out]; simp; omega)
    go_enter Tryd.func17, Tryd.ntmps17
    go_wp2_with fail
    go_ret
    exact ⟨by rw [F.out]; rfl, rfl⟩
  have hp2 : 1 ≤ patience := by omega
  by_cases hlt : clock % 4294967296 < t
  · have F := hide (show r = decide (patience ≤ clock % 4294967296 + 4294967296 - t) by rw [E.out, show (clock - t) % 4294967296 = clock % 4294967296 + 4294967296 - t by omega]; simp [hp2])
    generalize clock % 4294967296 = n at *
    go_enter Tryd.func17, Tryd.ntmps17
    go_wp2_with fail
    refine Tk.out.mono ?_
    rintro e w' ⟨rfl, rfl⟩
    go_wp2_with fail
    go_ret
    exact ⟨by rw [F.out]; rfl, rfl⟩
  · have F := hide (show r = decide (patience ≤ clock % 4294967296 - t) by rw [E.out, show (clock - t) % 4294967296 = clock % 4294967296 - t by omega]; simp [hp2])
    have hge : t ≤ clock % 4294967296 := by omega
    generalize clock % 4294967296 = n at *
    go_enter Tryd.func17, Tryd.ntmps17
    go_wp2_with fail
    refine Tk.out.mono ?_
    rintro e w' ⟨rfl, rfl⟩
    go_wp2_with fail
    go_ret
    exact ⟨by rw [F.out]; rfl, rfl⟩

theorem astall_any (a clock patience : Int) (w : World) (ha : W64 a) (hp : I64 patience) :
    Calls Tryd.prog 32 #[.int .u64 a, .int .u64 clock, .int .i64 patience] w fun r w' => r = .returned (.bool (astall a clock patience)) ∧ w = w' := by
  have Tk := hide (atick_any a w ha)
  have M := hide (mask_any 32 w ⟨by omega, by omega⟩)
  have E := hide (show astall a clock patience = (decide (1 ≤ patience) && decide (patience ≤ (clock - a / 4294967296) % 4294967296)) from rfl)
  have An := hide (and32 (x := (clock - a / 4294967296) % 18446744073709551616) ⟨by omega, by omega⟩)
  rw [show (clock - a / 4294967296) % 18446744073709551616 % 4294967296 = (clock - a / 4294967296) % 4294967296 by omega] at An
  obtain ⟨p0, p9⟩ := hp
  generalize astall a clock patience = r at *
  generalize a / 4294967296 = t at *
  generalize fmask 32 = m at *
  by_cases hp1 : patience < 1
  · have F := hide (show r = false by rw [E.out]; simp; omega)
    go_enter Tryd.func32, Tryd.ntmps32
    go_wp2_with fail
    go_ret
    exact ⟨by rw [F.out]; rfl, rfl⟩
  have hp2 : 1 ≤ patience := by omega
  have F := hide (show r = decide (patience ≤ (clock - t) % 4294967296) by rw [E.out]; simp [hp2])
  go_enter Tryd.func32, Tryd.ntmps32
  go_wp2_with fail
  refine Tk.out.mono ?_
  rintro e w' ⟨rfl, rfl⟩
  go_wp2_with fail
  refine M.out.mono ?_
  rintro e w' ⟨rfl, rfl⟩
  go_wp2_with fail
  go_ret
  exact ⟨by rw [F.out, ← An.out]; rfl, rfl⟩
end Go.Proofs.YtgcdmgpcfdfomaaDoor
