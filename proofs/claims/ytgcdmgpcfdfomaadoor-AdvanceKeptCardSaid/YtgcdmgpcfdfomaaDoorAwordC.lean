/-
  Which announcements keep an epoch from going on, and which were made long ago.
-/
import Derived.Test.YtgcdmgpcfdfomaaDoorAwordB
namespace Go.Proofs.YtgcdmgpcfdfomaaDoor
open Go.RowKit

def ablocks (a epoch : Int) : Bool := (a % 4 == 1) && (a / 4 % 1073741824 != epoch % 1073741824)

theorem rablocks_any (a epoch : Int) (w : World) (ha : W64 a) (he : W64 epoch) :
    Calls Tryd.prog 16 #[.int .u64 a, .int .u64 epoch] w fun r w' => r = .returned (.bool (ablocks a epoch)) ∧ w = w' := by
  have St := hide (rastate_any a w ha)
  have Ep := hide (raepoch_any a w ha)
  obtain ⟨e0, e9⟩ := he
  have e1 : epoch.tmod 1073741824 = epoch % 1073741824 := Int.tmod_eq_emod_of_nonneg e0
  have E := hide (show ablocks a epoch = ((a % 4 == 1) && (a / 4 % 1073741824 != epoch % 1073741824)) from rfl)
  generalize ablocks a epoch = r at *
  generalize a / 4 % 1073741824 = x at *
  generalize epoch % 1073741824 = y at *
  generalize a % 4 = s at *
  by_cases c : (s == 1) = true
  · rw [c] at E
    go_enter Tryd.func16, Tryd.ntmps16
    go_wp2_with fail
    refine St.out.mono ?_
    rintro e w' ⟨rfl, rfl⟩
    go_wp2_with fail
    refine Ep.out.mono ?_
    rintro e w' ⟨rfl, rfl⟩
    go_wp2_with fail
    go_ret
    exact ⟨by rw [E.out]; rfl, rfl⟩
  · have c' : (s == 1) = false := by simpa using c
    clear c
    rw [c'] at E
    go_enter Tryd.func16, Tryd.ntmps16
    go_wp2_with fail
    refine St.out.mono ?_
    rintro e w' ⟨rfl, rfl⟩
    go_wp2_with fail
    go_ret
    exact ⟨by rw [E.out]; rfl, rfl⟩
theorem and30 {x : Int} (hx : W64 x) : bits .and .u64 x (fmask 30) = x % 1073741824 := by
  have h := get_bits (at_ := 0) (size := 30) hx (by omega)
  have g := fget_at x 0 30 (by omega)
  rw [show fcut 0 30 = 30 from rfl] at h
  simp at h g
  rw [h, g]
theorem and32 {x : Int} (hx : W64 x) : bits .and .u64 x (fmask 32) = x % 4294967296 := by
  have h := get_bits (at_ := 0) (size := 32) hx (by omega)
  have g := fget_at x 0 32 (by omega)
  rw [show fcut 0 32 = 32 from rfl] at h
  simp at h g
  rw [h, g]

theorem ablocks_any (a epoch : Int) (w : World) (ha : W64 a) (he : W64 epoch) :
    Calls Tryd.prog 31 #[.int .u64 a, .int .u64 epoch] w fun r w' => r = .returned (.bool (ablocks a epoch)) ∧ w = w' := by
  have St := hide (astate_any a w ha)
  have Ep := hide (aepoch_any a w ha)
  have M := hide (mask_any 30 w ⟨by omega, by omega⟩)
  have An := hide (and30 he)
  have E := hide (show ablocks a epoch = ((a % 4 == 1) && (a / 4 % 1073741824 != epoch % 1073741824)) from rfl)
  have cs : a % 4 = 0 ∨ a % 4 = 1 ∨ a % 4 = 2 ∨ a % 4 = 3 := by omega
  generalize ablocks a epoch = r at *
  generalize a / 4 % 1073741824 = x at *
  generalize epoch % 1073741824 = y at *
  generalize fmask 30 = m at *
  generalize a % 4 = s at *
  obtain ⟨e0, e9⟩ := he
  rcases cs with rfl | rfl | rfl | rfl
  · go_enter Tryd.func31, Tryd.ntmps31
    go_wp2_with fail
    refine St.out.mono ?_
    rintro e w' ⟨rfl, rfl⟩
    go_wp2_with fail
    go_ret
    exact ⟨by rw [E.out]; rfl, rfl⟩
  · go_enter Tryd.func31, Tryd.ntmps31
    go_wp2_with fail
    refine St.out.mono ?_
    rintro e w' ⟨rfl, rfl⟩
    go_wp2_with fail
    refine Ep.out.mono ?_
    rintro e w' ⟨rfl, rfl⟩
    go_wp2_with fail
    refine M.out.mono ?_
    rintro e w' ⟨rfl, rfl⟩
    go_wp2_with fail
    go_ret
    exact ⟨by rw [E.out, ← An.out]; rfl, rfl⟩
  · go_enter Tryd.func31, Tryd.ntmps31
    go_wp2_with fail
    refine St.out.mono ?_
    rintro e w' ⟨rfl, rfl⟩
    go_wp2_with fail
    go_ret
    exact ⟨by rw [E.out]; rfl, rfl⟩
  · go_enter Tryd.func31, Tryd.ntmps31
    go_wp2_with fail
    refine St.out.mono ?_
    rintro e w' ⟨rfl, rfl⟩
    go_wp2_with fail
    go_ret
    exact ⟨by rw [E.out]; rfl, rfl⟩
end Go.Proofs.YtgcdmgpcfdfomaaDoor
