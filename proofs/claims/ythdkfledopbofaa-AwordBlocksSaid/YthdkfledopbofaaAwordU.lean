/-
  AwordBlocks: the walk.
-/
import Derived.Test.YthdkfledopbofaaAwordS
namespace Go.Proofs.Ythdkfledopbofaa
open Go.RowKit

theorem ablocks_evict (a epoch : Int) : ablocks (a - a % 4 + 2) epoch = false := by
  unfold ablocks
  have : (a - a % 4 + 2) % 4 = 2 := by omega
  rw [this]
  rfl
theorem AwordBlocks_calls (a epoch : Int) (w : World) (ha : W64 a) (he : W64 epoch) :
    Calls Try.prog 6 #[.int .u64 a, .int .u64 epoch] w fun r w' => r = .returned (.bool true) ∧ w = w' := by
  have c1 := hide (astate_any a w ha)
  have c2 := hide (ablocks_any a epoch w ha he)
  have c3 := hide (rablocks_any a epoch w ha he)
  have c4 := hide (aevict_any a w ha)
  have c5 := hide (ablocks_any (a - a % 4 + 2) epoch w (by obtain ⟨h, h'⟩ := ha; exact ⟨by omega, by omega⟩) he)
  rw [ablocks_evict] at c5
  have F := hide (show (a % 4 == 1) = false → ablocks a epoch = false from fun h => by unfold ablocks; rw [h]; rfl)
  generalize ablocks a epoch = r at *
  generalize a - a % 4 + 2 = v at *
  generalize a % 4 = s at *
  by_cases h : (s == 1) = true
  · have h' : (s != 1) = false := by simpa using h
    clear h
    go_enter Try.func6, Try.ntmps6
    go_wp2_with fail
    refine c1.out.mono ?_
    rintro e w' ⟨rfl, rfl⟩
    go_wp2_with fail
    refine c2.out.mono ?_
    rintro e w' ⟨rfl, rfl⟩
    go_wp2_with fail
    refine c3.out.mono ?_
    rintro e w' ⟨rfl, rfl⟩
    go_wp2_with fail
    refine c4.out.mono ?_
    rintro e w' ⟨rfl, rfl⟩
    go_wp2_with fail
    refine c5.out.mono ?_
    rintro e w' ⟨rfl, rfl⟩
    go_wp2_with fail
    refine (awake05 w).mono ?_
    rintro e w' ⟨rfl, rfl⟩
    go_wp2_with fail
    go_ret
    exact ⟨rfl, rfl⟩
  · have h1 : (s == 1) = false := by simpa using h
    have h' : (s != 1) = true := by simpa using h
    have hr := F.out h1
    subst hr
    clear h h1
    go_enter Try.func6, Try.ntmps6
    go_wp2_with fail
    refine c1.out.mono ?_
    rintro e w' ⟨rfl, rfl⟩
    go_wp2_with fail
    refine c2.out.mono ?_
    rintro e w' ⟨rfl, rfl⟩
    go_wp2_with fail
    refine c2.out.mono ?_
    rintro e w' ⟨rfl, rfl⟩
    go_wp2_with fail
    refine c3.out.mono ?_
    rintro e w' ⟨rfl, rfl⟩
    go_wp2_with fail
    refine c4.out.mono ?_
    rintro e w' ⟨rfl, rfl⟩
    go_wp2_with fail
    refine c5.out.mono ?_
    rintro e w' ⟨rfl, rfl⟩
    go_wp2_with fail
    refine (awake05 w).mono ?_
    rintro e w' ⟨rfl, rfl⟩
    go_wp2_with fail
    go_ret
    exact ⟨rfl, rfl⟩
end Go.Proofs.Ythdkfledopbofaa
