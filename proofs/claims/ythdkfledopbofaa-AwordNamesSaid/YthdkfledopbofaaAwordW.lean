/-
  AwordNames: the walk (in work).
-/
import Derived.Test.YthdkfledopbofaaAwordV
namespace Go.Proofs.Ythdkfledopbofaa
open Go.RowKit

theorem AwordNames_calls (s : Int) (w : World) :
    Calls Try.prog 4 #[.int .i64 s] w fun r w' => r = .returned (.bool true) ∧ Below w.heap.size w w' := by
  have cs : s < 0 ∨ 3 < s ∨ s = 0 ∨ s = 1 ∨ s = 2 ∨ s = 3 := by omega
  rcases cs with c | c | rfl | rfl | rfl | rfl
  · skip
    go_enter Try.func4, Try.ntmps4
    go_wp2_with fail
    refine (nameout_any s w (.inl c)).mono ?_
    rintro e w' ⟨rfl, rfl⟩
    go_wp2_with fail
    refine (awake05 _).mono ?_
    rintro e w' ⟨rfl, rfl⟩
    go_wp2_with fail
    go_ret
    exact ⟨rfl, Below.refl _ _⟩
  · have c0 : 0 ≤ s := by omega
    go_enter Try.func4, Try.ntmps4
    go_wp2_with fail
    refine (nameout_any s w (.inr c)).mono ?_
    rintro e w' ⟨rfl, rfl⟩
    go_wp2_with fail
    refine (awake05 _).mono ?_
    rintro e w' ⟨rfl, rfl⟩
    go_wp2_with fail
    go_ret
    exact ⟨rfl, Below.refl _ _⟩
  · skip
    go_enter Try.func4, Try.ntmps4
    go_wp2_with fail
    refine (name0_any _).mono ?_
    rintro e w' ⟨rfl, rfl⟩
    go_wp2_with fail
    refine (awake05 _).mono ?_
    rintro e w' ⟨rfl, rfl⟩
    go_wp2_with fail
    go_ret
    exact ⟨rfl, (Below.refl _ _).alloc (Nat.le_refl _) _⟩
  · skip
    go_enter Try.func4, Try.ntmps4
    go_wp2_with fail
    refine (name1_any _).mono ?_
    rintro e w' ⟨rfl, rfl⟩
    go_wp2_with fail
    refine (awake05 _).mono ?_
    rintro e w' ⟨rfl, rfl⟩
    go_wp2_with fail
    go_ret
    exact ⟨rfl, (Below.refl _ _).alloc (Nat.le_refl _) _⟩
  · skip
    go_enter Try.func4, Try.ntmps4
    go_wp2_with fail
    refine (name2_any _).mono ?_
    rintro e w' ⟨rfl, rfl⟩
    go_wp2_with fail
    refine (awake05 _).mono ?_
    rintro e w' ⟨rfl, rfl⟩
    go_wp2_with fail
    go_ret
    exact ⟨rfl, (Below.refl _ _).alloc (Nat.le_refl _) _⟩
  · skip
    go_enter Try.func4, Try.ntmps4
    go_wp2_with fail
    refine (name3_any _).mono ?_
    rintro e w' ⟨rfl, rfl⟩
    go_wp2_with fail
    refine (awake05 _).mono ?_
    rintro e w' ⟨rfl, rfl⟩
    go_wp2_with fail
    go_ret
    exact ⟨rfl, (Below.refl _ _).alloc (Nat.le_refl _) _⟩
end Go.Proofs.Ythdkfledopbofaa
