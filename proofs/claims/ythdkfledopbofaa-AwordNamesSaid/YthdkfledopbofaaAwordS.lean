/-
  Chapter 5's example, and AwordStalls.
-/
import Derived.Test.YthdkfledopbofaaAwordN
namespace Go.Proofs.Ythdkfledopbofaa
open Go.RowKit

theorem awake05 (w : World) : Calls Try.prog 9 #[] w fun r w' => r = .returned (.bool true) ∧ w = w' := by
  have b : W64 38654705685 := ⟨by omega, by omega⟩
  go_enter Try.func9, Try.ntmps9
  go_wp2_with fail
  refine (amake_any 1 5 9 w ⟨by omega, by omega⟩ ⟨by omega, by omega⟩ ⟨by omega, by omega⟩).mono ?_
  rintro e w' ⟨rfl, rfl⟩
  rw [show amake 1 5 9 = 38654705685 by decide]
  go_wp2_with fail
  refine (ablocks_any _ _ w b ⟨by omega, by omega⟩).mono ?_
  rintro e w' ⟨rfl, rfl⟩
  rw [show ablocks 38654705685 6 = true by decide]
  go_wp2_with fail
  refine (ablocks_any _ _ w b ⟨by omega, by omega⟩).mono ?_
  rintro e w' ⟨rfl, rfl⟩
  rw [show ablocks 38654705685 5 = false by decide]
  go_wp2_with fail
  refine (astall_any _ _ _ w b ⟨by omega, by omega⟩).mono ?_
  rintro e w' ⟨rfl, rfl⟩
  rw [show astall 38654705685 12 3 = true by decide]
  go_wp2_with fail
  refine (astall_any _ _ _ w b ⟨by omega, by omega⟩).mono ?_
  rintro e w' ⟨rfl, rfl⟩
  rw [show astall 38654705685 12 4 = false by decide]
  go_wp2_with fail
  refine (name2_any w).mono ?_
  rintro e w' ⟨rfl, rfl⟩
  go_wp2_with fail
  go_ret
  exact ⟨rfl, rfl⟩

theorem AwordStalls_calls (a clock patience : Int) (w : World) (ha : W64 a) (hc : W64 clock) (hp : I64 patience) :
    Calls Try.prog 3 #[.int .u64 a, .int .u64 clock, .int .i64 patience] w fun r w' => r = .returned (.bool true) ∧ w = w' := by
  have S := hide (astall_any a clock patience w ha hp)
  have R := hide (rastall_any a clock patience w ha hc hp)
  generalize astall a clock patience = r at *
  go_enter Try.func3, Try.ntmps3
  go_wp2_with fail
  refine S.out.mono ?_
  rintro e w' ⟨rfl, rfl⟩
  go_wp2_with fail
  refine R.out.mono ?_
  rintro e w' ⟨rfl, rfl⟩
  go_wp2_with fail
  refine (awake05 w).mono ?_
  rintro e w' ⟨rfl, rfl⟩
  go_wp2_with fail
  go_ret
  exact ⟨rfl, rfl⟩
end Go.Proofs.Ythdkfledopbofaa
