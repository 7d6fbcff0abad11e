/-
  AwordBlocks and AwordMakes: the walks.
-/
import Derived.Test.YthdkfledopbofaaAwordS
namespace Go.Proofs.Ythdkfledopbofaa
open Go.RowKit

theorem AwordMakes_calls (state epoch tick a : Int) (w : World) (hs : I64 state) (he : W64 epoch) (ht : W64 tick) (ha : W64 a) :
    Calls Try.prog 5 #[.int .i64 state, .int .u64 epoch, .int .u64 tick, .int .u64 a] w fun r w' => r = .returned (.bool true) ∧ w = w' := by
  have c1 := hide (amake_any state epoch tick w hs he ht)
  have c2 := hide (ramake_any state epoch tick w hs he ht)
  have c3 := hide (astate_any a w ha)
  have c4 := hide (rastate_any a w ha)
  have c5 := hide (aepoch_any a w ha)
  have c6 := hide (raepoch_any a w ha)
  have c7 := hide (atick_any a w ha)
  have c8 := hide (ratick_any a w ha)
  have c9 := hide (aevict_any a w ha)
  have c10 := hide (raevict_any a w ha)
  generalize amake state epoch tick = m at *
  generalize a - a % 4 + 2 = v at *
  generalize a % 4 = s at *
  generalize a / 4 % 1073741824 = x at *
  generalize a / 4294967296 = t at *
  go_enter Try.func5, Try.ntmps5
  go_wp2_with fail
  refine c1.out.mono ?_
  rintro e w' ⟨rfl, rfl⟩
  go_wp2_with fail
  refine c2.out.mono ?_
  rintro e w' ⟨rfl, rfl⟩
  go_wp2_with fail
  refine c3.out.mono ?_
  rintro e w' ⟨rfl, rfl⟩
  go_wp2_with fail
  refine c4.out.mono ?_
  rintro e w' ⟨rfl, rfl⟩
  go_wp2_with fail
  refine c5.out.mono ?_
  rintro e w' ⟨rfl, rfl⟩
  go_wp2_with fail
  refine c6.out.mono ?_
  rintro e w' ⟨rfl, rfl⟩
  go_wp2_with fail
  refine c7.out.mono ?_
  rintro e w' ⟨rfl, rfl⟩
  go_wp2_with fail
  refine c8.out.mono ?_
  rintro e w' ⟨rfl, rfl⟩
  go_wp2_with fail
  refine c9.out.mono ?_
  rintro e w' ⟨rfl, rfl⟩
  go_wp2_with fail
  refine c10.out.mono ?_
  rintro e w' ⟨rfl, rfl⟩
  go_wp2_with fail
  refine (awake05 w).mono ?_
  rintro e w' ⟨rfl, rfl⟩
  go_wp2_with fail
  go_ret
  exact ⟨rfl, rfl⟩
end Go.Proofs.Ythdkfledopbofaa
