/-
  The document's epoch that goes on: what it wants, and becomes.
-/
import Derived.Test.YtgcdmgpcfdfomaaDoorAdv
import Derived.Test.YtgcdmgpcfdfomaaDoorLayH
import Derived.Deep.RegionHeld3
import Derived.Deep.RegionWith
namespace Go.Proofs.YtgcdmgpcfdfomaaDoor
open Go.RowKit
attribute [local go_sem] past_cell past_cell_add

set_option maxHeartbeats 1000000 in
theorem rann_any (s t f l p th : Int) (w : World) (hth : 0 ≤ th ∧ th ≤ 1000) :
    Calls Tryd.prog 15 #[.agg #[.int .i64 s, .int .i64 t, .int .i64 f, .int .i64 l, .int .i64 p], .int .i64 th] w fun e w' => e = .returned (.int .i64 (3 + th)) ∧ Below w.heap.size w w' := by
  have B0 := (Below.refl w.heap.size w).alloc (Nat.le_refl _) (.cells #[.int .i64 s, .int .i64 t, .int .i64 f, .int .i64 l, .int .i64 p] 23)
  have h0 : IntKind.i64.wrap (3 + th) = 3 + th := IntWalk.i64_in _ (by omega)
  go_enter Tryd.func15, Tryd.ntmps15
  go_wp2_with fail
  go_ret
  exact ⟨rfl, B0⟩
end Go.Proofs.YtgcdmgpcfdfomaaDoor
