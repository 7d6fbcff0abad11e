/-
  Package vword: contracts.
-/
import Derived.Test.YtgcdmgpcfdfomaaDoorField
import Derived.Test.YtgcdmgpcfdfomaaDoorVplain
import Derived.Deep.LoopGhost
import Derived.Deep.RegionWith
namespace Go.Proofs.YtgcdmgpcfdfomaaDoor
open Go.RowKit

theorem W64.small {x : Int} (h : 0 ≤ x ∧ x ≤ 1) : W64 x := ⟨h.1, by omega⟩
theorem b2i_w (b : Bool) : W64 (b2i b) := W64.small (b2i_bound b)

theorem vcnt_bound (x : Int) : 0 ≤ vcnt x ∧ vcnt x < 274877906944 := by unfold vcnt; omega
theorem vgen_bound {x : Int} (h : W64 x) : 0 ≤ vgen x ∧ vgen x < 16777216 := by obtain ⟨h1, h2⟩ := h; unfold vgen; omega

def AfterIn (vs : Nat → Int) (n : Nat) (w : World) (x i : Value) (wr : World) : Prop :=
  ∃ k : Nat, k ≤ n ∧ i = .int .i64 k ∧ x = .int .u64 (vs k) ∧ Below w.heap.size w wr

theorem same_below {r : Value} {w : World} {e : Ending} {w' : World} (h : e = .returned r ∧ w = w') : e = .returned r ∧ Below w.heap.size w w' := ⟨h.1, h.2 ▸ Below.refl _ _⟩

end Go.Proofs.YtgcdmgpcfdfomaaDoor
