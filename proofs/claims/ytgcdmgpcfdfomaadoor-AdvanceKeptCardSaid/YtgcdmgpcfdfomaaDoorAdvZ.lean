/-
  The document's epoch that goes on: a thread that was evicted is written behind the others.
-/
import Derived.Test.YtgcdmgpcfdfomaaDoorAdvR
import Derived.Test.YtgcdmgpcfdfomaaDoorHeldZ
import Derived.Test.YtgcdmgpcfdfomaaDoorWords
import Derived.Test.YtgcdmgpcfdfomaaDoorLayH
import Derived.Deep.RegionHeld3
import Derived.Deep.RegionWith
namespace Go.Proofs.YtgcdmgpcfdfomaaDoor
open Go.RowKit
attribute [local go_sem] past_cell past_cell_add

theorem infoI : (Tryd.prog.info? 3).map (fun i => (i.zero, i.size, i.bytes)) = some (some (.int .i64 0), 1, 8) := by kernel_rfl
theorem ints_one (κ : IntKind) (l : List Int) : ∀ u ∈ ints κ l, u.oneCell' = true := by
  intro u hu
  unfold ints at hu
  obtain ⟨x, _, rfl⟩ := List.mem_map.1 hu
  rfl
theorem own_put8 {w : World} {B g : Nat} {e : TypeId} {s n : Nat} {xs : List Value} {v : Value} (r : w.ownsRow B e s v n xs) (hg : g < B) (v0 v1 v2 v3 v4 v5 v6 v7 : Value) : ((((((((w.setCell ⟨g, 0, none⟩ v0).setCell ⟨g, 1, none⟩ v1).setCell ⟨g, 2, none⟩ v2).setCell ⟨g, 3, none⟩ v3).setCell ⟨g, 4, none⟩ v4).setCell ⟨g, 5, none⟩ v5).setCell ⟨g, 6, none⟩ v6).setCell ⟨g, 7, none⟩ v7).ownsRow B e s v n xs := (own_setCell_far (own_setCell_far (own_setCell_far (own_setCell_far (own_setCell_far (own_setCell_far (own_setCell_far (own_setCell_far r (p := ⟨g, 0, none⟩) hg v0) (p := ⟨g, 1, none⟩) hg v1) (p := ⟨g, 2, none⟩) hg v2) (p := ⟨g, 3, none⟩) hg v3) (p := ⟨g, 4, none⟩) hg v4) (p := ⟨g, 5, none⟩) hg v5) (p := ⟨g, 6, none⟩) hg v6) (p := ⟨g, 7, none⟩) hg v7)
end Go.Proofs.YtgcdmgpcfdfomaaDoor
