/-
  Package layout: What.
-/
import Derived.Test.YtgcdmgpcfdfomaaDoorLay
import Derived.RegionTactic
namespace Go.Proofs.YtgcdmgpcfdfomaaDoor
open Go.RowKit
attribute [local go_sem] past_cell past_cell_add

end Go.Proofs.YtgcdmgpcfdfomaaDoor
