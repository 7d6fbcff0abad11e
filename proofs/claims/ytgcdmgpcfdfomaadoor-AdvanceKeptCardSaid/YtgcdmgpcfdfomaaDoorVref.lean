/-
  Package gleaningref04: contracts.
-/
import Derived.Test.YtgcdmgpcfdfomaaDoorVword
namespace Go.Proofs.YtgcdmgpcfdfomaaDoor
open Go.RowKit

def vagg (w : Int) : Value := .agg #[.bool (vlocked w), .bool (vdead w), .int .u64 (vcnt w), .int .u64 (vgen w)]

set_option maxHeartbeats 400000 in
theorem rword_any (l d : Bool) (c g : Int) (w : World) (hc : W64 c) (hg : W64 g) :
    Calls Tryd.prog 25 #[.agg #[.bool l, .bool d, .int .u64 c, .int .u64 g]] w fun e w' => e = .returned (.int .u64 (vpack g c d l)) ∧ Below w.heap.size w w' := by
  obtain ⟨h1, h2⟩ := hc
  obtain ⟨h3, h4⟩ := hg
  have t1 : g.tmod 16777216 = g % 16777216 := Int.tmod_eq_emod_of_nonneg h3
  have t2 : c.tmod 274877906944 = c % 274877906944 := Int.tmod_eq_emod_of_nonneg h1
  have b3 : 0 ≤ c % 274877906944 ∧ c % 274877906944 < 274877906944 := by omega
  have b4 : 0 ≤ g % 16777216 ∧ g % 16777216 < 16777216 := by omega
  have E := hide (show vpack g c d l = g % 16777216 * 1099511627776 + c % 274877906944 * 4 + b2i d * 2 + b2i l from rfl)
  generalize vpack g c d l = R at *
  generalize g % 16777216 = G at *
  generalize c % 274877906944 = C at *
  cases l <;> cases d
  all_goals
    go_enter Tryd.func25, Tryd.ntmps25
    go_wp2_with fail
    go_ret
    refine ⟨?_, (Below.refl _ _).alloc (Nat.le_refl _) _⟩
    rw [E.out]
    simp [b2i]
    try omega
end Go.Proofs.YtgcdmgpcfdfomaaDoor
