/-
  Package gleaningref04: contracts.
-/
import Derived.Test.YtigjnnedkdmahaaVword
namespace Go.Proofs.Ytigjnnedkdmahaa
open Go.RowKit

def vagg (w : Int) : Value := .agg #[.bool (vlocked w), .bool (vdead w), .int .u64 (vcnt w), .int .u64 (vgen w)]

set_option maxHeartbeats 400000 in
theorem rof_any (x : Int) (w : World) (hx : W64 x) : Calls Try.prog 7 #[.int .u64 x] w fun e w' => e = .returned (vagg x) ∧ Below w.heap.size w w' := by
  obtain ⟨h1, h2⟩ := hx
  have t1 : x.tmod 2 = x % 2 := Int.tmod_eq_emod_of_nonneg h1
  have t2 : x.tdiv 2 = x / 2 := Int.tdiv_eq_ediv_of_nonneg h1
  have t3 : (x / 2).tmod 2 = x / 2 % 2 := Int.tmod_eq_emod_of_nonneg (by omega)
  have t4 : x.tdiv 4 = x / 4 := Int.tdiv_eq_ediv_of_nonneg h1
  have t5 : (x / 4).tmod 274877906944 = x / 4 % 274877906944 := Int.tmod_eq_emod_of_nonneg (by omega)
  have t6 : x.tdiv 1099511627776 = x / 1099511627776 := Int.tdiv_eq_ediv_of_nonneg h1
  have E := hide (show vagg x = .agg #[.bool (x % 2 == 1), .bool (x / 2 % 2 == 1), .int .u64 (x / 4 % 274877906944), .int .u64 (x / 1099511627776)] from rfl)
  have b1 : 0 ≤ x % 2 ∧ x % 2 < 2 := by omega
  have b2 : 0 ≤ x / 2 % 2 ∧ x / 2 % 2 < 2 := by omega
  have b3 : 0 ≤ x / 4 % 274877906944 ∧ x / 4 % 274877906944 < 274877906944 := by omega
  have b4 : 0 ≤ x / 2 ∧ x / 2 < 18446744073709551616 := by omega
  have b5 : 0 ≤ x / 4 ∧ x / 4 < 18446744073709551616 := by omega
  have b6 : 0 ≤ x / 1099511627776 ∧ x / 1099511627776 < 18446744073709551616 := by omega
  generalize vagg x = R at *
  generalize x / 2 % 2 = q at *
  generalize x / 4 % 274877906944 = r at *
  generalize x / 2 = y at *
  generalize x / 4 = z at *
  generalize x / 1099511627776 = u at *
  generalize x % 2 = v at *
  go_enter Try.func7, Try.ntmps7
  go_wp2_with fail
  refine bodyPost_ret (v := .agg #[.bool (v == 1), .bool (q == 1), .int .u64 r, .int .u64 u]) (by simp [results, Try.results7, go_sem]) rfl ⟨by rw [E.out], ?_⟩
  exact ((Below.refl _ _).alloc (Nat.le_refl _) _)

set_option maxHeartbeats 400000 in
theorem rword_any (l d : Bool) (c g : Int) (w : World) (hc : W64 c) (hg : W64 g) :
    Calls Try.prog 8 #[.agg #[.bool l, .bool d, .int .u64 c, .int .u64 g]] w fun e w' => e = .returned (.int .u64 (vpack g c d l)) ∧ Below w.heap.size w w' := by
  obtain ⟨h1, h2⟩ := hc
  obtain ⟨h3, h4⟩ := hg
  have t1 : g.tmod 16777216 = g % 16777216 := Int.tmod_eq_emod_of_nonneg h3
  have t2 : c.tmod 274877906944 = c % 274877906944 := Int.tmod_eq_emod_of_nonneg h1
  have b3 : 0 ≤ c % 274877906944 ∧ c % 274877906944 < 274877906944 := by omega
  have b4 : 0 ≤ g % 16777216 ∧ g % 16777216 < 16777216 := by omega
  have E := hide (show vpack g c d l = g % 16777216 * 1099511627776 + c % 274877906944 * 4 + b2i d * 2 + b2i l from rfl)
  generalize vpack g c d l = R at *
  generalize g % 16777216 = G at *
  generalize c % 274877906944 = C at *
  cases l <;> cases d
  all_goals
    go_enter Try.func8, Try.ntmps8
    go_wp2_with fail
    go_ret
    refine ⟨?_, (Below.refl _ _).alloc (Nat.le_refl _) _⟩
    rw [E.out]
    simp [b2i]
    try omega
end Go.Proofs.Ytigjnnedkdmahaa
