/-
  Package field: contracts.
-/
import Derived.Test.YtgcdmgpcfdfomaaDoorFieldPlain
import Derived.Test.YtgcdmgpcfdfomaaDoorMem
import Derived.WalkSpells
namespace Go.Proofs.YtgcdmgpcfdfomaaDoor
open Go.RowKit

set_option maxHeartbeats 400000 in
theorem cut_any (at_ size : Int) (w : World) (ha : I64 at_) (hs : I64 size) :
    Calls Tryd.prog 58 #[.int .i64 at_, .int .i64 size] w fun r w' => r = .returned (.int .i64 (fcut at_ size)) ∧ w = w' := by
  obtain ⟨h0, h1⟩ := ha
  obtain ⟨h2, h3⟩ := hs
  by_cases hc : at_ < 0 ∨ 63 < at_ ∨ size < 1
  · have e : fcut at_ size = 0 := if_pos hc
    rw [e]
    clear e
    rcases hc with hc | hc | hc
    · go_enter Tryd.func58, Tryd.ntmps58
      go_wp2
      go_ret
      exact ⟨rfl, rfl⟩
    · by_cases h : at_ < 0
      · omega
      go_enter Tryd.func58, Tryd.ntmps58
      go_wp2
      go_ret
      exact ⟨rfl, rfl⟩
    · by_cases h : at_ < 0
      · go_enter Tryd.func58, Tryd.ntmps58
        go_wp2
        go_ret
        exact ⟨rfl, rfl⟩
      by_cases h' : 63 < at_
      · go_enter Tryd.func58, Tryd.ntmps58
        go_wp2
        go_ret
        exact ⟨rfl, rfl⟩
      go_enter Tryd.func58, Tryd.ntmps58
      go_wp2
      go_ret
      exact ⟨rfl, rfl⟩
  · have e : fcut at_ size = min size (64 - at_) := if_neg hc
    have E := hide e
    clear e
    have h4 : 0 ≤ at_ := by omega
    have h5 : at_ ≤ 63 := by omega
    have h6 : 1 ≤ size := by omega
    clear hc
    by_cases hm : size ≤ 64 - at_
    · go_enter Tryd.func58, Tryd.ntmps58
      go_wp2
      go_ret
      exact ⟨by rw [E.out, Int.min_eq_left hm]; rfl, rfl⟩
    · go_enter Tryd.func58, Tryd.ntmps58
      go_wp2
      go_ret
      exact ⟨by rw [E.out, Int.min_eq_right (by omega)]; rfl, rfl⟩

set_option maxHeartbeats 400000 in
theorem mask_any (size : Int) (w : World) (hs : I64 size) :
    Calls Tryd.prog 46 #[.int .i64 size] w fun r w' => r = .returned (.int .u64 (fmask size)) ∧ w = w' := by
  obtain ⟨h2, h3⟩ := hs
  by_cases h0 : size < 1
  · have E := hide (show fmask size = 0 from if_pos h0)
    go_enter Tryd.func46, Tryd.ntmps46
    go_wp2
    go_ret
    exact ⟨by rw [E.out]; rfl, rfl⟩
  by_cases h1 : 64 ≤ size
  · have E := hide (show fmask size = 18446744073709551615 by unfold fmask; rw [if_neg h0, if_pos h1])
    go_enter Tryd.func46, Tryd.ntmps46
    go_wp2
    go_ret
    exact ⟨by rw [E.out]; rfl, rfl⟩
  · have E := hide (show fmask size = 2 ^ size.toNat - 1 by unfold fmask; rw [if_neg h0, if_neg h1])
    have h4 : 1 ≤ size := by omega
    have h5 : size ≤ 63 := by omega
    have B := hide (show IntKind.u64.wrap (IntKind.u64.wrap (2 ^ size.toNat) - 1) = 2 ^ size.toNat - 1 by
      have : (2 : Nat) ^ size.toNat ≤ 2 ^ 63 := Nat.pow_le_pow_right (by omega) (by omega)
      have h0 : 0 < (2 : Nat) ^ size.toNat := Nat.two_pow_pos _
      have e : (2 : Int) ^ size.toNat = ((2 ^ size.toNat : Nat) : Int) := by simp
      rw [e]
      generalize (2 : Nat) ^ size.toNat = p at *
      simp only [IntKind.wrap_u64]
      omega)
    go_enter Tryd.func46, Tryd.ntmps46
    go_wp2
    go_ret
    exact ⟨by rw [E.out, ← B.out]; rfl, rfl⟩

set_option maxHeartbeats 400000 in
theorem put_any (x at_ size v : Int) (w : World) (hx : W64 x) (ha : I64 at_) (hs : I64 size) (hv : W64 v) :
    Calls Tryd.prog 48 #[.int .u64 x, .int .i64 at_, .int .i64 size, .int .u64 v] w fun r w' => r = .returned (.int .u64 (fput x at_ size v)) ∧ w = w' := by
  by_cases hc : at_ < 0 ∨ 63 < at_ ∨ size < 1
  · have e : fcut at_ size = 0 := if_pos hc
    have e2 : fput x at_ size v = x := if_pos hc
    rw [e2]
    clear e2
    have C := hide (cut_any at_ size)
    rw [e] at C
    clear e
    go_enter Tryd.func48, Tryd.ntmps48
    go_wp2_with fail
    refine (C.out _ ha hs).mono ?_
    rintro e w' ⟨rfl, rfl⟩
    go_wp2_with fail
    go_ret
    exact ⟨rfl, rfl⟩
  · have P := hide (put_bits hx hv hc)
    have C := hide (cut_any at_ size w ha hs)
    have n1 : 1 ≤ fcut at_ size := by unfold fcut; rw [if_neg hc]; omega
    have n2 : fcut at_ size ≤ 64 := by unfold fcut; rw [if_neg hc]; omega
    generalize fcut at_ size = n at *
    have M := hide (mask_any n w ⟨by omega, by omega⟩)
    have h4 : 0 ≤ at_ := by omega
    have h5 : at_ ≤ 63 := by omega
    obtain ⟨m1, m2⟩ := fmask_bound n
    generalize fmask n = m at *
    obtain ⟨h6, h7⟩ := hx
    obtain ⟨h8, h9⟩ := hv
    go_enter Tryd.func48, Tryd.ntmps48
    go_wp2_with fail
    refine C.out.mono ?_
    rintro e w' ⟨rfl, rfl⟩
    go_wp2_with fail
    refine M.out.mono ?_
    rintro e w' ⟨rfl, rfl⟩
    go_wp2_with fail
    go_ret
    exact ⟨by rw [← P.out]; rfl, rfl⟩

set_option maxHeartbeats 400000 in
theorem get_any (x at_ size : Int) (w : World) (hx : W64 x) (ha : I64 at_) (hs : I64 size) :
    Calls Tryd.prog 57 #[.int .u64 x, .int .i64 at_, .int .i64 size] w fun r w' => r = .returned (.int .u64 (fget x at_ size)) ∧ w = w' := by
  by_cases hc : at_ < 0 ∨ 63 < at_ ∨ size < 1
  · have e : fcut at_ size = 0 := if_pos hc
    have e2 : fget x at_ size = 0 := if_pos hc
    rw [e2]
    clear e2
    have C := hide (cut_any at_ size)
    rw [e] at C
    clear e
    go_enter Tryd.func57, Tryd.ntmps57
    go_wp2_with fail
    refine (C.out _ ha hs).mono ?_
    rintro e w' ⟨rfl, rfl⟩
    go_wp2_with fail
    go_ret
    exact ⟨rfl, rfl⟩
  · have P := hide (get_bits hx hc)
    have C := hide (cut_any at_ size w ha hs)
    have n1 : 1 ≤ fcut at_ size := by unfold fcut; rw [if_neg hc]; omega
    have n2 : fcut at_ size ≤ 64 := by unfold fcut; rw [if_neg hc]; omega
    generalize fcut at_ size = n at *
    have M := hide (mask_any n w ⟨by omega, by omega⟩)
    have h4 : 0 ≤ at_ := by omega
    have h5 : at_ ≤ 63 := by omega
    obtain ⟨m1, m2⟩ := fmask_bound n
    generalize fmask n = m at *
    obtain ⟨h6, h7⟩ := hx
    go_enter Tryd.func57, Tryd.ntmps57
    go_wp2_with fail
    refine C.out.mono ?_
    rintro e w' ⟨rfl, rfl⟩
    go_wp2_with fail
    refine M.out.mono ?_
    rintro e w' ⟨rfl, rfl⟩
    go_wp2_with fail
    go_ret
    exact ⟨by rw [← P.out]; rfl, rfl⟩

end Go.Proofs.YtgcdmgpcfdfomaaDoor
