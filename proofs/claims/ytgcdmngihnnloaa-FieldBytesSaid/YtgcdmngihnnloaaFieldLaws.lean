/-
  The laws of chapter 1: their Go functions hand back true.
-/
import Derived.Test.YtgcdmngihnnloaaFieldRS
import Derived.Below
namespace Go.Proofs.Ytgcdmngihnnloaa
open Go.RowKit

set_option maxHeartbeats 400000 in
theorem awake01 (w : World) : Calls Try.prog 15 #[] w fun r w' => r = .returned (.bool true) ∧ w = w' := by
  have e1 : fget 171 4 4 = 10 := by decide
  have e2 : fput 255 1 2 0 = 249 := by decide
  have e3 : fsigned 255 8 = -1 := by decide
  have e4 : wid 5 = 3 := by decide
  have G := hide (get_any 171 4 4 w ⟨by omega, by omega⟩ ⟨by omega, by omega⟩ ⟨by omega, by omega⟩)
  have P := hide (put_any 255 1 2 0 w ⟨by omega, by omega⟩ ⟨by omega, by omega⟩ ⟨by omega, by omega⟩ ⟨by omega, by omega⟩)
  have Sg := hide (signed_any 255 8 w ⟨by omega, by omega⟩ ⟨by omega, by omega⟩)
  have Wd := hide (width_any 5 w (by omega))
  rw [e1] at G
  rw [e2] at P
  rw [e3] at Sg
  rw [e4] at Wd
  clear e1 e2 e3 e4
  go_enter Try.func15, Try.ntmps15
  go_wp2_with fail
  refine G.out.mono ?_
  rintro e w' ⟨rfl, rfl⟩
  go_wp2_with fail
  refine P.out.mono ?_
  rintro e w' ⟨rfl, rfl⟩
  go_wp2_with fail
  refine Sg.out.mono ?_
  rintro e w' ⟨rfl, rfl⟩
  go_wp2_with fail
  refine Wd.out.mono ?_
  rintro e w' ⟨rfl, rfl⟩
  go_wp2_with fail
  go_ret
  exact ⟨rfl, rfl⟩

set_option maxHeartbeats 400000 in
theorem FieldPuts_calls (x at_ size v : Int) (w : World) (hx : W64 x) (ha : I64 at_) (hs : I64 size) (hv : W64 v) :
    Calls Try.prog 4 #[.int .u64 x, .int .i64 at_, .int .i64 size, .int .u64 v] w fun r w' => r = .returned (.bool true) ∧ Below w.heap.size w w' := by
  have P := hide (put_any x at_ size v w hx ha hs hv)
  have R := hide (rput_any x at_ size v w hx ha hs hv)
  generalize fput x at_ size v = y at *
  go_enter Try.func4, Try.ntmps4
  go_wp2_with fail
  refine P.out.mono ?_
  rintro e w' ⟨rfl, rfl⟩
  go_wp2_with fail
  refine R.out.mono ?_
  rintro e w' ⟨rfl, rfl⟩
  go_wp2_with fail
  refine (awake01 w).mono ?_
  rintro e w' ⟨rfl, rfl⟩
  go_wp2_with fail
  go_ret
  exact ⟨rfl, Below.refl _ _⟩

theorem mask_put (size : Int) (hs : I64 size) : fmask size = fput 0 0 size 18446744073709551615 := by
  by_cases h : size < 1
  · have : fput 0 0 size 18446744073709551615 = 0 := if_pos (by omega)
    rw [this]
    exact if_pos h
  · obtain ⟨a, n, ha, h1, h2, h3, h4, h5⟩ := field_nat (at_ := 0) (size := size) (by omega)
    obtain rfl : a = 0 := by omega
    have e := fput_nat (a := 0) (size := size) 0 18446744073709551615 (by omega) h4
    have e' : fput 0 0 size 18446744073709551615 = _ := e
    rw [e']
    have hm : fmask size = fmask n := by
      unfold fmask
      by_cases h6 : 64 ≤ size
      · rw [if_neg h, if_pos h6, if_neg (by omega), if_pos (by omega)]
      · obtain rfl : size = n := by omega
        rfl
    rw [hm, fmask_nat h2 (by omega)]
    have h7 : 18446744073709551615 % 2 ^ n = 2 ^ n - 1 := by
      have e64 : 18446744073709551615 = 2 ^ 64 - 1 := by decide
      rw [e64]
      apply Nat.eq_of_testBit_eq
      intro i
      rw [Nat.testBit_mod_two_pow, Nat.testBit_two_pow_sub_one, Nat.testBit_two_pow_sub_one]
      by_cases h : i < n <;> simp [h]
      omega
    rw [h7]
    simp

set_option maxHeartbeats 400000 in
theorem FieldMasks_calls (size : Int) (w : World) (hs : I64 size) :
    Calls Try.prog 5 #[.int .i64 size] w fun r w' => r = .returned (.bool true) ∧ Below w.heap.size w w' := by
  have P := hide (mask_any size w hs)
  have R := hide (rput_any 0 0 size 18446744073709551615 w ⟨by omega, by omega⟩ ⟨by omega, by omega⟩ hs ⟨by omega, by omega⟩)
  rw [← mask_put size hs] at R
  generalize fmask size = y at *
  go_enter Try.func5, Try.ntmps5
  go_wp2_with fail
  refine P.out.mono ?_
  rintro e w' ⟨rfl, rfl⟩
  go_wp2_with fail
  refine R.out.mono ?_
  rintro e w' ⟨rfl, rfl⟩
  go_wp2_with fail
  refine (awake01 w).mono ?_
  rintro e w' ⟨rfl, rfl⟩
  go_wp2_with fail
  go_ret
  exact ⟨rfl, Below.refl _ _⟩

set_option maxHeartbeats 400000 in
theorem FieldSigned_calls (x size : Int) (w : World) (hx : W64 x) (hs : I64 size) :
    Calls Try.prog 6 #[.int .u64 x, .int .i64 size] w fun r w' => r = .returned (.bool true) ∧ Below w.heap.size w w' := by
  have P := hide (signed_any x size w hx hs)
  have R := hide (rsigned_any x size w hx hs)
  generalize fsigned x size = y at *
  go_enter Try.func6, Try.ntmps6
  go_wp2_with fail
  refine P.out.mono ?_
  rintro e w' ⟨rfl, rfl⟩
  go_wp2_with fail
  refine R.out.mono ?_
  rintro e w' ⟨rfl, rfl⟩
  go_wp2_with fail
  refine (awake01 w).mono ?_
  rintro e w' ⟨rfl, rfl⟩
  go_wp2_with fail
  go_ret
  exact ⟨rfl, Below.refl _ _⟩

theorem bit_rbit (x at_ : Int) : (fget x at_ 1 == 1) = (rbit x at_ == 1) := by
  by_cases h : at_ < 0 ∨ 63 < at_
  · have e1 : fget x at_ 1 = 0 := if_pos (by omega)
    have e2 : rbit x at_ = -1 := if_pos h
    rw [e1, e2]
    rfl
  · have e1 : fget x at_ 1 = x / 2 ^ at_.toNat % 2 ^ (min 1 (64 - at_)).toNat := if_neg (by omega)
    have e2 : rbit x at_ = x / P2 at_.toNat % 2 := if_neg h
    have e3 : (min 1 (64 - at_)).toNat = 1 := by omega
    rw [e1, e2, e3]
    rfl

set_option maxHeartbeats 400000 in
theorem FieldGets_calls (x at_ size : Int) (w : World) (hx : W64 x) (ha : I64 at_) (hs : I64 size) :
    Calls Try.prog 3 #[.int .u64 x, .int .i64 at_, .int .i64 size] w fun r w' => r = .returned (.bool true) ∧ Below w.heap.size w w' := by
  have P := hide (get_any x at_ size w hx ha hs)
  have R := hide (rget_any x at_ size w hx ha hs)
  have B := hide (bit_any x at_ w hx ha)
  have RB := hide (rbit_any x at_ w hx ha)
  rw [bit_rbit] at B
  obtain ⟨z, rfl⟩ := Int.eq_ofNat_of_zero_le hx.1
  have Wd := hide (width_any z w (by have := hx.2; omega))
  have RW := hide (rwidth_any z w (by have := hx.2; omega))
  generalize fget z at_ size = y at *
  generalize rbit z at_ = b at *
  generalize wid z = c at *
  go_enter Try.func3, Try.ntmps3
  go_wp2_with fail
  refine P.out.mono ?_
  rintro e w' ⟨rfl, rfl⟩
  go_wp2_with fail
  refine R.out.mono ?_
  rintro e w' ⟨rfl, rfl⟩
  go_wp2_with fail
  refine B.out.mono ?_
  rintro e w' ⟨rfl, rfl⟩
  go_wp2_with fail
  refine RB.out.mono ?_
  rintro e w' ⟨rfl, rfl⟩
  go_wp2_with fail
  refine Wd.out.mono ?_
  rintro e w' ⟨rfl, rfl⟩
  go_wp2_with fail
  refine RW.out.mono ?_
  rintro e w' ⟨rfl, rfl⟩
  go_wp2_with fail
  refine (awake01 w).mono ?_
  rintro e w' ⟨rfl, rfl⟩
  go_wp2_with fail
  go_ret
  exact ⟨rfl, Below.refl _ _⟩


theorem get_put_same {x v size : Int} {a n : Nat} (hx : W64 x) (hv : W64 v) (hc : ¬ ((a : Int) < 0 ∨ 63 < (a : Int) ∨ size < 1)) (hn : min size (64 - (a : Int)) = n) :
    fget (fput x a size v) a n = bits .and .u64 v (fmask n) := by
  obtain ⟨x, rfl⟩ := Int.eq_ofNat_of_zero_le hx.1
  obtain ⟨v, rfl⟩ := Int.eq_ofNat_of_zero_le hv.1
  have hv2 := hv.2
  have h2 : (2 : Nat) ^ n ≤ 2 ^ 64 := Nat.pow_le_pow_right (by omega) (by omega)
  rw [fput_nat x v hc hn, fget_nat (n := n) _ (by omega) (by omega), nat_put_sum, fmask_nat (by omega) (by omega), u64_and_nat _ _ (by omega) (by have := Nat.two_pow_pos n; omega), Nat.and_two_pow_sub_one_eq_mod]
  congr 1
  apply Nat.eq_of_testBit_eq
  intro i
  rw [Nat.testBit_mod_two_pow, Nat.testBit_mod_two_pow, Nat.testBit_div_two_pow, nat_put_bit]
  by_cases h : i < n
  · rw [if_pos (by omega)]
    have : i + a - a = i := by omega
    simp [h, this]
  · simp [h]

theorem get_put_other {x v size other many : Int} {a n : Nat} (hx : W64 x) (hv : W64 v) (hc : ¬ ((a : Int) < 0 ∨ 63 < (a : Int) ∨ size < 1)) (hn : min size (64 - (a : Int)) = n)
    (ho : ¬ (other < 0 ∨ 63 < other ∨ many < 1)) (hd : (a : Int) + n ≤ other ∨ other + many ≤ a) : fget (fput x a size v) other many = fget x other many := by
  obtain ⟨x, rfl⟩ := Int.eq_ofNat_of_zero_le hx.1
  obtain ⟨v, rfl⟩ := Int.eq_ofNat_of_zero_le hv.1
  obtain ⟨o, m, rfl, h1, h2, h3, h4, _⟩ := field_nat ho
  rw [fput_nat x v hc hn, fget_nat _ ho h4, fget_nat _ ho h4, nat_put_sum]
  congr 1
  apply Nat.eq_of_testBit_eq
  intro i
  rw [Nat.testBit_mod_two_pow, Nat.testBit_mod_two_pow, Nat.testBit_div_two_pow, Nat.testBit_div_two_pow, nat_put_bit]
  by_cases h : i < m
  · rw [if_neg (by omega)]
  · simp [h]

set_option maxHeartbeats 1000000 in
theorem FieldKeeps_calls (x at_ size v other many : Int) (w : World) (hx : W64 x) (ha : I64 at_) (hs : I64 size) (hv : W64 v) (ho : I64 other) (hm : I64 many) :
    Calls Try.prog 7 #[.int .u64 x, .int .i64 at_, .int .i64 size, .int .u64 v, .int .i64 other, .int .i64 many] w fun r w' => r = .returned (.bool true) ∧ Below w.heap.size w w' := by
  have P := hide (put_any x at_ size v w hx ha hs hv)
  obtain ⟨m1, m2⟩ := hm
  obtain ⟨o1, o2⟩ := ho
  obtain ⟨s1, s2⟩ := hs
  by_cases h0 : at_ < 0
  · rw [show fput x at_ size v = x from if_pos (.inl h0)] at P
    go_enter Try.func7, Try.ntmps7
    go_wp2_with fail
    refine P.out.mono ?_
    rintro e w' ⟨rfl, rfl⟩
    go_wp2_with fail
    refine (awake01 w).mono ?_
    rintro e w' ⟨rfl, rfl⟩
    go_wp2_with fail
    go_ret
    exact ⟨rfl, Below.refl _ _⟩
  by_cases h1 : 63 < at_
  · rw [show fput x at_ size v = x from if_pos (.inr (.inl h1))] at P
    go_enter Try.func7, Try.ntmps7
    go_wp2_with fail
    refine P.out.mono ?_
    rintro e w' ⟨rfl, rfl⟩
    go_wp2_with fail
    refine (awake01 w).mono ?_
    rintro e w' ⟨rfl, rfl⟩
    go_wp2_with fail
    go_ret
    exact ⟨rfl, Below.refl _ _⟩
  by_cases h2 : size < 1
  · rw [show fput x at_ size v = x from if_pos (.inr (.inr h2))] at P
    have h0' : 0 ≤ at_ := by omega
    have h1' : at_ ≤ 63 := by omega
    clear h0 h1
    go_enter Try.func7, Try.ntmps7
    go_wp2_with fail
    refine P.out.mono ?_
    rintro e w' ⟨rfl, rfl⟩
    go_wp2_with fail
    refine (awake01 w).mono ?_
    rintro e w' ⟨rfl, rfl⟩
    go_wp2_with fail
    go_ret
    exact ⟨rfl, Below.refl _ _⟩
  obtain ⟨a, n, rfl, a1, n1, an, hmin, _⟩ := field_nat (at_ := at_) (size := size) (by omega)
  have hc : ¬ ((a : Int) < 0 ∨ 63 < (a : Int) ∨ size < 1) := by omega
  have hxb := fput_bound (at_ := (a : Int)) (size := size) hx hv
  have GS := get_put_same hx hv hc hmin
  have G := hide (get_any (fput x a size v) a n w hxb ha ⟨by omega, by omega⟩)
  have M := hide (mask_any n w ⟨by omega, by omega⟩)
  have GX := hide (get_any x other many w hx ⟨o1, o2⟩ ⟨m1, m2⟩)
  have GO : Hid (¬ (other < 0 ∨ 63 < other ∨ many < 1) → ((a : Int) + n ≤ other ∨ other + many ≤ a) → Calls Try.prog 9 #[.int .u64 (fput x a size v), .int .i64 other, .int .i64 many] w fun r w' => r = .returned (.int .u64 (fget x other many)) ∧ w = w') :=
    hide (fun ho hd => by
      have := get_any (fput x a size v) other many w hxb ⟨o1, o2⟩ ⟨m1, m2⟩
      rw [get_put_other hx hv hc hmin ho hd] at this
      exact this)
  rw [GS] at G
  have s3 : 1 ≤ size := by omega
  clear GS hxb hc h0 h1 h2
  generalize fput x a size v = y at *
  generalize fmask (n : Int) = q at *
  generalize fget x other many = z at *
  have paths : (other < 0 ∨ 63 < other ∨ many < 1) ∨ (¬ (other < 0 ∨ 63 < other ∨ many < 1) ∧ ((a : Int) ≤ other ∧ other - a < n)) ∨ (¬ (other < 0 ∨ 63 < other ∨ many < 1) ∧ (other < a ∧ (a : Int) - other < many)) ∨
      (¬ (other < 0 ∨ 63 < other ∨ many < 1) ∧ ((a : Int) ≤ other ∧ (n : Int) ≤ other - a)) ∨ (¬ (other < 0 ∨ 63 < other ∨ many < 1) ∧ (other < a ∧ many ≤ (a : Int) - other)) := by omega
  by_cases hbig : size ≤ 64 - (a : Int)
  · obtain rfl : size = n := by omega
    clear hmin
    rcases paths with hp | ⟨ho, hp1, hp2⟩ | ⟨ho, hp1, hp2⟩ | ⟨ho, hp1, hp2⟩ | ⟨ho, hp1, hp2⟩
    · rcases (show other < 0 ∨ (0 ≤ other ∧ 63 < other) ∨ (0 ≤ other ∧ other ≤ 63 ∧ many < 1) by omega) with hq | ⟨hq, hq2⟩ | ⟨hq, hq2, hq3⟩
      all_goals clear hp
      all_goals
        go_enter Try.func7, Try.ntmps7
        go_wp2_with fail
        refine P.out.mono ?_
        rintro e w' ⟨rfl, rfl⟩
        go_wp2_with fail
        refine G.out.mono ?_
        rintro e w' ⟨rfl, rfl⟩
        go_wp2_with fail
        refine M.out.mono ?_
        rintro e w' ⟨rfl, rfl⟩
        go_wp2_with fail
        refine (awake01 w).mono ?_
        rintro e w' ⟨rfl, rfl⟩
        go_wp2_with fail
        go_ret
        exact ⟨rfl, Below.refl _ _⟩
    · have hq1 : 0 ≤ other := by omega
      have hq2 : other ≤ 63 := by omega
      have hq3 : 1 ≤ many := by omega
      have HO := hide ho
      clear ho
      go_enter Try.func7, Try.ntmps7
      go_wp2_with fail
      refine P.out.mono ?_
      rintro e w' ⟨rfl, rfl⟩
      go_wp2_with fail
      refine G.out.mono ?_
      rintro e w' ⟨rfl, rfl⟩
      go_wp2_with fail
      refine M.out.mono ?_
      rintro e w' ⟨rfl, rfl⟩
      go_wp2_with fail
      refine (awake01 w).mono ?_
      rintro e w' ⟨rfl, rfl⟩
      go_wp2_with fail
      go_ret
      exact ⟨rfl, Below.refl _ _⟩
    · have hq1 : 0 ≤ other := by omega
      have hq2 : other ≤ 63 := by omega
      have hq3 : 1 ≤ many := by omega
      have HO := hide ho
      clear ho
      go_enter Try.func7, Try.ntmps7
      go_wp2_with fail
      refine P.out.mono ?_
      rintro e w' ⟨rfl, rfl⟩
      go_wp2_with fail
      refine G.out.mono ?_
      rintro e w' ⟨rfl, rfl⟩
      go_wp2_with fail
      refine M.out.mono ?_
      rintro e w' ⟨rfl, rfl⟩
      go_wp2_with fail
      refine (awake01 w).mono ?_
      rintro e w' ⟨rfl, rfl⟩
      go_wp2_with fail
      go_ret
      exact ⟨rfl, Below.refl _ _⟩
    · have hq1 : 0 ≤ other := by omega
      have hq2 : other ≤ 63 := by omega
      have hq3 : 1 ≤ many := by omega
      have HO := hide ho
      clear ho
      go_enter Try.func7, Try.ntmps7
      go_wp2_with fail
      refine P.out.mono ?_
      rintro e w' ⟨rfl, rfl⟩
      go_wp2_with fail
      refine G.out.mono ?_
      rintro e w' ⟨rfl, rfl⟩
      go_wp2_with fail
      refine M.out.mono ?_
      rintro e w' ⟨rfl, rfl⟩
      go_wp2_with fail
      refine (GO.out HO.out (by omega)).mono ?_
      rintro e w' ⟨rfl, rfl⟩
      go_wp2_with fail
      refine (GX.out).mono ?_
      rintro e w' ⟨rfl, rfl⟩
      go_wp2_with fail
      refine (awake01 w).mono ?_
      rintro e w' ⟨rfl, rfl⟩
      go_wp2_with fail
      go_ret
      exact ⟨rfl, Below.refl _ _⟩
    · have hq1 : 0 ≤ other := by omega
      have hq2 : other ≤ 63 := by omega
      have hq3 : 1 ≤ many := by omega
      have HO := hide ho
      clear ho
      go_enter Try.func7, Try.ntmps7
      go_wp2_with fail
      refine P.out.mono ?_
      rintro e w' ⟨rfl, rfl⟩
      go_wp2_with fail
      refine G.out.mono ?_
      rintro e w' ⟨rfl, rfl⟩
      go_wp2_with fail
      refine M.out.mono ?_
      rintro e w' ⟨rfl, rfl⟩
      go_wp2_with fail
      refine (GO.out HO.out (by omega)).mono ?_
      rintro e w' ⟨rfl, rfl⟩
      go_wp2_with fail
      refine (GX.out).mono ?_
      rintro e w' ⟨rfl, rfl⟩
      go_wp2_with fail
      refine (awake01 w).mono ?_
      rintro e w' ⟨rfl, rfl⟩
      go_wp2_with fail
      go_ret
      exact ⟨rfl, Below.refl _ _⟩
  · obtain hna : (n : Int) = 64 - a := by omega
    have HNA := hide hna
    have hb : 64 - (a : Int) < size := by omega
    rw [hna] at G M
    clear hmin hbig
    have hn2 : n + a ≤ 64 := by omega
    have hn3 : 64 ≤ n + a := by omega
    clear hna
    rcases paths with hp | ⟨ho, hp1, hp2⟩ | ⟨ho, hp1, hp2⟩ | ⟨ho, hp1, hp2⟩ | ⟨ho, hp1, hp2⟩
    · rcases (show other < 0 ∨ (0 ≤ other ∧ 63 < other) ∨ (0 ≤ other ∧ other ≤ 63 ∧ many < 1) by omega) with hq | ⟨hq, hq2⟩ | ⟨hq, hq2, hq3⟩
      all_goals clear hp
      all_goals
        go_enter Try.func7, Try.ntmps7
        go_wp2_with fail
        refine P.out.mono ?_
        rintro e w' ⟨rfl, rfl⟩
        go_wp2_with fail
        refine G.out.mono ?_
        rintro e w' ⟨rfl, rfl⟩
        go_wp2_with fail
        refine M.out.mono ?_
        rintro e w' ⟨rfl, rfl⟩
        go_wp2_with fail
        refine (awake01 w).mono ?_
        rintro e w' ⟨rfl, rfl⟩
        go_wp2_with fail
        go_ret
        exact ⟨rfl, Below.refl _ _⟩
    · have hq1 : 0 ≤ other := by omega
      have hq2 : other ≤ 63 := by omega
      have hq3 : 1 ≤ many := by omega
      have HO := hide ho
      clear ho
      go_enter Try.func7, Try.ntmps7
      go_wp2_with fail
      refine P.out.mono ?_
      rintro e w' ⟨rfl, rfl⟩
      go_wp2_with fail
      refine G.out.mono ?_
      rintro e w' ⟨rfl, rfl⟩
      go_wp2_with fail
      refine M.out.mono ?_
      rintro e w' ⟨rfl, rfl⟩
      go_wp2_with fail
      refine (awake01 w).mono ?_
      rintro e w' ⟨rfl, rfl⟩
      go_wp2_with fail
      go_ret
      exact ⟨rfl, Below.refl _ _⟩
    · have hq1 : 0 ≤ other := by omega
      have hq2 : other ≤ 63 := by omega
      have hq3 : 1 ≤ many := by omega
      have HO := hide ho
      clear ho
      go_enter Try.func7, Try.ntmps7
      go_wp2_with fail
      refine P.out.mono ?_
      rintro e w' ⟨rfl, rfl⟩
      go_wp2_with fail
      refine G.out.mono ?_
      rintro e w' ⟨rfl, rfl⟩
      go_wp2_with fail
      refine M.out.mono ?_
      rintro e w' ⟨rfl, rfl⟩
      go_wp2_with fail
      refine (awake01 w).mono ?_
      rintro e w' ⟨rfl, rfl⟩
      go_wp2_with fail
      go_ret
      exact ⟨rfl, Below.refl _ _⟩
    · exfalso
      omega
    · have hq1 : 0 ≤ other := by omega
      have hq2 : other ≤ 63 := by omega
      have hq3 : 1 ≤ many := by omega
      have HO := hide ho
      clear ho
      go_enter Try.func7, Try.ntmps7
      go_wp2_with fail
      refine P.out.mono ?_
      rintro e w' ⟨rfl, rfl⟩
      go_wp2_with fail
      refine G.out.mono ?_
      rintro e w' ⟨rfl, rfl⟩
      go_wp2_with fail
      refine M.out.mono ?_
      rintro e w' ⟨rfl, rfl⟩
      go_wp2_with fail
      refine (GO.out HO.out (by omega)).mono ?_
      rintro e w' ⟨rfl, rfl⟩
      go_wp2_with fail
      refine (GX.out).mono ?_
      rintro e w' ⟨rfl, rfl⟩
      go_wp2_with fail
      refine (awake01 w).mono ?_
      rintro e w' ⟨rfl, rfl⟩
      go_wp2_with fail
      go_ret
      exact ⟨rfl, Below.refl _ _⟩
end Go.Proofs.Ytgcdmngihnnloaa
