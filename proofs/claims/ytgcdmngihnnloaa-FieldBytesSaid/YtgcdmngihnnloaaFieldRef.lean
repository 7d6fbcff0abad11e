/-
  The reference of package field: contracts.
-/
import Derived.Test.YtgcdmngihnnloaaField
namespace Go.Proofs.Ytgcdmngihnnloaa
open Go.RowKit

/-- 2 to a number, closed to the walk. -/
def P2 (k : Nat) : Int := 2 ^ k
theorem P2_nat (k : Nat) : P2 k = ((2 ^ k : Nat) : Int) := by simp [P2]
theorem P2_succ (k : Nat) : P2 (k + 1) = P2 k * 2 := by simp [P2, Int.pow_succ]
theorem P2_pos (k : Nat) : 1 ≤ P2 k := by rw [P2_nat]; have := Nat.two_pow_pos k; omega
theorem P2_le {k m : Nat} (h : k ≤ m) : P2 k ≤ P2 m := by rw [P2_nat, P2_nat]; have := Nat.pow_le_pow_right (show 0 < 2 by omega) h; omega
theorem P2_63 : P2 63 = 9223372036854775808 := by decide
theorem P2_64 : P2 64 = 18446744073709551616 := by decide

def PowIn (n : Nat) (p i : Value) : Prop := ∃ k : Nat, i = .int .i64 k ∧ k ≤ n ∧ p = .int .u64 (P2 k)

set_option maxHeartbeats 400000 in
theorem power_any (n : Int) (w : World) (h0 : 0 ≤ n) (h1 : n ≤ 63) :
    Calls Try.prog 22 #[.int .i64 n] w fun r w' => r = .returned (.int .u64 (P2 n.toNat)) ∧ w = w' := by
  obtain ⟨n, rfl⟩ := Int.eq_ofNat_of_zero_le h0
  rw [Int.toNat_natCast]
  go_enter Try.func22, Try.ntmps22
  go_wp2_with fail
  go_loop [3, 4] (PowIn n) (fun _ i => n - (intOf i).toNat)
  case atStart => exact ⟨0, rfl, by omega, rfl⟩
  case round =>
    obtain ⟨k, rfl, hk, rfl⟩ := hrel
    by_cases hlt : k < n
    · have S := hide (P2_succ k)
      have b1 := P2_pos k
      have b2 : P2 k * 2 ≤ 9223372036854775808 := by rw [← S.out, ← P2_63]; exact P2_le (by omega)
      generalize hq : P2 k = q at *
      clear hq
      go_wp2_with fail
      go_round
      case rel => exact ⟨k + 1, by go_num, by omega, by rw [S.out]⟩
      case measure => simp [intOf]; omega
    · have e : k = n := by omega
      subst e
      go_wp2_with fail
      go_ret
      exact ⟨rfl, rfl⟩

/-- A bit, as the reference has it. -/
def rbit (x at_ : Int) : Int := if at_ < 0 ∨ 63 < at_ then -1 else x / P2 at_.toNat % 2

set_option maxHeartbeats 400000 in
theorem rbit_any (x at_ : Int) (w : World) (hx : W64 x) (_ : I64 at_) :
    Calls Try.prog 12 #[.int .u64 x, .int .i64 at_] w fun r w' => r = .returned (.int .i64 (rbit x at_)) ∧ w = w' := by
  by_cases h0 : at_ < 0
  · have E := hide (show rbit x at_ = -1 from if_pos (.inl h0))
    go_enter Try.func12, Try.ntmps12
    go_wp2_with fail
    go_ret
    exact ⟨by rw [E.out]; rfl, rfl⟩
  by_cases h1 : 63 < at_
  · have E := hide (show rbit x at_ = -1 from if_pos (.inr h1))
    go_enter Try.func12, Try.ntmps12
    go_wp2_with fail
    go_ret
    exact ⟨by rw [E.out]; rfl, rfl⟩
  · have E := hide (show rbit x at_ = x / P2 at_.toNat % 2 from if_neg (by omega))
    have C := hide (power_any at_ w (by omega) (by omega))
    have b1 := P2_pos at_.toNat
    generalize P2 at_.toNat = q at *
    obtain ⟨h2, h3⟩ := hx
    have h4 : 0 ≤ x / q := Int.ediv_nonneg h2 (by omega)
    have h0' : 0 ≤ at_ := by omega
    have h1' : at_ ≤ 63 := by omega
    clear h0 h1
    go_enter Try.func12, Try.ntmps12
    go_wp2_with fail
    refine C.out.mono ?_
    rintro e w' ⟨rfl, rfl⟩
    go_wp2_with fail
    go_ret
    exact ⟨by rw [E.out]; rfl, rfl⟩

theorem mod_P2_succ (y : Int) (k : Nat) : y % P2 (k + 1) = y % P2 k + y / P2 k % 2 * P2 k := by
  rw [P2_succ]
  have b := P2_pos k
  have h1 := Int.emod_add_mul_ediv y (P2 k)
  have h2 := Int.emod_add_mul_ediv (y / P2 k) 2
  have e : y = (y % P2 k + y / P2 k % 2 * P2 k) + (P2 k * 2) * (y / P2 k / 2) := by
    generalize y / P2 k / 2 = c at *
    generalize hr : y / P2 k % 2 = r at *
    rw [← h2] at h1
    rw [Int.mul_add, Int.mul_comm (P2 k) r, ← Int.mul_assoc] at h1
    omega
  have l1 := Int.emod_nonneg y (show P2 k ≠ 0 by omega)
  have l2 := Int.emod_lt_of_pos y (show 0 < P2 k by omega)
  have l3 := Int.emod_nonneg (y / P2 k) (show (2 : Int) ≠ 0 by omega)
  have l4 := Int.emod_lt_of_pos (y / P2 k) (show (0 : Int) < 2 by omega)
  have hb : 0 ≤ y % P2 k + y / P2 k % 2 * P2 k ∧ y % P2 k + y / P2 k % 2 * P2 k < P2 k * 2 := by
    rcases (show y / P2 k % 2 = 0 ∨ y / P2 k % 2 = 1 by omega) with h | h <;> rw [h] <;> omega
  conv => lhs; rw [e]
  rw [Int.add_mul_emod_self_left, Int.emod_eq_of_lt hb.1 hb.2]
theorem div_P2_add (x : Int) (a k : Nat) : x / P2 (a + k) = x / P2 a / P2 k := by
  have e : P2 (a + k) = P2 a * P2 k := by simp [P2, Int.pow_add]
  rw [e]
  exact (Int.ediv_ediv_of_nonneg (by have := P2_pos a; omega)).symm
theorem rbit_01 {x at_ : Int} (h0 : 0 ≤ at_) (h1 : at_ ≤ 63) : rbit x at_ = 0 ∨ rbit x at_ = 1 := by
  unfold rbit
  rw [if_neg (by omega)]
  omega
theorem rbit_add {x : Int} {a k : Nat} (h : a + k ≤ 63) : rbit x ((a : Int) + k) = x / P2 a / P2 k % 2 := by
  unfold rbit
  rw [if_neg (by omega), ← div_P2_add]
  have : ((a : Int) + k).toNat = a + k := by omega
  rw [this]
theorem fget_P2 {a n : Nat} {size x : Int} (hc : ¬ ((a : Int) < 0 ∨ 63 < (a : Int) ∨ size < 1)) (hn : min size (64 - (a : Int)) = n) : fget x a size = x / P2 a % P2 n := by
  unfold fget
  rw [if_neg hc, hn, Int.toNat_natCast, Int.toNat_natCast]
  rfl

def GetIn (y : Int) (m : Nat) (p i : Value) : Prop := ∃ k : Nat, i = .int .i64 k ∧ k ≤ m ∧ p = .int .u64 (y % P2 k)

set_option maxHeartbeats 400000 in
theorem rget_any (x at_ size : Int) (w : World) (hx : W64 x) (ha : I64 at_) (hs : I64 size) :
    Calls Try.prog 10 #[.int .u64 x, .int .i64 at_, .int .i64 size] w fun r w' => r = .returned (.int .u64 (fget x at_ size)) ∧ w = w' := by
  by_cases h0 : at_ < 0
  · have E := hide (show fget x at_ size = 0 from if_pos (.inl h0))
    go_enter Try.func10, Try.ntmps10
    go_wp2_with fail
    go_ret
    exact ⟨by rw [E.out]; rfl, rfl⟩
  by_cases h1 : 63 < at_
  · have E := hide (show fget x at_ size = 0 from if_pos (.inr (.inl h1)))
    go_enter Try.func10, Try.ntmps10
    go_wp2_with fail
    go_ret
    exact ⟨by rw [E.out]; rfl, rfl⟩
  obtain ⟨a, rfl⟩ := Int.eq_ofNat_of_zero_le (show 0 ≤ at_ by omega)
  have h63 : a ≤ 63 := by omega
  clear h0 h1
  by_cases h2 : size < 1
  · have E := hide (show fget x a size = 0 from if_pos (.inr (.inr h2)))
    go_enter Try.func10, Try.ntmps10
    go_wp2_with fail
    go_loop [7, 8] (GetIn 0 0) (fun _ i => 0 - (intOf i).toNat)
    case atStart => exact ⟨0, rfl, by omega, rfl⟩
    case round =>
      obtain ⟨k, rfl, hk, rfl⟩ := hrel
      have e : k = 0 := by omega
      subst e
      have e2 : (0 : Int) % P2 0 = 0 := by decide
      rw [e2]
      clear e2
      go_wp2_with fail
      go_ret
      exact ⟨by rw [E.out]; rfl, rfl⟩
  obtain ⟨n, hn⟩ : ∃ n : Nat, min size (64 - (a : Int)) = n := ⟨(min size (64 - (a : Int))).toNat, by omega⟩
  have hn1 : (n : Int) ≤ size := by omega
  have hn2 : n + a ≤ 64 := by omega
  have hn3 : (n : Int) = size ∨ n + a = 64 := by omega
  have E := hide (fget_P2 (x := x) (size := size) (by omega) hn)
  have Hy := fun k (h : a + k ≤ 63) => hide (rbit_add (x := x) h)
  have B := fun k : Nat => hide (fun (w : World) (h : k < n) => rbit_any x ((a : Int) + k) w hx ⟨by omega, by omega⟩)
  have hs2 := hs.2
  clear hn
  generalize x / P2 a = y at *
  have Q := fun (k : Nat) (h : k < n) => hide (fun (w : World) => power_any (k : Int) w (by omega) (by omega))
  go_enter Try.func10, Try.ntmps10
  go_wp2_with fail
  go_loop [7, 8] (GetIn y n) (fun _ i => n - (intOf i).toNat)
  case atStart => exact ⟨0, rfl, by omega, by have : y % P2 0 = 0 := by simp [P2, Int.emod_one]
                                              rw [this]⟩
  case round =>
    obtain ⟨k, rfl, hk, rfl⟩ := hrel
    by_cases hlt : k < n
    · have hr := (Hy k (by omega))
      have Bk := B k
      have Qk := Q k hlt
      rw [Int.toNat_natCast] at Qk
      have M := hide (mod_P2_succ y k)
      have h01 := rbit_01 (x := x) (show 0 ≤ (a : Int) + k by omega) (by omega)
      have m1 := Int.emod_nonneg y (show P2 k ≠ 0 by have := P2_pos k; omega)
      have m2 := Int.emod_lt_of_pos y (show 0 < P2 k by have := P2_pos k; omega)
      have m3 : P2 k ≤ 9223372036854775808 := by rw [← P2_63]; exact P2_le (by omega)
      have hlt' : (k : Int) < size := by omega
      have hr1 := hide (hr.out)
      clear hr Hy B Q
      generalize rbit x ((a : Int) + k) = b at *
      generalize P2 k = q at *
      generalize y % q = r at *
      rcases h01 with h01 | h01
      · subst h01
        go_wp2_with fail
        refine (Bk.out _ hlt).mono ?_
        rintro e w' ⟨rfl, rfl⟩
        go_wp2_with fail
        go_round
        case rel => exact ⟨k + 1, by go_num, by omega, by rw [M.out, ← hr1.out]; simp⟩
        case measure => simp [intOf]; omega
      · subst h01
        go_wp2_with fail
        refine (Bk.out _ hlt).mono ?_
        rintro e w' ⟨rfl, rfl⟩
        go_wp2_with fail
        refine (Qk.out _).mono ?_
        rintro e w' ⟨rfl, rfl⟩
        go_wp2_with fail
        go_round
        case rel => exact ⟨k + 1, by go_num, by omega, by rw [M.out, ← hr1.out]; simp⟩
        case measure => simp [intOf]; omega
    · have e : k = n := by omega
      subst e
      clear Hy B Q
      rcases (show (k : Int) = size ∨ k + a = 64 by omega) with h | h
      · by_cases h64 : k + a < 64
        · have h64' : (k : Int) < 64 - a := by omega
          have h' : ¬ (k : Int) < size := by omega
          clear h h64 hn3
          go_wp2_with fail
          go_ret
          exact ⟨by rw [E.out]; rfl, rfl⟩
        · go_wp2_with fail
          go_ret
          exact ⟨by rw [E.out]; rfl, rfl⟩
      · have h64' : ¬ (k : Int) < 64 - a := by omega
        clear h hn3
        go_wp2_with fail
        go_ret
        exact ⟨by rw [E.out]; rfl, rfl⟩

/-- The bit that the reference puts at i. -/
theorem rput_bit {x v size : Int} {a n i : Nat} (hx : W64 x) (hv : W64 v) (hi : i ≤ 63) (hc : ¬ ((a : Int) < 0 ∨ 63 < (a : Int) ∨ size < 1)) (hn : min size (64 - (a : Int)) = n) :
    (if a ≤ i ∧ i < a + n then rbit v ((i : Int) - a) else rbit x i) = fput x a size v / P2 i % 2 := by
  obtain ⟨x, rfl⟩ := Int.eq_ofNat_of_zero_le hx.1
  obtain ⟨v, rfl⟩ := Int.eq_ofNat_of_zero_le hv.1
  rw [fput_nat x v hc hn, nat_put_sum]
  have tb : ∀ y j : Nat, ((y / 2 ^ j % 2 : Nat) : Int) = (y.testBit j).toNat := fun y j => by rw [Nat.testBit_eq_decide_div_mod_eq]; rcases Nat.mod_two_eq_zero_or_one (y / 2 ^ j) with h | h <;> simp [h]
  have rb : ∀ (y j : Nat), j ≤ 63 → rbit y j = (y.testBit j).toNat := fun y j hj => by
    unfold rbit
    rw [if_neg (by omega), Int.toNat_natCast, P2_nat, ← tb]
    simp
  rw [P2_nat]
  have e : ∀ z : Nat, (z : Int) / ((2 ^ i : Nat) : Int) % 2 = ((z / 2 ^ i % 2 : Nat) : Int) := fun z => by simp
  rw [e, tb, nat_put_bit]
  split
  · have : (i : Int) - a = ((i - a : Nat) : Int) := by omega
    rw [this, rb _ _ (by omega)]
  · rw [rb _ _ hi]

def PutIn (y : Int) (p i : Value) : Prop := ∃ k : Nat, i = .int .i64 k ∧ k ≤ 64 ∧ p = .int .u64 (y % P2 k)

set_option maxHeartbeats 800000 in
theorem rput_any (x at_ size v : Int) (w : World) (hx : W64 x) (ha : I64 at_) (hs : I64 size) (hv : W64 v) :
    Calls Try.prog 17 #[.int .u64 x, .int .i64 at_, .int .i64 size, .int .u64 v] w fun r w' => r = .returned (.int .u64 (fput x at_ size v)) ∧ w = w' := by
  have hfb := fput_bound (at_ := at_) (size := size) hx hv
  -- which bit is put at i
  have key : ∀ i : Nat, i ≤ 63 → (if 0 ≤ at_ ∧ at_ ≤ i ∧ (i : Int) - at_ < size then rbit v ((i : Int) - at_) else rbit x i) = fput x at_ size v / P2 i % 2 := fun i hi => by
    by_cases hc : at_ < 0 ∨ 63 < at_ ∨ size < 1
    · rw [if_neg (by omega)]
      have : fput x at_ size v = x := if_pos hc
      rw [this]
      unfold rbit
      rw [if_neg (by omega), Int.toNat_natCast]
    · obtain ⟨a, n, rfl, h1, h2, h3, h4, _⟩ := field_nat hc
      rw [← rput_bit hx hv hi hc h4]
      by_cases h : a ≤ i ∧ i < a + n
      · rw [if_pos h, if_pos (by omega)]
      · rw [if_neg h, if_neg (by omega)]
  have E : Hid (fput x at_ size v % P2 64 = fput x at_ size v) := hide (by rw [P2_64]; exact Int.emod_eq_of_lt hfb.1 (by have := hfb.2; omega))
  generalize fput x at_ size v = y at *
  have Key := fun i hi => hide (key i hi)
  have BX := fun (k : Nat) => hide (fun (w : World) (h : k ≤ 63) => rbit_any x (k : Int) w hx ⟨by omega, by omega⟩)
  have BV := fun (k : Nat) => hide (fun (w : World) (h : 0 ≤ at_ ∧ at_ ≤ k ∧ k ≤ 63) => rbit_any v ((k : Int) - at_) w hv ⟨by omega, by omega⟩)
  have Q := fun (k : Nat) (h : k ≤ 63) => hide (fun (w : World) => power_any (k : Int) w (by omega) (by omega))
  have hs1 := hs.1
  have hs2 := hs.2
  have ha1 := ha.1
  have ha2 := ha.2
  clear key hfb
  go_enter Try.func17, Try.ntmps17
  go_wp2_with fail
  go_loop [9, 10] (PutIn y) (fun _ i => 64 - (intOf i).toNat)
  case atStart => exact ⟨0, rfl, by omega, by have : y % P2 0 = 0 := by simp [P2, Int.emod_one]
                                              rw [this]⟩
  case round =>
    obtain ⟨k, rfl, hk, rfl⟩ := hrel
    by_cases hlt : k < 64
    · have hr := Key k (by omega)
      have X := BX k
      have V := BV k
      have Qk := Q k (by omega)
      rw [Int.toNat_natCast] at Qk
      have M := hide (mod_P2_succ y k)
      have m1 := Int.emod_nonneg y (show P2 k ≠ 0 by have := P2_pos k; omega)
      have m2 := Int.emod_lt_of_pos y (show 0 < P2 k by have := P2_pos k; omega)
      have m3 : P2 k ≤ 9223372036854775808 := by rw [← P2_63]; exact P2_le (by omega)
      clear Key BX BV Q
      generalize P2 k = q at *
      generalize y % q = r at *
      have X0 := rbit_01 (x := x) (show 0 ≤ (k : Int) by omega) (by omega)
      by_cases hin : 0 ≤ at_ ∧ at_ ≤ k ∧ (k : Int) - at_ < size
      · replace hr := hide ((if_pos hin).symm.trans hr.out)
        have h01 := rbit_01 (x := v) (show 0 ≤ (k : Int) - at_ by omega) (by omega)
        obtain ⟨i1, i2, i3⟩ := hin
        generalize rbit v ((k : Int) - at_) = b at *
        generalize rbit x k = b2 at *
        clear X0
        rcases h01 with h01 | h01
        · have hr1 := hide (hr.out)
          clear hr
          subst h01
          go_wp2_with fail
          refine (X.out _ (by omega)).mono ?_
          rintro e w' ⟨rfl, rfl⟩
          go_wp2_with fail
          refine (V.out _ ⟨by omega, by omega, by omega⟩).mono ?_
          rintro e w' ⟨rfl, rfl⟩
          go_wp2_with fail
          go_round
          case rel => exact ⟨k + 1, by go_num, by omega, by rw [M.out, ← hr1.out]; simp⟩
          case measure => simp [intOf]; omega
        · have hr1 := hide (hr.out)
          clear hr
          subst h01
          go_wp2_with fail
          refine (X.out _ (by omega)).mono ?_
          rintro e w' ⟨rfl, rfl⟩
          go_wp2_with fail
          refine (V.out _ ⟨by omega, by omega, by omega⟩).mono ?_
          rintro e w' ⟨rfl, rfl⟩
          go_wp2_with fail
          refine (Qk.out _).mono ?_
          rintro e w' ⟨rfl, rfl⟩
          go_wp2_with fail
          go_round
          case rel => exact ⟨k + 1, by go_num, by omega, by rw [M.out, ← hr1.out]; simp⟩
          case measure => simp [intOf]; omega
      · replace hr := hide ((if_neg hin).symm.trans hr.out)
        have h01 := X0
        generalize rbit x k = b at *
        clear X0 V
        by_cases i1 : at_ < 0
        · clear hin
          rcases h01 with h01 | h01
          · have hr1 := hide (hr.out)
            clear hr
            subst h01
            go_wp2_with fail
            refine (X.out _ (by omega)).mono ?_
            rintro e w' ⟨rfl, rfl⟩
            go_wp2_with fail
            go_round
            case rel => exact ⟨k + 1, by go_num, by omega, by rw [M.out, ← hr1.out]; simp⟩
            case measure => simp [intOf]; omega
          · have hr1 := hide (hr.out)
            clear hr
            subst h01
            go_wp2_with fail
            refine (X.out _ (by omega)).mono ?_
            rintro e w' ⟨rfl, rfl⟩
            go_wp2_with fail
            refine (Qk.out _).mono ?_
            rintro e w' ⟨rfl, rfl⟩
            go_wp2_with fail
            go_round
            case rel => exact ⟨k + 1, by go_num, by omega, by rw [M.out, ← hr1.out]; simp⟩
            case measure => simp [intOf]; omega
        by_cases i2 : (k : Int) < at_
        · clear hin
          rcases h01 with h01 | h01
          · have hr1 := hide (hr.out)
            clear hr
            subst h01
            go_wp2_with fail
            refine (X.out _ (by omega)).mono ?_
            rintro e w' ⟨rfl, rfl⟩
            go_wp2_with fail
            go_round
            case rel => exact ⟨k + 1, by go_num, by omega, by rw [M.out, ← hr1.out]; simp⟩
            case measure => simp [intOf]; omega
          · have hr1 := hide (hr.out)
            clear hr
            subst h01
            go_wp2_with fail
            refine (X.out _ (by omega)).mono ?_
            rintro e w' ⟨rfl, rfl⟩
            go_wp2_with fail
            refine (Qk.out _).mono ?_
            rintro e w' ⟨rfl, rfl⟩
            go_wp2_with fail
            go_round
            case rel => exact ⟨k + 1, by go_num, by omega, by rw [M.out, ← hr1.out]; simp⟩
            case measure => simp [intOf]; omega
        have i3 : size ≤ (k : Int) - at_ := by omega
        clear hin
        rcases h01 with h01 | h01
        · have hr1 := hide (hr.out)
          clear hr
          subst h01
          go_wp2_with fail
          refine (X.out _ (by omega)).mono ?_
          rintro e w' ⟨rfl, rfl⟩
          go_wp2_with fail
          go_round
          case rel => exact ⟨k + 1, by go_num, by omega, by rw [M.out, ← hr1.out]; simp⟩
          case measure => simp [intOf]; omega
        · have hr1 := hide (hr.out)
          clear hr
          subst h01
          go_wp2_with fail
          refine (X.out _ (by omega)).mono ?_
          rintro e w' ⟨rfl, rfl⟩
          go_wp2_with fail
          refine (Qk.out _).mono ?_
          rintro e w' ⟨rfl, rfl⟩
          go_wp2_with fail
          go_round
          case rel => exact ⟨k + 1, by go_num, by omega, by rw [M.out, ← hr1.out]; simp⟩
          case measure => simp [intOf]; omega
    · have e : k = 64 := by omega
      subst e
      have E' := hide E.out
      clear E
      go_wp2_with fail
      go_ret
      exact ⟨congrArg (fun z => Ending.returned (.int .u64 z)) E'.out, rfl⟩
end Go.Proofs.Ytgcdmngihnnloaa
