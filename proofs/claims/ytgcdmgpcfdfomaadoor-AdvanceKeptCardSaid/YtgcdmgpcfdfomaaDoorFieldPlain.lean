/-
  Fields of bits, in plain numbers.
-/
import Derived.Test.YtgcdmgpcfdfomaaDoorPlain
import Derived.Laws.BitsAllLaws
import Derived.Laws.BitsLemmas
namespace Go.Proofs.YtgcdmgpcfdfomaaDoor

/-- How many bits a field has; what it tells; a word with another field. -/
def fcut (at_ size : Int) : Int := if at_ < 0 ∨ 63 < at_ ∨ size < 1 then 0 else min size (64 - at_)
def fget (w at_ size : Int) : Int := if at_ < 0 ∨ 63 < at_ ∨ size < 1 then 0 else w / 2 ^ at_.toNat % 2 ^ (min size (64 - at_)).toNat
def fput (w at_ size v : Int) : Int :=
  if at_ < 0 ∨ 63 < at_ ∨ size < 1 then w else w - w / 2 ^ at_.toNat % 2 ^ (min size (64 - at_)).toNat * 2 ^ at_.toNat + v % 2 ^ (min size (64 - at_)).toNat * 2 ^ at_.toNat
def fmask (size : Int) : Int := if size < 1 then 0 else if 64 ≤ size then 18446744073709551615 else 2 ^ size.toNat - 1

theorem pow_split {a n : Nat} (h : a + n ≤ 64) : (2 : Nat) ^ a * 2 ^ n * 2 ^ (64 - a - n) = 18446744073709551616 := by
  rw [← Nat.pow_add, ← Nat.pow_add]
  have : a + n + (64 - a - n) = 64 := by omega
  rw [this]

/-- The middle of a word: below, the field, above. -/
theorem nat_parts (w a n : Nat) : w = 2 ^ a * (2 ^ n * (w / 2 ^ a / 2 ^ n) + w / 2 ^ a % 2 ^ n) + w % 2 ^ a := by
  rw [Nat.div_add_mod (w / 2 ^ a) (2 ^ n), Nat.div_add_mod w (2 ^ a)]

theorem nat_put_sum (w v a n : Nat) : w - w / 2 ^ a % 2 ^ n * 2 ^ a + v % 2 ^ n * 2 ^ a = 2 ^ a * (2 ^ n * (w / 2 ^ a / 2 ^ n) + v % 2 ^ n) + w % 2 ^ a := by
  have h := nat_parts w a n
  generalize w / 2 ^ a / 2 ^ n = p at *
  generalize w / 2 ^ a % 2 ^ n = q at *
  generalize w % 2 ^ a = r at *
  generalize v % 2 ^ n = s at *
  generalize 2 ^ n * p = t at *
  rw [Nat.mul_add] at *
  rw [Nat.mul_comm q, Nat.mul_comm s]
  omega

theorem nat_put_bit (w v a n i : Nat) : (2 ^ a * (2 ^ n * (w / 2 ^ a / 2 ^ n) + v % 2 ^ n) + w % 2 ^ a).testBit i = if a ≤ i ∧ i < a + n then v.testBit (i - a) else w.testBit i := by
  rw [Nat.testBit_two_pow_mul_add _ (Nat.mod_lt _ (Nat.two_pow_pos a))]
  by_cases h : i < a
  · rw [if_pos h, if_neg (by omega), Nat.testBit_mod_two_pow]
    simp [h]
  · rw [if_neg h, Nat.testBit_two_pow_mul_add _ (Nat.mod_lt _ (Nat.two_pow_pos n))]
    by_cases h2 : i - a < n
    · rw [if_pos h2, if_pos (by omega), Nat.testBit_mod_two_pow]
      simp [h2]
    · rw [if_neg h2, if_neg (by omega), Nat.testBit_div_two_pow, Nat.testBit_div_two_pow]
      congr 1
      omega

theorem mask_bit (a n i : Nat) : (2 ^ a * (2 ^ n - 1)).testBit i = (decide (a ≤ i) && decide (i < a + n)) := by
  rw [Nat.testBit_two_pow_mul, Nat.testBit_two_pow_sub_one]
  by_cases h : a ≤ i
  · have : (i - a < n) = (i < a + n) := by simp; omega
    simp [h, this]
  · simp [h]

theorem nat_put (w v a n : Nat) (hw : w < 18446744073709551616) (h : a + n ≤ 64) :
    ((w &&& (18446744073709551615 - 2 ^ a * (2 ^ n - 1))) ||| ((v * 2 ^ a % 18446744073709551616) &&& 2 ^ a * (2 ^ n - 1))) = w - w / 2 ^ a % 2 ^ n * 2 ^ a + v % 2 ^ n * 2 ^ a := by
  rw [nat_put_sum]
  have hm : 2 ^ a * (2 ^ n - 1) < 2 ^ 64 := by
    have h1 : 2 ^ a * (2 ^ n - 1) < 2 ^ a * 2 ^ n := Nat.mul_lt_mul_of_pos_left (by have := Nat.two_pow_pos n; omega) (Nat.two_pow_pos a)
    rw [← Nat.pow_add] at h1
    exact Nat.lt_of_lt_of_le h1 (Nat.pow_le_pow_right (by omega) h)
  apply Nat.eq_of_testBit_eq
  intro i
  have e1 : (18446744073709551615 : Nat) - 2 ^ a * (2 ^ n - 1) = 2 ^ 64 - (2 ^ a * (2 ^ n - 1) + 1) := by omega
  have e2 : (18446744073709551616 : Nat) = 2 ^ 64 := by decide
  rw [nat_put_bit, Nat.testBit_or, Nat.testBit_and, Nat.testBit_and, e1, Nat.testBit_two_pow_sub_succ hm, mask_bit, e2, Nat.testBit_mod_two_pow, Nat.mul_comm v, Nat.testBit_two_pow_mul]
  have hwi : 64 ≤ i → w.testBit i = false := fun hi => Nat.testBit_lt_two_pow (Nat.lt_of_lt_of_le (by rw [← e2]; exact hw) (Nat.pow_le_pow_right (by omega) hi))
  by_cases c1 : a ≤ i <;> by_cases c2 : i < a + n <;> simp [c1, c2]
  · intro _; omega
  · intro hb; by_cases hi : i < 64
    · exact hi
    · rw [hwi (by omega)] at hb; cases hb
  · intro hb; by_cases hi : i < 64
    · exact hi
    · rw [hwi (by omega)] at hb; cases hb
  · intro hb; by_cases hi : i < 64
    · exact hi
    · rw [hwi (by omega)] at hb; cases hb

theorem fmask_nat {n : Nat} (h1 : 1 ≤ n) (h2 : n ≤ 64) : fmask (n : Int) = ((2 ^ n - 1 : Nat) : Int) := by
  unfold fmask
  rw [if_neg (by omega)]
  by_cases h : n = 64
  · subst h; rw [if_pos (by decide)]; decide
  · rw [if_neg (by omega), Int.toNat_natCast]
    have := Nat.two_pow_pos n
    rw [Int.natCast_sub (by omega)]
    simp

/-- A field that is there, in natural numbers. -/
theorem field_nat {at_ size : Int} (hc : ¬ (at_ < 0 ∨ 63 < at_ ∨ size < 1)) : ∃ a n : Nat, at_ = a ∧ a ≤ 63 ∧ 1 ≤ n ∧ a + n ≤ 64 ∧ min size (64 - at_) = n ∧ fcut at_ size = n := by
  refine ⟨at_.toNat, (min size (64 - at_)).toNat, by omega, by omega, by omega, by omega, by omega, ?_⟩
  unfold fcut
  rw [if_neg hc]
  omega

theorem fput_nat {a n : Nat} {size : Int} (x v : Nat) (hc : ¬ ((a : Int) < 0 ∨ 63 < (a : Int) ∨ size < 1)) (hn : min size (64 - (a : Int)) = n) :
    fput x a size v = ((x - x / 2 ^ a % 2 ^ n * 2 ^ a + v % 2 ^ n * 2 ^ a : Nat) : Int) := by
  unfold fput
  rw [if_neg hc, hn, Int.toNat_natCast, Int.toNat_natCast]
  have hle : x / 2 ^ a % 2 ^ n * 2 ^ a ≤ x := by
    have h := nat_parts x a n
    rw [Nat.mul_add] at h
    rw [Nat.mul_comm]
    omega
  rw [Int.natCast_add, Int.natCast_sub hle]
  simp
theorem fget_nat {a n : Nat} {size : Int} (x : Nat) (hc : ¬ ((a : Int) < 0 ∨ 63 < (a : Int) ∨ size < 1)) (hn : min size (64 - (a : Int)) = n) :
    fget x a size = ((x / 2 ^ a % 2 ^ n : Nat) : Int) := by
  unfold fget
  rw [if_neg hc, hn, Int.toNat_natCast, Int.toNat_natCast]
  simp

theorem mask_shift {a n : Nat} (h1 : 1 ≤ n) (h : a + n ≤ 64) : IntKind.u64.wrap (fmask (n : Int) * 2 ^ a) = ((2 ^ a * (2 ^ n - 1) : Nat) : Int) := by
  rw [fmask_nat h1 (by omega), IntKind.wrap_u64]
  have hm : 2 ^ a * (2 ^ n - 1) < 2 ^ 64 := by
    have h1 : 2 ^ a * (2 ^ n - 1) < 2 ^ a * 2 ^ n := Nat.mul_lt_mul_of_pos_left (by have := Nat.two_pow_pos n; omega) (Nat.two_pow_pos a)
    rw [← Nat.pow_add] at h1
    exact Nat.lt_of_lt_of_le h1 (Nat.pow_le_pow_right (by omega) h)
  have e : ((2 ^ n - 1 : Nat) : Int) * 2 ^ a = ((2 ^ a * (2 ^ n - 1) : Nat) : Int) := by
    rw [Nat.mul_comm]; simp
  rw [e]
  omega
theorem word_shift (v a : Nat) : IntKind.u64.wrap ((v : Int) * 2 ^ a) = ((v * 2 ^ a % 18446744073709551616 : Nat) : Int) := by
  rw [IntKind.wrap_u64]
  simp

theorem put_bits {x at_ size v : Int} (hx : W64 x) (hv : W64 v) (hc : ¬ (at_ < 0 ∨ 63 < at_ ∨ size < 1)) :
    bits .or .u64 (bits .andNot .u64 x (IntKind.u64.wrap (fmask (fcut at_ size) * 2 ^ at_.toNat))) (bits .and .u64 (IntKind.u64.wrap (v * 2 ^ at_.toNat)) (IntKind.u64.wrap (fmask (fcut at_ size) * 2 ^ at_.toNat))) = fput x at_ size v := by
  obtain ⟨a, n, rfl, ha, hn, han, hmin, hcut⟩ := field_nat hc
  obtain ⟨x, rfl⟩ := Int.eq_ofNat_of_zero_le hx.1
  obtain ⟨v, rfl⟩ := Int.eq_ofNat_of_zero_le hv.1
  have hx2 := hx.2
  have hm : 2 ^ a * (2 ^ n - 1) < 2 ^ 64 := by
    have h1 : 2 ^ a * (2 ^ n - 1) < 2 ^ a * 2 ^ n := Nat.mul_lt_mul_of_pos_left (by have := Nat.two_pow_pos n; omega) (Nat.two_pow_pos a)
    rw [← Nat.pow_add] at h1
    exact Nat.lt_of_lt_of_le h1 (Nat.pow_le_pow_right (by omega) han)
  rw [fput_nat x v hc hmin, hcut, Int.toNat_natCast, mask_shift hn han, word_shift, u64_andNot_nat _ _ (by omega) (by omega), u64_and_nat _ _ (by omega) (by omega), u64_or_nat, nat_put x v a n (by omega) han]
  · exact Nat.lt_of_le_of_lt Nat.and_le_left (by omega)
  · exact Nat.lt_of_le_of_lt Nat.and_le_left (by omega)

theorem get_bits {x at_ size : Int} (hx : W64 x) (hc : ¬ (at_ < 0 ∨ 63 < at_ ∨ size < 1)) :
    bits .and .u64 (x / 2 ^ at_.toNat) (fmask (fcut at_ size)) = fget x at_ size := by
  obtain ⟨a, n, rfl, ha, hn, han, hmin, hcut⟩ := field_nat hc
  obtain ⟨x, rfl⟩ := Int.eq_ofNat_of_zero_le hx.1
  have hx2 := hx.2
  have h1 : x / 2 ^ a ≤ x := Nat.div_le_self _ _
  have h2 : (2 : Nat) ^ n ≤ 2 ^ 64 := Nat.pow_le_pow_right (by omega) (by omega)
  rw [fget_nat x hc hmin, hcut, Int.toNat_natCast, fmask_nat hn (by omega)]
  have e : (x : Int) / 2 ^ a = ((x / 2 ^ a : Nat) : Int) := by simp
  rw [e, u64_and_nat _ _ (by omega) (by omega), Nat.and_two_pow_sub_one_eq_mod]

theorem fget_bound {x at_ size : Int} (hx : W64 x) : W64 (fget x at_ size) := by
  by_cases hc : at_ < 0 ∨ 63 < at_ ∨ size < 1
  · have : fget x at_ size = 0 := if_pos hc
    rw [this]; exact ⟨by omega, by omega⟩
  · obtain ⟨a, n, rfl, ha, hn, han, hmin, hcut⟩ := field_nat hc
    obtain ⟨x, rfl⟩ := Int.eq_ofNat_of_zero_le hx.1
    rw [fget_nat x hc hmin]
    have h1 : x / 2 ^ a ≤ x := Nat.div_le_self _ _
    have h2 : x / 2 ^ a % 2 ^ n ≤ x / 2 ^ a := Nat.mod_le _ _
    have := hx.2
    exact ⟨by omega, by omega⟩
theorem fput_bound {x at_ size v : Int} (hx : W64 x) (hv : W64 v) : W64 (fput x at_ size v) := by
  by_cases hc : at_ < 0 ∨ 63 < at_ ∨ size < 1
  · have : fput x at_ size v = x := if_pos hc
    rw [this]; exact hx
  · obtain ⟨a, n, rfl, ha, hn, han, hmin, hcut⟩ := field_nat hc
    obtain ⟨x, rfl⟩ := Int.eq_ofNat_of_zero_le hx.1
    obtain ⟨v, rfl⟩ := Int.eq_ofNat_of_zero_le hv.1
    rw [fput_nat x v hc hmin, nat_put_sum]
    have h2 : 2 ^ a * (2 ^ n * (x / 2 ^ a / 2 ^ n) + v % 2 ^ n) + x % 2 ^ a < 2 ^ 64 := by
      apply Nat.lt_pow_two_of_testBit
      intro i hi
      rw [nat_put_bit, if_neg (by omega)]
      have := hx.2
      exact Nat.testBit_lt_two_pow (Nat.lt_of_lt_of_le (show x < 2 ^ 64 by omega) (Nat.pow_le_pow_right (by omega) hi))
    exact ⟨by omega, by omega⟩
theorem fmask_bound (n : Int) : W64 (fmask n) := by
  unfold fmask
  by_cases h : n < 1
  · rw [if_pos h]; exact ⟨by omega, by omega⟩
  · rw [if_neg h]
    by_cases h2 : 64 ≤ n
    · rw [if_pos h2]; exact ⟨by omega, by omega⟩
    · rw [if_neg h2]
      have h3 : (2 : Nat) ^ n.toNat ≤ 2 ^ 63 := Nat.pow_le_pow_right (by omega) (by omega)
      have h0 : 0 < (2 : Nat) ^ n.toNat := Nat.two_pow_pos _
      have e : (2 : Int) ^ n.toNat = ((2 ^ n.toNat : Nat) : Int) := by simp
      rw [e]
      exact ⟨by omega, by omega⟩

/-- Fields at given places: 'by simpa using fget_at w 16 48 (by omega)'. -/
theorem fget_at (w : Int) (a n : Nat) (h : 1 ≤ n ∧ a + n ≤ 64) : fget w a n = w / 2 ^ a % 2 ^ n := by
  unfold fget
  rw [if_neg (by omega)]
  have e : (min (n : Int) (64 - (a : Int))).toNat = n := by omega
  rw [e, Int.toNat_natCast]
theorem fput_at (w v : Int) (a n : Nat) (h : 1 ≤ n ∧ a + n ≤ 64) : fput w a n v = w - w / 2 ^ a % 2 ^ n * 2 ^ a + v % 2 ^ n * 2 ^ a := by
  unfold fput
  rw [if_neg (by omega)]
  have e : (min (n : Int) (64 - (a : Int))).toNat = n := by omega
  rw [e, Int.toNat_natCast]
end Go.Proofs.YtgcdmgpcfdfomaaDoor
