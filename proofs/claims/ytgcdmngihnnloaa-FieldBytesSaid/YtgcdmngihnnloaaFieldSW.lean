/-
  field.Signed, field.Width and their references: contracts.
-/
import Derived.Test.YtgcdmngihnnloaaFieldRef
namespace Go.Proofs.Ytgcdmngihnnloaa
open Go.RowKit

def fsigned (w size : Int) : Int := if size < 1 then 0 else if P2 (min size 64 - 1).toNat ≤ w % P2 (min size 64).toNat then w % P2 (min size 64).toNat - P2 (min size 64).toNat else w % P2 (min size 64).toNat

theorem signed_law (x : Int) (s : Nat) (h1 : 1 ≤ s) (h2 : s ≤ 64) :
    wrap64 (IntKind.u64.wrap (x * 2 ^ (64 - s))) / 2 ^ (64 - s) = if P2 (s - 1) ≤ x % P2 s then x % P2 s - P2 s else x % P2 s := by
  have hq : (2 : Int) ^ (64 - s) = P2 (64 - s) := rfl
  have hP : P2 s = P2 (s - 1) * 2 := by rw [← P2_succ]; congr 1; omega
  have hPq : P2 s * P2 (64 - s) = 18446744073709551616 := by
    rw [← P2_64]
    unfold P2
    rw [← Int.pow_add]
    congr 1
    omega
  have q1 := P2_pos (64 - s)
  have p1 := P2_pos (s - 1)
  have hw : IntKind.u64.wrap (x * 2 ^ (64 - s)) = x % P2 s * P2 (64 - s) := by
    rw [IntKind.wrap_u64, hq, ← hPq, Int.mul_comm x, Int.mul_comm (P2 s), Int.mul_emod_mul_of_pos _ _ (by omega), Int.mul_comm]
  rw [hw, hq]
  have m1 := Int.emod_nonneg x (show P2 s ≠ 0 by omega)
  have m2 := Int.emod_lt_of_pos x (show 0 < P2 s by omega)
  generalize x % P2 s = m at *
  generalize P2 (64 - s) = q at *
  generalize P2 (s - 1) = h at *
  rw [hP] at hPq m2 ⊢
  have hh : h * q = 9223372036854775808 := by
    have : h * 2 * q = h * q * 2 := by rw [Int.mul_assoc, Int.mul_comm 2, ← Int.mul_assoc]
    omega
  by_cases hm : h ≤ m
  · rw [if_pos hm]
    have b1 : h * q ≤ m * q := Int.mul_le_mul_of_nonneg_right hm (by omega)
    have b2 : m * q < h * 2 * q := Int.mul_lt_mul_of_pos_right m2 (by omega)
    have e : wrap64 (m * q) = (m - h * 2) * q := by
      rw [Int.sub_mul, hPq]
      unfold wrap64
      omega
    rw [e, Int.mul_ediv_cancel _ (by omega)]
  · rw [if_neg hm]
    have b1 : m * q < h * q := Int.mul_lt_mul_of_pos_right (by omega) (by omega)
    have b2 : 0 ≤ m * q := Int.mul_nonneg m1 (by omega)
    have e : wrap64 (m * q) = m * q := by
      unfold wrap64
      omega
    rw [e, Int.mul_ediv_cancel _ (by omega)]

set_option maxHeartbeats 400000 in
theorem signed_any (x size : Int) (w : World) (hx : W64 x) (hs : I64 size) :
    Calls Try.prog 19 #[.int .u64 x, .int .i64 size] w fun r w' => r = .returned (.int .i64 (fsigned x size)) ∧ w = w' := by
  by_cases h : size < 1
  · have E := hide (show fsigned x size = 0 from if_pos h)
    go_enter Try.func19, Try.ntmps19
    go_wp2_with fail
    go_ret
    exact ⟨by rw [E.out]; rfl, rfl⟩
  obtain ⟨h1, h2⟩ := hs
  have h3 : 1 ≤ size := by omega
  clear h
  obtain ⟨h4, h5⟩ := hx
  obtain ⟨s, hs⟩ : ∃ s : Nat, min size 64 = s := ⟨(min size 64).toNat, by omega⟩
  have E := hide (show fsigned x size = if P2 (s - 1) ≤ x % P2 s then x % P2 s - P2 s else x % P2 s by
    unfold fsigned
    rw [if_neg (by omega), hs]
    have e1 : ((s : Int) - 1).toNat = s - 1 := by omega
    rw [e1, Int.toNat_natCast])
  have L := hide (signed_law x s (by omega) (by omega))
  by_cases h64 : size ≤ 64
  · obtain rfl : size = s := by omega
    have T := hide (show (64 - (s : Int)).toNat = 64 - s by omega)
    clear hs
    go_enter Try.func19, Try.ntmps19
    go_wp2_with fail
    go_ret
    refine ⟨?_, rfl⟩
    rw [E.out, ← L.out, ← T.out]
    rfl
  · obtain rfl : s = 64 := by omega
    clear hs
    have L2 := hide (show wrap64 x = if P2 (64 - 1) ≤ x % P2 64 then x % P2 64 - P2 64 else x % P2 64 by
      rw [← L.out]
      have e : IntKind.u64.wrap (x * 2 ^ (64 - 64)) = x := by
        rw [IntKind.wrap_u64]
        simp
        omega
      rw [e]
      simp)
    clear L
    go_enter Try.func19, Try.ntmps19
    go_wp2_with fail
    go_ret
    refine ⟨?_, rfl⟩
    rw [E.out, ← L2.out]
    rfl

/-- How many bits a word has. -/
def wid (x : Nat) : Nat := if x = 0 then 0 else Nat.log2 x + 1
theorem wid_of {x k : Nat} (h1 : x < 2 ^ k) (h2 : k = 0 ∨ 2 ^ (k - 1) ≤ x) : wid x = k := by
  unfold wid
  by_cases hx : x = 0
  · rw [if_pos hx]
    rcases h2 with h2 | h2
    · exact h2.symm
    · have := Nat.two_pow_pos (k - 1); omega
  · rw [if_neg hx]
    have a := (Nat.log2_lt hx).2 h1
    rcases h2 with h2 | h2
    · subst h2; simp at h1; omega
    · have b := (Nat.le_log2 hx).2 h2
      omega
theorem wid_mod_succ (x k : Nat) : wid (x % 2 ^ (k + 1)) = if x / 2 ^ k % 2 = 1 then k + 1 else wid (x % 2 ^ k) := by
  have hp := Nat.two_pow_pos k
  have e : x % 2 ^ (k + 1) = x % 2 ^ k + 2 ^ k * (x / 2 ^ k % 2) := by
    rw [Nat.pow_succ, Nat.mod_mul]
  have hl := Nat.mod_lt x hp
  rcases Nat.mod_two_eq_zero_or_one (x / 2 ^ k) with h | h
  · rw [e, h, if_neg (by omega)]; simp
  · rw [if_pos h]
    apply wid_of
    · exact Nat.mod_lt _ (Nat.two_pow_pos _)
    · right
      rw [e, h]
      simp
theorem wid_le {x k : Nat} (h : x < 2 ^ k) : wid x ≤ k := by
  unfold wid
  by_cases hx : x = 0
  · rw [if_pos hx]; omega
  · rw [if_neg hx]
    have a := (Nat.log2_lt hx).2 h
    omega

def WidIn (x : Nat) (n i : Value) : Prop := ∃ k : Nat, i = .int .i64 k ∧ k ≤ 64 ∧ n = .int .i64 (wid (x % 2 ^ k))

set_option maxHeartbeats 400000 in
theorem width_any (x : Nat) (w : World) (hx : x ≤ 18446744073709551615) :
    Calls Try.prog 13 #[.int .u64 x] w fun r w' => r = .returned (.int .i64 (wid x)) ∧ w = w' := by
  have E := hide (show x % 2 ^ 64 = x from Nat.mod_eq_of_lt (by omega))
  go_enter Try.func13, Try.ntmps13
  go_wp2_with fail
  go_loop [3, 5] (WidIn x) (fun _ i => 64 - (intOf i).toNat)
  case atStart => exact ⟨0, rfl, by omega, by rw [Nat.pow_zero, Nat.mod_one]; rfl⟩
  case round =>
    obtain ⟨k, rfl, hk, rfl⟩ := hrel
    by_cases hlt : k < 64
    · have W := hide (wid_mod_succ x k)
      have B := hide (fun w => bit_any (x : Int) k w ⟨by omega, by omega⟩ ⟨by omega, by omega⟩)
      have hw := wid_le (Nat.mod_lt x (Nat.two_pow_pos k))
      have Ef : fget x k 1 = ((x / 2 ^ k % 2 : Nat) : Int) := by
        rw [fget_nat (n := 1) x (by omega) (by omega)]
      rw [Ef] at B
      clear Ef
      rcases Nat.mod_two_eq_zero_or_one (x / 2 ^ k) with h | h
      · rw [h] at B
        replace W := hide (W.out.trans (if_neg (by omega)))
        clear h
        generalize wid (x % 2 ^ k) = n at *
        go_wp2_with fail
        refine (B.out _).mono ?_
        rintro e w' ⟨rfl, rfl⟩
        simp only [show (((0 : Nat) : Int) == 1) = false from rfl]
        go_wp2_with fail
        go_round
        case rel => exact ⟨k + 1, by go_num, by omega, by rw [W.out]⟩
        case measure => simp [intOf]; omega
      · rw [h] at B
        replace W := hide (W.out.trans (if_pos h))
        clear h
        generalize wid (x % 2 ^ k) = n at *
        go_wp2_with fail
        refine (B.out _).mono ?_
        rintro e w' ⟨rfl, rfl⟩
        simp only [show (((1 : Nat) : Int) == 1) = true from rfl]
        go_wp2_with fail
        go_round
        case rel => exact ⟨k + 1, by go_num, by omega, by rw [W.out]; go_num⟩
        case measure => simp [intOf]; omega
    · have e : k = 64 := by omega
      subst e
      rw [E.out]
      go_wp2_with fail
      go_ret
      exact ⟨rfl, rfl⟩

def RWidIn (x : Nat) (v n : Value) : Prop := ∃ k : Nat, n = .int .i64 k ∧ k ≤ 64 ∧ v = .int .u64 ((x / 2 ^ k : Nat) : Int) ∧ (k = 0 ∨ 2 ^ (k - 1) ≤ x)

set_option maxHeartbeats 400000 in
theorem rwidth_any (x : Nat) (w : World) (hx : x ≤ 18446744073709551615) :
    Calls Try.prog 14 #[.int .u64 x] w fun r w' => r = .returned (.int .i64 (wid x)) ∧ w = w' := by
  go_enter Try.func14, Try.ntmps14
  go_wp2_with fail
  go_loop [0, 3] (RWidIn x) (fun v _ => (intOf v).toNat)
  case atStart => exact ⟨0, rfl, by omega, by simp, .inl rfl⟩
  case round =>
    obtain ⟨k, rfl, hk, rfl, hor⟩ := hrel
    have D := hide (show x / 2 ^ k / 2 = x / 2 ^ (k + 1) by rw [Nat.pow_succ, Nat.div_div_eq_div_mul])
    have h0 : 0 < x / 2 ^ k ↔ 2 ^ k ≤ x := Nat.div_pos_iff.trans ⟨fun h => h.2, fun h => ⟨Nat.two_pow_pos k, h⟩⟩
    have hle : x / 2 ^ k ≤ x := Nat.div_le_self _ _
    by_cases hlt : 0 < x / 2 ^ k
    · have hge := h0.1 hlt
      have hk2 : k < 64 := by
        rcases Nat.lt_or_ge k 64 with h | h
        · exact h
        · have := Nat.pow_le_pow_right (show 0 < 2 by omega) h; omega
      have Hge := hide hge
      clear h0 hge hor
      generalize x / 2 ^ k = y at *
      go_wp2_with fail
      go_round
      case rel => exact ⟨k + 1, by go_num, by omega, by rw [← D.out]; simp, .inr (by simpa using Hge.out)⟩
      case measure => simp [intOf]; omega
    · have W := hide (wid_of (x := x) (k := k) (by omega) hor)
      clear h0 hor
      generalize x / 2 ^ k = y at *
      go_wp2_with fail
      go_ret
      exact ⟨by rw [W.out]; rfl, rfl⟩
end Go.Proofs.Ytgcdmngihnnloaa
