/-
  The reference's Signed; the examples of chapter 1.
-/
import Derived.Test.YtgcdmngihnnloaaFieldSW
namespace Go.Proofs.Ytgcdmngihnnloaa
open Go.RowKit

theorem fsigned_bit {x size : Int} {s : Nat} (hs : min size 64 = s) (h1 : 1 ≤ s) : fsigned x size = x % P2 (s - 1) - x / P2 (s - 1) % 2 * P2 (s - 1) := by
  unfold fsigned
  have e1 : ((s : Int) - 1).toNat = s - 1 := by omega
  rw [if_neg (by omega), hs, e1, Int.toNat_natCast]
  have hM := mod_P2_succ x (s - 1)
  have hS := P2_succ (s - 1)
  have e2 : s - 1 + 1 = s := by omega
  rw [e2] at hM hS
  have p := P2_pos (s - 1)
  have m1 := Int.emod_nonneg x (show P2 (s - 1) ≠ 0 by omega)
  have m2 := Int.emod_lt_of_pos x (show 0 < P2 (s - 1) by omega)
  rw [hM, hS]
  rcases (show x / P2 (s - 1) % 2 = 0 ∨ x / P2 (s - 1) % 2 = 1 by omega) with h | h <;> rw [h]
  · rw [if_neg (by omega)]; omega
  · rw [if_pos (by omega)]; omega

def RSgIn (x : Int) (m : Nat) (p i : Value) : Prop := ∃ k : Nat, i = .int .i64 k ∧ k ≤ m ∧ p = .int .i64 (x % P2 k)


theorem rbit_k (x : Int) (k : Nat) (h : k ≤ 63) : rbit x k = x / P2 k % 2 := by
  unfold rbit
  rw [if_neg (by omega), Int.toNat_natCast]

set_option maxHeartbeats 800000 in
theorem rsigned_any (x size : Int) (w : World) (hx : W64 x) (hs : I64 size) :
    Calls Try.prog 20 #[.int .u64 x, .int .i64 size] w fun r w' => r = .returned (.int .i64 (fsigned x size)) ∧ w = w' := by
  by_cases h : size < 1
  · have E := hide (show fsigned x size = 0 from if_pos h)
    go_enter Try.func20, Try.ntmps20
    go_wp2_with fail
    go_ret
    exact ⟨by rw [E.out]; rfl, rfl⟩
  obtain ⟨h1, h2⟩ := hs
  have h3 : 1 ≤ size := by omega
  clear h h1
  obtain ⟨s, hsz⟩ : ∃ s : Nat, min size 64 = s := ⟨(min size 64).toNat, by omega⟩
  have E := hide (fsigned_bit (x := x) hsz (by omega))
  have B := fun (k : Nat) => hide (fun (w : World) (h : k ≤ 63) => rbit_any x (k : Int) w hx ⟨by omega, by omega⟩)
  have Q := fun (k : Nat) (h : k ≤ 63) => hide (fun (w : World) => power_any (k : Int) w (by omega) (by omega))
  have hs64 : s ≤ 64 := by omega
  have hs1 : 1 ≤ s := by omega
  by_cases h64 : size < 64
  · obtain rfl : size = s := by omega
    have h64' : s < 64 := by omega
    clear hsz
    go_enter Try.func20, Try.ntmps20
    go_wp2_with fail
    go_loop [5, 6] (RSgIn x (s - 1)) (fun _ i => s - 1 - (intOf i).toNat)
    case atStart => exact ⟨0, rfl, by omega, by have : x % P2 0 = 0 := by simp [P2, Int.emod_one]
                                                rw [this]⟩
    case round =>
      obtain ⟨k, rfl, hk, rfl⟩ := hrel
      have m1 := Int.emod_nonneg x (show P2 k ≠ 0 by have := P2_pos k; omega)
      have m2 := Int.emod_lt_of_pos x (show 0 < P2 k by have := P2_pos k; omega)
      have m3 : P2 k ≤ 9223372036854775808 := by rw [← P2_63]; exact P2_le (by omega)
      by_cases hlt : k < s - 1
      · have X := B k
        have Qk := Q k (by omega)
        rw [Int.toNat_natCast] at Qk
        have M := hide (mod_P2_succ x k)
        have hr := hide (rbit_k x k (by omega))
        have h01 := rbit_01 (x := x) (show 0 ≤ (k : Int) by omega) (by omega)
        have m4 : P2 k ≤ 4611686018427387904 := by rw [← show P2 62 = 4611686018427387904 by decide]; exact P2_le (by omega)
        have m5 := P2_pos k
        have hlt' : (k : Int) < s - 1 := by omega
        clear B Q E
        generalize P2 k = q at *
        generalize x % q = r at *
        generalize rbit x k = b at *
        rcases h01 with h01 | h01
        · have hr1 := hide (hr.out)
          clear hr
          subst h01
          go_wp2_with fail
          refine (X.out _ (by omega)).mono ?_
          rintro e w' ⟨rfl, rfl⟩
          go_wp2_with fail
          go_round
          case rel => exact ⟨k + 1, by go_num, by omega, by rw [M.out, ← hr1.out]; simp⟩
          case measure => simp [intOf]; omega
        · have hr1 := hide (hr.out)
          clear hr
          subst h01
          go_wp2_with fail
          refine (X.out _ (by omega)).mono ?_
          rintro e w' ⟨rfl, rfl⟩
          go_wp2_with fail
          refine (Qk.out _).mono ?_
          rintro e w' ⟨rfl, rfl⟩
          go_wp2_with fail
          go_round
          case rel => exact ⟨k + 1, by go_num, by omega, by rw [M.out, ← hr1.out]; simp⟩
          case measure => simp [intOf]; omega
      · obtain rfl : k = s - 1 := by omega
        have X := B (s - 1)
        have Qk := Q (s - 1) (by omega)
        rw [Int.toNat_natCast] at Qk
        have h01 := rbit_01 (x := x) (show 0 ≤ ((s - 1 : Nat) : Int) by omega) (by omega)
        have hr := rbit_k x (s - 1) (by omega)
        have ec : ((s - 1 : Nat) : Int) = (s : Int) - 1 := by omega
        have m5 := P2_pos (s - 1)
        have m4 : P2 (s - 1) ≤ 4611686018427387904 := by rw [← show P2 62 = 4611686018427387904 by decide]; exact P2_le (by omega)
        rw [ec] at X h01 hr
        have EC := hide ec
        have HR := hide hr
        clear hr ec B Q
        generalize P2 (s - 1) = q at *
        generalize x % q = r at *
        generalize hb : rbit x ((s : Int) - 1) = b at *
        have HB := hide hb
        clear hb
        rcases h01 with h01 | h01
        · subst h01
          go_wp2_with fail
          refine (X.out _ (by omega)).mono ?_
          rintro e w' ⟨rfl, rfl⟩
          go_wp2_with fail
          go_ret
          exact ⟨by rw [E.out, ← HR.out]; simp, rfl⟩
        · subst h01
          go_wp2_with fail
          refine (X.out _ (by omega)).mono ?_
          rintro e w' ⟨rfl, rfl⟩
          go_wp2_with fail
          rw [EC.out] at Qk
          refine (Qk.out _).mono ?_
          rintro e w' ⟨rfl, rfl⟩
          go_wp2_with fail
          go_ret
          exact ⟨by rw [E.out, ← HR.out]; simp, rfl⟩
  by_cases h64' : size = 64
  · obtain rfl : size = s := by omega
    have hs65 : 64 ≤ s := by omega
    clear hsz h64 h64'
    go_enter Try.func20, Try.ntmps20
    go_wp2_with fail
    go_loop [5, 6] (RSgIn x (s - 1)) (fun _ i => s - 1 - (intOf i).toNat)
    case atStart => exact ⟨0, rfl, by omega, by have : x % P2 0 = 0 := by simp [P2, Int.emod_one]
                                                rw [this]⟩
    case round =>
      obtain ⟨k, rfl, hk, rfl⟩ := hrel
      have m1 := Int.emod_nonneg x (show P2 k ≠ 0 by have := P2_pos k; omega)
      have m2 := Int.emod_lt_of_pos x (show 0 < P2 k by have := P2_pos k; omega)
      have m3 : P2 k ≤ 9223372036854775808 := by rw [← P2_63]; exact P2_le (by omega)
      by_cases hlt : k < s - 1
      · have X := B k
        have Qk := Q k (by omega)
        rw [Int.toNat_natCast] at Qk
        have M := hide (mod_P2_succ x k)
        have hr := hide (rbit_k x k (by omega))
        have h01 := rbit_01 (x := x) (show 0 ≤ (k : Int) by omega) (by omega)
        have m4 : P2 k ≤ 4611686018427387904 := by rw [← show P2 62 = 4611686018427387904 by decide]; exact P2_le (by omega)
        have m5 := P2_pos k
        have hlt' : (k : Int) < s - 1 := by omega
        clear B Q E
        generalize P2 k = q at *
        generalize x % q = r at *
        generalize rbit x k = b at *
        rcases h01 with h01 | h01
        · have hr1 := hide (hr.out)
          clear hr
          subst h01
          go_wp2_with fail
          refine (X.out _ (by omega)).mono ?_
          rintro e w' ⟨rfl, rfl⟩
          go_wp2_with fail
          go_round
          case rel => exact ⟨k + 1, by go_num, by omega, by rw [M.out, ← hr1.out]; simp⟩
          case measure => simp [intOf]; omega
        · have hr1 := hide (hr.out)
          clear hr
          subst h01
          go_wp2_with fail
          refine (X.out _ (by omega)).mono ?_
          rintro e w' ⟨rfl, rfl⟩
          go_wp2_with fail
          refine (Qk.out _).mono ?_
          rintro e w' ⟨rfl, rfl⟩
          go_wp2_with fail
          go_round
          case rel => exact ⟨k + 1, by go_num, by omega, by rw [M.out, ← hr1.out]; simp⟩
          case measure => simp [intOf]; omega
      · obtain rfl : k = s - 1 := by omega
        have X := B (s - 1)
        have Qk := Q (s - 1) (by omega)
        rw [Int.toNat_natCast] at Qk
        have h01 := rbit_01 (x := x) (show 0 ≤ ((s - 1 : Nat) : Int) by omega) (by omega)
        have hr := rbit_k x (s - 1) (by omega)
        have ec : ((s - 1 : Nat) : Int) = (s : Int) - 1 := by omega
        have m5 := P2_pos (s - 1)
        have m4 : P2 (s - 1) = 9223372036854775808 := by rw [← P2_63]; congr 1; omega
        have hqd : P2 (s - 1) ≤ 9223372036854775808 := by omega
        have M4 := hide m4
        clear m4
        rw [ec] at X h01 hr
        have EC := hide ec
        have HR := hide hr
        clear hr ec B Q
        generalize P2 (s - 1) = q at *
        generalize x % q = r at *
        generalize hb : rbit x ((s : Int) - 1) = b at *
        have HB := hide hb
        clear hb
        rcases h01 with h01 | h01
        · subst h01
          go_wp2_with fail
          refine (X.out _ (by omega)).mono ?_
          rintro e w' ⟨rfl, rfl⟩
          go_wp2_with fail
          go_ret
          exact ⟨by rw [E.out, ← HR.out]; simp, rfl⟩
        · subst h01
          go_wp2_with fail
          refine (X.out _ (by omega)).mono ?_
          rintro e w' ⟨rfl, rfl⟩
          go_wp2_with fail
          go_ret
          exact ⟨by rw [E.out, ← HR.out]; simp; have := M4.out; omega, rfl⟩
  · obtain rfl : s = 64 := by omega
    have E63 := hide (show fsigned x size = x % P2 63 - x / P2 63 % 2 * P2 63 from E.out)
    have h65 : 64 < size := by omega
    clear E hsz h64 h64' hs64 hs1
    have E := hide E63.out
    clear E63
    go_enter Try.func20, Try.ntmps20
    go_wp2_with fail
    go_loop [5, 6] (RSgIn x (63)) (fun _ i => 63 - (intOf i).toNat)
    case atStart => exact ⟨0, rfl, by omega, by have : x % P2 0 = 0 := by simp [P2, Int.emod_one]
                                                rw [this]⟩
    case round =>
      obtain ⟨k, rfl, hk, rfl⟩ := hrel
      have m1 := Int.emod_nonneg x (show P2 k ≠ 0 by have := P2_pos k; omega)
      have m2 := Int.emod_lt_of_pos x (show 0 < P2 k by have := P2_pos k; omega)
      have m3 : P2 k ≤ 9223372036854775808 := by rw [← P2_63]; exact P2_le (by omega)
      by_cases hlt : k < 63
      · have X := B k
        have Qk := Q k (by omega)
        rw [Int.toNat_natCast] at Qk
        have M := hide (mod_P2_succ x k)
        have hr := hide (rbit_k x k (by omega))
        have h01 := rbit_01 (x := x) (show 0 ≤ (k : Int) by omega) (by omega)
        have m4 : P2 k ≤ 4611686018427387904 := by rw [← show P2 62 = 4611686018427387904 by decide]; exact P2_le (by omega)
        have m5 := P2_pos k
        have hlt' : (k : Int) < 63 := by omega
        clear B Q E
        generalize P2 k = q at *
        generalize x % q = r at *
        generalize rbit x k = b at *
        rcases h01 with h01 | h01
        · have hr1 := hide (hr.out)
          clear hr
          subst h01
          go_wp2_with fail
          refine (X.out _ (by omega)).mono ?_
          rintro e w' ⟨rfl, rfl⟩
          go_wp2_with fail
          go_round
          case rel => exact ⟨k + 1, by go_num, by omega, by rw [M.out, ← hr1.out]; simp⟩
          case measure => simp [intOf]; omega
        · have hr1 := hide (hr.out)
          clear hr
          subst h01
          go_wp2_with fail
          refine (X.out _ (by omega)).mono ?_
          rintro e w' ⟨rfl, rfl⟩
          go_wp2_with fail
          refine (Qk.out _).mono ?_
          rintro e w' ⟨rfl, rfl⟩
          go_wp2_with fail
          go_round
          case rel => exact ⟨k + 1, by go_num, by omega, by rw [M.out, ← hr1.out]; simp⟩
          case measure => simp [intOf]; omega
      · obtain rfl : k = 63 := by omega
        have X := B (63)
        have Qk := Q (63) (by omega)
        rw [Int.toNat_natCast] at Qk
        have h01 := rbit_01 (x := x) (show 0 ≤ ((63 : Nat) : Int) by omega) (by omega)
        have hr := rbit_k x (63) (by omega)
        have ec : ((63 : Nat) : Int) = 63 := by omega
        have m5 := P2_pos (63)
        have m4 : P2 63 = 9223372036854775808 := P2_63
        have hqd : P2 63 ≤ 9223372036854775808 := by omega
        have M4 := hide m4
        clear m4
        rw [ec] at X h01 hr
        have EC := hide ec
        have HR := hide hr
        clear hr ec B Q
        generalize P2 (63) = q at *
        generalize x % q = r at *
        generalize hb : rbit x (63) = b at *
        have HB := hide hb
        clear hb
        rcases h01 with h01 | h01
        · subst h01
          go_wp2_with fail
          refine (X.out _ (by omega)).mono ?_
          rintro e w' ⟨rfl, rfl⟩
          go_wp2_with fail
          go_ret
          exact ⟨by rw [E.out, ← HR.out]; simp, rfl⟩
        · subst h01
          go_wp2_with fail
          refine (X.out _ (by omega)).mono ?_
          rintro e w' ⟨rfl, rfl⟩
          go_wp2_with fail
          go_ret
          exact ⟨by rw [E.out, ← HR.out]; simp; have := M4.out; omega, rfl⟩
end Go.Proofs.Ytgcdmngihnnloaa
