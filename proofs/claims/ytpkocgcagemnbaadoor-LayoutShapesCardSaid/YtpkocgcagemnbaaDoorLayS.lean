/-
  Shapes: Pack, Inner, Entries; the Go function LayoutShapes.
-/
import Derived.Test.YtpkocgcagemnbaaDoorLayG
import Derived.Test.YtpkocgcagemnbaaDoorField
namespace Go.Proofs.YtpkocgcagemnbaaDoor
open Go.RowKit

def pkN (n : Int) : Int := if n < 0 ∨ 255 < n then 0 else n
def pk (inner : Bool) (n : Int) : Int := if inner = true then pkN n * 2 + 1 else pkN n * 2
theorem pkN_bd (n : Int) : 0 ≤ pkN n ∧ pkN n ≤ 255 := by unfold pkN; split <;> omega
def innB (x : Int) : Bool := x % 2 == 1
def ents (x fan : Int) : Int := if fan < 0 then 0 else if fan < x / 2 % 256 then fan else x / 2 % 256

theorem or_one (m : Int) (h : 0 ≤ m) (h2 : m ≤ 255) : bits .or .u64 (m * 2) 1 = m * 2 + 1 := by
  obtain ⟨k, rfl⟩ := Int.eq_ofNat_of_zero_le h
  have h4 := Nat.two_pow_add_eq_or_of_lt (i := 1) (b := 1) (by decide) k
  have e : ((k : Int) * 2) = ((k * 2 : Nat) : Int) := by omega
  rw [e, show (1 : Int) = ((1 : Nat) : Int) from rfl, u64_or_nat _ _ (by omega) (by omega)]
  rw [show k * 2 = 2 ^ 1 * k by omega, ← h4]
  omega

set_option maxHeartbeats 1000000 in
theorem pack_any (inner : Bool) (n : Int) (w : World) (_ : I64 n) :
    Calls Tryd.prog 37 #[.bool inner, .int .i64 n] w fun e w' => e = .returned (.int .u64 (pk inner n)) ∧ w = w' := by
  have hb := pkN_bd n
  have FP := hide (fun w => put_any 0 1 8 (pkN n) w ⟨by omega, by omega⟩ ⟨by omega, by omega⟩ ⟨by omega, by omega⟩ ⟨by omega, by omega⟩)
  have e : fput 0 1 8 (pkN n) = pkN n * 2 := by
    have h := fput_at 0 (pkN n) 1 8 (by omega)
    simp at h
    rw [h]
    omega
  rw [e] at FP
  have O := or_one (pkN n) hb.1 hb.2
  have E := hide (show pk inner n = if inner = true then pkN n * 2 + 1 else pkN n * 2 from rfl)
  by_cases c : n < 0 ∨ 255 < n
  · have W1 := hide (fun w => within_f n 256 w (by omega))
    rw [show pkN n = 0 from if_pos c] at FP O E
    clear c e hb
    cases inner
    · go_enter Tryd.func37, Tryd.ntmps37
      go_wp2_with fail
      refine (W1.out _).mono ?_
      rintro e w' ⟨rfl, rfl⟩
      go_wp2_with fail
      refine (FP.out _).mono ?_
      rintro e w' ⟨rfl, rfl⟩
      go_wp2_with fail
      go_ret
      exact ⟨by rw [E.out]; rfl, rfl⟩
    · go_enter Tryd.func37, Tryd.ntmps37
      go_wp2_with fail
      refine (W1.out _).mono ?_
      rintro e w' ⟨rfl, rfl⟩
      go_wp2_with fail
      refine (FP.out _).mono ?_
      rintro e w' ⟨rfl, rfl⟩
      go_wp2_with fail
      go_ret
      exact ⟨by rw [E.out]; rfl, rfl⟩
  · have W1 := hide (fun w => within_t n 256 w (by omega) (by omega))
    rw [show pkN n = n from if_neg c] at FP O E
    have c1 : 0 ≤ n := by omega
    have c2 : n ≤ 255 := by omega
    have OH := hide O
    clear c e hb O
    cases inner
    · go_enter Tryd.func37, Tryd.ntmps37
      go_wp2_with fail
      refine (W1.out _).mono ?_
      rintro e w' ⟨rfl, rfl⟩
      go_wp2_with fail
      refine (FP.out _).mono ?_
      rintro e w' ⟨rfl, rfl⟩
      go_wp2_with fail
      go_ret
      exact ⟨by rw [E.out]; rfl, rfl⟩
    · go_enter Tryd.func37, Tryd.ntmps37
      go_wp2_with fail
      refine (W1.out _).mono ?_
      rintro e w' ⟨rfl, rfl⟩
      go_wp2_with fail
      refine (FP.out _).mono ?_
      rintro e w' ⟨rfl, rfl⟩
      go_wp2_with fail
      go_ret
      exact ⟨by rw [E.out, ← OH.out]; rfl, rfl⟩
set_option maxHeartbeats 400000 in
theorem rpack_any (inner : Bool) (n : Int) (w : World) (hn : I64 n) :
    Calls Tryd.prog 38 #[.bool inner, .int .i64 n] w fun e w' => e = .returned (.int .u64 (pk inner n)) ∧ w = w' := by
  have E := hide (show pk inner n = if inner = true then pkN n * 2 + 1 else pkN n * 2 from rfl)
  obtain ⟨h1, h2⟩ := hn
  by_cases c1 : n < 0
  · rw [show pkN n = 0 from if_pos (.inl c1)] at E
    cases inner
    · go_enter Tryd.func38, Tryd.ntmps38
      go_wp2_with fail
      go_ret
      exact ⟨by rw [E.out]; rfl, rfl⟩
    · go_enter Tryd.func38, Tryd.ntmps38
      go_wp2_with fail
      go_ret
      exact ⟨by rw [E.out]; rfl, rfl⟩
  by_cases c2 : 255 < n
  · rw [show pkN n = 0 from if_pos (.inr c2)] at E
    have c3 : 0 ≤ n := by omega
    clear c1
    cases inner
    · go_enter Tryd.func38, Tryd.ntmps38
      go_wp2_with fail
      go_ret
      exact ⟨by rw [E.out]; rfl, rfl⟩
    · go_enter Tryd.func38, Tryd.ntmps38
      go_wp2_with fail
      go_ret
      exact ⟨by rw [E.out]; rfl, rfl⟩
  · rw [show pkN n = n from if_neg (by omega)] at E
    have c3 : 0 ≤ n := by omega
    have c4 : n ≤ 255 := by omega
    clear c1 c2
    cases inner
    · go_enter Tryd.func38, Tryd.ntmps38
      go_wp2_with fail
      go_ret
      exact ⟨by rw [E.out]; rfl, rfl⟩
    · go_enter Tryd.func38, Tryd.ntmps38
      go_wp2_with fail
      go_ret
      exact ⟨by rw [E.out]; rfl, rfl⟩
set_option maxHeartbeats 400000 in
theorem inner_any (x : Int) (w : World) (hx : W64 x) :
    Calls Tryd.prog 39 #[.int .u64 x] w fun e w' => e = .returned (.bool (innB x)) ∧ w = w' := by
  have BT := hide (fun w => bit_any x 0 w hx ⟨by omega, by omega⟩)
  have e : fget x 0 1 = x % 2 := by
    have h := fget_at x 0 1 (by omega)
    simpa using h
  rw [e, show (x % 2 == 1) = innB x from rfl] at BT
  generalize innB x = r at *
  clear e
  go_enter Tryd.func39, Tryd.ntmps39
  go_wp2_with fail
  refine (BT.out _).mono ?_
  rintro e w' ⟨rfl, rfl⟩
  go_wp2_with fail
  go_ret
  exact ⟨rfl, rfl⟩
set_option maxHeartbeats 400000 in
theorem rinner_any (x : Int) (w : World) (hx : W64 x) :
    Calls Tryd.prog 40 #[.int .u64 x] w fun e w' => e = .returned (.bool (innB x)) ∧ w = w' := by
  obtain ⟨h0, h1⟩ := hx
  have t1 : x.tmod 2 = x % 2 := Int.tmod_eq_emod_of_nonneg h0
  go_enter Tryd.func40, Tryd.ntmps40
  go_wp2_with fail
  go_ret
  exact ⟨rfl, rfl⟩
set_option maxHeartbeats 400000 in
theorem entries_any (x fan : Int) (w : World) (hx : W64 x) (hf : I64 fan) :
    Calls Tryd.prog 41 #[.int .u64 x, .int .i64 fan] w fun e w' => e = .returned (.int .i64 (ents x fan)) ∧ w = w' := by
  have G := hide (fun w => get_any x 1 8 w hx ⟨by omega, by omega⟩ ⟨by omega, by omega⟩)
  have e : fget x 1 8 = x / 2 % 256 := by
    have h := fget_at x 1 8 (by omega)
    simpa using h
  rw [e] at G
  have E := hide (show ents x fan = if fan < 0 then 0 else if fan < x / 2 % 256 then fan else x / 2 % 256 from rfl)
  have b0 : 0 ≤ x / 2 % 256 := by omega
  have b1 : x / 2 % 256 ≤ 255 := by omega
  clear e
  generalize ents x fan = R at *
  generalize x / 2 % 256 = m at *
  obtain ⟨h1, h2⟩ := hf
  by_cases c1 : fan < 0
  · have E2 := hide (E.out.trans (if_pos c1))
    have c2 : ¬ m ≤ fan := by omega
    have c3 : min m fan = fan := by omega
    have c4 : max 0 fan = 0 := by omega
    go_enter Tryd.func41, Tryd.ntmps41
    go_wp2_with fail
    refine (G.out _).mono ?_
    rintro e w' ⟨rfl, rfl⟩
    go_wp2_with fail
    go_ret
    exact ⟨by rw [E2.out]; rfl, rfl⟩
  by_cases c2 : fan < m
  · have E2 := hide (E.out.trans ((if_neg c1).trans (if_pos c2)))
    have c3 : min m fan = fan := by omega
    have c4 : max 0 fan = fan := by omega
    go_enter Tryd.func41, Tryd.ntmps41
    go_wp2_with fail
    refine (G.out _).mono ?_
    rintro e w' ⟨rfl, rfl⟩
    go_wp2_with fail
    go_ret
    exact ⟨by rw [E2.out]; rfl, rfl⟩
  · have E2 := hide (E.out.trans ((if_neg c1).trans (if_neg c2)))
    have c3 : min m fan = m := by omega
    have c4 : max 0 m = m := by omega
    have c5 : m ≤ fan := by omega
    go_enter Tryd.func41, Tryd.ntmps41
    go_wp2_with fail
    refine (G.out _).mono ?_
    rintro e w' ⟨rfl, rfl⟩
    go_wp2_with fail
    go_ret
    exact ⟨by rw [E2.out]; rfl, rfl⟩
set_option maxHeartbeats 400000 in
theorem rentries_any (x fan : Int) (w : World) (hx : W64 x) (_ : I64 fan) :
    Calls Tryd.prog 42 #[.int .u64 x, .int .i64 fan] w fun e w' => e = .returned (.int .i64 (ents x fan)) ∧ w = w' := by
  obtain ⟨x0, x1⟩ := hx
  have t1 : x.tdiv 2 = x / 2 := Int.tdiv_eq_ediv_of_nonneg x0
  have t2 : (x / 2).tmod 256 = x / 2 % 256 := Int.tmod_eq_emod_of_nonneg (by omega)
  have E := hide (show ents x fan = if fan < 0 then 0 else if fan < x / 2 % 256 then fan else x / 2 % 256 from rfl)
  have b0 : 0 ≤ x / 2 % 256 := by omega
  have b1 : x / 2 % 256 ≤ 255 := by omega
  have b2 : 0 ≤ x / 2 := by omega
  have b3 : x / 2 ≤ 18446744073709551615 := by omega
  generalize ents x fan = R at *
  generalize x / 2 % 256 = m at *
  generalize x / 2 = y at *
  by_cases c1 : fan < 0
  · have E2 := hide (E.out.trans (if_pos c1))
    go_enter Tryd.func42, Tryd.ntmps42
    go_wp2_with fail
    go_ret
    exact ⟨by rw [E2.out]; rfl, rfl⟩
  by_cases c2 : fan < m
  · have E2 := hide (E.out.trans ((if_neg c1).trans (if_pos c2)))
    go_enter Tryd.func42, Tryd.ntmps42
    go_wp2_with fail
    go_ret
    exact ⟨by rw [E2.out]; rfl, rfl⟩
  · have E2 := hide (E.out.trans ((if_neg c1).trans (if_neg c2)))
    go_enter Tryd.func42, Tryd.ntmps42
    go_wp2_with fail
    go_ret
    exact ⟨by rw [E2.out]; rfl, rfl⟩

set_option maxHeartbeats 1000000 in
theorem LayoutShapes_calls (inner : Bool) (n x fan : Int) (w : World) (hT : Tab w) (hn : I64 n) (hx : W64 x) (hf : I64 fan) :
    Calls Tryd.prog 10 #[.bool inner, .int .i64 n, .int .u64 x, .int .i64 fan] w fun e w' => e = .returned (.bool true) ∧ Below w.heap.size w w' := by
  have P1 := hide (fun w => pack_any inner n w hn)
  have P2 := hide (fun w => rpack_any inner n w hn)
  have I1 := hide (fun w => inner_any x w hx)
  have I2 := hide (fun w => rinner_any x w hx)
  have E1 := hide (fun w => entries_any x fan w hx hf)
  have E2 := hide (fun w => rentries_any x fan w hx hf)
  have Aw := hide (awake08 w hT)
  generalize pk inner n = a at *
  generalize innB x = b at *
  generalize ents x fan = c at *
  go_enter Tryd.func10, Tryd.ntmps10
  go_wp2_with fail
  refine (P1.out _).mono ?_
  rintro e w' ⟨rfl, rfl⟩
  go_wp2_with fail
  refine (P2.out _).mono ?_
  rintro e w' ⟨rfl, rfl⟩
  go_wp2_with fail
  refine (I1.out _).mono ?_
  rintro e w' ⟨rfl, rfl⟩
  go_wp2_with fail
  refine (I2.out _).mono ?_
  rintro e w' ⟨rfl, rfl⟩
  go_wp2_with fail
  refine (E1.out _).mono ?_
  rintro e w' ⟨rfl, rfl⟩
  go_wp2_with fail
  refine (E2.out _).mono ?_
  rintro e w' ⟨rfl, rfl⟩
  go_wp2_with fail
  refine Aw.out.mono ?_
  rintro e w1 ⟨rfl, hb1⟩
  go_wp2_with fail
  go_ret
  exact ⟨rfl, hb1⟩
end Go.Proofs.YtpkocgcagemnbaaDoor
