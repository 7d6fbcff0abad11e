/-
  Chapter 11: the examples; SeekSteps; SeekComes.
-/
import Derived.Test.YtegephdgboaedaaSeekC
namespace Go.Proofs.Ytegephdgboaedaa
open Go.RowKit

set_option maxHeartbeats 400000 in
theorem awake11 (w : World) : Calls Try.prog 7 #[] w fun r w' => r = .returned (.bool true) ∧ Below w.heap.size w w' := by
  have Sn := hide (fun w => snew_any 1 4 4 w ⟨by omega, by omega⟩)
  rw [show snew 1 4 = 4 by decide] at Sn
  have Wn := hide (fun w => swant_any 1 0 4 4 w ⟨by omega, by omega, by omega⟩)
  rw [show swant 0 4 = 2 by decide] at Wn
  have O1 := hide (fun w (h : Reads w w.heap.size 1 (some ⟨w.heap.size, 0, none⟩) 4 (ints .u64 [2, 4, 4, 8])) => of_any 1 4 _ 4 4 [2, 4, 4, 8] w (by omega) h)
  clear O1
  have F1 := hide (show sfind 1 4 [2, 4, 4, 8] = 1 by decide)
  have F2 := hide (show sfind 2 4 [2, 4, 4, 8] = 3 by decide)
  have St := hide (fun w => steps_any 4 w ⟨by omega, by omega⟩)
  rw [show steps 4 = 3 by decide] at St
  obtain ⟨W0, hW0⟩ : ∃ W0, W0 = w.alloc (.cells #[.int .u64 2, .int .u64 4, .int .u64 4, .int .u64 8] 22) := ⟨_, rfl⟩
  have R0 : Reads W0 W0.heap.size 1 (some ⟨w.heap.size, 0, none⟩) 4 (ints .u64 [2, 4, 4, 8]) := by
    rw [hW0]
    simpa [ints] using Reads.new w [.int .u64 2, .int .u64 4, .int .u64 4, .int .u64 8] 22 4 1 rfl
  have B0 : Below w.heap.size w W0 := by rw [hW0]; exact (Below.refl _ _).alloc (Nat.le_refl _) _
  have HW := hide hW0
  clear hW0
  go_enter Try.func7, Try.ntmps7
  go_wp2_with fail
  rw [← HW.out]
  refine (Sn.out _).mono ?_
  rintro e w1 ⟨rfl, hb1⟩
  have b1 := Blk.new w1 26 #[.int .i64 1, .int .i64 0, .int .i64 4, .int .u64 4]
  have R1 := ((R0.below hb1).more hb1.size).alloc (Nat.le_refl _) (.cells #[.int .i64 1, .int .i64 0, .int .i64 4, .int .u64 4] 26)
  have B1 := (B0.trans (hb1.mono B0.size)).alloc (Nat.le_trans B0.size hb1.size) (.cells #[.int .i64 1, .int .i64 0, .int .i64 4, .int .u64 4] 26)
  go_wp2_with fail
  generalize w1.alloc (.cells #[.int .i64 1, .int .i64 0, .int .i64 4, .int .u64 4] 26) = W1 at *
  refine (Wn.out _).mono ?_
  rintro e w2 ⟨rfl, hb2⟩
  have hs1 := b1.lt
  have R2 := (R1.below (hb2.mono (by omega))).more (B' := w2.heap.size) (by have := hb2.size; omega)
  have B2 := B1.trans (hb2.mono B1.size)
  go_wp2_with fail
  refine (of_any 1 4 _ 4 4 [2, 4, 4, 8] w2 (by omega) R2).mono ?_
  rw [F1.out]
  rintro e w3 ⟨rfl, hb3⟩
  have R3 := (R2.below hb3).more hb3.size
  have B3 := B2.trans (hb3.mono B2.size)
  go_wp2_with fail
  refine (of_any 2 4 _ 4 4 [2, 4, 4, 8] w3 (by omega) R3).mono ?_
  rw [F2.out]
  rintro e w4 ⟨rfl, hb4⟩
  have B4 := B3.trans (hb4.mono B3.size)
  go_wp2_with fail
  refine (St.out _).mono ?_
  rintro e w5 ⟨rfl, rfl⟩
  go_wp2_with fail
  go_ret
  exact ⟨rfl, B4⟩

def StepsLaw (x : Nat) (p n : Value) : Prop := ∃ k : Nat, p = .int .i64 (((2 ^ k : Nat)) : Int) ∧ n = .int .i64 ((k : Int) + 1) ∧ 2 ^ k ≤ x ∧ k ≤ 62

set_option maxHeartbeats 400000 in
theorem SeekSteps_calls (n : Int) (w : World) (hn : I64 n) :
    Calls Try.prog 5 #[.int .i64 n] w fun r w' => r = .returned (.bool true) ∧ Below w.heap.size w w' := by
  have St := hide (fun w => steps_any n w hn)
  by_cases c : n < 1
  · rw [show steps n = 0 from if_pos c] at St
    clear hn
    go_enter Try.func5, Try.ntmps5
    go_wp2_with fail
    refine (St.out _).mono ?_
    rintro e w1 ⟨rfl, rfl⟩
    go_wp2_with fail
    refine (awake11 _).mono ?_
    rintro e w2 ⟨rfl, hb⟩
    go_wp2_with fail
    go_ret
    exact ⟨rfl, hb⟩
  obtain ⟨h1, h2⟩ := hn
  obtain ⟨x, rfl⟩ := Int.eq_ofNat_of_zero_le (show 0 ≤ n by omega)
  rw [show steps x = wid x by unfold steps; rw [if_neg c]; simp] at St
  have hx1 : 1 ≤ x := by omega
  have hw : wid x ≤ 63 := wid_le (by omega)
  clear c
  obtain ⟨v, hv⟩ : ∃ v, v = wid x := ⟨_, rfl⟩
  have HV := hide hv
  rw [← hv] at St hw
  clear hv
  go_enter Try.func5, Try.ntmps5
  go_wp2_with fail
  refine (St.out _).mono ?_
  rintro e w1 ⟨rfl, rfl⟩
  go_wp2_with fail
  go_loop [4, 5] (StepsLaw x) (fun _ n => 64 - (intOf n).toNat)
  case atStart => exact ⟨0, rfl, rfl, by simpa using hx1, by omega⟩
  case round =>
    obtain ⟨k, rfl, rfl, hk, hk2⟩ := hrel
    have Pw := hide (show 2 ^ (k + 1) = 2 ^ k * 2 from Nat.pow_succ ..)
    have hp0 := Nat.two_pow_pos k
    have hp1 : 2 ^ k ≤ 4611686018427387904 := by
      have : 2 ^ k ≤ 2 ^ 62 := Nat.pow_le_pow_right (by omega) hk2
      omega
    by_cases hle : 2 ^ k ≤ x / 2
    · have hk3 : k < 62 := by
        rcases Nat.lt_or_ge k 62 with h | h
        · exact h
        · have := Nat.pow_le_pow_right (show 0 < 2 by omega) h; omega
      have Hle : Hid (2 ^ (k + 1) ≤ x) := hide (by rw [Pw.out]; omega)
      generalize 2 ^ k = q at *
      go_wp2_with fail
      go_round
      case rel => exact ⟨k + 1, by rw [Pw.out]; go_num, by go_num, Hle.out, by omega⟩
      case measure => simp [intOf]; omega
    · have W := hide (wid_of (x := x) (k := k + 1) (by rw [Pw.out]; omega) (.inr (by simpa using hk)))
      have HW2 := hide (HV.out.trans W.out)
      clear W
      generalize 2 ^ k = q at *
      have hvk : (v : Int) = k + 1 := by have := HW2.out; omega
      have hveq : ((v : Int) == (k : Int) + 1) = true := by rw [hvk]; simp
      clear hvk
      go_wp2_with fail
      refine (awake11 _).mono ?_
      rintro e w2 ⟨rfl, hb⟩
      go_wp2_with fail
      go_ret
      exact ⟨rfl, hb⟩
end Go.Proofs.Ytegephdgboaedaa
