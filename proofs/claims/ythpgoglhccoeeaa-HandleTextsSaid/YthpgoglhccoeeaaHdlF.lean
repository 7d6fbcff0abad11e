/-
  gleaningref03.Parse, Text; the Go function HandleTexts.
-/
import Derived.Test.YthpgoglhccoeeaaHdlE
import Derived.Test.YthpgoglhccoeeaaNumM
namespace Go.Proofs.Ythpgoglhccoeeaa
open Go.RowKit

/-- How many colons there are among the first so many bytes, and where the last one is. -/
def cnt (l : List UInt8) : Nat → Nat
  | 0 => 0
  | k + 1 => if l.getD k 0 = 58 then cnt l k + 1 else cnt l k
def las (l : List UInt8) : Nat → Int
  | 0 => -1
  | k + 1 => if l.getD k 0 = 58 then (k : Int) else las l k
theorem cnt_le (l : List UInt8) : ∀ k, cnt l k ≤ k
  | 0 => Nat.le_refl _
  | k + 1 => by
    have := cnt_le l k
    unfold cnt
    split <;> omega
theorem las_bd (l : List UInt8) : ∀ k, -1 ≤ las l k ∧ las l k < k
  | 0 => by simp [las]
  | k + 1 => by
    have := las_bd l k
    unfold las
    split
    · exact ⟨by omega, by omega⟩
    · exact ⟨by omega, by omega⟩
theorem cnt_none (l : List UInt8) : ∀ k, (∀ i, i < k → l.getD i 0 ≠ 58) → cnt l k = 0 ∧ las l k = -1
  | 0, _ => ⟨rfl, rfl⟩
  | k + 1, h => by
    have := cnt_none l k (fun i hi => h i (by omega))
    unfold cnt las
    rw [if_neg (h k (by omega)), if_neg (h k (by omega))]
    exact this
theorem cnt_one (l : List UInt8) (p : Nat) (hp : l.getD p 0 = 58) (h : ∀ i, i ≠ p → l.getD i 0 ≠ 58) : ∀ k, p < k → cnt l k = 1 ∧ las l k = p
  | 0, h0 => absurd h0 (by omega)
  | k + 1, hk => by
    by_cases e : k = p
    · subst e
      have := cnt_none l k (fun i hi => h i (by omega))
      unfold cnt las
      rw [if_pos hp, if_pos hp, this.1]
      exact ⟨rfl, rfl⟩
    · have := cnt_one l p hp h k (by omega)
      unfold cnt las
      rw [if_neg (h k e), if_neg (h k e)]
      exact this
theorem cnt_ge1 (l : List UInt8) (p : Nat) (hp : l.getD p 0 = 58) : ∀ k, p < k → 1 ≤ cnt l k
  | 0, h0 => absurd h0 (by omega)
  | k + 1, hk => by
    by_cases e : k = p
    · subst e
      unfold cnt
      rw [if_pos hp]
      omega
    · have := cnt_ge1 l p hp k (by omega)
      unfold cnt
      split <;> omega
theorem cnt_ge2 (l : List UInt8) (p q : Nat) (hp : l.getD p 0 = 58) (hq : l.getD q 0 = 58) (hpq : p < q) : ∀ k, q < k → 2 ≤ cnt l k
  | 0, h0 => absurd h0 (by omega)
  | k + 1, hk => by
    by_cases e : k = q
    · subst e
      have := cnt_ge1 l p hp k hpq
      unfold cnt
      rw [if_pos hq]
      omega
    · have := cnt_ge2 l p q hp hq hpq k (by omega)
      unfold cnt
      split <;> omega

theorem bytes_at (s : ByteArray) (i : Nat) (h : i < s.size) : s.data.toList.getD i 0 = s[i] := by
  have hl : s.data.toList.length = s.size := Array.length_toList
  rw [List.getD_eq_getElem?_getD, List.getElem?_eq_getElem (by omega)]
  rfl
theorem byte_58 (c : UInt8) : ((c.toNat : Int) == 58) = decide (c = 58) := by
  rw [Bool.eq_iff_iff]
  simp only [beq_iff_eq, decide_eq_true_eq]
  constructor
  · intro h
    apply UInt8.toNat_inj.1
    show c.toNat = 58
    omega
  · rintro rfl
    rfl

def RpIn (s : ByteArray) (at_ n i : Value) : Prop := ∃ k : Nat, k ≤ s.size ∧ i = .int .i64 (k : Int) ∧ at_ = .int .i64 (las s.data.toList k) ∧ n = .int .i64 (cnt s.data.toList k : Nat)

set_option maxHeartbeats 1000000 in
theorem rhp_not (s : ByteArray) (w : World) (hs : s.size ≤ 1000) (hn : cnt s.data.toList s.size ≠ 1) :
    Calls Try.prog 17 #[.string s] w fun e w' => e = .returned (.tuple #[.int .u64 0, .int .i64 4]) ∧ Below w.heap.size w w' := by
  go_enter Try.func17, Try.ntmps17
  go_wp2_with fail
  go_loop [4, 5, 6] (RpIn s) (fun _ _ i => s.size - (intOf i).toNat)
  case atStart => exact ⟨0, Nat.zero_le _, rfl, rfl, rfl⟩
  case round =>
    obtain ⟨k, hk, rfl, rfl, rfl⟩ := hrel
    by_cases hlt : k < s.size
    · have e1 := bytes_at s k hlt
      have e2 := byte_58 s[k]
      have c1 : cnt s.data.toList (k + 1) = if s.data.toList.getD k 0 = 58 then cnt s.data.toList k + 1 else cnt s.data.toList k := rfl
      have l1 : las s.data.toList (k + 1) = if s.data.toList.getD k 0 = 58 then (k : Int) else las s.data.toList k := rfl
      have cb := cnt_le s.data.toList k
      rw [e1] at c1 l1
      by_cases h58 : s[k] = 58
      · rw [if_pos h58] at c1 l1
        rw [show decide (s[k] = 58) = true by simpa using h58] at e2
        have C1 := hide c1
        have L1 := hide l1
        clear c1 l1 e1 h58
        generalize cnt s.data.toList k = cn at *
        generalize las s.data.toList k = ln at *
        go_wp2_with fail
        go_round
        case rel => exact ⟨k + 1, by omega, by go_num, by rw [L1.out], by rw [C1.out]; go_num⟩
        case measure => simp [intOf]; omega
      · rw [if_neg h58] at c1 l1
        rw [show decide (s[k] = 58) = false by simpa using h58] at e2
        have C1 := hide c1
        have L1 := hide l1
        clear c1 l1 e1 h58
        generalize cnt s.data.toList k = cn at *
        generalize las s.data.toList k = ln at *
        go_wp2_with fail
        go_round
        case rel => exact ⟨k + 1, by omega, by go_num, by rw [L1.out], by rw [C1.out]⟩
        case measure => simp [intOf]; omega
    · obtain rfl : k = s.size := by omega
      clear hk
      have q1 : (((cnt s.data.toList s.size : Nat) : Int) == 1) = false := by rw [beq_eq_false_iff_ne]; omega
      have q2 : (((cnt s.data.toList s.size : Nat) : Int) != 1) = true := by simp [bne, q1]
      clear hn
      generalize ((cnt s.data.toList s.size : Nat) : Int) = cn at *
      go_wp2_with fail
      go_ret2
      exact ⟨rfl, Below.refl _ _⟩

set_option maxHeartbeats 1000000 in
theorem rhp_e (s : ByteArray) (p x g : Nat) (e1 e2 : Int) (w : World) (hs : s.size ≤ 1000) (hp : p < s.size) (hn : cnt s.data.toList s.size = 1) (hl : las s.data.toList s.size = p)
    (ha : rdRes 10 (s.extract 0 p).data.toList = (x, e1)) (hb : rdRes 10 (s.extract (p + 1) s.size).data.toList = (g, e2)) (he : e1 ≠ 0) :
    Calls Try.prog 17 #[.string s] w fun e w' => e = .returned (.tuple #[.int .u64 0, .int .i64 e1]) ∧ Below w.heap.size w w' := by
  have q1 : (e1 == 0) = false := by simpa using he
  have q2 : (e1 != 0) = true := by simp [bne, q1]
  clear he
  have z1 : (s.extract 0 p).size ≤ 1000 := by rw [ByteArray.size_extract]; omega
  have z2 : (s.extract (p + 1) s.size).size ≤ 1000 := by rw [ByteArray.size_extract]; omega
  have P1 := hide (fun w => rread_any 10 (s.extract 0 p) w (by omega) z1)
  have P2 := hide (fun w => rread_any 10 (s.extract (p + 1) s.size) w (by omega) z2)
  rw [show ((10 : Nat) : Int) = 10 from rfl] at P1 P2
  rw [ha] at P1
  rw [hb] at P2
  simp only [] at P1 P2
  have E1 := hide (show s.extract 0 p = s.extract 0 p from rfl)
  have HN := hide hn
  have HL := hide hl
  clear ha hb z1 z2 hn hl
  go_enter Try.func17, Try.ntmps17
  go_wp2_with fail
  go_loop [4, 5, 6] (RpIn s) (fun _ _ i => s.size - (intOf i).toNat)
  case atStart => exact ⟨0, Nat.zero_le _, rfl, rfl, rfl⟩
  case round =>
    obtain ⟨k, hk, rfl, rfl, rfl⟩ := hrel
    by_cases hlt : k < s.size
    · have e1 := bytes_at s k hlt
      have e2 := byte_58 s[k]
      have c1 : cnt s.data.toList (k + 1) = if s.data.toList.getD k 0 = 58 then cnt s.data.toList k + 1 else cnt s.data.toList k := rfl
      have l1 : las s.data.toList (k + 1) = if s.data.toList.getD k 0 = 58 then (k : Int) else las s.data.toList k := rfl
      have cb := cnt_le s.data.toList k
      rw [e1] at c1 l1
      by_cases h58 : s[k] = 58
      · rw [if_pos h58] at c1 l1
        rw [show decide (s[k] = 58) = true by simpa using h58] at e2
        have C1 := hide c1
        have L1 := hide l1
        clear c1 l1 e1 h58
        generalize cnt s.data.toList k = cn at *
        generalize las s.data.toList k = ln at *
        go_wp2_with fail
        go_round
        case rel => exact ⟨k + 1, by omega, by go_num, by rw [L1.out], by rw [C1.out]; go_num⟩
        case measure => simp [intOf]; omega
      · rw [if_neg h58] at c1 l1
        rw [show decide (s[k] = 58) = false by simpa using h58] at e2
        have C1 := hide c1
        have L1 := hide l1
        clear c1 l1 e1 h58
        generalize cnt s.data.toList k = cn at *
        generalize las s.data.toList k = ln at *
        go_wp2_with fail
        go_round
        case rel => exact ⟨k + 1, by omega, by go_num, by rw [L1.out], by rw [C1.out]⟩
        case measure => simp [intOf]; omega
    · obtain rfl : k = s.size := by omega
      clear hk
      rw [HN.out, HL.out]
      have k1 : (p : Int) ≤ s.size := by omega
      have k2 : (p : Int) + 1 ≤ s.size := by omega
      have k3 : ((p : Int) + 1).toNat = p + 1 := by omega
      clear hlt
      go_wp2_with fail
      refine (P1.out _).mono ?_
      rintro e w1 ⟨rfl, hb1⟩
      go_wp2_with fail
      go_ret2
      exact ⟨rfl, hb1⟩
set_option maxHeartbeats 1000000 in
theorem rhp_f (s : ByteArray) (p x g : Nat) (e2 : Int) (w : World) (hs : s.size ≤ 1000) (hp : p < s.size) (hn : cnt s.data.toList s.size = 1) (hl : las s.data.toList s.size = p)
    (ha : rdRes 10 (s.extract 0 p).data.toList = (x, 0)) (hb : rdRes 10 (s.extract (p + 1) s.size).data.toList = (g, e2)) (he : e2 ≠ 0) :
    Calls Try.prog 17 #[.string s] w fun e w' => e = .returned (.tuple #[.int .u64 0, .int .i64 e2]) ∧ Below w.heap.size w w' := by
  have q1 : (e2 == 0) = false := by simpa using he
  have q2 : (e2 != 0) = true := by simp [bne, q1]
  clear he
  have z1 : (s.extract 0 p).size ≤ 1000 := by rw [ByteArray.size_extract]; omega
  have z2 : (s.extract (p + 1) s.size).size ≤ 1000 := by rw [ByteArray.size_extract]; omega
  have P1 := hide (fun w => rread_any 10 (s.extract 0 p) w (by omega) z1)
  have P2 := hide (fun w => rread_any 10 (s.extract (p + 1) s.size) w (by omega) z2)
  rw [show ((10 : Nat) : Int) = 10 from rfl] at P1 P2
  rw [ha] at P1
  rw [hb] at P2
  simp only [] at P1 P2
  have E1 := hide (show s.extract 0 p = s.extract 0 p from rfl)
  have HN := hide hn
  have HL := hide hl
  clear ha hb z1 z2 hn hl
  go_enter Try.func17, Try.ntmps17
  go_wp2_with fail
  go_loop [4, 5, 6] (RpIn s) (fun _ _ i => s.size - (intOf i).toNat)
  case atStart => exact ⟨0, Nat.zero_le _, rfl, rfl, rfl⟩
  case round =>
    obtain ⟨k, hk, rfl, rfl, rfl⟩ := hrel
    by_cases hlt : k < s.size
    · have e1 := bytes_at s k hlt
      have e2 := byte_58 s[k]
      have c1 : cnt s.data.toList (k + 1) = if s.data.toList.getD k 0 = 58 then cnt s.data.toList k + 1 else cnt s.data.toList k := rfl
      have l1 : las s.data.toList (k + 1) = if s.data.toList.getD k 0 = 58 then (k : Int) else las s.data.toList k := rfl
      have cb := cnt_le s.data.toList k
      rw [e1] at c1 l1
      by_cases h58 : s[k] = 58
      · rw [if_pos h58] at c1 l1
        rw [show decide (s[k] = 58) = true by simpa using h58] at e2
        have C1 := hide c1
        have L1 := hide l1
        clear c1 l1 e1 h58
        generalize cnt s.data.toList k = cn at *
        generalize las s.data.toList k = ln at *
        go_wp2_with fail
        go_round
        case rel => exact ⟨k + 1, by omega, by go_num, by rw [L1.out], by rw [C1.out]; go_num⟩
        case measure => simp [intOf]; omega
      · rw [if_neg h58] at c1 l1
        rw [show decide (s[k] = 58) = false by simpa using h58] at e2
        have C1 := hide c1
        have L1 := hide l1
        clear c1 l1 e1 h58
        generalize cnt s.data.toList k = cn at *
        generalize las s.data.toList k = ln at *
        go_wp2_with fail
        go_round
        case rel => exact ⟨k + 1, by omega, by go_num, by rw [L1.out], by rw [C1.out]⟩
        case measure => simp [intOf]; omega
    · obtain rfl : k = s.size := by omega
      clear hk
      rw [HN.out, HL.out]
      have k1 : (p : Int) ≤ s.size := by omega
      have k2 : (p : Int) + 1 ≤ s.size := by omega
      have k3 : ((p : Int) + 1).toNat = p + 1 := by omega
      clear hlt
      go_wp2_with fail
      refine (P1.out _).mono ?_
      rintro e w1 ⟨rfl, hb1⟩
      go_wp2_with fail
      refine (P2.out _).mono ?_
      rintro e w2 ⟨rfl, hb2⟩
      go_wp2_with fail
      go_ret2
      exact ⟨rfl, hb1.trans (hb2.mono hb1.size)⟩
set_option maxHeartbeats 1000000 in
theorem rhp_zero (s : ByteArray) (p g : Nat) (w : World) (hs : s.size ≤ 1000) (hp : p < s.size) (hn : cnt s.data.toList s.size = 1) (hl : las s.data.toList s.size = p)
    (ha : rdRes 10 (s.extract 0 p).data.toList = (0, 0)) (hb : rdRes 10 (s.extract (p + 1) s.size).data.toList = (g, 0)) :
    Calls Try.prog 17 #[.string s] w fun e w' => e = .returned (.tuple #[.int .u64 0, .int .i64 5]) ∧ Below w.heap.size w w' := by
  have z1 : (s.extract 0 p).size ≤ 1000 := by rw [ByteArray.size_extract]; omega
  have z2 : (s.extract (p + 1) s.size).size ≤ 1000 := by rw [ByteArray.size_extract]; omega
  have P1 := hide (fun w => rread_any 10 (s.extract 0 p) w (by omega) z1)
  have P2 := hide (fun w => rread_any 10 (s.extract (p + 1) s.size) w (by omega) z2)
  rw [show ((10 : Nat) : Int) = 10 from rfl] at P1 P2
  rw [ha] at P1
  rw [hb] at P2
  simp only [] at P1 P2
  have E1 := hide (show s.extract 0 p = s.extract 0 p from rfl)
  have HN := hide hn
  have HL := hide hl
  clear ha hb z1 z2 hn hl
  go_enter Try.func17, Try.ntmps17
  go_wp2_with fail
  go_loop [4, 5, 6] (RpIn s) (fun _ _ i => s.size - (intOf i).toNat)
  case atStart => exact ⟨0, Nat.zero_le _, rfl, rfl, rfl⟩
  case round =>
    obtain ⟨k, hk, rfl, rfl, rfl⟩ := hrel
    by_cases hlt : k < s.size
    · have e1 := bytes_at s k hlt
      have e2 := byte_58 s[k]
      have c1 : cnt s.data.toList (k + 1) = if s.data.toList.getD k 0 = 58 then cnt s.data.toList k + 1 else cnt s.data.toList k := rfl
      have l1 : las s.data.toList (k + 1) = if s.data.toList.getD k 0 = 58 then (k : Int) else las s.data.toList k := rfl
      have cb := cnt_le s.data.toList k
      rw [e1] at c1 l1
      by_cases h58 : s[k] = 58
      · rw [if_pos h58] at c1 l1
        rw [show decide (s[k] = 58) = true by simpa using h58] at e2
        have C1 := hide c1
        have L1 := hide l1
        clear c1 l1 e1 h58
        generalize cnt s.data.toList k = cn at *
        generalize las s.data.toList k = ln at *
        go_wp2_with fail
        go_round
        case rel => exact ⟨k + 1, by omega, by go_num, by rw [L1.out], by rw [C1.out]; go_num⟩
        case measure => simp [intOf]; omega
      · rw [if_neg h58] at c1 l1
        rw [show decide (s[k] = 58) = false by simpa using h58] at e2
        have C1 := hide c1
        have L1 := hide l1
        clear c1 l1 e1 h58
        generalize cnt s.data.toList k = cn at *
        generalize las s.data.toList k = ln at *
        go_wp2_with fail
        go_round
        case rel => exact ⟨k + 1, by omega, by go_num, by rw [L1.out], by rw [C1.out]⟩
        case measure => simp [intOf]; omega
    · obtain rfl : k = s.size := by omega
      clear hk
      rw [HN.out, HL.out]
      have k1 : (p : Int) ≤ s.size := by omega
      have k2 : (p : Int) + 1 ≤ s.size := by omega
      have k3 : ((p : Int) + 1).toNat = p + 1 := by omega
      clear hlt
      go_wp2_with fail
      refine (P1.out _).mono ?_
      rintro e w1 ⟨rfl, hb1⟩
      go_wp2_with fail
      refine (P2.out _).mono ?_
      rintro e w2 ⟨rfl, hb2⟩
      go_wp2_with fail
      go_ret2
      exact ⟨rfl, hb1.trans (hb2.mono hb1.size)⟩
set_option maxHeartbeats 1000000 in
theorem rhp_wide (s : ByteArray) (p x g : Nat) (w : World) (hs : s.size ≤ 1000) (hp : p < s.size) (hn : cnt s.data.toList s.size = 1) (hl : las s.data.toList s.size = p)
    (ha : rdRes 10 (s.extract 0 p).data.toList = (x, 0)) (hb : rdRes 10 (s.extract (p + 1) s.size).data.toList = (g, 0)) (hx : 65535 < x) :
    Calls Try.prog 17 #[.string s] w fun e w' => e = .returned (.tuple #[.int .u64 0, .int .i64 5]) ∧ Below w.heap.size w w' := by
  have x3 : ((x : Int) == 0) = false := by rw [beq_eq_false_iff_ne]; omega
  have x2 : 65535 < (x : Int) := by omega
  clear hx
  have z1 : (s.extract 0 p).size ≤ 1000 := by rw [ByteArray.size_extract]; omega
  have z2 : (s.extract (p + 1) s.size).size ≤ 1000 := by rw [ByteArray.size_extract]; omega
  have P1 := hide (fun w => rread_any 10 (s.extract 0 p) w (by omega) z1)
  have P2 := hide (fun w => rread_any 10 (s.extract (p + 1) s.size) w (by omega) z2)
  rw [show ((10 : Nat) : Int) = 10 from rfl] at P1 P2
  rw [ha] at P1
  rw [hb] at P2
  simp only [] at P1 P2
  have E1 := hide (show s.extract 0 p = s.extract 0 p from rfl)
  have HN := hide hn
  have HL := hide hl
  clear ha hb z1 z2 hn hl
  go_enter Try.func17, Try.ntmps17
  go_wp2_with fail
  go_loop [4, 5, 6] (RpIn s) (fun _ _ i => s.size - (intOf i).toNat)
  case atStart => exact ⟨0, Nat.zero_le _, rfl, rfl, rfl⟩
  case round =>
    obtain ⟨k, hk, rfl, rfl, rfl⟩ := hrel
    by_cases hlt : k < s.size
    · have e1 := bytes_at s k hlt
      have e2 := byte_58 s[k]
      have c1 : cnt s.data.toList (k + 1) = if s.data.toList.getD k 0 = 58 then cnt s.data.toList k + 1 else cnt s.data.toList k := rfl
      have l1 : las s.data.toList (k + 1) = if s.data.toList.getD k 0 = 58 then (k : Int) else las s.data.toList k := rfl
      have cb := cnt_le s.data.toList k
      rw [e1] at c1 l1
      by_cases h58 : s[k] = 58
      · rw [if_pos h58] at c1 l1
        rw [show decide (s[k] = 58) = true by simpa using h58] at e2
        have C1 := hide c1
        have L1 := hide l1
        clear c1 l1 e1 h58
        generalize cnt s.data.toList k = cn at *
        generalize las s.data.toList k = ln at *
        go_wp2_with fail
        go_round
        case rel => exact ⟨k + 1, by omega, by go_num, by rw [L1.out], by rw [C1.out]; go_num⟩
        case measure => simp [intOf]; omega
      · rw [if_neg h58] at c1 l1
        rw [show decide (s[k] = 58) = false by simpa using h58] at e2
        have C1 := hide c1
        have L1 := hide l1
        clear c1 l1 e1 h58
        generalize cnt s.data.toList k = cn at *
        generalize las s.data.toList k = ln at *
        go_wp2_with fail
        go_round
        case rel => exact ⟨k + 1, by omega, by go_num, by rw [L1.out], by rw [C1.out]⟩
        case measure => simp [intOf]; omega
    · obtain rfl : k = s.size := by omega
      clear hk
      rw [HN.out, HL.out]
      have k1 : (p : Int) ≤ s.size := by omega
      have k2 : (p : Int) + 1 ≤ s.size := by omega
      have k3 : ((p : Int) + 1).toNat = p + 1 := by omega
      clear hlt
      go_wp2_with fail
      refine (P1.out _).mono ?_
      rintro e w1 ⟨rfl, hb1⟩
      go_wp2_with fail
      refine (P2.out _).mono ?_
      rintro e w2 ⟨rfl, hb2⟩
      go_wp2_with fail
      go_ret2
      exact ⟨rfl, hb1.trans (hb2.mono hb1.size)⟩
set_option maxHeartbeats 1000000 in
theorem rhp_gen (s : ByteArray) (p x g : Nat) (w : World) (hs : s.size ≤ 1000) (hp : p < s.size) (hn : cnt s.data.toList s.size = 1) (hl : las s.data.toList s.size = p)
    (ha : rdRes 10 (s.extract 0 p).data.toList = (x, 0)) (hb : rdRes 10 (s.extract (p + 1) s.size).data.toList = (g, 0)) (hx : 1 ≤ x ∧ x ≤ 65535) (hg : 16777215 < g) :
    Calls Try.prog 17 #[.string s] w fun e w' => e = .returned (.tuple #[.int .u64 0, .int .i64 5]) ∧ Below w.heap.size w w' := by
  have x3 : ((x : Int) == 0) = false := by rw [beq_eq_false_iff_ne]; omega
  have x1 : 1 ≤ (x : Int) := by omega
  have x2 : (x : Int) ≤ 65535 := by omega
  have g1 : 16777215 < (g : Int) := by omega
  clear hx hg
  have z1 : (s.extract 0 p).size ≤ 1000 := by rw [ByteArray.size_extract]; omega
  have z2 : (s.extract (p + 1) s.size).size ≤ 1000 := by rw [ByteArray.size_extract]; omega
  have P1 := hide (fun w => rread_any 10 (s.extract 0 p) w (by omega) z1)
  have P2 := hide (fun w => rread_any 10 (s.extract (p + 1) s.size) w (by omega) z2)
  rw [show ((10 : Nat) : Int) = 10 from rfl] at P1 P2
  rw [ha] at P1
  rw [hb] at P2
  simp only [] at P1 P2
  have E1 := hide (show s.extract 0 p = s.extract 0 p from rfl)
  have HN := hide hn
  have HL := hide hl
  clear ha hb z1 z2 hn hl
  go_enter Try.func17, Try.ntmps17
  go_wp2_with fail
  go_loop [4, 5, 6] (RpIn s) (fun _ _ i => s.size - (intOf i).toNat)
  case atStart => exact ⟨0, Nat.zero_le _, rfl, rfl, rfl⟩
  case round =>
    obtain ⟨k, hk, rfl, rfl, rfl⟩ := hrel
    by_cases hlt : k < s.size
    · have e1 := bytes_at s k hlt
      have e2 := byte_58 s[k]
      have c1 : cnt s.data.toList (k + 1) = if s.data.toList.getD k 0 = 58 then cnt s.data.toList k + 1 else cnt s.data.toList k := rfl
      have l1 : las s.data.toList (k + 1) = if s.data.toList.getD k 0 = 58 then (k : Int) else las s.data.toList k := rfl
      have cb := cnt_le s.data.toList k
      rw [e1] at c1 l1
      by_cases h58 : s[k] = 58
      · rw [if_pos h58] at c1 l1
        rw [show decide (s[k] = 58) = true by simpa using h58] at e2
        have C1 := hide c1
        have L1 := hide l1
        clear c1 l1 e1 h58
        generalize cnt s.data.toList k = cn at *
        generalize las s.data.toList k = ln at *
        go_wp2_with fail
        go_round
        case rel => exact ⟨k + 1, by omega, by go_num, by rw [L1.out], by rw [C1.out]; go_num⟩
        case measure => simp [intOf]; omega
      · rw [if_neg h58] at c1 l1
        rw [show decide (s[k] = 58) = false by simpa using h58] at e2
        have C1 := hide c1
        have L1 := hide l1
        clear c1 l1 e1 h58
        generalize cnt s.data.toList k = cn at *
        generalize las s.data.toList k = ln at *
        go_wp2_with fail
        go_round
        case rel => exact ⟨k + 1, by omega, by go_num, by rw [L1.out], by rw [C1.out]⟩
        case measure => simp [intOf]; omega
    · obtain rfl : k = s.size := by omega
      clear hk
      rw [HN.out, HL.out]
      have k1 : (p : Int) ≤ s.size := by omega
      have k2 : (p : Int) + 1 ≤ s.size := by omega
      have k3 : ((p : Int) + 1).toNat = p + 1 := by omega
      clear hlt
      go_wp2_with fail
      refine (P1.out _).mono ?_
      rintro e w1 ⟨rfl, hb1⟩
      go_wp2_with fail
      refine (P2.out _).mono ?_
      rintro e w2 ⟨rfl, hb2⟩
      go_wp2_with fail
      go_ret2
      exact ⟨rfl, hb1.trans (hb2.mono hb1.size)⟩
set_option maxHeartbeats 1000000 in
theorem rhp_ok (s : ByteArray) (p x g : Nat) (w : World) (hs : s.size ≤ 1000) (hp : p < s.size) (hn : cnt s.data.toList s.size = 1) (hl : las s.data.toList s.size = p)
    (ha : rdRes 10 (s.extract 0 p).data.toList = (x, 0)) (hb : rdRes 10 (s.extract (p + 1) s.size).data.toList = (g, 0)) (hx : 1 ≤ x ∧ x ≤ 65535) (hg : g ≤ 16777215) :
    Calls Try.prog 17 #[.string s] w fun e w' => e = .returned (.tuple #[.int .u64 (hmk g x), .int .i64 0]) ∧ Below w.heap.size w w' := by
  have Mh := hide (fun w => rhm_any (g : Int) (x : Int) w ⟨by omega, by omega⟩ ⟨by omega, by omega⟩)
  generalize hmk (g : Int) (x : Int) = R at *
  have x3 : ((x : Int) == 0) = false := by rw [beq_eq_false_iff_ne]; omega
  have x1 : 1 ≤ (x : Int) := by omega
  have x2 : (x : Int) ≤ 65535 := by omega
  have g1 : (g : Int) ≤ 16777215 := by omega
  clear hx hg
  have z1 : (s.extract 0 p).size ≤ 1000 := by rw [ByteArray.size_extract]; omega
  have z2 : (s.extract (p + 1) s.size).size ≤ 1000 := by rw [ByteArray.size_extract]; omega
  have P1 := hide (fun w => rread_any 10 (s.extract 0 p) w (by omega) z1)
  have P2 := hide (fun w => rread_any 10 (s.extract (p + 1) s.size) w (by omega) z2)
  rw [show ((10 : Nat) : Int) = 10 from rfl] at P1 P2
  rw [ha] at P1
  rw [hb] at P2
  simp only [] at P1 P2
  have E1 := hide (show s.extract 0 p = s.extract 0 p from rfl)
  have HN := hide hn
  have HL := hide hl
  clear ha hb z1 z2 hn hl
  go_enter Try.func17, Try.ntmps17
  go_wp2_with fail
  go_loop [4, 5, 6] (RpIn s) (fun _ _ i => s.size - (intOf i).toNat)
  case atStart => exact ⟨0, Nat.zero_le _, rfl, rfl, rfl⟩
  case round =>
    obtain ⟨k, hk, rfl, rfl, rfl⟩ := hrel
    by_cases hlt : k < s.size
    · have e1 := bytes_at s k hlt
      have e2 := byte_58 s[k]
      have c1 : cnt s.data.toList (k + 1) = if s.data.toList.getD k 0 = 58 then cnt s.data.toList k + 1 else cnt s.data.toList k := rfl
      have l1 : las s.data.toList (k + 1) = if s.data.toList.getD k 0 = 58 then (k : Int) else las s.data.toList k := rfl
      have cb := cnt_le s.data.toList k
      rw [e1] at c1 l1
      by_cases h58 : s[k] = 58
      · rw [if_pos h58] at c1 l1
        rw [show decide (s[k] = 58) = true by simpa using h58] at e2
        have C1 := hide c1
        have L1 := hide l1
        clear c1 l1 e1 h58
        generalize cnt s.data.toList k = cn at *
        generalize las s.data.toList k = ln at *
        go_wp2_with fail
        go_round
        case rel => exact ⟨k + 1, by omega, by go_num, by rw [L1.out], by rw [C1.out]; go_num⟩
        case measure => simp [intOf]; omega
      · rw [if_neg h58] at c1 l1
        rw [show decide (s[k] = 58) = false by simpa using h58] at e2
        have C1 := hide c1
        have L1 := hide l1
        clear c1 l1 e1 h58
        generalize cnt s.data.toList k = cn at *
        generalize las s.data.toList k = ln at *
        go_wp2_with fail
        go_round
        case rel => exact ⟨k + 1, by omega, by go_num, by rw [L1.out], by rw [C1.out]⟩
        case measure => simp [intOf]; omega
    · obtain rfl : k = s.size := by omega
      clear hk
      rw [HN.out, HL.out]
      have k1 : (p : Int) ≤ s.size := by omega
      have k2 : (p : Int) + 1 ≤ s.size := by omega
      have k3 : ((p : Int) + 1).toNat = p + 1 := by omega
      clear hlt
      go_wp2_with fail
      refine (P1.out _).mono ?_
      rintro e w1 ⟨rfl, hb1⟩
      go_wp2_with fail
      refine (P2.out _).mono ?_
      rintro e w2 ⟨rfl, hb2⟩
      go_wp2_with fail
      refine (Mh.out _).mono ?_
      rintro e w' ⟨rfl, rfl⟩
      go_wp2_with fail
      go_ret2
      exact ⟨rfl, hb1.trans (hb2.mono hb1.size)⟩

theorem rhp_one (s : ByteArray) (k : Nat) (w : World) (hs : s.size ≤ 1000) (hk : k < s.size) (hn : cnt s.data.toList s.size = 1) (hl : las s.data.toList s.size = k) :
    Calls Try.prog 17 #[.string s] w fun e w' => e = .returned (.tuple #[.int .u64 (hpRes (s.extract 0 k).data.toList (s.extract (k + 1) s.size).data.toList).1, .int .i64 (hpRes (s.extract 0 k).data.toList (s.extract (k + 1) s.size).data.toList).2]) ∧ Below w.heap.size w w' := by
  obtain ⟨x, e1, ha⟩ : ∃ x e, rdRes 10 (s.extract 0 k).data.toList = (x, e) := ⟨_, _, rfl⟩
  obtain ⟨g, e2, hb⟩ : ∃ x e, rdRes 10 (s.extract (k + 1) s.size).data.toList = (x, e) := ⟨_, _, rfl⟩
  unfold hpRes
  rw [ha, hb]
  simp only []
  by_cases h1 : e1 = 0
  · subst h1
    rw [if_neg (by simp)]
    by_cases h2 : e2 = 0
    · subst h2
      rw [if_neg (by simp)]
      by_cases h3 : x = 0
      · subst h3
        rw [if_pos (.inl rfl)]
        exact rhp_zero s k g w hs hk hn hl ha hb
      by_cases h4 : 65535 < x
      · rw [if_pos (.inr (.inl h4))]
        exact rhp_wide s k x g w hs hk hn hl ha hb h4
      by_cases h5 : 16777215 < g
      · rw [if_pos (.inr (.inr h5))]
        exact rhp_gen s k x g w hs hk hn hl ha hb (by omega) h5
      rw [if_neg (by omega)]
      exact rhp_ok s k x g w hs hk hn hl ha hb (by omega) (by omega)
    · rw [if_pos h2]
      exact rhp_f s k x g e2 w hs hk hn hl ha hb h2
  · rw [if_pos h1]
    exact rhp_e s k x g e1 e2 w hs hk hn hl ha hb h1

/-- Both answer alike. -/
theorem hp_both (s : ByteArray) (hs : s.size ≤ 1000) : ∃ v e : Int,
    (∀ w, Calls Try.prog 16 #[.string s] w fun r w' => r = .returned (.tuple #[.int .u64 v, .int .i64 e]) ∧ Below w.heap.size w w') ∧
    (∀ w, Calls Try.prog 17 #[.string s] w fun r w' => r = .returned (.tuple #[.int .u64 v, .int .i64 e]) ∧ Below w.heap.size w w') := by
  have hl : s.data.toList.length = s.size := Array.length_toList
  rcases ix_cases 58 s.data.toList with ⟨h1, h2⟩ | ⟨k, h1, h2, h3, h4⟩
  · refine ⟨0, 4, fun w => hparse_none s w h1, fun w => rhp_not s w hs ?_⟩
    rw [(cnt_none s.data.toList s.size (fun i hi => h2 i (by omega))).1]
    omega
  · have hd : (s.extract (k + 1) s.size).data.toList = s.data.toList.drop (k + 1) := by
      rw [Lib.extract_data]
      exact List.take_of_length_le (by rw [List.length_drop]; omega)
    have hg : ∀ i, (s.data.toList.drop (k + 1)).getD i 0 = s.data.toList.getD (k + 1 + i) 0 := fun i => by
      simp [List.getD_eq_getElem?_getD, List.getElem?_drop]
    rcases ix_cases 58 (s.data.toList.drop (k + 1)) with ⟨g1, g2⟩ | ⟨j, g1, g2, g3, g4⟩
    · have hone := cnt_one s.data.toList k h3 (fun i hi => by
        rcases Nat.lt_trichotomy i k with h | h | h
        · exact h4 i h
        · exact absurd h hi
        · by_cases hb : i < s.size
          · have := g2 (i - (k + 1)) (by rw [List.length_drop]; omega)
            rw [hg, show k + 1 + (i - (k + 1)) = i by omega] at this
            exact this
          · rw [List.getD_eq_getElem?_getD, List.getElem?_eq_none (by omega)]
            decide) s.size (by omega)
      exact ⟨_, _, fun w => hparse_one s k w hs (by omega) h2 (by unfold colon; rw [hd]; exact g1), fun w => rhp_one s k w hs (by omega) hone.1 hone.2⟩
    · refine ⟨0, 4, fun w => hparse_two s k w hs (by omega) h2 (by unfold colon; rw [hd, g2]; omega), fun w => rhp_not s w hs ?_⟩
      rw [List.length_drop] at g1
      rw [hg] at g3
      have := cnt_ge2 s.data.toList k (k + 1 + j) h3 g3 (by omega) s.size (by omega)
      omega

set_option maxHeartbeats 400000 in
theorem rhtext_any (h : Int) (w : World) (hh : W64 h) : Calls Try.prog 19 #[.int .u64 h] w fun e w' => e = .returned (.string (htx h)) ∧ Below w.heap.size w w' := by
  have Gn := hide (fun w => rhg_any h w hh)
  have b : 0 ≤ hsl h ∧ hsl h < 65536 := by unfold hsl; omega
  have b' : 0 ≤ hgn h ∧ hgn h < 16777216 := by unfold hgn; omega
  obtain ⟨m, hm⟩ := Int.eq_ofNat_of_zero_le b.1
  obtain ⟨n, hn⟩ := Int.eq_ofNat_of_zero_le b'.1
  have In := hide (fun w => rform_any 10 m w (by omega) (by omega))
  have Tx := hide (fun w => rform_any 10 n w (by omega) (by omega))
  rw [← hn, show ((10 : Nat) : Int) = 10 from rfl] at Tx
  rw [← hm, show ((10 : Nat) : Int) = 10 from rfl] at In
  have E := hide (show htx h = (strOfNums (form 10 m) ++ ⟨#[58]⟩) ++ strOfNums (form 10 n) by
    unfold htx
    rw [hm, hn, Int.toNat_natCast, Int.toNat_natCast])
  have z1 := form_size 10 m
  have z2 := form_size 10 n
  have t1 : h.tmod 65536 = hsl h := Int.tmod_eq_emod_of_nonneg hh.1
  have t2 : h % 65536 = hsl h := rfl
  clear hm hn b b'
  generalize htx h = R at *
  generalize strOfNums (form 10 m) = s1 at *
  generalize strOfNums (form 10 n) = s2 at *
  have z3 : (s1 ++ (⟨#[58]⟩ : ByteArray)).size ≤ 65 := by
    rw [ByteArray.size_append]
    show s1.size + 1 ≤ 65
    omega
  generalize hsl h = sv at *
  generalize hgn h = gv at *
  obtain ⟨h1, h2⟩ := hh
  go_enter Try.func19, Try.ntmps19
  go_wp2_with fail
  refine (In.out _).mono ?_
  rintro e w1 ⟨rfl, hb1⟩
  go_wp2_with fail
  refine (Gn.out _).mono ?_
  rintro e w' ⟨rfl, rfl⟩
  go_wp2_with fail
  refine (Tx.out _).mono ?_
  rintro e w2 ⟨rfl, hb2⟩
  go_wp2_with fail
  go_ret
  exact ⟨by rw [E.out]; rfl, hb1.trans (hb2.mono hb1.size)⟩

set_option maxHeartbeats 1000000 in
theorem HandleTexts_calls (h : Int) (s : ByteArray) (w : World) (hh : W64 h) (hs63 : s.size ≤ 9223372036854775807) :
    Calls Try.prog 4 #[.int .u64 h, .string s] w fun e w' => e = .returned (.bool true) ∧ Below w.heap.size w w' := by
  have Aw := hide awake03
  by_cases hbig : 100 < s.size
  · have hbI : (100 : Int) < s.size := by omega
    clear hbig
    go_enter Try.func4, Try.ntmps4
    go_wp2_with fail
    refine (Aw.out _).mono ?_
    rintro e w1 ⟨rfl, hb1⟩
    go_wp2_with fail
    go_ret
    exact ⟨rfl, hb1⟩
  have hs : s.size ≤ 100 := by omega
  obtain ⟨v, e, hA, hB⟩ := hp_both s (by omega)
  have P := hide hA
  have R := hide hB
  have T := hide (fun w => htext_any h w hh)
  have rT := hide (fun w => rhtext_any h w hh)
  clear hA hB hs63 hbig
  generalize htx h = t at *
  go_enter Try.func4, Try.ntmps4
  go_wp2_with fail
  refine (P.out _).mono ?_
  rintro e w1 ⟨rfl, hb1⟩
  go_wp2_with fail
  refine (R.out _).mono ?_
  rintro e w2 ⟨rfl, hb2⟩
  go_wp2_with fail
  refine (T.out _).mono ?_
  rintro e w3 ⟨rfl, hb3⟩
  go_wp2_with fail
  refine (rT.out _).mono ?_
  rintro e w4 ⟨rfl, hb4⟩
  go_wp2_with fail
  refine (Aw.out _).mono ?_
  rintro e w5 ⟨rfl, hb5⟩
  go_wp2_with fail
  go_ret
  have B2 := hb1.trans (hb2.mono hb1.size)
  have B3 := B2.trans (hb3.mono B2.size)
  have B4 := B3.trans (hb4.mono B3.size)
  exact ⟨rfl, B4.trans (hb5.mono B4.size)⟩
end Go.Proofs.Ythpgoglhccoeeaa
