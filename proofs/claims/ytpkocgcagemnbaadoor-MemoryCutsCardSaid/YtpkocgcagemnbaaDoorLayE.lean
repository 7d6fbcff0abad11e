/-
  gleaningref08.Place.
-/
import Derived.Test.YtpkocgcagemnbaaDoorLayD
namespace Go.Proofs.YtpkocgcagemnbaaDoor
open Go.RowKit

set_option maxHeartbeats 1000000 in
theorem rplace_wrong (s t f l p a : Int) (w : World) (hc : cfgOk s t f l p = false) :
    Calls Tryd.prog 15 #[.agg #[.int .i64 s, .int .i64 t, .int .i64 f, .int .i64 l, .int .i64 p], .int .i64 a] w fun e w' => e = .returned (.tuple #[.int .i64 0, .int .i64 0, .int .i64 0]) ∧ Below w.heap.size w w' := by
  have C := hide (fun w2 => rsize_any s t f l p w2)
  rw [show rSize s t f l p = 0 by unfold rSize; rw [hc]; rfl] at C
  have B0 := (Below.refl w.heap.size w).alloc (Nat.le_refl _) (.cells #[.int .i64 s, .int .i64 t, .int .i64 f, .int .i64 l, .int .i64 p] 23)
  have bx := Blk.new w 23 #[.int .i64 s, .int .i64 t, .int .i64 f, .int .i64 l, .int .i64 p]
  clear hc
  by_cases c0 : a < 0
  · go_enter Tryd.func15, Tryd.ntmps15
    go_wp2_with fail
    go_ret3
    exact ⟨rfl, B0⟩
  · go_enter Tryd.func15, Tryd.ntmps15
    go_wp2_with fail
    refine (C.out _).mono ?_
    rintro e w1 ⟨rfl, hb1⟩
    go_wp2_with fail
    go_ret3
    exact ⟨rfl, B0.trans (hb1.mono B0.size)⟩
set_option maxHeartbeats 1000000 in
theorem rplace_out (s t f l p a : Int) (w : World) (hc : cfgOk s t f l p = true) (hs : 1 ≤ s ∧ s ≤ 1000) (ht : 1 ≤ t ∧ t ≤ 64) (hf : 4 ≤ f ∧ f ≤ 64) (h : a < 0 ∨ laySize s t f ≤ a) :
    Calls Tryd.prog 15 #[.agg #[.int .i64 s, .int .i64 t, .int .i64 f, .int .i64 l, .int .i64 p], .int .i64 a] w fun e w' => e = .returned (.tuple #[.int .i64 0, .int .i64 0, .int .i64 0]) ∧ Below w.heap.size w w' := by
  have C := hide (fun w2 => rsize_any s t f l p w2)
  rw [show rSize s t f l p = laySize s t f by unfold rSize; rw [hc]; rfl] at C
  have z := size_pos hs ht hf
  have bx := Blk.new w 23 #[.int .i64 s, .int .i64 t, .int .i64 f, .int .i64 l, .int .i64 p]
  have B0 := (Below.refl w.heap.size w).alloc (Nat.le_refl _) (.cells #[.int .i64 s, .int .i64 t, .int .i64 f, .int .i64 l, .int .i64 p] 23)
  clear hc z
  generalize laySize s t f = R at *
  by_cases c0 : a < 0
  · clear h
    go_enter Tryd.func15, Tryd.ntmps15
    go_wp2_with fail
    go_ret3
    exact ⟨rfl, B0⟩
  · have h2 : R ≤ a := by omega
    clear h
    go_enter Tryd.func15, Tryd.ntmps15
    go_wp2_with fail
    refine (C.out _).mono ?_
    rintro e w1 ⟨rfl, hb1⟩
    go_wp2_with fail
    go_ret3
    exact ⟨rfl, B0.trans (hb1.mono B0.size)⟩
set_option maxHeartbeats 1000000 in
theorem rplace_3 (s t f l p a : Int) (w : World) (hc : cfgOk s t f l p = true) (hs : 1 ≤ s ∧ s ≤ 1000) (ht : 1 ≤ t ∧ t ≤ 64) (hf : 4 ≤ f ∧ f ≤ 64) (h0 : 0 ≤ a) (h1 : a < 3) :
    Calls Tryd.prog 15 #[.agg #[.int .i64 s, .int .i64 t, .int .i64 f, .int .i64 l, .int .i64 p], .int .i64 a] w fun e w' => e = .returned (.tuple #[.int .i64 (a + 1), .int .i64 0, .int .i64 0]) ∧ Below w.heap.size w w' := by
  have C := hide (fun w2 => rsize_any s t f l p w2)
  rw [show rSize s t f l p = laySize s t f by unfold rSize; rw [hc]; rfl] at C
  have z := size_pos hs ht hf
  have bx := Blk.new w 23 #[.int .i64 s, .int .i64 t, .int .i64 f, .int .i64 l, .int .i64 p]
  have B0 := (Below.refl w.heap.size w).alloc (Nat.le_refl _) (.cells #[.int .i64 s, .int .i64 t, .int .i64 f, .int .i64 l, .int .i64 p] 23)
  have hR : a < laySize s t f := by omega
  clear hc z
  generalize laySize s t f = R at *
  go_enter Tryd.func15, Tryd.ntmps15
  go_wp2_with fail
  refine (C.out _).mono ?_
  rintro e w1 ⟨rfl, hb1⟩
  replace bx := bx.below hb1 bx.lt
  replace B0 := B0.trans (hb1.mono B0.size)
  clear hb1
  have mx := fun i => bx.cell i
  go_wp2_with fail
  go_ret3
  exact ⟨rfl, B0⟩
def PlA (t d : Int) (n i : Value) : Prop := ∃ k : Nat, (k : Int) ≤ t ∧ (k : Int) ≤ d ∧ n = .int .i64 (3 + k) ∧ i = .int .i64 k
set_option maxHeartbeats 1000000 in
theorem rplace_4 (s t f l p d : Int) (w : World) (hc : cfgOk s t f l p = true) (hs : 1 ≤ s ∧ s ≤ 1000) (ht : 1 ≤ t ∧ t ≤ 64) (hf : 4 ≤ f ∧ f ≤ 64) (h0 : 0 ≤ d) (h1 : d < t) :
    Calls Tryd.prog 15 #[.agg #[.int .i64 s, .int .i64 t, .int .i64 f, .int .i64 l, .int .i64 p], .int .i64 (3 + d)] w fun e w' => e = .returned (.tuple #[.int .i64 4, .int .i64 d, .int .i64 0]) ∧ Below w.heap.size w w' := by
  have C := hide (fun w2 => rsize_any s t f l p w2)
  rw [show rSize s t f l p = laySize s t f by unfold rSize; rw [hc]; rfl] at C
  have z := size_pos hs ht hf
  have bx := Blk.new w 23 #[.int .i64 s, .int .i64 t, .int .i64 f, .int .i64 l, .int .i64 p]
  have B0 := (Below.refl w.heap.size w).alloc (Nat.le_refl _) (.cells #[.int .i64 s, .int .i64 t, .int .i64 f, .int .i64 l, .int .i64 p] 23)
  have hR : 3 + d < laySize s t f := by omega
  have ht2 : t ≤ 64 := ht.2
  clear hc z hs ht hf
  generalize laySize s t f = R at *
  go_enter Tryd.func15, Tryd.ntmps15
  go_wp2_with fail
  refine (C.out _).mono ?_
  rintro e w1 ⟨rfl, hb1⟩
  replace bx := bx.below hb1 bx.lt
  replace B0 := B0.trans (hb1.mono B0.size)
  clear hb1
  have mx := fun i => bx.cell i
  go_wp2_with fail
  go_loop [7, 8] (PlA t d) (fun _ i => 100 - (intOf i).toNat)
  case atStart => exact ⟨0, by omega, by omega, rfl, rfl⟩
  case round =>
    obtain ⟨k, hk, hkd, rfl, rfl⟩ := hrel
    have hkt : (k : Int) < t := by omega
    by_cases e : d = k
    · subst e
      go_wp2_with fail
      go_ret3
      exact ⟨rfl, B0⟩
    · have q : (3 + d == 3 + (k : Int)) = false := by rw [beq_eq_false_iff_ne]; omega
      have hkd2 : (k : Int) < d := by omega
      clear e hkd
      go_wp2_with fail
      go_round
      case rel => exact ⟨k + 1, by omega, by omega, by go_num, by go_num⟩
      case measure => simp [intOf]; omega
def PlB (t d : Int) (n i : Value) : Prop := ∃ k : Nat, (k : Int) ≤ t ∧ (k : Int) ≤ d ∧ n = .int .i64 (3 + t + 2 * k) ∧ i = .int .i64 k
def PlC (b : Int) (P : Prop) (m : Int) (n i : Value) : Prop := ∃ j : Nat, (j : Int) ≤ 2 ∧ (P → (j : Int) ≤ m) ∧ n = .int .i64 (b + j) ∧ i = .int .i64 j
set_option maxHeartbeats 2000000 in
theorem rplace_5 (s t f l p d e : Int) (w : World) (hc : cfgOk s t f l p = true) (hs : 1 ≤ s ∧ s ≤ 1000) (ht : 1 ≤ t ∧ t ≤ 64) (hf : 4 ≤ f ∧ f ≤ 64) (h0 : 0 ≤ d) (h1 : d < t) (h2 : 0 ≤ e) (h3 : e < 2) :
    Calls Tryd.prog 15 #[.agg #[.int .i64 s, .int .i64 t, .int .i64 f, .int .i64 l, .int .i64 p], .int .i64 (3 + t + 2 * d + e)] w fun e' w' => e' = .returned (.tuple #[.int .i64 5, .int .i64 d, .int .i64 e]) ∧ Below w.heap.size w w' := by
  have C := hide (fun w2 => rsize_any s t f l p w2)
  rw [show rSize s t f l p = laySize s t f by unfold rSize; rw [hc]; rfl] at C
  have z := size_pos hs ht hf
  have bx := Blk.new w 23 #[.int .i64 s, .int .i64 t, .int .i64 f, .int .i64 l, .int .i64 p]
  have B0 := (Below.refl w.heap.size w).alloc (Nat.le_refl _) (.cells #[.int .i64 s, .int .i64 t, .int .i64 f, .int .i64 l, .int .i64 p] 23)
  have hR : 3 + t + 2 * d + e < laySize s t f := by omega
  have hR0 : 0 ≤ 3 + t + 2 * d + e := by omega
  have hR3 : 3 ≤ 3 + t + 2 * d + e := by omega
  have ht2 : t ≤ 64 := ht.2
  have ht1 : 1 ≤ t := ht.1
  clear hc z hs ht hf
  generalize laySize s t f = R at *
  go_enter Tryd.func15, Tryd.ntmps15
  go_wp2_with fail
  refine (C.out _).mono ?_
  rintro e w1 ⟨rfl, hb1⟩
  replace bx := bx.below hb1 bx.lt
  replace B0 := B0.trans (hb1.mono B0.size)
  clear hb1
  have mx := fun i => bx.cell i
  go_wp2_with fail
  go_loop [7, 8] (PlA t t) (fun _ i => 100 - (intOf i).toNat)
  case atStart => exact ⟨0, by omega, by omega, rfl, rfl⟩
  case round =>
  obtain ⟨k, hk, _, rfl, rfl⟩ := hrel
  by_cases hkt : (k : Int) < t
  · have q : (3 + t + 2 * d + e == 3 + (k : Int)) = false := by rw [beq_eq_false_iff_ne]; omega
    go_wp2_with fail
    go_round
    case rel => exact ⟨k + 1, by omega, by omega, by go_num, by go_num⟩
    case measure => simp [intOf]; omega
  obtain rfl : t = (k : Int) := by omega
  clear hk
  go_wp2_with fail
  go_loop [7, 9, 10] (fun n i _ => PlB (k : Int) d n i) (fun _ i _ => 100 - (intOf i).toNat)
  case atStart => exact ⟨0, by omega, by omega, by first | rfl | go_num, rfl⟩
  case round =>
    obtain ⟨k2, hk2, hkd, rfl, rfl⟩ := hrel
    have hkt2 : (k2 : Int) < (k : Int) := by omega
    go_wp2_with fail
    go_loop [7, 10] (PlC (3 + (k : Int) + 2 * k2) ((k2 : Int) = d) e) (fun _ i => 100 - (intOf i).toNat)
    case atStart => exact ⟨0, by omega, fun _ => by omega, by first | rfl | go_num, rfl⟩
    case round =>
      obtain ⟨j, hj, hje, rfl, rfl⟩ := hrel
      by_cases hj2 : (j : Int) < 2
      · by_cases c : (k2 : Int) = d ∧ (j : Int) = e
        · obtain ⟨rfl, rfl⟩ := c
          clear hje
          go_wp2_with fail
          go_ret3
          exact ⟨rfl, B0⟩
        · have q : (3 + (k : Int) + 2 * d + e == 3 + (k : Int) + 2 * (k2 : Int) + (j : Int)) = false := by rw [beq_eq_false_iff_ne]; omega
          have HJ := hide (show (k2 : Int) = d → ((j + 1 : Nat) : Int) ≤ e from fun h => by have := hje h; omega)
          clear hje c
          go_wp2_with fail
          go_round
          case rel => exact ⟨j + 1, by omega, HJ.out, by go_num, by go_num⟩
          case measure => simp [intOf]; omega
      · have hne : (k2 : Int) < d := by
          by_cases h : (k2 : Int) = d
          · have := hje h; omega
          · omega
        obtain rfl : j = 2 := by omega
        clear hje hkd
        go_wp2_with fail
        go_round
        case rel => exact ⟨k2 + 1, by omega, by omega, by go_num, by go_num⟩
        case measure => simp [intOf]; omega
set_option maxHeartbeats 2000000 in
theorem rplace_6 (s t f l p m : Int) (w : World) (hc : cfgOk s t f l p = true) (hs : 1 ≤ s ∧ s ≤ 1000) (ht : 1 ≤ t ∧ t ≤ 64) (hf : 4 ≤ f ∧ f ≤ 64) (h0 : 0 ≤ m) (h1 : m < (s + 1) * (3 + 2 * f)) (hm : m % (3 + 2 * f) < 3) :
    Calls Tryd.prog 15 #[.agg #[.int .i64 s, .int .i64 t, .int .i64 f, .int .i64 l, .int .i64 p], .int .i64 (3 + 3 * t + m)] w fun e' w' => e' = .returned (.tuple #[.int .i64 (6 + m % (3 + 2 * f)), .int .i64 (m / (3 + 2 * f)), .int .i64 0]) ∧ Below w.heap.size w w' := by
  have C := hide (fun w2 => rsize_any s t f l p w2)
  rw [show rSize s t f l p = laySize s t f by unfold rSize; rw [hc]; rfl] at C
  have z := size_pos hs ht hf
  have bx := Blk.new w 23 #[.int .i64 s, .int .i64 t, .int .i64 f, .int .i64 l, .int .i64 p]
  have B0 := (Below.refl w.heap.size w).alloc (Nat.le_refl _) (.cells #[.int .i64 s, .int .i64 t, .int .i64 f, .int .i64 l, .int .i64 p] 23)
  have hR : 3 + 3 * t + m < laySize s t f := by unfold laySize; omega
  have hR2 : 3 + 3 * t + m ≤ 200000 := by omega
  have hR3 : 3 ≤ 3 + 3 * t + m := by omega
  have ht2 : t ≤ 64 := ht.2
  have ht1 : 1 ≤ t := ht.1
  have f1 : 4 ≤ f := hf.1
  have f2 : f ≤ 64 := hf.2
  have q0 : 0 ≤ m % (3 + 2 * f) := Int.emod_nonneg _ (by omega)
  have q1 : m % (3 + 2 * f) < 3 + 2 * f := Int.emod_lt_of_pos _ (by omega)
  have q2 : 0 ≤ m / (3 + 2 * f) := Int.ediv_nonneg h0 (by omega)
  have q3 : m / (3 + 2 * f) ≤ m := Int.ediv_le_self _ h0
  have q4 : m.tdiv (3 + 2 * f) = m / (3 + 2 * f) := Int.tdiv_eq_ediv_of_nonneg h0
  have q5 : m.tmod (3 + 2 * f) = m % (3 + 2 * f) := Int.tmod_eq_emod_of_nonneg h0
  have q6 : (3 + 2 * f == 0) = false := by rw [beq_eq_false_iff_ne]; omega
  have q7 : ¬ (3 + 2 * f = 0) := by omega
  clear hc z hs ht hf h1
  generalize laySize s t f = R at *
  generalize m % (3 + 2 * f) = j at *
  generalize m / (3 + 2 * f) = o at *
  go_enter Tryd.func15, Tryd.ntmps15
  go_wp2_with fail
  refine (C.out _).mono ?_
  rintro e w1 ⟨rfl, hb1⟩
  replace bx := bx.below hb1 bx.lt
  replace B0 := B0.trans (hb1.mono B0.size)
  clear hb1
  have mx := fun i => bx.cell i
  go_wp2_with fail
  go_loop [7, 8] (PlA t t) (fun _ i => 100 - (intOf i).toNat)
  case atStart => exact ⟨0, by omega, by omega, rfl, rfl⟩
  case round =>
  obtain ⟨k, hk, _, rfl, rfl⟩ := hrel
  by_cases hkt : (k : Int) < t
  · have q : (3 + 3 * t + m == 3 + (k : Int)) = false := by rw [beq_eq_false_iff_ne]; omega
    go_wp2_with fail
    go_round
    case rel => exact ⟨k + 1, by omega, by omega, by go_num, by go_num⟩
    case measure => simp [intOf]; omega
  obtain rfl : t = (k : Int) := by omega
  clear hk
  go_wp2_with fail
  go_loop [7, 9, 10] (fun n i _ => PlB (k : Int) (k : Int) n i) (fun _ i _ => 100 - (intOf i).toNat)
  case atStart => exact ⟨0, by omega, by omega, by first | rfl | go_num, rfl⟩
  case round =>
  obtain ⟨k2, hk2, _, rfl, rfl⟩ := hrel
  by_cases hkt2 : (k2 : Int) < (k : Int)
  · go_wp2_with fail
    go_loop [7, 10] (PlC (3 + (k : Int) + 2 * k2) False 0) (fun _ i => 100 - (intOf i).toNat)
    case atStart => exact ⟨0, by omega, fun h => h.elim, by first | rfl | go_num, rfl⟩
    case round =>
      obtain ⟨j, hj, _, rfl, rfl⟩ := hrel
      by_cases hj2 : (j : Int) < 2
      · have q : (3 + 3 * (k : Int) + m == 3 + (k : Int) + 2 * (k2 : Int) + (j : Int)) = false := by rw [beq_eq_false_iff_ne]; omega
        go_wp2_with fail
        go_round
        case rel => exact ⟨j + 1, by omega, fun h => h.elim, by go_num, by go_num⟩
        case measure => simp [intOf]; omega
      · obtain rfl : j = 2 := by omega
        go_wp2_with fail
        go_round
        case rel => exact ⟨k2 + 1, by omega, by omega, by go_num, by go_num⟩
        case measure => simp [intOf]; omega
  obtain rfl : k2 = k := by omega
  clear hk2 hkt2
  have q8 : 3 + 3 * (k2 : Int) + m - (3 + (k2 : Int) + 2 * (k2 : Int)) = m := by omega
  go_wp2_with fail
  go_ret3; exact ⟨rfl, B0⟩
set_option maxHeartbeats 2000000 in
theorem rplace_9 (s t f l p m : Int) (w : World) (hc : cfgOk s t f l p = true) (hs : 1 ≤ s ∧ s ≤ 1000) (ht : 1 ≤ t ∧ t ≤ 64) (hf : 4 ≤ f ∧ f ≤ 64) (h0 : 0 ≤ m) (h1 : m < (s + 1) * (3 + 2 * f)) (hm : 3 ≤ m % (3 + 2 * f) ∧ m % (3 + 2 * f) < 3 + f) :
    Calls Tryd.prog 15 #[.agg #[.int .i64 s, .int .i64 t, .int .i64 f, .int .i64 l, .int .i64 p], .int .i64 (3 + 3 * t + m)] w fun e' w' => e' = .returned (.tuple #[.int .i64 9, .int .i64 (m / (3 + 2 * f)), .int .i64 (m % (3 + 2 * f) - 3)]) ∧ Below w.heap.size w w' := by
  have C := hide (fun w2 => rsize_any s t f l p w2)
  rw [show rSize s t f l p = laySize s t f by unfold rSize; rw [hc]; rfl] at C
  have z := size_pos hs ht hf
  have bx := Blk.new w 23 #[.int .i64 s, .int .i64 t, .int .i64 f, .int .i64 l, .int .i64 p]
  have B0 := (Below.refl w.heap.size w).alloc (Nat.le_refl _) (.cells #[.int .i64 s, .int .i64 t, .int .i64 f, .int .i64 l, .int .i64 p] 23)
  have hR : 3 + 3 * t + m < laySize s t f := by unfold laySize; omega
  have hR2 : 3 + 3 * t + m ≤ 200000 := by omega
  have hR3 : 3 ≤ 3 + 3 * t + m := by omega
  have ht2 : t ≤ 64 := ht.2
  have ht1 : 1 ≤ t := ht.1
  have f1 : 4 ≤ f := hf.1
  have f2 : f ≤ 64 := hf.2
  have q0 : 0 ≤ m % (3 + 2 * f) := Int.emod_nonneg _ (by omega)
  have q1 : m % (3 + 2 * f) < 3 + 2 * f := Int.emod_lt_of_pos _ (by omega)
  have q2 : 0 ≤ m / (3 + 2 * f) := Int.ediv_nonneg h0 (by omega)
  have q3 : m / (3 + 2 * f) ≤ m := Int.ediv_le_self _ h0
  have q4 : m.tdiv (3 + 2 * f) = m / (3 + 2 * f) := Int.tdiv_eq_ediv_of_nonneg h0
  have q5 : m.tmod (3 + 2 * f) = m % (3 + 2 * f) := Int.tmod_eq_emod_of_nonneg h0
  have q6 : (3 + 2 * f == 0) = false := by rw [beq_eq_false_iff_ne]; omega
  have q7 : ¬ (3 + 2 * f = 0) := by omega
  clear hc z hs ht hf h1
  generalize laySize s t f = R at *
  generalize m % (3 + 2 * f) = j at *
  generalize m / (3 + 2 * f) = o at *
  go_enter Tryd.func15, Tryd.ntmps15
  go_wp2_with fail
  refine (C.out _).mono ?_
  rintro e w1 ⟨rfl, hb1⟩
  replace bx := bx.below hb1 bx.lt
  replace B0 := B0.trans (hb1.mono B0.size)
  clear hb1
  have mx := fun i => bx.cell i
  go_wp2_with fail
  go_loop [7, 8] (PlA t t) (fun _ i => 100 - (intOf i).toNat)
  case atStart => exact ⟨0, by omega, by omega, rfl, rfl⟩
  case round =>
  obtain ⟨k, hk, _, rfl, rfl⟩ := hrel
  by_cases hkt : (k : Int) < t
  · have q : (3 + 3 * t + m == 3 + (k : Int)) = false := by rw [beq_eq_false_iff_ne]; omega
    go_wp2_with fail
    go_round
    case rel => exact ⟨k + 1, by omega, by omega, by go_num, by go_num⟩
    case measure => simp [intOf]; omega
  obtain rfl : t = (k : Int) := by omega
  clear hk
  go_wp2_with fail
  go_loop [7, 9, 10] (fun n i _ => PlB (k : Int) (k : Int) n i) (fun _ i _ => 100 - (intOf i).toNat)
  case atStart => exact ⟨0, by omega, by omega, by first | rfl | go_num, rfl⟩
  case round =>
  obtain ⟨k2, hk2, _, rfl, rfl⟩ := hrel
  by_cases hkt2 : (k2 : Int) < (k : Int)
  · go_wp2_with fail
    go_loop [7, 10] (PlC (3 + (k : Int) + 2 * k2) False 0) (fun _ i => 100 - (intOf i).toNat)
    case atStart => exact ⟨0, by omega, fun h => h.elim, by first | rfl | go_num, rfl⟩
    case round =>
      obtain ⟨j, hj, _, rfl, rfl⟩ := hrel
      by_cases hj2 : (j : Int) < 2
      · have q : (3 + 3 * (k : Int) + m == 3 + (k : Int) + 2 * (k2 : Int) + (j : Int)) = false := by rw [beq_eq_false_iff_ne]; omega
        go_wp2_with fail
        go_round
        case rel => exact ⟨j + 1, by omega, fun h => h.elim, by go_num, by go_num⟩
        case measure => simp [intOf]; omega
      · obtain rfl : j = 2 := by omega
        go_wp2_with fail
        go_round
        case rel => exact ⟨k2 + 1, by omega, by omega, by go_num, by go_num⟩
        case measure => simp [intOf]; omega
  obtain rfl : k2 = k := by omega
  clear hk2 hkt2
  have q8 : 3 + 3 * (k2 : Int) + m - (3 + (k2 : Int) + 2 * (k2 : Int)) = m := by omega
  go_wp2_with fail
  go_ret3; exact ⟨rfl, B0⟩
set_option maxHeartbeats 2000000 in
theorem rplace_10 (s t f l p m : Int) (w : World) (hc : cfgOk s t f l p = true) (hs : 1 ≤ s ∧ s ≤ 1000) (ht : 1 ≤ t ∧ t ≤ 64) (hf : 4 ≤ f ∧ f ≤ 64) (h0 : 0 ≤ m) (h1 : m < (s + 1) * (3 + 2 * f)) (hm : 3 + f ≤ m % (3 + 2 * f)) :
    Calls Tryd.prog 15 #[.agg #[.int .i64 s, .int .i64 t, .int .i64 f, .int .i64 l, .int .i64 p], .int .i64 (3 + 3 * t + m)] w fun e' w' => e' = .returned (.tuple #[.int .i64 10, .int .i64 (m / (3 + 2 * f)), .int .i64 (m % (3 + 2 * f) - 3 - f)]) ∧ Below w.heap.size w w' := by
  have C := hide (fun w2 => rsize_any s t f l p w2)
  rw [show rSize s t f l p = laySize s t f by unfold rSize; rw [hc]; rfl] at C
  have z := size_pos hs ht hf
  have bx := Blk.new w 23 #[.int .i64 s, .int .i64 t, .int .i64 f, .int .i64 l, .int .i64 p]
  have B0 := (Below.refl w.heap.size w).alloc (Nat.le_refl _) (.cells #[.int .i64 s, .int .i64 t, .int .i64 f, .int .i64 l, .int .i64 p] 23)
  have hR : 3 + 3 * t + m < laySize s t f := by unfold laySize; omega
  have hR2 : 3 + 3 * t + m ≤ 200000 := by omega
  have hR3 : 3 ≤ 3 + 3 * t + m := by omega
  have ht2 : t ≤ 64 := ht.2
  have ht1 : 1 ≤ t := ht.1
  have f1 : 4 ≤ f := hf.1
  have f2 : f ≤ 64 := hf.2
  have q0 : 0 ≤ m % (3 + 2 * f) := Int.emod_nonneg _ (by omega)
  have q1 : m % (3 + 2 * f) < 3 + 2 * f := Int.emod_lt_of_pos _ (by omega)
  have q2 : 0 ≤ m / (3 + 2 * f) := Int.ediv_nonneg h0 (by omega)
  have q3 : m / (3 + 2 * f) ≤ m := Int.ediv_le_self _ h0
  have q4 : m.tdiv (3 + 2 * f) = m / (3 + 2 * f) := Int.tdiv_eq_ediv_of_nonneg h0
  have q5 : m.tmod (3 + 2 * f) = m % (3 + 2 * f) := Int.tmod_eq_emod_of_nonneg h0
  have q6 : (3 + 2 * f == 0) = false := by rw [beq_eq_false_iff_ne]; omega
  have q7 : ¬ (3 + 2 * f = 0) := by omega
  clear hc z hs ht hf h1
  generalize laySize s t f = R at *
  generalize m % (3 + 2 * f) = j at *
  generalize m / (3 + 2 * f) = o at *
  go_enter Tryd.func15, Tryd.ntmps15
  go_wp2_with fail
  refine (C.out _).mono ?_
  rintro e w1 ⟨rfl, hb1⟩
  replace bx := bx.below hb1 bx.lt
  replace B0 := B0.trans (hb1.mono B0.size)
  clear hb1
  have mx := fun i => bx.cell i
  go_wp2_with fail
  go_loop [7, 8] (PlA t t) (fun _ i => 100 - (intOf i).toNat)
  case atStart => exact ⟨0, by omega, by omega, rfl, rfl⟩
  case round =>
  obtain ⟨k, hk, _, rfl, rfl⟩ := hrel
  by_cases hkt : (k : Int) < t
  · have q : (3 + 3 * t + m == 3 + (k : Int)) = false := by rw [beq_eq_false_iff_ne]; omega
    go_wp2_with fail
    go_round
    case rel => exact ⟨k + 1, by omega, by omega, by go_num, by go_num⟩
    case measure => simp [intOf]; omega
  obtain rfl : t = (k : Int) := by omega
  clear hk
  go_wp2_with fail
  go_loop [7, 9, 10] (fun n i _ => PlB (k : Int) (k : Int) n i) (fun _ i _ => 100 - (intOf i).toNat)
  case atStart => exact ⟨0, by omega, by omega, by first | rfl | go_num, rfl⟩
  case round =>
  obtain ⟨k2, hk2, _, rfl, rfl⟩ := hrel
  by_cases hkt2 : (k2 : Int) < (k : Int)
  · go_wp2_with fail
    go_loop [7, 10] (PlC (3 + (k : Int) + 2 * k2) False 0) (fun _ i => 100 - (intOf i).toNat)
    case atStart => exact ⟨0, by omega, fun h => h.elim, by first | rfl | go_num, rfl⟩
    case round =>
      obtain ⟨j, hj, _, rfl, rfl⟩ := hrel
      by_cases hj2 : (j : Int) < 2
      · have q : (3 + 3 * (k : Int) + m == 3 + (k : Int) + 2 * (k2 : Int) + (j : Int)) = false := by rw [beq_eq_false_iff_ne]; omega
        go_wp2_with fail
        go_round
        case rel => exact ⟨j + 1, by omega, fun h => h.elim, by go_num, by go_num⟩
        case measure => simp [intOf]; omega
      · obtain rfl : j = 2 := by omega
        go_wp2_with fail
        go_round
        case rel => exact ⟨k2 + 1, by omega, by omega, by go_num, by go_num⟩
        case measure => simp [intOf]; omega
  obtain rfl : k2 = k := by omega
  clear hk2 hkt2
  have q8 : 3 + 3 * (k2 : Int) + m - (3 + (k2 : Int) + 2 * (k2 : Int)) = m := by omega
  go_wp2_with fail
  go_quiet (fail); go_wp2_with fail; go_ret3; exact ⟨rfl, below_drewN B0 _⟩

/-- The place of any word of a configuration that may be. -/
theorem rplace_any (s t f l p a : Int) (w : World) (hc : cfgOk s t f l p = true) :
    Calls Tryd.prog 15 #[.agg #[.int .i64 s, .int .i64 t, .int .i64 f, .int .i64 l, .int .i64 p], .int .i64 a] w fun e' w' => e' = .returned (.tuple #[.int .i64 (plc s t f a).1, .int .i64 (plc s t f a).2.1, .int .i64 (plc s t f a).2.2]) ∧ Below w.heap.size w w' := by
  have hb := cfgOk_iff.1 hc
  have hs : 1 ≤ s ∧ s ≤ 1000 := by omega
  have ht : 1 ≤ t ∧ t ≤ 64 := by omega
  have hf : 4 ≤ f ∧ f ≤ 64 := by omega
  clear hb
  unfold plc
  by_cases c0 : a < 0 ∨ laySize s t f ≤ a
  · rw [if_pos c0]
    exact rplace_out s t f l p a w hc hs ht hf c0
  rw [if_neg c0]
  by_cases c1 : a < 3
  · rw [if_pos c1]
    exact rplace_3 s t f l p a w hc hs ht hf (by omega) c1
  rw [if_neg c1]
  by_cases c2 : a < 3 + t
  · rw [if_pos c2]
    have h := rplace_4 s t f l p (a - 3) w hc hs ht hf (by omega) (by omega)
    rw [show 3 + (a - 3) = a by omega] at h
    exact h
  rw [if_neg c2]
  by_cases c3 : a < 3 + 3 * t
  · rw [if_pos c3]
    have h := rplace_5 s t f l p ((a - 3 - t) / 2) ((a - 3 - t) % 2) w hc hs ht hf (by omega) (by omega) (by omega) (by omega)
    rw [show 3 + t + 2 * ((a - 3 - t) / 2) + (a - 3 - t) % 2 = a by omega] at h
    exact h
  rw [if_neg c3]
  obtain ⟨m, rfl⟩ : ∃ m, a = 3 + 3 * t + m := ⟨a - (3 + 3 * t), by omega⟩
  rw [show 3 + 3 * t + m - (3 + 3 * t) = m by omega]
  have h0 : 0 ≤ m := by omega
  have h1 : m < (s + 1) * (3 + 2 * f) := by unfold laySize at c0; omega
  by_cases c4 : m % (3 + 2 * f) < 3
  · rw [if_pos c4]
    exact rplace_6 s t f l p m w hc hs ht hf h0 h1 c4
  rw [if_neg c4]
  by_cases c5 : m % (3 + 2 * f) < 3 + f
  · rw [if_pos c5]
    exact rplace_9 s t f l p m w hc hs ht hf h0 h1 ⟨by omega, c5⟩
  · rw [if_neg c5]
    exact rplace_10 s t f l p m w hc hs ht hf h0 h1 (by omega)
end Go.Proofs.YtpkocgcagemnbaaDoor
