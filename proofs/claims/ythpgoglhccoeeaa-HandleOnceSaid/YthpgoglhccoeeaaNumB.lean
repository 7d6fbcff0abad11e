/-
  Package num: Text, Hex, Int; the reference's Form, Int.
-/
import Derived.Test.YthpgoglhccoeeaaNum
namespace Go.Proofs.Ythpgoglhccoeeaa
open Go.RowKit

theorem strOf_cons (x : Int) (xs : List Int) : strOfNums (x :: xs) = strOfNums [x] ++ strOfNums xs := by
  apply ByteArray.ext
  simp [strOfNums]
theorem strOf_size (xs : List Int) : (strOfNums xs).size = xs.length := by simp [strOfNums, ByteArray.size]
theorem formL_len (b : Nat) : ∀ (f n : Nat) (acc : List Int), (formL b f n acc).length ≤ f + acc.length
  | 0, _, acc => by simp [formL]
  | f + 1, n, acc => by
    unfold formL
    split
    · omega
    · have := formL_len b f (n / b) (digC (n % b) :: acc)
      simp only [List.length_cons] at this
      omega
theorem form_len (b n : Nat) : (form b n).length ≤ 64 := by
  unfold form
  split
  · simp
  · have := formL_len b 64 n []
    simpa using this
theorem form_size (b n : Nat) : (strOfNums (form b n)).size ≤ 64 := by rw [strOf_size]; exact form_len b n
theorem slice_dig (d : Nat) (h : d < 16) : ∀ w : World, (Instr.slice 9 (.string ⟨#[48, 49, 50, 51, 52, 53, 54, 55, 56, 57, 97, 98, 99, 100, 101, 102]⟩) (some (.int .i64 (d : Int))) (some (.int .i64 ((d : Int) + 1))) none).run Try.prog w = .ok (.string (strOfNums [digC d])) w := by
  have hd : d = 0 ∨ d = 1 ∨ d = 2 ∨ d = 3 ∨ d = 4 ∨ d = 5 ∨ d = 6 ∨ d = 7 ∨ d = 8 ∨ d = 9 ∨ d = 10 ∨ d = 11 ∨ d = 12 ∨ d = 13 ∨ d = 14 ∨ d = 15 := by omega
  intro w
  clear h
  rcases hd with rfl | rfl | rfl | rfl | rfl | rfl | rfl | rfl | rfl | rfl | rfl | rfl | rfl | rfl | rfl | rfl
  all_goals rfl

set_option maxHeartbeats 400000 in
theorem text_any (n : Nat) (w : World) (hn : n < 18446744073709551616) : Calls Try.prog 31 #[.int .u64 n] w fun e w' => e = .returned (.string (strOfNums (form 10 n))) ∧ Below w.heap.size w w' := by
  have F := hide (form_any 10 n w (by omega) hn)
  generalize strOfNums (form 10 n) = s at *
  have zz : (((10 : Nat)) : Int) = 10 := rfl
  rw [zz] at F
  clear zz
  go_enter Try.func31, Try.ntmps31
  go_wp2_with fail
  refine F.out.mono ?_
  rintro e w1 ⟨rfl, hb1⟩
  go_wp2_with fail
  go_ret
  exact ⟨rfl, hb1⟩

def intL (i : Int) : List Int := if i < 0 then 45 :: form 10 (-i).toNat else form 10 i.toNat
set_option maxHeartbeats 400000 in
theorem int_any (i : Int) (w : World) (hi : I64 i) : Calls Try.prog 30 #[.int .i64 i] w fun e w' => e = .returned (.string (strOfNums (intL i))) ∧ Below w.heap.size w w' := by
  obtain ⟨h1, h2⟩ := hi
  by_cases c : i < 0
  · obtain ⟨n, hn⟩ : ∃ n : Nat, (-i) = n := ⟨(-i).toNat, by omega⟩
    have E := hide (show strOfNums (intL i) = ⟨#[45]⟩ ++ strOfNums (form 10 n) by
      unfold intL
      rw [if_pos c, strOf_cons, hn]
      rfl)
    have F := hide (text_any n w (by omega))
    have e1 : wrap64 (-(i + 1)) = (n : Int) - 1 := by unfold wrap64; omega
    have e2 : (n : Int) - 1 + 1 = n := by omega
    have n1 : 1 ≤ n ∧ n ≤ 9223372036854775808 := by omega
    have e3 : (n : Int) = -(i + 1) + 1 := by omega
    rw [e3] at F
    clear hn e1 e2 e3
    have hs := form_size 10 n
    generalize strOfNums (form 10 n) = s at *
    go_enter Try.func30, Try.ntmps30
    go_wp2_with fail
    refine F.out.mono ?_
    rintro e w1 ⟨rfl, hb1⟩
    go_wp2_with fail
    go_ret
    exact ⟨by rw [E.out]; rfl, hb1⟩
  · obtain ⟨n, rfl⟩ := Int.eq_ofNat_of_zero_le (show 0 ≤ i by omega)
    have E := hide (show strOfNums (intL n) = strOfNums (form 10 n) by
      unfold intL
      rw [if_neg c, Int.toNat_natCast])
    have F := hide (text_any n w (by omega))
    rw [E.out]
    generalize strOfNums (form 10 n) = s at *
    clear E
    go_enter Try.func30, Try.ntmps30
    go_wp2_with fail
    refine F.out.mono ?_
    rintro e w1 ⟨rfl, hb1⟩
    go_wp2_with fail
    go_ret
    exact ⟨rfl, hb1⟩

def RFormIn (b : Nat) (R : List Int) (w : World) (f : Nat) (v0 v5 : Value) (wr : World) : Prop :=
  ∃ (x : Nat) (acc : List Int), v0 = .int .u64 x ∧ x < 2 ^ f ∧ x < 18446744073709551616 ∧ (if x = 0 then 48 :: acc else formL b f x acc) = R ∧ v5 = .string (strOfNums acc) ∧ acc.length + f ≤ 64 ∧ Below w.heap.size w wr

set_option maxHeartbeats 1000000 in
theorem rform_any (b n : Nat) (w : World) (hb : b = 10 ∨ b = 16) (hn : n < 18446744073709551616) :
    Calls Try.prog 32 #[.int .u64 n, .int .u64 b] w fun e w' => e = .returned (.string (strOfNums (form b n))) ∧ Below w.heap.size w w' := by
  go_enter Try.func32, Try.ntmps32
  go_wp2_with fail
  go_loopg [0, 5] 64 (RFormIn b (form b n) w)
  case atStart => exact ⟨n, [], rfl, by simpa using hn, hn, rfl, rfl, by simp, Below.refl _ _⟩
  case round =>
    obtain ⟨x, acc, rfl, hx1, hx2, hR, rfl, hal, hbl⟩ := hrel
    have z1 : (strOfNums acc).size ≤ 64 := by rw [strOf_size]; omega
    have HR := hide hR
    clear hR
    have b2 : 2 ≤ b ∧ b ≤ 16 := by omega
    have d1 : x % b < b := Nat.mod_lt _ (by omega)
    have y2 : x / b ≤ x := Nat.div_le_self _ _
    have t1 : (x : Int).tmod (b : Int) = ((x % b : Nat) : Int) := by rw [Int.tmod_eq_emod_of_nonneg (by omega)]; rfl
    have t2 : (x : Int).tdiv (b : Int) = ((x / b : Nat) : Int) := by rw [Int.tdiv_eq_ediv_of_nonneg (by omega)]; rfl
    have hbz : ((b : Int) == 0) = false := by simp; omega
    have hbz2 : ¬ ((b : Int) = 0) := by omega
    have d16 : x % b < 16 := by omega
    have S1 := hide (strOf_cons (digC (x % b)) acc)
    generalize hd : x % b = d at *
    generalize hy : x / b = y at *
    have HD := hide hd
    have HY := hide hy
    clear hd hy
    have sd := slice_dig d d16
    have z2 : (strOfNums [digC d]).size = 1 := by rw [strOf_size]; rfl
    replace z2 : (strOfNums [digC d]).size ≤ 1 := by omega
    by_cases hy0 : y = 0
    · subst hy0
      have Hfin := hide (show form b n = digC d :: acc by
        rw [← HR.out]
        have e1 := HD.out
        have e2 := HY.out
        by_cases hx0 : x = 0
        · rw [if_pos hx0]
          subst hx0
          have : d = 0 := by rw [← e1]; exact Nat.zero_mod b
          rw [this]
          rfl
        · rw [if_neg hx0]
          rcases gk with _ | f
          · simp at hx1; omega
          · show (if x = 0 then acc else formL b f (x / b) (digC (x % b) :: acc)) = _
            rw [if_neg hx0, e1, e2]
            cases f <;> rfl)
      have Hf := hide (show strOfNums (form b n) = strOfNums [digC d] ++ strOfNums acc by rw [Hfin.out, S1.out])
      clear HR S1 Hfin
      generalize strOfNums [digC d] = s1 at *
      generalize strOfNums acc = s2 at *
      go_wp2_with fail
      go_ret
      exact ⟨by rw [Hf.out]; rfl, hbl⟩
    · have hx0 : x ≠ 0 := by
        intro e
        apply hy0
        rw [← HY.out, e]
        exact Nat.zero_div b
      obtain ⟨f, rfl⟩ : ∃ f, gk = f + 1 := ⟨gk - 1, by
          rcases gk with _ | g
          · simp at hx1; omega
          · rfl⟩
      have y1 : y < 2 ^ f := by
        rw [← HY.out]
        rw [Nat.pow_succ] at hx1
        exact Nat.div_lt_of_lt_mul (by have := Nat.mul_le_mul_right (2 ^ f) b2.1; omega)
      have Hr := hide (show (if y = 0 then 48 :: (digC d :: acc) else formL b f y (digC d :: acc)) = form b n by
        rw [← HR.out, if_neg hy0, if_neg hx0]
        show _ = (if x = 0 then acc else formL b f (x / b) (digC (x % b) :: acc))
        rw [if_neg hx0, HD.out, HY.out])
      have hy3 : ((y : Int) == 0) = false := by simp; omega
      have hy4 : ¬ ((y : Int) = 0) := by omega
      clear HR hx1
      have S2 := S1.out.symm
      have HS := hide S2
      clear S2 S1
      have hs1 := hide (strOf_cons (digC d) acc)
      generalize hz1 : strOfNums [digC d] = s1 at *
      generalize hz2 : strOfNums acc = s2 at *
      have HZ := hide hz2
      clear hz1 hz2
      go_wp2_with fail
      go_roundg f
      case measure => omega
      case rel => exact ⟨y, digC d :: acc, rfl, y1, by omega, Hr.out, by rw [← HS.out], by simp only [List.length_cons]; omega, hbl⟩
end Go.Proofs.Ythpgoglhccoeeaa
