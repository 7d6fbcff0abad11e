/-
  num.Sum; the Go function NumSums.
-/
import Derived.Test.YthoakbkaohcobaaNumD
namespace Go.Proofs.Ythoakbkaohcobaa
open Go.RowKit

def sumTo (l : List Int) : Nat → Int
  | 0 => 0
  | k + 1 => sumTo l k + l.getD k 0
def lowTo (l : List Int) : Nat → Int
  | 0 => 0
  | k + 1 => lowTo l k + l.getD k 0 % 4294967296
def highTo (l : List Int) : Nat → Int
  | 0 => 0
  | k + 1 => highTo l k + l.getD k 0 / 4294967296
def Words (l : List Int) : Prop := ∀ i, 0 ≤ l.getD i 0 ∧ l.getD i 0 ≤ 18446744073709551615
theorem Words.of {l : List Int} (h : ∀ x ∈ l, W64 x) : Words l := by
  intro i
  by_cases hi : i < l.length
  · have e : l.getD i 0 = l[i] := by simp [List.getD, hi]
    rw [e]
    exact h _ (List.getElem_mem hi)
  · have e : l.getD i 0 = 0 := by simp [List.getD, hi]
    rw [e]
    omega
theorem sum_parts (l : List Int) : ∀ k, sumTo l k = highTo l k * 4294967296 + lowTo l k
  | 0 => rfl
  | k + 1 => by
    have := sum_parts l k
    unfold sumTo highTo lowTo
    omega
theorem sum_mono {l : List Int} (h : Words l) {k : Nat} : ∀ {n : Nat}, k ≤ n → sumTo l k ≤ sumTo l n
  | 0, hn => by
    obtain rfl : k = 0 := by omega
    exact Int.le_refl _
  | n + 1, hn => by
    rcases Nat.eq_or_lt_of_le hn with rfl | hlt
    · exact Int.le_refl _
    · have h1 := sum_mono h (show k ≤ n by omega)
      have h2 := h n
      show _ ≤ sumTo l n + l.getD n 0
      omega
theorem parts_bound {l : List Int} (h : Words l) : ∀ k : Nat, 0 ≤ lowTo l k ∧ lowTo l k ≤ k * 4294967295 ∧ 0 ≤ highTo l k ∧ highTo l k ≤ k * 4294967295 ∧ 0 ≤ sumTo l k
  | 0 => by
    unfold lowTo highTo sumTo
    omega
  | k + 1 => by
    have h1 := parts_bound h k
    have h2 := h k
    unfold lowTo highTo sumTo
    omega

def sumA (l : List Int) (n : Nat) : Int := if sumTo l n ≤ 18446744073709551615 then sumTo l n else 0
def sumE (l : List Int) (n : Nat) : Int := if sumTo l n ≤ 18446744073709551615 then 0 else 6
def SumIn (l : List Int) (w : World) (v4 v9 : Value) (wr : World) : Prop :=
  ∃ k : Nat, k ≤ l.length ∧ v9 = .int .i64 k ∧ v4 = .int .u64 (sumTo l k) ∧ sumTo l k ≤ 18446744073709551615 ∧ wr = w

set_option maxHeartbeats 1000000 in
theorem sum_any (A : Option Addr) (n c : Nat) (l : List Int) (w : World) (hn : n ≤ 20) (hl : l.length = n) (hw : Words l) (hr : Reads w w.heap.size 1 A n (ints .u64 l)) :
    Calls Try.prog 13 #[.slice A n c] w fun e w' => e = .returned (.tuple #[.int .u64 (sumA l n), .int .i64 (sumE l n)]) ∧ w = w' := by
  have HW := hide hw
  have HL := hide hl
  clear hw hl
  go_enter Try.func13, Try.ntmps13
  go_wp2_with fail
  go_loopw [4, 9] (SumIn l w) (fun _ i _ => 1000 - (intOf i).toNat)
  case atStart => exact ⟨0, by omega, rfl, rfl, by show (0 : Int) ≤ _; omega, rfl⟩
  case round =>
    obtain ⟨k, hk, rfl, rfl, hle, rfl⟩ := hrel
    rw [HL.out] at hk
    have hpos := (parts_bound HW.out k).2.2.2.2
    by_cases hlt : k < n
    · obtain ⟨a, rfl, hkl, z1⟩ := hr.word hlt
      have G1 := hide (show l.getD k 0 = l[k] by simp [List.getD, hkl])
      have hx := HW.out k
      rw [G1.out] at hx
      have Hs := hide (show sumTo l (k + 1) = sumTo l k + l[k] by rw [← G1.out]; rfl)
      by_cases hov : 18446744073709551615 - sumTo l k < l[k]
      · have hbig : ¬ sumTo l n ≤ 18446744073709551615 := by
          have := sum_mono HW.out (show k + 1 ≤ n by omega)
          have := Hs.out
          omega
        have e1 := hide (show sumA l n = 0 from if_neg hbig)
        have e2 := hide (show sumE l n = 6 from if_neg hbig)
        clear hbig
        clear Hs G1
        generalize l[k] = x at *
        generalize hS : sumTo l k = S at *
        clear hS
        go_wp2_with fail
        go_ret2
        exact ⟨by rw [e1.out, e2.out]; rfl, rfl⟩
      · have hle2 : sumTo l k + l[k] ≤ 18446744073709551615 := by omega
        clear G1
        generalize l[k] = x at *
        generalize sumTo l k = S at *
        go_wp2_with fail
        go_roundw
        case rel => exact ⟨k + 1, by rw [HL.out]; omega, by go_num, by rw [Hs.out], by rw [Hs.out]; exact hle2, rfl⟩
        case measure => simp [intOf]; omega
    · obtain rfl : k = n := by omega
      have e1 := hide (show sumA l k = sumTo l k from if_pos hle)
      have e2 := hide (show sumE l k = 0 from if_pos hle)
      generalize sumTo l k = S at *
      go_wp2_with fail
      go_ret2
      exact ⟨by rw [e1.out, e2.out]; rfl, rfl⟩

def NSIn (l : List Int) (n : Nat) (w : World) (v5 v6 v7 : Value) (wr : World) : Prop :=
  ∃ k : Nat, k ≤ n ∧ v7 = .int .i64 k ∧ v5 = .int .u64 (highTo l k) ∧ v6 = .int .u64 (lowTo l k) ∧ Below w.heap.size w wr

set_option maxHeartbeats 2000000 in
theorem NumSums_calls (A : Option Addr) (n c : Nat) (l : List Int) (w : World) (hl : l.length = n) (hw0 : ∀ x ∈ l, W64 x) (hr : Reads w w.heap.size 1 A n (ints .u64 l)) (hn63 : n ≤ 9223372036854775807) :
    Calls Try.prog 4 #[.slice A n c] w fun e w' => e = .returned (.bool true) ∧ Below w.heap.size w w' := by
  have Aw := hide awake02
  by_cases hbig : 20 < n
  · go_enter Try.func4, Try.ntmps4
    go_wp2_with fail
    refine (Aw.out _).mono ?_
    rintro e w1 ⟨rfl, hb1⟩
    go_wp2_with fail
    go_ret
    exact ⟨rfl, hb1⟩
  · have hn : n ≤ 20 := by omega
    have HW := hide (Words.of hw0)
    have Sm := hide (sum_any A n c l w hn hl HW.out hr)
    clear hw0 hl
    have hdec : decide ((20 : Int) < (n : Int)) = false := by simp; omega
    have hbn := parts_bound HW.out n
    have hsp := sum_parts l n
    have A1 := hide (show sumA l n = if sumTo l n ≤ 18446744073709551615 then sumTo l n else 0 from rfl)
    have E1 := hide (show sumE l n = if sumTo l n ≤ 18446744073709551615 then 0 else 6 from rfl)
    generalize sumA l n = sa at *
    generalize sumE l n = se at *
    have HB := hide hbn
    have HS := hide hsp
    clear hbn hsp
    go_enter Try.func4, Try.ntmps4
    go_wp2_with fail
    refine Sm.out.mono ?_
    rintro e w' ⟨rfl, rfl⟩
    go_wp2_with fail
    go_loopw [5, 6, 7] (NSIn l n w) (fun _ _ i _ => 1000 - (intOf i).toNat)
    case atStart => exact ⟨0, by omega, rfl, rfl, rfl, Below.refl _ _⟩
    case round =>
      obtain ⟨k, hk, rfl, rfl, rfl, hb⟩ := hrel
      by_cases hlt : k < n
      · obtain ⟨a, rfl, hkl, z1⟩ := (hr.below hb).word hlt
        have G1 := hide (show l.getD k 0 = l[k] by simp [List.getD, hkl])
        have hx := HW.out k
        rw [G1.out] at hx
        obtain ⟨b1, b2, b3, b4, _⟩ := parts_bound HW.out k
        have Hl := hide (show lowTo l (k + 1) = lowTo l k + l[k] % 4294967296 by rw [← G1.out]; rfl)
        have Hh := hide (show highTo l (k + 1) = highTo l k + l[k] / 4294967296 by rw [← G1.out]; rfl)
        have t1 : l[k].tmod 4294967296 = l[k] % 4294967296 := Int.tmod_eq_emod_of_nonneg hx.1
        have t2 : l[k].tdiv 4294967296 = l[k] / 4294967296 := Int.tdiv_eq_ediv_of_nonneg hx.1
        have r1 : 0 ≤ l[k] % 4294967296 ∧ l[k] % 4294967296 < 4294967296 := by omega
        have r2 : 0 ≤ l[k] / 4294967296 ∧ l[k] / 4294967296 < 4294967296 := by omega
        have s1 : lowTo l k ≤ 85899345900 := by omega
        have s2 : highTo l k ≤ 85899345900 := by omega
        clear G1 b2 b4
        generalize l[k] % 4294967296 = p at *
        generalize l[k] / 4294967296 = q at *
        generalize l[k] = x at *
        generalize lowTo l k = lo at *
        generalize highTo l k = hi at *
        go_wp2_with fail
        go_roundw
        case rel => exact ⟨k + 1, by omega, by go_num, by rw [Hh.out], by rw [Hl.out], hb⟩
        case measure => simp [intOf]; omega
      · have hkn : k = n := by omega
        have hb1 := HB.out
        have hs1 := HS.out
        rw [← hkn] at hb1 hs1
        obtain ⟨b1, b2, b3, b4, b5⟩ := hb1
        have A2 := A1.out
        have E2 := E1.out
        rw [← hkn] at A2 E2
        have hA2 := hide A2
        have hE2 := hide E2
        have hS2 := hide hs1
        clear hs1 A1 E1 HB HS A2 E2
        have t1 : (lowTo l k).tmod 4294967296 = lowTo l k % 4294967296 := Int.tmod_eq_emod_of_nonneg b1
        have t2 : (lowTo l k).tdiv 4294967296 = lowTo l k / 4294967296 := Int.tdiv_eq_ediv_of_nonneg b1
        have r1 : 0 ≤ lowTo l k % 4294967296 ∧ lowTo l k % 4294967296 < 4294967296 := by omega
        have r2 : 0 ≤ lowTo l k / 4294967296 ∧ lowTo l k / 4294967296 < 4294967296 := by omega
        have s2 : highTo l k ≤ 85899345900 := by omega
        have dm := hide (show lowTo l k = lowTo l k / 4294967296 * 4294967296 + lowTo l k % 4294967296 by omega)
        generalize lowTo l k % 4294967296 = p at *
        generalize lowTo l k / 4294967296 = q at *
        generalize lowTo l k = lo at *
        generalize highTo l k = hi at *
        generalize sumTo l k = S at *
        by_cases hov : 4294967296 ≤ hi + q
        · have hno : ¬ S ≤ 18446744073709551615 := by have := hS2.out; have := dm.out; omega
          have e1 := hA2.out
          have e2 := hE2.out
          rw [if_neg hno] at e1 e2
          subst e1 e2
          clear hS2 dm hA2 hE2 hno b2 b4
          go_wp2_with fail
          refine (Aw.out _).mono ?_
          rintro e w1 ⟨rfl, hb1⟩
          go_wp2_with fail
          go_ret
          exact ⟨rfl, hb.trans (hb1.mono hb.size)⟩
        · have hyes : S ≤ 18446744073709551615 := by have := hS2.out; have := dm.out; omega
          have hSe : S = (hi + q) * 4294967296 + p := by have := hS2.out; have := dm.out; omega
          have e1 := hA2.out
          have e2 := hE2.out
          rw [if_pos hyes] at e1 e2
          rw [hSe] at e1
          subst e1 e2
          clear hS2 dm hA2 hE2 hyes hSe b2 b4
          go_wp2_with fail
          refine (Aw.out _).mono ?_
          rintro e w1 ⟨rfl, hb1⟩
          go_wp2_with fail
          go_ret
          exact ⟨rfl, hb.trans (hb1.mono hb.size)⟩
end Go.Proofs.Ythoakbkaohcobaa
