/-
  Package field: Bytes, Word; the Go function FieldBytes.
-/
import Derived.Test.YtgcdmngihnnloaaFieldLaws
import Derived.Test.YtgcdmngihnnloaaWords
import Derived.Laws.CopyOwn
import Derived.Deep.QuietTactic
import Derived.BigQuiet
namespace Go.Proofs.Ytgcdmngihnnloaa
open Go.RowKit

/-- A word's i-th byte; its first k bytes as cells. -/
def byt8 (x : Int) (i : Nat) : Int := x / P2 (8 * i) % 256
theorem byt8_bd (x : Int) (i : Nat) : 0 ≤ byt8 x i ∧ byt8 x i ≤ 255 := by unfold byt8; omega
def bysA (x : Int) (k : Nat) : Array Value := ((List.range 8).map fun i => Value.int .u8 (if i < k then byt8 x i else 0)).toArray
theorem bysA_at (x : Int) (k i : Nat) (h : i < 8) : (bysA x k)[i]? = some (.int .u8 (if i < k then byt8 x i else 0)) := by simp [bysA, h]
theorem bysA_size (x : Int) (k : Nat) : (bysA x k).size = 8 := by simp [bysA]
theorem bysA_succ (x : Int) (k : Nat) : (bysA x k).setIfInBounds k (.int .u8 (byt8 x k)) = bysA x (k + 1) := by
  apply Array.ext (by simp [bysA_size])
  intro i h1 h2
  have h3 : i < 8 := by simpa [bysA_size] using h2
  apply Option.some.inj
  rw [← Array.getElem?_eq_getElem h1, ← Array.getElem?_eq_getElem h2, bysA_at x (k + 1) i h3, Array.getElem?_setIfInBounds]
  by_cases e : k = i
  · subst e
    rw [if_pos rfl, if_pos (by rw [bysA_size]; exact h3), if_pos (by omega)]
  · rw [if_neg e, bysA_at x k i h3]
    by_cases hi : i < k
    · rw [if_pos hi, if_pos (by omega)]
    · rw [if_neg hi, if_neg (by omega)]
theorem bysA_zero (x : Int) : bysA x 0 = #[.int .u8 0, .int .u8 0, .int .u8 0, .int .u8 0, .int .u8 0, .int .u8 0, .int .u8 0, .int .u8 0] := by simp [bysA, List.range, List.range.loop]
theorem bysA_all (x : Int) : bysA x 8 = #[.int .u8 (byt8 x 0), .int .u8 (byt8 x 1), .int .u8 (byt8 x 2), .int .u8 (byt8 x 3), .int .u8 (byt8 x 4), .int .u8 (byt8 x 5), .int .u8 (byt8 x 6), .int .u8 (byt8 x 7)] := by simp [bysA, List.range, List.range.loop]

/-- The word of the first k bytes of a list. -/
def wsum (l : List Int) : Nat → Nat
  | 0 => 0
  | k + 1 => wsum l k + (l.getD k 0).toNat * 2 ^ (8 * k)
def Bytes8 (l : List Int) : Prop := ∀ k, 0 ≤ l.getD k 0 ∧ l.getD k 0 ≤ 255
theorem wsum_lt {l : List Int} (h : Bytes8 l) : ∀ k, wsum l k < 2 ^ (8 * k)
  | 0 => by simp [wsum]
  | k + 1 => by
    have h1 := wsum_lt h k
    have h2 := h k
    have e : 2 ^ (8 * (k + 1)) = 2 ^ (8 * k) * 256 := by rw [show 8 * (k + 1) = 8 * k + 8 by omega, Nat.pow_add]
    have h3 : (l.getD k 0).toNat ≤ 255 := by omega
    have h4 := Nat.mul_le_mul_right (2 ^ (8 * k)) h3
    rw [e]
    unfold wsum
    generalize 2 ^ (8 * k) = p at *
    generalize (l.getD k 0).toNat * p = q at *
    omega
theorem wsum_end (l : List Int) (k : Nat) (h : l.length ≤ k) : ∀ d, wsum l (k + d) = wsum l k
  | 0 => rfl
  | d + 1 => by
    have := wsum_end l k h d
    have e : wsum l (k + d + 1) = wsum l (k + d) + (l.getD (k + d) 0).toNat * 2 ^ (8 * (k + d)) := rfl
    rw [show k + (d + 1) = (k + d) + 1 by omega, e, this, List.getD_eq_getElem?_getD, List.getElem?_eq_none (by omega)]
    simp
theorem or_sum (a c k : Nat) (ha : a < 2 ^ (8 * k)) (hc : c ≤ 255) (hk : k ≤ 7) :
    bits .or .u64 (a : Int) ((c * 2 ^ (8 * k) : Nat) : Int) = ((a + c * 2 ^ (8 * k) : Nat) : Int) := by
  have h1 : 2 ^ (8 * k) ≤ 2 ^ 56 := Nat.pow_le_pow_right (by omega) (by omega)
  have h2 : c * 2 ^ (8 * k) ≤ 255 * 2 ^ 56 := Nat.mul_le_mul hc h1
  have h3 : (2 : Nat) ^ 56 = 72057594037927936 := by decide
  rw [u64_or_nat _ _ (by omega) (by omega)]
  have h4 := Nat.two_pow_add_eq_or_of_lt ha c
  rw [Nat.mul_comm (2 ^ (8 * k)) c] at h4
  rw [Nat.or_comm, ← h4, Nat.add_comm]
def lst8 (x : Int) : List Int := [byt8 x 0, byt8 x 1, byt8 x 2, byt8 x 3, byt8 x 4, byt8 x 5, byt8 x 6, byt8 x 7]
theorem lst8_at (x : Int) (k : Nat) (h : k < 8) : (lst8 x).getD k 0 = byt8 x k := by
  have hk : k = 0 ∨ k = 1 ∨ k = 2 ∨ k = 3 ∨ k = 4 ∨ k = 5 ∨ k = 6 ∨ k = 7 := by omega
  rcases hk with rfl | rfl | rfl | rfl | rfl | rfl | rfl | rfl <;> rfl
theorem lst8_bytes (x : Int) : Bytes8 (lst8 x) := by
  intro k
  by_cases h : k < 8
  · rw [lst8_at x k h]
    exact byt8_bd x k
  · rw [List.getD_eq_getElem?_getD, List.getElem?_eq_none (by show 8 ≤ k; omega)]
    exact ⟨Int.le_refl _, by decide⟩
theorem wsum_lst8 (x : Nat) : ∀ k, k ≤ 8 → wsum (lst8 x) k = x % 2 ^ (8 * k)
  | 0, _ => by simp [wsum, Nat.mod_one]
  | k + 1, h => by
    unfold wsum
    rw [wsum_lst8 x k (by omega), lst8_at x k (by omega)]
    have e : byt8 (x : Int) k = ((x / 2 ^ (8 * k) % 256 : Nat) : Int) := by
      unfold byt8
      rw [P2_nat]
      simp
    rw [e, Int.toNat_natCast, show 8 * (k + 1) = 8 * k + 8 by omega, Nat.pow_add, Nat.mod_mul, Nat.mul_comm (2 ^ (8 * k)) (x / 2 ^ (8 * k) % 2 ^ 8)]
theorem wsum_back {x : Int} (hx : W64 x) : (wsum (lst8 x) 8 : Int) = x := by
  obtain ⟨n, rfl⟩ := Int.eq_ofNat_of_zero_le hx.1
  have := hx.2
  rw [wsum_lst8 n 8 (by omega), Nat.mod_eq_of_lt (by omega)]

def BysIn (x : Int) (g : Nat) (w : World) (i : Value) (wr : World) : Prop := ∃ k : Nat, i = .int .i64 k ∧ k ≤ 8 ∧ Blk wr g 36 (bysA x k) ∧ Blk wr w.heap.size 36 (bysA 0 0) ∧ Below w.heap.size w wr

set_option maxHeartbeats 1000000 in
theorem bytes_any (x : Int) (w : World) (hx : W64 x) :
    Calls Try.prog 21 #[.int .u64 x] w fun e w' => e = .returned (.agg (bysA x 8)) ∧ Below w.heap.size w w' := by
  obtain ⟨h0, h1⟩ := hx
  have Z := bysA_zero x
  have Z0 := bysA_zero 0
  go_enter Try.func21, Try.ntmps21
  go_wp2_with fail
  have b1 := (Blk.new w 36 (bysA 0 0)).alloc (.cells (bysA x 0) 36)
  have b2 := Blk.new (w.alloc (.cells (bysA 0 0) 36)) 36 (bysA x 0)
  have B0 := ((Below.refl w.heap.size w).alloc (Nat.le_refl _) (.cells (bysA 0 0) 36)).alloc (by simp only [World.size_alloc]; omega) (.cells (bysA x 0) 36)
  rw [World.size_alloc] at b2
  rw [Z, Z0] at b1 b2 B0
  have H1 := hide b1
  have H2 := hide b2
  have HB := hide B0
  have HZ := hide Z
  have HZ0 := hide Z0
  clear b1 b2 B0 Z Z0
  go_loopw [5] (BysIn x (w.heap.size + 1) w) (fun i _ => 8 - (intOf i).toNat)
  case atStart => exact ⟨0, rfl, by omega, by rw [HZ.out]; exact H2.out, by rw [HZ0.out]; exact H1.out, HB.out⟩
  case round =>
    obtain ⟨k, rfl, hk, b2, b1, hb⟩ := hrel
    by_cases hlt : k < 8
    · have z2 := (b2.cell k).trans (bysA_at x k k hlt)
      rw [if_neg (by omega)] at z2
      have f2 := b2.frozen k
      have HK := hide b2
      have HK1 := hide b1
      clear b2 b1
      go_wp2_with fail
      rw [show x / 2 ^ (8 * k) % 256 = byt8 x k from rfl]
      go_roundw
      case rel => exact ⟨k + 1, by go_num, by omega, by rw [← bysA_succ]; exact HK.out.set_ k _, HK1.out.far (p := ⟨w.heap.size + 1, k, none⟩) (by show w.heap.size ≠ w.heap.size + 1; omega) _, hb.setCell (p := ⟨w.heap.size + 1, k, none⟩) (by show w.heap.size ≤ w.heap.size + 1; omega) _⟩
      case measure => simp [intOf]; omega
    · obtain rfl : k = 8 := by omega
      have A8 := bysA_all x
      rw [A8] at b2
      rw [HZ0.out] at b1
      have m2 := fun i => b2.cell i
      have m1 := fun i => b1.cell i
      have z1 := fun i => b1.frozen i
      have HA := hide A8
      clear A8
      generalize byt8 x 0 = c0 at *
      generalize byt8 x 1 = c1 at *
      generalize byt8 x 2 = c2 at *
      generalize byt8 x 3 = c3 at *
      generalize byt8 x 4 = c4 at *
      generalize byt8 x 5 = c5 at *
      generalize byt8 x 6 = c6 at *
      generalize byt8 x 7 = c7 at *
      go_wp2_with fail
      have b9 := ((((((((b1.set_ 0 (.int .u8 c0)).set_ 1 (.int .u8 c1)).set_ 2 (.int .u8 c2)).set_ 3 (.int .u8 c3)).set_ 4 (.int .u8 c4)).set_ 5 (.int .u8 c5)).set_ 6 (.int .u8 c6)).set_ 7 (.int .u8 c7))
      simp only [List.setIfInBounds_toArray, List.set_cons_zero, List.set_cons_succ] at b9
      have B9 := ((((((((hb.setCell (p := ⟨w.heap.size, 0, none⟩) (Nat.le_refl _) (.int .u8 c0)).setCell (p := ⟨w.heap.size, 1, none⟩) (Nat.le_refl _) (.int .u8 c1)).setCell (p := ⟨w.heap.size, 2, none⟩) (Nat.le_refl _) (.int .u8 c2)).setCell (p := ⟨w.heap.size, 3, none⟩) (Nat.le_refl _) (.int .u8 c3)).setCell (p := ⟨w.heap.size, 4, none⟩) (Nat.le_refl _) (.int .u8 c4)).setCell (p := ⟨w.heap.size, 5, none⟩) (Nat.le_refl _) (.int .u8 c5)).setCell (p := ⟨w.heap.size, 6, none⟩) (Nat.le_refl _) (.int .u8 c6)).setCell (p := ⟨w.heap.size, 7, none⟩) (Nat.le_refl _) (.int .u8 c7))
      have m9 := fun i => b9.cell i
      refine bodyPost_ret (v := .agg #[.int .u8 c0, .int .u8 c1, .int .u8 c2, .int .u8 c3, .int .u8 c4, .int .u8 c5, .int .u8 c6, .int .u8 c7]) (by simp [results, Try.results21, go_sem, m9]) rfl ⟨by rw [HA.out], B9⟩

theorem splice_at (l : List Int) (i : Nat) (hi : i < 8) (cur : List Value) (hc : ∀ j, j < 8 → cur[j]? = some (.int .u8 0)) : (splice cur 0 ((ints .u8 l).take 8))[i]? = some (.int .u8 (l.getD i 0)) := by
  unfold splice ints
  simp only [List.take_zero, List.nil_append, Nat.zero_add]
  by_cases h : i < l.length
  · rw [List.getElem?_append_left (by simp; omega), List.getElem?_take, if_pos hi, List.getElem?_map, List.getElem?_eq_getElem h, List.getD_eq_getElem?_getD, List.getElem?_eq_getElem h]
    rfl
  · rw [List.getElem?_append_right (by simp; omega), List.getElem?_drop, List.getD_eq_getElem?_getD, List.getElem?_eq_none (l := l) (by omega)]
    simp only [List.length_take, List.length_map]
    rw [show min 8 l.length + (i - min 8 l.length) = i by omega]
    exact hc i hi
def zero8 : List Value := [.int .u8 0, .int .u8 0, .int .u8 0, .int .u8 0, .int .u8 0, .int .u8 0, .int .u8 0, .int .u8 0]
theorem zero8_at (j : Nat) (hj : j < 8) : zero8[j]? = some (.int .u8 0) := by
  have hk : j = 0 ∨ j = 1 ∨ j = 2 ∨ j = 3 ∨ j = 4 ∨ j = 5 ∨ j = 6 ∨ j = 7 := by omega
  rcases hk with rfl | rfl | rfl | rfl | rfl | rfl | rfl | rfl <;> rfl
theorem copy8 (A : Option Addr) (n c B g : Nat) (l : List Int) (W : World) (hg : Blk W g 36 zero8.toArray) (hr : Reads W B 1 A n (ints .u8 l)) :
    ∃ w' k, (Builtin.copy_ #[35, 35] 3 #[.slice (some ⟨g, 0, none⟩) 8 8, .slice A n c]).run Try.prog W = .ok (.int .i64 k) w' ∧
      (∀ i, i < 8 → w'.cell? ⟨g, i, none⟩ = some (.int .u8 (l.getD i 0))) ∧ Below g W w' := by
  have hl := hr.lenWord
  have hz : ((Try.prog.info? 5).map (·.size)) = some 1 := by kernel_rfl
  by_cases h0 : n = 0
  · subst h0
    have hn : l = [] := List.eq_nil_of_length_eq_zero hl
    subst hn
    refine ⟨W, 0, run_copy_none (P := Try.prog) W _ _ _ 5 _ A 8 8 0 c Try.underlying35 hz (by simp), fun i hi => ?_, Below.refl _ _⟩
    rw [hg.cell, List.getElem?_toArray, zero8_at i hi]
    rfl
  · obtain ⟨ad, rfl, _, hc⟩ := hr.2 (by omega)
    have hrun := run_copy_row (P := Try.prog) W 35 35 3 5 g 0 8 8 ad n c zero8.toArray 36 ((ints .u8 l).take 8) Try.underlying35 hz hg (by rw [List.length_take, ints_len, hl]; exact Nat.min_comm 8 n)
      (fun j v hv => hc j v (by
        rw [List.getElem?_take] at hv
        split at hv
        · exact hv
        · cases hv)) (by rw [List.length_take]; show 0 + _ ≤ 8; omega) (fun v hv => by
        have := List.mem_of_mem_take hv
        unfold ints at this
        obtain ⟨x, _, rfl⟩ := List.mem_map.1 this
        rfl)
    refine ⟨_, _, hrun, fun i hi => ?_, below_setRow (Below.refl _ _) (Nat.le_refl _) _⟩
    rw [cell_of_row _ g i _ 36 (0, 0) (setRow_heap W g zero8.toArray _ 36 (0, 0) hg), List.getElem?_toArray]
    exact splice_at l i hi zero8 zero8_at
def WordIn (l : List Int) (v i : Value) : Prop := ∃ k : Nat, i = .int .i64 k ∧ k ≤ 8 ∧ v = .int .u64 (wsum l k)
set_option maxHeartbeats 1000000 in
theorem word_any (A : Option Addr) (n c : Nat) (l : List Int) (w : World) (hr : Reads w w.heap.size 1 A n (ints .u8 l)) (h8 : Bytes8 l) :
    Calls Try.prog 23 #[.slice A n c] w fun e w' => e = .returned (.int .u64 (wsum l 8)) ∧ Below w.heap.size w w' := by
  have b0 := Blk.new w 36 zero8.toArray
  have B0 := (Below.refl w.heap.size w).alloc (Nat.le_refl _) (.cells zero8.toArray 36)
  have hr2 := hr.alloc (Nat.le_refl _) (.cells zero8.toArray 36)
  obtain ⟨w2, k0, hrun, hz, hb2⟩ := copy8 A n c _ _ l _ b0 hr2
  have HB := hide (B0.trans hb2)
  have hrun : Sem.run Try.prog (Builtin.copy_ #[35, 35] 3 #[.slice (some ⟨w.heap.size, 0, none⟩) 8 8, .slice A n c]) (w.alloc (.cells #[.int .u8 0, .int .u8 0, .int .u8 0, .int .u8 0, .int .u8 0, .int .u8 0, .int .u8 0, .int .u8 0] 36)) = .ok (.int .i64 k0) w2 := hrun
  have HZ := hide hz
  clear hz hb2 hr2 B0 b0
  go_enter Try.func23, Try.ntmps23
  go_wp2_with fail
  clear hrun
  go_loop [4, 9] (WordIn l) (fun _ i => 8 - (intOf i).toNat)
  case atStart => exact ⟨0, rfl, by omega, rfl⟩
  case round =>
    obtain ⟨k, rfl, hk, rfl⟩ := hrel
    by_cases hlt : k < 8
    · have z := HZ.out k hlt
      have hb := h8 k
      obtain ⟨c, hc⟩ := Int.eq_ofNat_of_zero_le hb.1
      rw [hc] at z hb
      have o := or_sum (wsum l k) c k (wsum_lt h8 k) (by omega) (by omega)
      have e : wsum l (k + 1) = wsum l k + c * 2 ^ (8 * k) := by
        show wsum l k + (l.getD k 0).toNat * 2 ^ (8 * k) = _
        rw [hc, Int.toNat_natCast]
      rw [← e] at o
      have hp : (2 : Nat) ^ (8 * k) ≤ 2 ^ 56 := Nat.pow_le_pow_right (by omega) (by omega)
      have hq : c * 2 ^ (8 * k) ≤ 255 * 2 ^ 56 := Nat.mul_le_mul (by omega) hp
      have h64 : (2 : Nat) ^ 56 = 72057594037927936 := by decide
      have wr1 : IntKind.u64.wrap ((c : Int) * 2 ^ (8 * k)) = ((c * 2 ^ (8 * k) : Nat) : Int) := by
        rw [IntKind.wrap_u64]
        have : (c : Int) * 2 ^ (8 * k) = ((c * 2 ^ (8 * k) : Nat) : Int) := by simp
        rw [this]
        omega
      have hc0 : (c : Int) ≤ 255 := by omega
      clear e hp hq h64 hc hb
      have o' : bits .or .u64 ((wsum l k : Nat) : Int) ((c : Int) * 2 ^ (8 * k)) = ((wsum l (k + 1) : Nat) : Int) := by
        rw [← o]
        simp
      have O := hide o'
      clear o o'
      go_wp2_with fail
      rw [O.out]
      go_round
      case rel => exact ⟨k + 1, by go_num, by omega, rfl⟩
      case measure => simp [intOf]; omega
    · obtain rfl : k = 8 := by omega
      go_wp2_with fail
      go_ret
      exact ⟨rfl, HB.out⟩

def FbA (w : World) (i : Value) (wr : World) : Prop := ∃ k : Nat, i = .int .i64 k ∧ k ≤ 8 ∧ Below w.heap.size w wr
def FbB (l : List Int) (w : World) (v i : Value) (wr : World) : Prop := ∃ k : Nat, i = .int .i64 k ∧ k ≤ 8 ∧ k ≤ l.length ∧ v = .int .u64 (wsum l k) ∧ Below w.heap.size w wr
set_option maxHeartbeats 2000000 in
theorem FieldBytes_calls (x : Int) (A : Option Addr) (n c : Nat) (l : List Int) (w : World) (hx : W64 x) (hn63 : n ≤ 9223372036854775807) (hr : Reads w w.heap.size 1 A n (ints .u8 l)) (h8 : Bytes8 l) :
    Calls Try.prog 8 #[.int .u64 x, .slice A n c] w fun e w' => e = .returned (.bool true) ∧ Below w.heap.size w w' := by
  have Aw := hide awake01
  by_cases hbig : 20 < n
  · have hbI : (20 : Int) < n := by omega
    clear hbig
    go_enter Try.func8, Try.ntmps8
    go_wp2_with fail
    refine (Aw.out _).mono ?_
    rintro e w1 ⟨rfl, rfl⟩
    go_wp2_with fail
    go_ret
    exact ⟨rfl, Below.refl _ _⟩
  have hn : n ≤ 20 := by omega
  have hl := hr.lenWord
  have Bs := hide (fun w => bytes_any x w hx)
  have HL := hide hl
  have HX := hide hx
  rw [bysA_all x] at Bs
  have G := hide (fun (k : Nat) (hk : k < 8) w => rget_any x (8 * (k : Int)) 8 w hx ⟨by omega, by omega⟩ ⟨by omega, by omega⟩)
  clear hl hbig hn63
  go_enter Try.func8, Try.ntmps8
  go_wp2_with fail
  refine (Bs.out _).mono ?_
  rintro e w1 ⟨rfl, B0⟩
  go_wp2_with fail
  have bo := Blk.new w1 36 (bysA x 8)
  replace B0 := B0.alloc B0.size (.cells (bysA x 8) 36)
  have A8 := bysA_all x
  rw [← A8]
  have hlo : w1.heap.size < (w1.alloc (.cells (bysA x 8) 36)).heap.size := bo.lt
  generalize w1.alloc (.cells (bysA x 8) 36) = w2 at *
  have HA := hide A8
  have HBo := hide bo
  have HB0 := hide B0
  clear bo B0 A8
  go_loopw [6] (FbA w2) (fun i _ => 8 - (intOf i).toNat)
  case atStart => exact ⟨0, rfl, by omega, Below.refl _ _⟩
  case round =>
    obtain ⟨k, rfl, hk, hb⟩ := hrel
    by_cases hlt : k < 8
    · have z := ((HBo.out.below hb HBo.out.lt).cell k).trans (bysA_at x 8 k hlt)
      rw [if_pos hlt] at z
      have e : fget x (8 * (k : Int)) 8 = byt8 x k := by
        have := fget_at x (8 * k) 8 (by omega)
        rw [show ((8 * k : Nat) : Int) = 8 * (k : Int) by omega] at this
        rw [show (8 : Int) = ((8 : Nat) : Int) from rfl]
        rw [show (((8 : Nat) : Int) * (k : Int)) = ((8 * k : Nat) : Int) by omega]
        exact fget_at x (8 * k) 8 (by omega)
      have G2 := hide (G.out k hlt)
      rw [e] at G2
      have w8 : IntKind.i64.wrap (8 * (k : Int)) = 8 * (k : Int) := IntWalk.i64_in _ (by omega)
      have bb := byt8_bd x k
      clear e
      generalize byt8 x k = y at *
      have wy : IntKind.u64.wrap y = y := by rw [IntKind.wrap_u64]; omega
      have k0 : (0 : Int) ≤ (k : Int) := by omega
      have k8 : (k : Int) < 8 := by omega
      go_wp2_with fail
      go_quiet ((go_at_call 10; exact quiet_left (G2.out _)))
      go_wp2_with fail
      go_roundw
      case rel => exact ⟨k + 1, by go_num, by omega, below_drewN hb _⟩
      case measure => simp [intOf]; omega
    · obtain rfl : k = 8 := by omega
      have B0 := HB0.out.trans (hb.mono HB0.out.size)
      have bo := HBo.out.below hb HBo.out.lt
      have HB1 := hide B0
      have HBo1 := hide bo
      clear B0 bo hb hk hlt HBo HB0
      have hr2 := hr.below HB1.out
      have HR := hide hr2
      clear hr2
      go_wp2_with fail
      generalize wr = w3 at *
      go_loopw [7, 8] (FbB l w3) (fun _ i _ => 30 - (intOf i).toNat)
      case atStart => exact ⟨0, rfl, by omega, by omega, rfl, Below.refl _ _⟩
      case round =>
        obtain ⟨k, rfl, hk, hkl, rfl, hb⟩ := hrel
        have hln : l.length = n := HL.out
        by_cases hlt : k < n ∧ k < 8
        · obtain ⟨hkn, hk8⟩ := hlt
          have hr := HR.out.below (hb.mono HB1.out.size)
          obtain ⟨a, rfl, hkl2, z⟩ := hr.word hkn
          have hgd : l.getD k 0 = l[k] := by simp [List.getD, hkl2]
          have hb8 := h8 k
          rw [hgd] at hb8
          have e : wsum l (k + 1) = wsum l k + (l[k]).toNat * 2 ^ (8 * k) := by
            show wsum l k + (l.getD k 0).toNat * 2 ^ (8 * k) = _
            rw [hgd]
          obtain ⟨c, hc⟩ := Int.eq_ofNat_of_zero_le hb8.1
          rw [hc] at z hb8 e
          rw [Int.toNat_natCast] at e
          have hlt1 := wsum_lt h8 (k + 1)
          have h88 : 2 ^ (8 * (k + 1)) ≤ 2 ^ 64 := Nat.pow_le_pow_right (by omega) (by omega)
          have PW := hide (fun w => power_any (8 * (k : Int)) w (by omega) (by omega))
          rw [show (8 * (k : Int)).toNat = 8 * k by omega, P2_nat] at PW
          have hp : 2 ^ (8 * k) ≤ 2 ^ 56 := Nat.pow_le_pow_right (by omega) (by omega)
          have h56 : (2 : Nat) ^ 56 = 72057594037927936 := by decide
          have h64 : (2 : Nat) ^ 64 = 18446744073709551616 := by decide
          rw [h56] at hp
          rw [h64] at h88
          generalize 2 ^ (8 * (k + 1)) = p1 at *
          generalize 2 ^ (8 * k) = p0 at *
          have hq : c * p0 ≤ 255 * 72057594037927936 := Nat.mul_le_mul (by omega) hp
          have hcp : (c : Int) * (p0 : Int) = ((c * p0 : Nat) : Int) := by simp
          have w1' : IntKind.u64.wrap ((c : Int) * (p0 : Int)) = ((c * p0 : Nat) : Int) := by rw [hcp, IntKind.wrap_u64]; omega
          have w2' : IntKind.u64.wrap (((wsum l k : Nat) : Int) + ((c * p0 : Nat) : Int)) = ((wsum l (k + 1) : Nat) : Int) := by rw [IntKind.wrap_u64, e]; omega
          have w3' : IntKind.u64.wrap (c : Int) = (c : Int) := by rw [IntKind.wrap_u64]; omega
          have w8 : IntKind.i64.wrap (8 * (k : Int)) = 8 * (k : Int) := IntWalk.i64_in _ (by omega)
          have k0 : (0 : Int) ≤ (k : Int) := by omega
          have k8 : (k : Int) < 8 := by omega
          have kn : (k : Int) < (n : Int) := by omega
          clear e hcp hq hlt1 h88 h56 h64 hp hb8 hc hgd hr hkl hk hln
          generalize ((c * p0 : Nat) : Int) = cp at *
          generalize hs1 : ((wsum l (k + 1) : Nat) : Int) = s1 at *
          have HS := hide hs1
          clear hs1
          go_wp2_with fail
          go_quiet ((go_at_call 22; exact quiet_left (PW.out _)))
          go_wp2_with fail
          go_roundw
          case rel => exact ⟨k + 1, by go_num, by omega, by have := HL.out; omega, by rw [HS.out], below_drewN hb _⟩
          case measure => simp [intOf]; omega
        · have es : wsum l k = wsum l 8 := by
            by_cases h : k = 8
            · rw [h]
            · have := wsum_end l k (by omega) (8 - k)
              rw [show k + (8 - k) = 8 by omega] at this
              exact this.symm
          rw [es]
          have hr := HR.out.below (hb.mono HB1.out.size)
          have B0 := HB1.out.trans (hb.mono HB1.out.size)
          have bo := HBo1.out.below hb HBo1.out.lt
          have WD := hide (word_any A n c l wr (hr.more B0.size) h8)
          generalize wsum l 8 = W8 at *
          have hx8 := wsum_back HX.out
          have hl8 := lst8_bytes x
          have WE := fun (w : World) => word_any (some ⟨w.heap.size, 0, none⟩) 8 8 (lst8 x) (w.alloc (.cells ((ints .u8 (lst8 x)).toArray) 5)) (by rw [World.size_alloc]; exact Reads.new w (ints .u8 (lst8 x)) _ 8 1 rfl) hl8
          rw [hx8] at WE
          have el : (ints .u8 (lst8 x)).toArray = #[.int .u8 (byt8 x 0), .int .u8 (byt8 x 1), .int .u8 (byt8 x 2), .int .u8 (byt8 x 3), .int .u8 (byt8 x 4), .int .u8 (byt8 x 5), .int .u8 (byt8 x 6), .int .u8 (byt8 x 7)] := rfl
          rw [el] at WE
          have WE := hide WE
          rw [HA.out] at bo
          have HN : ¬ ((k : Int) < (n : Int)) ∨ ¬ ((k : Int) < 8) := by omega
          clear HA HBo1 Bs G es hlt el hx8 hl8 hr
          generalize byt8 x 0 = c0 at *
          generalize byt8 x 1 = c1 at *
          generalize byt8 x 2 = c2 at *
          generalize byt8 x 3 = c3 at *
          generalize byt8 x 4 = c4 at *
          generalize byt8 x 5 = c5 at *
          generalize byt8 x 6 = c6 at *
          generalize byt8 x 7 = c7 at *
          have HB3 := hide B0
          have HB4 := hide bo
          clear B0 bo
          by_cases hkn : (k : Int) < (n : Int)
          · have hk8 : ¬ ((k : Int) < 8) := by omega
            clear HN hln hkl
            go_wp2_with fail
            refine WD.out.mono ?_
            rintro e w5 ⟨rfl, hb5⟩
            have B5 := HB3.out.trans (hb5.mono HB3.out.size)
            have bo := HB4.out.below hb5 HB4.out.lt
            have mo := fun i => bo.cell i
            go_wp2_with fail
            refine (WE.out _).mono ?_
            rintro e w6 ⟨rfl, hb6⟩
            have B6 := (B5.alloc B5.size _).trans (hb6.mono (by have := B5.size; simp only [World.size_alloc]; omega))
            go_wp2_with fail
            refine (Aw.out _).mono ?_
            rintro e w' ⟨rfl, rfl⟩
            go_wp2_with fail
            go_ret
            exact ⟨rfl, B6⟩
          · clear HN hln hkl
            go_wp2_with fail
            refine WD.out.mono ?_
            rintro e w5 ⟨rfl, hb5⟩
            have B5 := HB3.out.trans (hb5.mono HB3.out.size)
            have bo := HB4.out.below hb5 HB4.out.lt
            have mo := fun i => bo.cell i
            go_wp2_with fail
            refine (WE.out _).mono ?_
            rintro e w6 ⟨rfl, hb6⟩
            have B6 := (B5.alloc B5.size _).trans (hb6.mono (by have := B5.size; simp only [World.size_alloc]; omega))
            go_wp2_with fail
            refine (Aw.out _).mono ?_
            rintro e w' ⟨rfl, rfl⟩
            go_wp2_with fail
            go_ret
            exact ⟨rfl, B6⟩
end Go.Proofs.Ytgcdmngihnnloaa
