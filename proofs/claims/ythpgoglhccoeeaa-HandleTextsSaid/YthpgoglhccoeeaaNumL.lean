/-
  gleaningref02.Value, great, Read.
-/
import Derived.Test.YthpgoglhccoeeaaNumK
namespace Go.Proofs.Ythpgoglhccoeeaa
open Go.RowKit

def rvN (n : Nat) : Int := if 48 ≤ n ∧ n ≤ 57 then (n : Int) - 48 else if 97 ≤ n ∧ n ≤ 102 then (n : Int) - 87 else 99
def rv (c : UInt8) : Int := if dU c < 16 then dU c else 99
theorem rv_N' : ∀ n, n < 256 → rvN n = rv (UInt8.ofNat n) := by decide +kernel
theorem rv_N (c : UInt8) : rvN c.toNat = rv c := by
  have := rv_N' c.toNat (UInt8.toNat_lt c)
  simp only [UInt8.ofNat_toNat] at this
  exact this

set_option maxHeartbeats 400000 in
theorem rvalue_any (c : UInt8) (w : World) : Calls Try.prog 37 #[.int .u8 (c.toNat : Int)] w fun e w' => e = .returned (.int .i64 (rv c)) ∧ w = w' := by
  rw [← rv_N]
  have hn := UInt8.toNat_lt c
  generalize c.toNat = n at *
  by_cases c1 : 48 ≤ n
  · by_cases c2 : n ≤ 57
    · have E := hide (show rvN n = (n : Int) - 48 from if_pos ⟨c1, c2⟩)
      go_enter Try.func37, Try.ntmps37
      go_wp2_with fail
      go_ret
      exact ⟨by rw [E.out]; rfl, rfl⟩
    · by_cases c3 : 97 ≤ n
      · by_cases c4 : n ≤ 102
        · have E := hide (show rvN n = (n : Int) - 87 by unfold rvN; rw [if_neg (by omega), if_pos ⟨c3, c4⟩])
          go_enter Try.func37, Try.ntmps37
          go_wp2_with fail
          go_ret
          exact ⟨by rw [E.out]; rfl, rfl⟩
        · have E := hide (show rvN n = 99 by unfold rvN; rw [if_neg (by omega), if_neg (by omega)])
          go_enter Try.func37, Try.ntmps37
          go_wp2_with fail
          go_ret
          exact ⟨by rw [E.out]; rfl, rfl⟩
      · have E := hide (show rvN n = 99 by unfold rvN; rw [if_neg (by omega), if_neg (by omega)])
        go_enter Try.func37, Try.ntmps37
        go_wp2_with fail
        go_ret
        exact ⟨by rw [E.out]; rfl, rfl⟩
  · have E := hide (show rvN n = 99 by unfold rvN; rw [if_neg (by omega), if_neg (by omega)])
    go_enter Try.func37, Try.ntmps37
    go_wp2_with fail
    go_ret
    exact ⟨by rw [E.out]; rfl, rfl⟩

theorem bl_tri : ∀ (x y : List UInt8), (!Op.bytesLess x y && !(x == y)) = Op.bytesLess y x
  | [], [] => rfl
  | [], _ :: _ => rfl
  | _ :: _, [] => rfl
  | a :: x, c :: y => by
    have ih := bl_tri x y
    show (!(decide (a < c) || (a == c && Op.bytesLess x y)) && !(a == c && x == y)) = (decide (c < a) || (c == a && Op.bytesLess y x))
    by_cases h1 : a = c
    · subst h1
      have h2 : ¬ a < a := UInt8.lt_irrefl a
      simp only [h2, decide_false, Bool.false_or, beq_self_eq_true, Bool.true_and]
      exact ih
    · have e1 : (a == c) = false := by simpa using h1
      have e2 : (c == a) = false := by simpa using fun h => h1 h.symm
      rw [e1, e2]
      by_cases h3 : a < c
      · have h4 : ¬ c < a := fun h => UInt8.lt_irrefl a (UInt8.lt_trans h3 h)
        simp [h3, h4]
      · have h4 : c < a := by
          rcases UInt8.lt_or_lt_of_ne h1 with h | h
          · exact absurd h h3
          · exact h
        simp [h3, h4]

set_option maxHeartbeats 1000000 in
theorem great_any (b : Nat) (s : ByteArray) (w : World) (hb : b = 10 ∨ b = 16) (_hs : s.size ≤ 1000) :
    Calls Try.prog 38 #[.string s, .int .u64 b] w fun e w' => e = .returned (.bool (greatB b s.data.toList)) ∧ Below w.heap.size w w' := by
  have F := hide (fun w => rform_any b 18446744073709551615 w hb (by omega))
  rw [show (((18446744073709551615 : Nat)) : Int) = 18446744073709551615 from rfl] at F
  have hz := form_size b 18446744073709551615
  have htl : (strOfNums (form b 18446744073709551615)).toList = topL b := by rw [ByteArray.toList_eq, strOf_list]; rfl
  have hts : (strOfNums (form b 18446744073709551615)).size = (topL b).length := by rw [strOf_size]; unfold topL; simp
  have hsl : s.data.toList.length = s.size := Array.length_toList
  have E := hide (show greatB b s.data.toList = if s.data.toList.length ≠ (topL b).length then decide ((topL b).length < s.data.toList.length) else Op.bytesLess (topL b) s.data.toList from rfl)
  rw [hsl] at E
  rw [← ByteArray.toList_eq] at E ⊢
  generalize greatB b s.toList = R at *
  generalize strOfNums (form b 18446744073709551615) = t at *
  rw [← hts, ← htl] at E
  clear htl hts hsl
  by_cases hl : s.size = t.size
  · have q1 : ((s.size : Int) != (t.size : Int)) = false := by simp [hl]
    have q2 : ((s.size : Int) == (t.size : Int)) = true := by simp [hl]
    rw [if_neg (by simpa using hl)] at E
    clear hl
    have hg : binOp .gtr 9 (.string s) (.string t) = pure (.bool (Op.bytesLess t.toList s.toList)) := by rw [← bl_tri]; simp [binOp, Op.stringOp]
    go_enter Try.func38, Try.ntmps38
    go_wp2_with fail
    refine (F.out _).mono ?_
    rintro e w1 ⟨rfl, hb1⟩
    go_wp2_with fail
    go_ret
    exact ⟨by rw [E.out]; rfl, hb1⟩
  · have q1 : ((s.size : Int) != (t.size : Int)) = true := by simp; omega
    have q2 : ((s.size : Int) == (t.size : Int)) = false := by simp; omega
    rw [if_pos hl] at E
    clear hl
    go_enter Try.func38, Try.ntmps38
    go_wp2_with fail
    refine (F.out _).mono ?_
    rintro e w1 ⟨rfl, hb1⟩
    go_wp2_with fail
    go_ret
    exact ⟨by rw [E.out]; simp, hb1⟩
end Go.Proofs.Ythpgoglhccoeeaa
