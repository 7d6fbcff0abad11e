/-
  strings.CutPrefix at "-"; num.ParseInt.
-/
import Derived.Test.YthoakbkaohcobaaNumG
namespace Go.Proofs.Ythoakbkaohcobaa
open Go.RowKit

set_option maxHeartbeats 400000 in
theorem hasp_any (s : ByteArray) (w : World) (hs : s.size ≤ 1000) (h1 : 1 ≤ s.size) :
    Calls Try.prog 28 #[.string s, .string ⟨#[45]⟩] w fun e w' => e = .returned (.bool ((s.extract 0 1).toList == [45])) ∧ w = w' := by
  go_enter Try.func28, Try.ntmps28
  go_wp2_with fail
  go_ret
  exact ⟨rfl, rfl⟩

/-- Does a text begin with '-'? -/
def negB (s : ByteArray) : Bool := (s.extract 0 1).toList == [45]
theorem hasp2_any (s : ByteArray) (p : Bool) (w : World) (hs : s.size ≤ 1000) (h1 : 1 ≤ s.size) (hp : negB s = p) :
    Calls Try.prog 28 #[.string s, .string ⟨#[45]⟩] w fun e w' => e = .returned (.bool p) ∧ w = w' := by
  rw [← hp]
  exact hasp_any s w hs h1
set_option maxHeartbeats 400000 in
theorem cutp1_any (s : ByteArray) (p : Bool) (w : World) (hs : s.size ≤ 1000) (h1 : 1 ≤ s.size) (hp : negB s = p) :
    Calls Try.prog 26 #[.string s, .string ⟨#[45]⟩] w fun e w' => e = .returned (.tuple #[.string (if p = true then s.extract 1 s.size else s), .bool p]) ∧ w = w' := by
  have H := hide (hasp2_any s p w hs h1 hp)
  cases p
  · go_enter Try.func26, Try.ntmps26
    go_wp2_with fail
    refine H.out.mono ?_
    rintro e w' ⟨rfl, rfl⟩
    go_wp2_with fail
    go_ret2
    exact ⟨rfl, rfl⟩
  · go_enter Try.func26, Try.ntmps26
    go_wp2_with fail
    refine H.out.mono ?_
    rintro e w' ⟨rfl, rfl⟩
    go_wp2_with fail
    go_ret2
    exact ⟨rfl, rfl⟩
set_option maxHeartbeats 400000 in
theorem cutp_any (s : ByteArray) (p : Bool) (w : World) (hs : s.size ≤ 1000) (h1 : 1 ≤ s.size) (hp : negB s = p) :
    Calls Try.prog 21 #[.string s, .string ⟨#[45]⟩] w fun e w' => e = .returned (.tuple #[.string (if p = true then s.extract 1 s.size else s), .bool p]) ∧ w = w' := by
  have H := hide (cutp1_any s p w hs h1 hp)
  cases p
  · go_enter Try.func21, Try.ntmps21
    go_wp2_with fail
    refine H.out.mono ?_
    rintro e w' ⟨rfl, rfl⟩
    go_wp2_with fail
    go_ret2
    exact ⟨rfl, rfl⟩
  · go_enter Try.func21, Try.ntmps21
    go_wp2_with fail
    refine H.out.mono ?_
    rintro e w' ⟨rfl, rfl⟩
    go_wp2_with fail
    go_ret2
    exact ⟨rfl, rfl⟩

set_option maxHeartbeats 1000000 in
theorem pint_neg (s : ByteArray) (m : Nat) (w : World) (hs : s.size ≤ 1000) (h1 : 1 ≤ s.size) (hp : negB s = true) (hr : rdRes 10 (s.extract 1 s.size).data.toList = (m, 0)) (hz : ((s.extract 1 s.size).toList == [48]) = false) (hm : 1 ≤ m ∧ m ≤ 9223372036854775808) :
    Calls Try.prog 15 #[.string s] w fun e w' => e = .returned (.tuple #[.int .i64 (-(m : Int)), .int .i64 0]) ∧ Below w.heap.size w w' := by
  have C := hide (cutp_any s true w hs h1 hp)
  rw [if_pos rfl] at C
  have hsz : (s.extract 1 s.size).size ≤ 1000 := by simp [ByteArray.size_extract]; omega
  have P := hide (parse_any (s.extract 1 s.size) w hsz)
  rw [hr] at P
  generalize s.extract 1 s.size = t at *
  clear hr hsz hp
  have e1 : IntKind.i64.wrap ((m : Int) - 1) = (m : Int) - 1 := by rw [IntKind.wrap_i64]; omega
  have e2 : -((m : Int) - 1) - 1 = -(m : Int) := by omega
  go_enter Try.func15, Try.ntmps15
  go_wp2_with fail
  refine C.out.mono ?_
  rintro e w' ⟨rfl, rfl⟩
  go_wp2_with fail
  refine P.out.mono ?_
  rintro e w1 ⟨rfl, hb1⟩
  go_wp2_with fail
  go_ret2
  exact ⟨rfl, hb1⟩

set_option maxHeartbeats 1000000 in
theorem pint_pos (s : ByteArray) (m : Nat) (w : World) (hs : s.size ≤ 1000) (h1 : 1 ≤ s.size) (hp : negB s = false) (hr : rdRes 10 s.data.toList = (m, 0)) (hm : m < 9223372036854775808) :
    Calls Try.prog 15 #[.string s] w fun e w' => e = .returned (.tuple #[.int .i64 (m : Int), .int .i64 0]) ∧ Below w.heap.size w w' := by
  have C := hide (cutp_any s false w hs h1 hp)
  rw [if_neg (by simp)] at C
  have P := hide (parse_any s w hs)
  rw [hr] at P
  have hm2 : (m : Int) ≤ 9223372036854775807 := by omega
  have hm3 : ¬ (9223372036854775808 ≤ (m : Int)) := by omega
  have e1 : IntKind.i64.wrap (m : Int) = (m : Int) := by rw [IntKind.wrap_i64]; omega
  have hm0 : 0 ≤ (m : Int) := by omega
  clear hr hp hm
  simp only [] at P
  generalize (m : Int) = M at *
  go_enter Try.func15, Try.ntmps15
  go_wp2_with fail
  refine C.out.mono ?_
  rintro e w' ⟨rfl, rfl⟩
  go_wp2_with fail
  refine P.out.mono ?_
  rintro e w1 ⟨rfl, hb1⟩
  go_wp2_with fail
  go_ret2
  exact ⟨rfl, hb1⟩
end Go.Proofs.Ythoakbkaohcobaa
