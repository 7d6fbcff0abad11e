/-
  num.ParseInt at the other texts.
-/
import Derived.Test.YthoakbkaohcobaaNumN
namespace Go.Proofs.Ythoakbkaohcobaa
open Go.RowKit

set_option maxHeartbeats 1000000 in
theorem pint_neg_zero (s : ByteArray) (m : Nat) (e : Int) (w : World) (hs : s.size ≤ 1000) (h1 : 1 ≤ s.size) (hp : negB s = true) (hr : rdRes 10 (s.extract 1 s.size).data.toList = (m, e)) (hz : ((s.extract 1 s.size).toList == [48]) = true) :
    Calls Try.prog 15 #[.string s] w fun e w' => e = .returned (.tuple #[.int .i64 0, .int .i64 4]) ∧ Below w.heap.size w w' := by
  have C := hide (cutp_any s true w hs h1 hp)
  rw [if_pos rfl] at C
  have hsz : (s.extract 1 s.size).size ≤ 1000 := by rw [ByteArray.size_extract]; omega
  have P := hide (parse_any (s.extract 1 s.size) w hsz)
  rw [hr] at P
  simp only [] at P
  generalize s.extract 1 s.size = t at *
  clear hr hsz hp
  go_enter Try.func15, Try.ntmps15
  go_wp2_with fail
  refine C.out.mono ?_
  rintro e w' ⟨rfl, rfl⟩
  go_wp2_with fail
  refine P.out.mono ?_
  rintro e w1 ⟨rfl, hb1⟩
  go_wp2_with fail
  go_ret2
  exact ⟨rfl, hb1⟩
set_option maxHeartbeats 1000000 in
theorem pint_neg_err (s : ByteArray) (m : Nat) (e : Int) (w : World) (hs : s.size ≤ 1000) (h1 : 1 ≤ s.size) (hp : negB s = true) (hr : rdRes 10 (s.extract 1 s.size).data.toList = (m, e)) (hz : ((s.extract 1 s.size).toList == [48]) = false) (he : (e == 0) = false) :
    Calls Try.prog 15 #[.string s] w fun r w' => r = .returned (.tuple #[.int .i64 0, .int .i64 e]) ∧ Below w.heap.size w w' := by
  have he2 : (e != 0) = true := by simp [bne, he]
  generalize he0 : e = e0 at *
  clear he0
  have C := hide (cutp_any s true w hs h1 hp)
  rw [if_pos rfl] at C
  have hsz : (s.extract 1 s.size).size ≤ 1000 := by rw [ByteArray.size_extract]; omega
  have P := hide (parse_any (s.extract 1 s.size) w hsz)
  rw [hr] at P
  simp only [] at P
  generalize s.extract 1 s.size = t at *
  clear hr hsz hp
  go_enter Try.func15, Try.ntmps15
  go_wp2_with fail
  refine C.out.mono ?_
  rintro e w' ⟨rfl, rfl⟩
  go_wp2_with fail
  refine P.out.mono ?_
  rintro e w1 ⟨rfl, hb1⟩
  go_wp2_with fail
  go_ret2
  exact ⟨rfl, hb1⟩
set_option maxHeartbeats 1000000 in
theorem pint_neg_big (s : ByteArray) (m : Nat) (w : World) (hs : s.size ≤ 1000) (h1 : 1 ≤ s.size) (hp : negB s = true) (hr : rdRes 10 (s.extract 1 s.size).data.toList = (m, 0)) (hz : ((s.extract 1 s.size).toList == [48]) = false) (hm : 9223372036854775808 < m) :
    Calls Try.prog 15 #[.string s] w fun r w' => r = .returned (.tuple #[.int .i64 0, .int .i64 5]) ∧ Below w.heap.size w w' := by
  have hm2 : 9223372036854775808 < (m : Int) := by omega
  clear hm
  have C := hide (cutp_any s true w hs h1 hp)
  rw [if_pos rfl] at C
  have hsz : (s.extract 1 s.size).size ≤ 1000 := by rw [ByteArray.size_extract]; omega
  have P := hide (parse_any (s.extract 1 s.size) w hsz)
  rw [hr] at P
  simp only [] at P
  generalize s.extract 1 s.size = t at *
  clear hr hsz hp
  generalize (m : Int) = M at *
  go_enter Try.func15, Try.ntmps15
  go_wp2_with fail
  refine C.out.mono ?_
  rintro e w' ⟨rfl, rfl⟩
  go_wp2_with fail
  refine P.out.mono ?_
  rintro e w1 ⟨rfl, hb1⟩
  go_wp2_with fail
  go_ret2
  exact ⟨rfl, hb1⟩
set_option maxHeartbeats 1000000 in
theorem pint_pos_err (s : ByteArray) (m : Nat) (e : Int) (w : World) (hs : s.size ≤ 1000) (h1 : 1 ≤ s.size) (hp : negB s = false) (hr : rdRes 10 s.data.toList = (m, e)) (he : (e == 0) = false) :
    Calls Try.prog 15 #[.string s] w fun r w' => r = .returned (.tuple #[.int .i64 0, .int .i64 e]) ∧ Below w.heap.size w w' := by
  have he2 : (e != 0) = true := by simp [bne, he]
  generalize he0 : e = e0 at *
  clear he0
  have C := hide (cutp_any s false w hs h1 hp)
  rw [if_neg (by simp)] at C
  have P := hide (parse_any s w hs)
  rw [hr] at P
  simp only [] at P
  clear hr hp
  go_enter Try.func15, Try.ntmps15
  go_wp2_with fail
  refine C.out.mono ?_
  rintro e w' ⟨rfl, rfl⟩
  go_wp2_with fail
  refine P.out.mono ?_
  rintro e w1 ⟨rfl, hb1⟩
  go_wp2_with fail
  go_ret2
  exact ⟨rfl, hb1⟩
set_option maxHeartbeats 1000000 in
theorem pint_pos_big (s : ByteArray) (m : Nat) (w : World) (hs : s.size ≤ 1000) (h1 : 1 ≤ s.size) (hp : negB s = false) (hr : rdRes 10 s.data.toList = (m, 0)) (hm : 9223372036854775808 ≤ m) :
    Calls Try.prog 15 #[.string s] w fun r w' => r = .returned (.tuple #[.int .i64 0, .int .i64 5]) ∧ Below w.heap.size w w' := by
  have hm2 : 9223372036854775808 ≤ (m : Int) := by omega
  clear hm
  have C := hide (cutp_any s false w hs h1 hp)
  rw [if_neg (by simp)] at C
  have P := hide (parse_any s w hs)
  rw [hr] at P
  simp only [] at P
  clear hr hp
  generalize (m : Int) = M at *
  go_enter Try.func15, Try.ntmps15
  go_wp2_with fail
  refine C.out.mono ?_
  rintro e w' ⟨rfl, rfl⟩
  go_wp2_with fail
  refine P.out.mono ?_
  rintro e w1 ⟨rfl, hb1⟩
  go_wp2_with fail
  go_ret2
  exact ⟨rfl, hb1⟩
end Go.Proofs.Ythoakbkaohcobaa
