/-
  gleaningref02.ReadInt at the other texts.
-/
import Derived.Test.YthoakbkaohcobaaNumQ
namespace Go.Proofs.Ythoakbkaohcobaa
open Go.RowKit

set_option maxHeartbeats 1000000 in
theorem rint_pos (s : ByteArray) (m : Nat) (w : World) (hs : s.size ≤ 1000) (h1 : 0 < s.size) (hk : (((s[0]).toNat : Int) == 45) = false) (hmin : (s.toList == minT) = false) (hr : rdRes 10 s.data.toList = (m, 0)) (hm : m < 9223372036854775808) :
    Calls Try.prog 18 #[.string s] w fun r w' => r = .returned (.tuple #[.int .i64 (m : Int), .int .i64 0]) ∧ Below w.heap.size w w' := by
  have hm0 : 0 ≤ (m : Int) := by omega
  have hm2 : (m : Int) ≤ 9223372036854775807 := by omega
  clear hm
  have P := hide (fun w => rread_any 10 s w (by omega) hs)
  rw [hr, show ((10 : Nat) : Int) = 10 from rfl] at P
  simp only [] at P
  clear hr
  unfold minT at hmin
  generalize (m : Int) = M at *
  go_enter Try.func18, Try.ntmps18
  go_wp2_with fail
  refine (P.out _).mono ?_
  rintro e w1 ⟨rfl, hb1⟩
  go_wp2_with fail
  go_ret2
  exact ⟨rfl, hb1⟩
set_option maxHeartbeats 1000000 in
theorem rint_pos_big (s : ByteArray) (m : Nat) (w : World) (hs : s.size ≤ 1000) (h1 : 0 < s.size) (hk : (((s[0]).toNat : Int) == 45) = false) (hmin : (s.toList == minT) = false) (hr : rdRes 10 s.data.toList = (m, 0)) (hm : 9223372036854775808 ≤ m) :
    Calls Try.prog 18 #[.string s] w fun r w' => r = .returned (.tuple #[.int .i64 0, .int .i64 5]) ∧ Below w.heap.size w w' := by
  have hm2 : 9223372036854775807 < (m : Int) := by omega
  clear hm
  have P := hide (fun w => rread_any 10 s w (by omega) hs)
  rw [hr, show ((10 : Nat) : Int) = 10 from rfl] at P
  simp only [] at P
  clear hr
  unfold minT at hmin
  generalize (m : Int) = M at *
  go_enter Try.func18, Try.ntmps18
  go_wp2_with fail
  refine (P.out _).mono ?_
  rintro e w1 ⟨rfl, hb1⟩
  go_wp2_with fail
  go_ret2
  exact ⟨rfl, hb1⟩
set_option maxHeartbeats 1000000 in
theorem rint_pos_err (s : ByteArray) (m : Nat) (e0 : Int) (w : World) (hs : s.size ≤ 1000) (h1 : 0 < s.size) (hk : (((s[0]).toNat : Int) == 45) = false) (hmin : (s.toList == minT) = false) (hr : rdRes 10 s.data.toList = (m, e0)) (he : (e0 == 0) = false) :
    Calls Try.prog 18 #[.string s] w fun r w' => r = .returned (.tuple #[.int .i64 0, .int .i64 e0]) ∧ Below w.heap.size w w' := by
  have he2 : (e0 != 0) = true := by simp [bne, he]
  have P := hide (fun w => rread_any 10 s w (by omega) hs)
  rw [hr, show ((10 : Nat) : Int) = 10 from rfl] at P
  simp only [] at P
  clear hr
  unfold minT at hmin
  generalize (m : Int) = M at *
  go_enter Try.func18, Try.ntmps18
  go_wp2_with fail
  refine (P.out _).mono ?_
  rintro e w1 ⟨rfl, hb1⟩
  go_wp2_with fail
  go_ret2
  exact ⟨rfl, hb1⟩
set_option maxHeartbeats 1000000 in
theorem rint_neg_zero (s : ByteArray) (w : World) (h1 : 0 < s.size) (hk : (((s[0]).toNat : Int) == 45) = true) (hmin : (s.toList == minT) = false) (hz : ((s.extract 1 s.size).toList == [48]) = true) :
    Calls Try.prog 18 #[.string s] w fun r w' => r = .returned (.tuple #[.int .i64 0, .int .i64 4]) ∧ Below w.heap.size w w' := by
  unfold minT at hmin
  have h2 : (1 : Int) ≤ s.size := by omega
  go_enter Try.func18, Try.ntmps18
  go_wp2_with fail
  go_ret2
  exact ⟨rfl, Below.refl _ _⟩
set_option maxHeartbeats 1000000 in
theorem rint_neg (s : ByteArray) (m : Nat) (w : World) (hs : s.size ≤ 1000) (h1 : 0 < s.size) (hk : (((s[0]).toNat : Int) == 45) = true) (hmin : (s.toList == minT) = false) (hz : ((s.extract 1 s.size).toList == [48]) = false)
    (hr : rdRes 10 (s.extract 1 s.size).data.toList = (m, 0)) (hm : m < 9223372036854775808) :
    Calls Try.prog 18 #[.string s] w fun r w' => r = .returned (.tuple #[.int .i64 (-(m : Int)), .int .i64 0]) ∧ Below w.heap.size w w' := by
  have hm0 : 0 ≤ (m : Int) := by omega
  have hm2 : (m : Int) ≤ 9223372036854775807 := by omega
  have h2 : (1 : Int) ≤ s.size := by omega
  clear hm
  have hsz : (s.extract 1 s.size).size ≤ 1000 := by rw [ByteArray.size_extract]; omega
  have P := hide (fun w => rread_any 10 (s.extract 1 s.size) w (by omega) hsz)
  rw [hr, show ((10 : Nat) : Int) = 10 from rfl] at P
  simp only [] at P
  skip
  clear hr hsz
  unfold minT at hmin
  generalize (m : Int) = M at *
  go_enter Try.func18, Try.ntmps18
  go_wp2_with fail
  refine (P.out _).mono ?_
  rintro e w1 ⟨rfl, hb1⟩
  go_wp2_with fail
  go_ret2
  exact ⟨rfl, hb1⟩
set_option maxHeartbeats 1000000 in
theorem rint_neg_big (s : ByteArray) (m : Nat) (w : World) (hs : s.size ≤ 1000) (h1 : 0 < s.size) (hk : (((s[0]).toNat : Int) == 45) = true) (hmin : (s.toList == minT) = false) (hz : ((s.extract 1 s.size).toList == [48]) = false)
    (hr : rdRes 10 (s.extract 1 s.size).data.toList = (m, 0)) (hm : 9223372036854775808 ≤ m) :
    Calls Try.prog 18 #[.string s] w fun r w' => r = .returned (.tuple #[.int .i64 0, .int .i64 5]) ∧ Below w.heap.size w w' := by
  have hm2 : 9223372036854775807 < (m : Int) := by omega
  have h2 : (1 : Int) ≤ s.size := by omega
  clear hm
  have hsz : (s.extract 1 s.size).size ≤ 1000 := by rw [ByteArray.size_extract]; omega
  have P := hide (fun w => rread_any 10 (s.extract 1 s.size) w (by omega) hsz)
  rw [hr, show ((10 : Nat) : Int) = 10 from rfl] at P
  simp only [] at P
  skip
  clear hr hsz
  unfold minT at hmin
  generalize (m : Int) = M at *
  go_enter Try.func18, Try.ntmps18
  go_wp2_with fail
  refine (P.out _).mono ?_
  rintro e w1 ⟨rfl, hb1⟩
  go_wp2_with fail
  go_ret2
  exact ⟨rfl, hb1⟩
set_option maxHeartbeats 1000000 in
theorem rint_neg_err (s : ByteArray) (m : Nat) (e0 : Int) (w : World) (hs : s.size ≤ 1000) (h1 : 0 < s.size) (hk : (((s[0]).toNat : Int) == 45) = true) (hmin : (s.toList == minT) = false) (hz : ((s.extract 1 s.size).toList == [48]) = false)
    (hr : rdRes 10 (s.extract 1 s.size).data.toList = (m, e0)) (he : (e0 == 0) = false) :
    Calls Try.prog 18 #[.string s] w fun r w' => r = .returned (.tuple #[.int .i64 0, .int .i64 e0]) ∧ Below w.heap.size w w' := by
  have he2 : (e0 != 0) = true := by simp [bne, he]
  have h2 : (1 : Int) ≤ s.size := by omega
  have hsz : (s.extract 1 s.size).size ≤ 1000 := by rw [ByteArray.size_extract]; omega
  have P := hide (fun w => rread_any 10 (s.extract 1 s.size) w (by omega) hsz)
  rw [hr, show ((10 : Nat) : Int) = 10 from rfl] at P
  simp only [] at P
  skip
  clear hr hsz
  unfold minT at hmin
  generalize (m : Int) = M at *
  go_enter Try.func18, Try.ntmps18
  go_wp2_with fail
  refine (P.out _).mono ?_
  rintro e w1 ⟨rfl, hb1⟩
  go_wp2_with fail
  go_ret2
  exact ⟨rfl, hb1⟩
end Go.Proofs.Ythoakbkaohcobaa
