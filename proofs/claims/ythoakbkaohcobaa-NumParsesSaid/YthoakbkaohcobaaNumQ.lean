/-
  gleaningref02.ReadInt; num.ParseInt of an empty text.
-/
import Derived.Test.YthoakbkaohcobaaNumP
namespace Go.Proofs.Ythoakbkaohcobaa
open Go.RowKit

set_option maxHeartbeats 400000 in
theorem hasp0 (w : World) : Calls Try.prog 28 #[.string ⟨#[]⟩, .string ⟨#[45]⟩] w fun e w' => e = .returned (.bool false) ∧ w = w' := by
  skip
  go_enter Try.func28, Try.ntmps28
  go_wp2_with fail
  skip
  go_ret
  exact ⟨rfl, rfl⟩
set_option maxHeartbeats 400000 in
theorem cutp10 (w : World) : Calls Try.prog 26 #[.string ⟨#[]⟩, .string ⟨#[45]⟩] w fun e w' => e = .returned (.tuple #[.string ⟨#[]⟩, .bool false]) ∧ w = w' := by
  have H := hide (hasp0 w)
  go_enter Try.func26, Try.ntmps26
  go_wp2_with fail
  (refine H.out.mono ?_; rintro e w' ⟨rfl, rfl⟩; go_wp2_with fail)
  go_ret2
  exact ⟨rfl, rfl⟩
set_option maxHeartbeats 400000 in
theorem cutp0 (w : World) : Calls Try.prog 21 #[.string ⟨#[]⟩, .string ⟨#[45]⟩] w fun e w' => e = .returned (.tuple #[.string ⟨#[]⟩, .bool false]) ∧ w = w' := by
  have H := hide (cutp10 w)
  go_enter Try.func21, Try.ntmps21
  go_wp2_with fail
  (refine H.out.mono ?_; rintro e w' ⟨rfl, rfl⟩; go_wp2_with fail)
  go_ret2
  exact ⟨rfl, rfl⟩
set_option maxHeartbeats 1000000 in
theorem pint_empty (w : World) : Calls Try.prog 15 #[.string ⟨#[]⟩] w fun r w' => r = .returned (.tuple #[.int .i64 0, .int .i64 4]) ∧ Below w.heap.size w w' := by
  have C := hide (cutp0 w)
  have P := hide (parse_any ⟨#[]⟩ w (by decide))
  rw [show rdRes 10 (ByteArray.mk #[]).data.toList = (0, 4) by decide] at P
  simp only [] at P
  go_enter Try.func15, Try.ntmps15
  go_wp2_with fail
  refine C.out.mono ?_
  rintro e w' ⟨rfl, rfl⟩
  go_wp2_with fail
  refine P.out.mono ?_
  rintro e w1 ⟨rfl, hb1⟩
  go_wp2_with fail
  go_ret2
  exact ⟨rfl, hb1⟩

def minT : List UInt8 := [45, 57, 50, 50, 51, 51, 55, 50, 48, 51, 54, 56, 53, 52, 55, 55, 53, 56, 48, 56]
set_option maxHeartbeats 1000000 in
theorem rint_min (s : ByteArray) (w : World) (hm : (s.toList == minT) = true) :
    Calls Try.prog 18 #[.string s] w fun r w' => r = .returned (.tuple #[.int .i64 (-9223372036854775808), .int .i64 0]) ∧ Below w.heap.size w w' := by
  unfold minT at hm
  go_enter Try.func18, Try.ntmps18
  go_wp2_with fail
  go_ret2
  exact ⟨rfl, Below.refl _ _⟩
set_option maxHeartbeats 1000000 in
theorem rint_empty (w : World) : Calls Try.prog 18 #[.string ⟨#[]⟩] w fun r w' => r = .returned (.tuple #[.int .i64 0, .int .i64 4]) ∧ Below w.heap.size w w' := by
  have P := hide (rread_any 10 ⟨#[]⟩ w (by omega) (by decide))
  rw [show rdRes 10 (ByteArray.mk #[]).data.toList = (0, 4) by decide, show ((10 : Nat) : Int) = 10 from rfl] at P
  simp only [] at P
  go_enter Try.func18, Try.ntmps18
  go_wp2_with fail
  refine P.out.mono ?_
  rintro e w1 ⟨rfl, hb1⟩
  go_wp2_with fail
  go_ret2
  exact ⟨rfl, hb1⟩
end Go.Proofs.Ythoakbkaohcobaa
