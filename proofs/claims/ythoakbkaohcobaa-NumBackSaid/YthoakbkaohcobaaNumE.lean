/-
  The Go functions NumTexts and NumSums.
-/
import Derived.Test.YthoakbkaohcobaaNumD
namespace Go.Proofs.Ythoakbkaohcobaa
open Go.RowKit

set_option maxHeartbeats 1000000 in
theorem NumTexts_calls (n i : Int) (w : World) (hn : W64 n) (hi : I64 i) :
    Calls Try.prog 3 #[.int .u64 n, .int .i64 i] w fun e w' => e = .returned (.bool true) ∧ Below w.heap.size w w' := by
  obtain ⟨m, rfl⟩ := Int.eq_ofNat_of_zero_le hn.1
  have hm : m < 18446744073709551616 := by have := hn.2; omega
  have T := hide (fun w => text_any m w hm)
  have X := hide (fun w => hex_any m w hm)
  have R1 := hide (fun w => rform_any 10 m w (by omega) hm)
  have R2 := hide (fun w => rform_any 16 m w (by omega) hm)
  rw [show ((10 : Nat) : Int) = 10 from rfl] at R1
  rw [show ((16 : Nat) : Int) = 16 from rfl] at R2
  have I := hide (fun w => int_any i w hi)
  have RI := hide (fun w => rint_any i w hi)
  have Aw := hide awake02
  generalize strOfNums (form 10 m) = s1 at *
  generalize strOfNums (form 16 m) = s2 at *
  generalize strOfNums (intL i) = s3 at *
  clear hn
  go_enter Try.func3, Try.ntmps3
  go_wp2_with fail
  refine (T.out _).mono ?_
  rintro e w1 ⟨rfl, hb1⟩
  go_wp2_with fail
  refine (R1.out _).mono ?_
  rintro e w2 ⟨rfl, hb2⟩
  go_wp2_with fail
  refine (X.out _).mono ?_
  rintro e w3 ⟨rfl, hb3⟩
  go_wp2_with fail
  refine (R2.out _).mono ?_
  rintro e w4 ⟨rfl, hb4⟩
  go_wp2_with fail
  refine (I.out _).mono ?_
  rintro e w5 ⟨rfl, hb5⟩
  go_wp2_with fail
  refine (RI.out _).mono ?_
  rintro e w6 ⟨rfl, hb6⟩
  go_wp2_with fail
  refine (Aw.out _).mono ?_
  rintro e w7 ⟨rfl, hb7⟩
  go_wp2_with fail
  go_ret
  have B2 := hb1.trans (hb2.mono hb1.size)
  have B3 := B2.trans (hb3.mono B2.size)
  have B4 := B3.trans (hb4.mono B3.size)
  have B5 := B4.trans (hb5.mono B4.size)
  have B6 := B5.trans (hb6.mono B5.size)
  exact ⟨rfl, B6.trans (hb7.mono B6.size)⟩
end Go.Proofs.Ythoakbkaohcobaa
