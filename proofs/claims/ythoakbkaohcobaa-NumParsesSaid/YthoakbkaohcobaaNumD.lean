/-
  Package num: Parse, Unhex; the reference's Int; the example.
-/
import Derived.Test.YthoakbkaohcobaaNumC
namespace Go.Proofs.Ythoakbkaohcobaa
open Go.RowKit

set_option maxHeartbeats 400000 in
theorem reader_any (b : Nat) (w : World) :
    Calls Try.prog 20 #[.int .u64 b] w fun e w' => e = .returned (.func (.func 24) #[] #[.pointer (some ⟨w.heap.size, 0, none⟩)]) ∧ w' = w.alloc (.cells #[.int .u64 b] 22) := by
  go_enter Try.func20, Try.ntmps20
  go_wp2_with fail
  go_ret
  exact ⟨rfl, rfl⟩

set_option maxHeartbeats 400000 in
theorem parse_any (s : ByteArray) (w : World) (hs : s.size ≤ 1000) :
    Calls Try.prog 14 #[.string s] w fun e w' => e = .returned (.tuple #[.int .u64 (rdRes 10 s.data.toList).1, .int .i64 (rdRes 10 s.data.toList).2]) ∧ Below w.heap.size w w' := by
  have Rd := hide (reader_any 10 w)
  have zz : ((10 : Nat) : Int) = 10 := rfl
  rw [zz] at Rd
  clear zz
  have R1 := hide (fun w2 hc => reader1_any 10 w.heap.size s w2 (by omega) hs hc)
  have hcf : ∀ args w', (callFunc 24 args).run Try.prog w' = .ok (.enter 24 args) w' := fun args w' => run_enter Try.func24 (by decide) (by simp [Try.f24]) args w'
  generalize rdRes 10 s.data.toList = R at *
  go_enter Try.func14, Try.ntmps14
  go_wp2_with fail
  refine Rd.out.mono ?_
  rintro e w1 ⟨rfl, rfl⟩
  go_wp2_with fail
  refine (R1.out _ ?_).mono ?_
  · exact (Blk.new w 22 #[.int .u64 10]).cell 0
  rintro e w2 ⟨rfl, rfl⟩
  go_wp2_with fail
  go_ret2
  exact ⟨rfl, (Below.refl _ _).alloc (Nat.le_refl _) _⟩
set_option maxHeartbeats 400000 in
theorem unhex_any (s : ByteArray) (w : World) (hs : s.size ≤ 1000) :
    Calls Try.prog 16 #[.string s] w fun e w' => e = .returned (.tuple #[.int .u64 (rdRes 16 s.data.toList).1, .int .i64 (rdRes 16 s.data.toList).2]) ∧ Below w.heap.size w w' := by
  have Rd := hide (reader_any 16 w)
  have zz : ((16 : Nat) : Int) = 16 := rfl
  rw [zz] at Rd
  clear zz
  have R1 := hide (fun w2 hc => reader1_any 16 w.heap.size s w2 (by omega) hs hc)
  have hcf : ∀ args w', (callFunc 24 args).run Try.prog w' = .ok (.enter 24 args) w' := fun args w' => run_enter Try.func24 (by decide) (by simp [Try.f24]) args w'
  generalize rdRes 16 s.data.toList = R at *
  go_enter Try.func16, Try.ntmps16
  go_wp2_with fail
  refine Rd.out.mono ?_
  rintro e w1 ⟨rfl, rfl⟩
  go_wp2_with fail
  refine (R1.out _ ?_).mono ?_
  · exact (Blk.new w 22 #[.int .u64 16]).cell 0
  rintro e w2 ⟨rfl, rfl⟩
  go_wp2_with fail
  go_ret2
  exact ⟨rfl, (Below.refl _ _).alloc (Nat.le_refl _) _⟩

set_option maxHeartbeats 400000 in
theorem rint_any (i : Int) (w : World) (hi : I64 i) : Calls Try.prog 11 #[.int .i64 i] w fun e w' => e = .returned (.string (strOfNums (intL i))) ∧ Below w.heap.size w w' := by
  obtain ⟨h1, h2⟩ := hi
  by_cases c : i < 0
  · by_cases hm : i = -9223372036854775808
    · subst hm
      have E := hide (show strOfNums (intL (-9223372036854775808)) = ⟨#[45, 57, 50, 50, 51, 51, 55, 50, 48, 51, 54, 56, 53, 52, 55, 55, 53, 56, 48, 56]⟩ by rfl)
      go_enter Try.func11, Try.ntmps11
      go_wp2_with fail
      go_ret
      exact ⟨by rw [E.out]; rfl, Below.refl _ _⟩
    · obtain ⟨n, hn⟩ : ∃ n : Nat, (-i) = n := ⟨(-i).toNat, by omega⟩
      have E := hide (show strOfNums (intL i) = ⟨#[45]⟩ ++ strOfNums (form 10 n) by
        unfold intL
        rw [if_pos c, strOf_cons, hn]
        rfl)
      have F := hide (rform_any 10 n w (by omega) (by omega))
      rw [show ((10 : Nat) : Int) = 10 from rfl, show (n : Int) = -i from hn.symm] at F
      have q1 : (i == -9223372036854775808) = false := by simpa using hm
      have hs := form_size 10 n
      have l1 : -9223372036854775807 ≤ i := by omega
      clear hn
      generalize strOfNums (form 10 n) = s at *
      go_enter Try.func11, Try.ntmps11
      go_wp2_with fail
      refine F.out.mono ?_
      rintro e w1 ⟨rfl, hb1⟩
      go_wp2_with fail
      go_ret
      exact ⟨by rw [E.out]; rfl, hb1⟩
  · obtain ⟨n, rfl⟩ := Int.eq_ofNat_of_zero_le (show 0 ≤ i by omega)
    have E := hide (show strOfNums (intL n) = strOfNums (form 10 n) by
      unfold intL
      rw [if_neg c, Int.toNat_natCast])
    have F := hide (rform_any 10 n w (by omega) (by omega))
    rw [show ((10 : Nat) : Int) = 10 from rfl] at F
    rw [E.out]
    generalize strOfNums (form 10 n) = s at *
    clear E
    go_enter Try.func11, Try.ntmps11
    go_wp2_with fail
    refine F.out.mono ?_
    rintro e w1 ⟨rfl, hb1⟩
    go_wp2_with fail
    go_ret
    exact ⟨rfl, hb1⟩

set_option maxHeartbeats 1000000 in
theorem awake02 (w : World) : Calls Try.prog 12 #[] w fun e w' => e = .returned (.bool true) ∧ Below w.heap.size w w' := by
  have P := hide (parse_any ⟨#[48, 48, 55]⟩ w (by decide))
  rw [show rdRes 10 (ByteArray.mk #[48, 48, 55]).data.toList = (0, 4) by decide] at P
  have T := hide (fun w => text_any 120 w (by omega))
  rw [show strOfNums (form 10 120) = ⟨#[49, 50, 48]⟩ by rfl, show ((120 : Nat) : Int) = 120 from rfl] at T
  have I := hide (fun w => int_any (-5) w ⟨by omega, by omega⟩)
  rw [show strOfNums (intL (-5)) = ⟨#[45, 53]⟩ by rfl] at I
  have X := hide (fun w => hex_any 255 w (by omega))
  rw [show strOfNums (form 16 255) = ⟨#[102, 102]⟩ by rfl, show ((255 : Nat) : Int) = 255 from rfl] at X
  go_enter Try.func12, Try.ntmps12
  go_wp2_with fail
  refine P.out.mono ?_
  rintro e w1 ⟨rfl, hb1⟩
  go_wp2_with fail
  refine (T.out _).mono ?_
  rintro e w2 ⟨rfl, hb2⟩
  go_wp2_with fail
  refine (I.out _).mono ?_
  rintro e w3 ⟨rfl, hb3⟩
  go_wp2_with fail
  refine (X.out _).mono ?_
  rintro e w4 ⟨rfl, hb4⟩
  go_wp2_with fail
  go_ret
  have B2 := hb1.trans (hb2.mono hb1.size)
  have B3 := B2.trans (hb3.mono B2.size)
  exact ⟨rfl, B3.trans (hb4.mono B3.size)⟩
end Go.Proofs.Ythoakbkaohcobaa
