/-
  The Go function NumBack.
-/
import Derived.Test.YthoakbkaohcobaaNumH
import Derived.Test.YthoakbkaohcobaaNumE
import Derived.Lib.Strings
namespace Go.Proofs.Ythoakbkaohcobaa
open Go.RowKit

theorem first_of (x : Int) (xs : List Int) : ((strOfNums (x :: xs)).extract 0 1).toList = [byt x] := by
  rw [Lib.extract_toList, strOf_list]
  simp
theorem rest_of (x : Int) (xs : List Int) : (strOfNums (x :: xs)).extract 1 (strOfNums (x :: xs)).size = strOfNums xs := by
  apply ByteArray.ext
  apply Array.toList_inj.1
  rw [← ByteArray.toList_eq, Lib.extract_toList, strOf_list, strOf_list, strOf_size]
  simp only [List.map_cons, List.drop_succ_cons, List.drop_zero, List.length_cons, Nat.add_sub_cancel]
  exact List.take_of_length_le (by simp)
theorem form_cons (n : Nat) (hn : n < 18446744073709551616) : ∃ c l, form 10 n = c :: l ∧ byt c ≠ 45 ∧ (0 < n → byt c ≠ 48) := by
  by_cases h0 : n = 0
  · subst h0
    exact ⟨48, [], rfl, by decide, fun h => by omega⟩
  · obtain ⟨c, l, h1, h2, h3⟩ := form_head 10 (by omega) 64 n [] (by omega) (by simpa using hn)
    refine ⟨c, l, ?_, h3, fun _ => h2⟩
    rw [← h1]
    exact if_neg h0

/-- A text of a number reads as the number. -/
theorem pint_back (i : Int) (w : World) (hi : I64 i) :
    Calls Try.prog 15 #[.string (strOfNums (intL i))] w fun e w' => e = .returned (.tuple #[.int .i64 i, .int .i64 0]) ∧ Below w.heap.size w w' := by
  obtain ⟨h1, h2⟩ := hi
  by_cases c : i < 0
  · obtain ⟨m, hm⟩ : ∃ m : Nat, (-i) = m := ⟨(-i).toNat, by omega⟩
    have e : intL i = 45 :: form 10 m := by
      unfold intL
      rw [if_pos c, hm]
      rfl
    rw [e, show i = -(m : Int) by omega]
    have hr := rest_of 45 (form 10 m)
    have hf := first_of 45 (form 10 m)
    have hlen := form_len 10 m
    obtain ⟨c0, l0, e0, _, e2⟩ := form_cons m (by omega)
    refine pint_neg _ m w (by rw [strOf_size, List.length_cons]; omega) (by rw [strOf_size, List.length_cons]; omega) (by unfold negB; rw [hf]; decide) (by rw [hr]; exact rdRes_form 10 m (by omega) (by omega)) ?_ (by omega)
    rw [hr, ByteArray.toList_eq, strOf_list, e0]
    have := e2 (by omega)
    simp [this]
  · obtain ⟨m, rfl⟩ := Int.eq_ofNat_of_zero_le (show 0 ≤ i by omega)
    have e : intL m = form 10 m := by
      unfold intL
      rw [if_neg c, Int.toNat_natCast]
    rw [e]
    have hlen := form_len 10 m
    obtain ⟨c0, l0, e0, e1, _⟩ := form_cons m (by omega)
    have hf := first_of c0 l0
    rw [← e0] at hf
    refine pint_pos _ m w (by rw [strOf_size]; omega) (by rw [strOf_size, e0, List.length_cons]; omega) ?_ (rdRes_form 10 m (by omega) (by omega)) (by omega)
    unfold negB
    rw [hf]
    simp [e1]

set_option maxHeartbeats 1000000 in
theorem NumBack_calls (n i : Int) (w : World) (hn : W64 n) (hi : I64 i) :
    Calls Try.prog 6 #[.int .u64 n, .int .i64 i] w fun e w' => e = .returned (.bool true) ∧ Below w.heap.size w w' := by
  obtain ⟨m, rfl⟩ := Int.eq_ofNat_of_zero_le hn.1
  have hm : m < 18446744073709551616 := by have := hn.2; omega
  have T := hide (fun w => text_any m w hm)
  have X := hide (fun w => hex_any m w hm)
  have R1 := hide (fun w => parse_any (strOfNums (form 10 m)) w (Nat.le_trans (form_size 10 m) (by omega)))
  have R2 := hide (fun w => unhex_any (strOfNums (form 16 m)) w (Nat.le_trans (form_size 16 m) (by omega)))
  rw [rdRes_form 10 m (by omega) hm] at R1
  rw [rdRes_form 16 m (by omega) hm] at R2
  simp only [] at R1 R2
  have I := hide (fun w => int_any i w hi)
  have PI := hide (fun w => pint_back i w hi)
  have Aw := hide awake02
  generalize strOfNums (form 10 m) = s1 at *
  generalize strOfNums (form 16 m) = s2 at *
  generalize strOfNums (intL i) = s3 at *
  clear hn hm
  generalize (m : Int) = M at *
  go_enter Try.func6, Try.ntmps6
  go_wp2_with fail
  refine (T.out _).mono ?_
  rintro e w1 ⟨rfl, hb1⟩
  go_wp2_with fail
  refine (R1.out _).mono ?_
  rintro e w2 ⟨rfl, hb2⟩
  go_wp2_with fail
  refine (X.out _).mono ?_
  rintro e w3 ⟨rfl, hb3⟩
  go_wp2_with fail
  refine (R2.out _).mono ?_
  rintro e w4 ⟨rfl, hb4⟩
  go_wp2_with fail
  refine (I.out _).mono ?_
  rintro e w5 ⟨rfl, hb5⟩
  go_wp2_with fail
  refine (PI.out _).mono ?_
  rintro e w6 ⟨rfl, hb6⟩
  go_wp2_with fail
  refine (Aw.out _).mono ?_
  rintro e w7 ⟨rfl, hb7⟩
  go_wp2_with fail
  go_ret
  have B2 := hb1.trans (hb2.mono hb1.size)
  have B3 := B2.trans (hb3.mono B2.size)
  have B4 := B3.trans (hb4.mono B3.size)
  have B5 := B4.trans (hb5.mono B4.size)
  have B6 := B5.trans (hb6.mono B5.size)
  exact ⟨rfl, B6.trans (hb7.mono B6.size)⟩
end Go.Proofs.Ythoakbkaohcobaa
