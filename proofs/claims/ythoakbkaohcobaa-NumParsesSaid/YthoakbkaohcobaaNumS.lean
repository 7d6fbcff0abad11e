/-
  num.ParseInt and gleaningref02.ReadInt answer alike.
-/
import Derived.Test.YthoakbkaohcobaaNumR
import Derived.Lib.Strings
namespace Go.Proofs.Ythoakbkaohcobaa
open Go.RowKit

def PI (s : ByteArray) (v e : Int) : Prop :=
  (∀ w, Calls Try.prog 15 #[.string s] w fun r w' => r = .returned (.tuple #[.int .i64 v, .int .i64 e]) ∧ Below w.heap.size w w') ∧
  (∀ w, Calls Try.prog 18 #[.string s] w fun r w' => r = .returned (.tuple #[.int .i64 v, .int .i64 e]) ∧ Below w.heap.size w w')

theorem first_byte (s : ByteArray) (h : 0 < s.size) : negB s = (((s[0]).toNat : Int) == 45) := by
  unfold negB
  rw [Lib.extract_toList, List.drop_zero]
  have hl : s.data.toList.length = s.size := Array.length_toList
  have hd := List.drop_eq_getElem_cons (l := s.data.toList) (i := 0) (by omega)
  rw [List.drop_zero] at hd
  have e0 : s.data.toList[0]'(by omega) = s[0] := rfl
  rw [hd, e0]
  generalize s[0] = c
  show ([c] == [45]) = _
  rw [Bool.eq_iff_iff]
  simp only [beq_iff_eq, List.cons.injEq, and_true]
  constructor
  · rintro rfl
    rfl
  · intro h
    apply UInt8.toNat_inj.1
    show c.toNat = 45
    omega
theorem rest_list (s : ByteArray) : (s.extract 1 s.size).data.toList = s.data.toList.drop 1 := by
  rw [Lib.extract_data]
  exact List.take_of_length_le (by rw [List.length_drop, Array.length_toList]; exact Nat.le_refl _)

theorem both_any (s : ByteArray) (hs : s.size ≤ 1000) : ∃ v e, PI s v e := by
  by_cases h0 : s.size = 0
  · obtain rfl : s = ⟨#[]⟩ := ByteArray.ext (Array.eq_empty_of_size_eq_zero h0)
    exact ⟨0, 4, pint_empty, rint_empty⟩
  have h1 : 0 < s.size := by omega
  have hfb := first_byte s h1
  obtain ⟨m, e, hr⟩ : ∃ m e, rdRes 10 (s.extract 1 s.size).data.toList = (m, e) := ⟨_, _, rfl⟩
  obtain ⟨m', e', hr'⟩ : ∃ m e, rdRes 10 s.data.toList = (m, e) := ⟨_, _, rfl⟩
  by_cases hp : negB s = true
  · have hk := hfb.symm.trans hp
    by_cases hmin : (s.toList == minT) = true
    · have hl : s.data.toList = minT := by
        rw [← ByteArray.toList_eq]
        simpa using hmin
      have e1 : rdRes 10 (s.extract 1 s.size).data.toList = (9223372036854775808, 0) := by
        rw [rest_list, hl]
        decide +kernel
      have e2 : ((s.extract 1 s.size).toList == [48]) = false := by
        rw [ByteArray.toList_eq, rest_list, hl]
        decide
      exact ⟨-9223372036854775808, 0, fun w => pint_neg s 9223372036854775808 w hs (by omega) hp e1 e2 (by omega), fun w => rint_min s w hmin⟩
    · have hmin : (s.toList == minT) = false := by simpa using hmin
      by_cases hz : ((s.extract 1 s.size).toList == [48]) = true
      · exact ⟨0, 4, fun w => pint_neg_zero s m e w hs (by omega) hp hr hz, fun w => rint_neg_zero s w h1 hk hmin hz⟩
      have hz : ((s.extract 1 s.size).toList == [48]) = false := by simpa using hz
      by_cases he : e = 0
      · subst he
        by_cases hm : m < 9223372036854775808
        · have hm1 : 1 ≤ m := by
            rcases Nat.eq_zero_or_pos m with rfl | h
            · have := rdRes_inj 10 (.inl rfl) hr (show rdRes 10 [48] = (0, 0) by decide)
              rw [ByteArray.toList_eq, this] at hz
              exact absurd hz (by decide)
            · exact h
          exact ⟨-(m : Int), 0, fun w => pint_neg s m w hs (by omega) hp hr hz (by omega), fun w => rint_neg s m w hs h1 hk hmin hz hr hm⟩
        · by_cases hm2 : m = 9223372036854775808
          · subst hm2
            have h3 := rdRes_inj 10 (.inl rfl) hr (show rdRes 10 minT.tail = (9223372036854775808, 0) by decide +kernel)
            rw [rest_list] at h3
            have hl : s.data.toList.length = s.size := Array.length_toList
            have hd := List.drop_eq_getElem_cons (l := s.data.toList) (i := 0) (by omega)
            rw [List.drop_zero] at hd
            have e0 : s.data.toList[0]'(by omega) = s[0] := rfl
            have e45 : s[0] = 45 := by
              apply UInt8.toNat_inj.1
              show (s[0]).toNat = 45
              have : ((s[0]).toNat : Int) = 45 := by simpa using hk
              omega
            rw [ByteArray.toList_eq, hd, e0, e45, h3] at hmin
            exact absurd hmin (by decide)
          · exact ⟨0, 5, fun w => pint_neg_big s m w hs (by omega) hp hr hz (by omega), fun w => rint_neg_big s m w hs h1 hk hmin hz hr (by omega)⟩
      · have he' : (e == 0) = false := by simpa using he
        exact ⟨0, e, fun w => pint_neg_err s m e w hs (by omega) hp hr hz he', fun w => rint_neg_err s m e w hs h1 hk hmin hz hr he'⟩
  · have hp : negB s = false := by simpa using hp
    have hk := hfb.symm.trans hp
    have hmin : (s.toList == minT) = false := by
      rw [beq_eq_false_iff_ne]
      intro h
      unfold negB at hp
      rw [Lib.extract_toList, ← ByteArray.toList_eq, h] at hp
      exact absurd hp (by decide)
    by_cases he : e' = 0
    · subst he
      by_cases hm : m' < 9223372036854775808
      · exact ⟨m', 0, fun w => pint_pos s m' w hs (by omega) hp hr' hm, fun w => rint_pos s m' w hs h1 hk hmin hr' hm⟩
      · exact ⟨0, 5, fun w => pint_pos_big s m' w hs (by omega) hp hr' (by omega), fun w => rint_pos_big s m' w hs h1 hk hmin hr' (by omega)⟩
    · have he' : (e' == 0) = false := by simpa using he
      exact ⟨0, e', fun w => pint_pos_err s m' e' w hs (by omega) hp hr' he', fun w => rint_pos_err s m' e' w hs h1 hk hmin hr' he'⟩

set_option maxHeartbeats 1000000 in
theorem NumParses_calls (s : ByteArray) (w : World) (hs63 : s.size ≤ 9223372036854775807) :
    Calls Try.prog 5 #[.string s] w fun e w' => e = .returned (.bool true) ∧ Below w.heap.size w w' := by
  have Aw := hide awake02
  by_cases hbig : 200 < s.size
  · have hbI : (200 : Int) < s.size := by omega
    clear hbig
    go_enter Try.func5, Try.ntmps5
    go_wp2_with fail
    refine (Aw.out _).mono ?_
    rintro e w1 ⟨rfl, hb1⟩
    go_wp2_with fail
    go_ret
    exact ⟨rfl, hb1⟩
  have hs : s.size ≤ 200 := by omega
  have P := hide (fun w => parse_any s w (by omega))
  have X := hide (fun w => unhex_any s w (by omega))
  have R1 := hide (fun w => rread_any 10 s w (by omega) (by omega))
  have R2 := hide (fun w => rread_any 16 s w (by omega) (by omega))
  rw [show ((10 : Nat) : Int) = 10 from rfl] at R1
  rw [show ((16 : Nat) : Int) = 16 from rfl] at R2
  obtain ⟨v, e, hA, hB⟩ := both_any s (by omega)
  have A := hide hA
  have B := hide hB
  clear hA hB hs63
  generalize (((rdRes 10 s.data.toList).1 : Nat) : Int) = a1 at *
  generalize (rdRes 10 s.data.toList).2 = a2 at *
  generalize (((rdRes 16 s.data.toList).1 : Nat) : Int) = b1 at *
  generalize (rdRes 16 s.data.toList).2 = b2 at *
  go_enter Try.func5, Try.ntmps5
  go_wp2_with fail
  refine (P.out _).mono ?_
  rintro e w1 ⟨rfl, hb1⟩
  go_wp2_with fail
  refine (A.out _).mono ?_
  rintro e w2 ⟨rfl, hb2⟩
  go_wp2_with fail
  refine (X.out _).mono ?_
  rintro e w3 ⟨rfl, hb3⟩
  go_wp2_with fail
  refine (R1.out _).mono ?_
  rintro e w4 ⟨rfl, hb4⟩
  go_wp2_with fail
  refine (B.out _).mono ?_
  rintro e w5 ⟨rfl, hb5⟩
  go_wp2_with fail
  refine (R2.out _).mono ?_
  rintro e w6 ⟨rfl, hb6⟩
  go_wp2_with fail
  refine (Aw.out _).mono ?_
  rintro e w7 ⟨rfl, hb7⟩
  go_wp2_with fail
  go_ret
  have B2 := hb1.trans (hb2.mono hb1.size)
  have B3 := B2.trans (hb3.mono B2.size)
  have B4 := B3.trans (hb4.mono B3.size)
  have B5 := B4.trans (hb5.mono B4.size)
  have B6 := B5.trans (hb6.mono B5.size)
  exact ⟨rfl, B6.trans (hb7.mono B6.size)⟩
end Go.Proofs.Ythoakbkaohcobaa
