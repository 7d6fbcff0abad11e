/-
  handle.Parse at every text.
-/
import Derived.Test.YthpgoglhccoeeaaHdlD
namespace Go.Proofs.Ythpgoglhccoeeaa
open Go.RowKit

/-- Where a byte stands first. -/
theorem ix_cases (q : UInt8) : ∀ l : List UInt8, (Lib.indexByte l q = -1 ∧ ∀ i, i < l.length → l.getD i 0 ≠ q) ∨ ∃ k, k < l.length ∧ Lib.indexByte l q = (k : Nat) ∧ l.getD k 0 = q ∧ ∀ i, i < k → l.getD i 0 ≠ q
  | [] => .inl ⟨rfl, fun i h => absurd h (by simp)⟩
  | b :: l => by
    by_cases hb : b = q
    · right
      refine ⟨0, by simp, ?_, by simpa using hb, fun i h => absurd h (by omega)⟩
      unfold Lib.indexByte
      rw [if_pos (by simpa using hb)]
      rfl
    · have h1 : (b == q) = false := by simpa using hb
      rcases ix_cases q l with ⟨h2, h3⟩ | ⟨k, h2, h3, h4, h5⟩
      · left
        refine ⟨?_, fun i hi => ?_⟩
        · unfold Lib.indexByte
          rw [h1, h2]
          rfl
        · cases i with
          | zero => simpa using hb
          | succ i => simpa using h3 i (by simpa using hi)
      · right
        refine ⟨k + 1, by simp; omega, ?_, by simpa using h4, fun i hi => ?_⟩
        · unfold Lib.indexByte
          have h6 : (((k : Nat) : Int) == -1) = false := by rw [beq_eq_false_iff_ne]; omega
          rw [h1, h3, h6]
          simp
        · cases i with
          | zero => simpa using hb
          | succ i => simpa using h5 i (by omega)

/-- What a text of a handle is read as: the handle, and an error's number. -/
def hpRes (a b : List UInt8) : Int × Int :=
  if (rdRes 10 a).2 ≠ 0 then (0, (rdRes 10 a).2) else if (rdRes 10 b).2 ≠ 0 then (0, (rdRes 10 b).2)
  else if (rdRes 10 a).1 = 0 ∨ 65535 < (rdRes 10 a).1 ∨ 16777215 < (rdRes 10 b).1 then (0, 5) else (hmk (rdRes 10 b).1 (rdRes 10 a).1, 0)
theorem hpRes_bound (a b : List UInt8) : W64 (hpRes a b).1 := by
  unfold hpRes
  split
  · exact ⟨by simp, by simp⟩
  · split
    · exact ⟨by simp, by simp⟩
    · split
      · exact ⟨by simp, by simp⟩
      · exact hmk_bound _ _

set_option maxHeartbeats 1000000 in
theorem cut0 (s : ByteArray) (w : World) (hc : colon s = -1) :
    Calls Try.prog 34 #[.string s, .string ⟨#[58]⟩] w fun e w' => e = .returned (.tuple #[.string s, .string ⟨#[]⟩, .bool false]) ∧ w = w' := by
  have F := hide (fun w => index1 s w)
  rw [hc] at F
  clear hc
  go_enter Try.func34, Try.ntmps34
  go_wp2_with fail
  refine (F.out _).mono ?_
  rintro e w' ⟨rfl, rfl⟩
  go_wp2_with fail
  go_ret3
  exact ⟨rfl, rfl⟩
set_option maxHeartbeats 400000 in
theorem scut0 (s : ByteArray) (w : World) (hc : colon s = -1) :
    Calls Try.prog 25 #[.string s, .string ⟨#[58]⟩] w fun e w' => e = .returned (.tuple #[.string s, .string ⟨#[]⟩, .bool false]) ∧ w = w' := by
  have F := hide (cut0 s w hc)
  clear hc
  go_enter Try.func25, Try.ntmps25
  go_wp2_with fail
  refine (F.out).mono ?_
  rintro e w' ⟨rfl, rfl⟩
  go_wp2_with fail
  go_ret3
  exact ⟨rfl, rfl⟩

set_option maxHeartbeats 400000 in
theorem hparse_none (s : ByteArray) (w : World) (hc : colon s = -1) :
    Calls Try.prog 16 #[.string s] w fun e w' => e = .returned (.tuple #[.int .u64 0, .int .i64 4]) ∧ Below w.heap.size w w' := by
  have F := hide (scut0 s w hc)
  clear hc
  go_enter Try.func16, Try.ntmps16
  go_wp2_with fail
  refine (F.out).mono ?_
  rintro e w' ⟨rfl, rfl⟩
  go_wp2_with fail
  go_ret2
  exact ⟨rfl, Below.refl _ _⟩
set_option maxHeartbeats 1000000 in
theorem hparse_two (s : ByteArray) (k : Nat) (w : World) (hs : s.size ≤ 1000) (hk : k < s.size) (hc : colon s = k) (hc2 : 0 ≤ colon (s.extract (k + 1) s.size)) :
    Calls Try.prog 16 #[.string s] w fun e w' => e = .returned (.tuple #[.int .u64 0, .int .i64 4]) ∧ Below w.heap.size w w' := by
  have C := hide (scut s k w hs hk hc)
  have K := hide (fun w => cont_any (s.extract (k + 1) s.size) w)
  rw [show decide (0 ≤ colon (s.extract (k + 1) s.size)) = true by simpa using hc2] at K
  generalize s.extract 0 k = a at *
  generalize s.extract (k + 1) s.size = b at *
  clear hc hc2
  go_enter Try.func16, Try.ntmps16
  go_wp2_with fail
  refine (C.out).mono ?_
  rintro e w1 ⟨rfl, hb1⟩
  go_wp2_with fail
  refine (K.out _).mono ?_
  rintro e w' ⟨rfl, rfl⟩
  go_wp2_with fail
  go_ret2
  exact ⟨rfl, hb1⟩

set_option maxHeartbeats 1000000 in
theorem hparse_e (s : ByteArray) (k x g : Nat) (e1 e2 : Int) (w : World) (hs : s.size ≤ 1000) (hk : k < s.size) (hc : colon s = k) (hc2 : colon (s.extract (k + 1) s.size) = -1)
    (ha : rdRes 10 (s.extract 0 k).data.toList = (x, e1)) (hb : rdRes 10 (s.extract (k + 1) s.size).data.toList = (g, e2)) (he : e1 ≠ 0) :
    Calls Try.prog 16 #[.string s] w fun e w' => e = .returned (.tuple #[.int .u64 0, .int .i64 e1]) ∧ Below w.heap.size w w' := by
  have C := hide (scut s k w hs hk hc)
  have K := hide (fun w => cont_any (s.extract (k + 1) s.size) w)
  rw [hc2, show decide ((0 : Int) ≤ -1) = false by decide] at K
  have z1 : (s.extract 0 k).size ≤ 1000 := by rw [ByteArray.size_extract]; omega
  have z2 : (s.extract (k + 1) s.size).size ≤ 1000 := by rw [ByteArray.size_extract]; omega
  have P1 := hide (fun w => parse_any (s.extract 0 k) w z1)
  have P2 := hide (fun w => parse_any (s.extract (k + 1) s.size) w z2)
  rw [ha] at P1
  rw [hb] at P2
  simp only [] at P1 P2
  generalize s.extract 0 k = a at *
  generalize s.extract (k + 1) s.size = b at *
  clear ha hb hc hc2 z1 z2
  have q1 : (e1 == 0) = false := by simpa using he
  have q2 : (e1 != 0) = true := by simp [bne, q1]
  clear he
  generalize (g : Int) = G at *
  generalize (x : Int) = X at *
  go_enter Try.func16, Try.ntmps16
  go_wp2_with fail
  refine (C.out).mono ?_
  rintro e w1 ⟨rfl, hb1⟩
  go_wp2_with fail
  refine (K.out _).mono ?_
  rintro e w' ⟨rfl, rfl⟩
  go_wp2_with fail
  refine (P1.out _).mono ?_
  rintro e w2 ⟨rfl, hb2⟩
  go_wp2_with fail
  refine (P2.out _).mono ?_
  rintro e w3 ⟨rfl, hb3⟩
  go_wp2_with fail
  go_ret2
  have B2 := hb1.trans (hb2.mono hb1.size)
  exact ⟨rfl, B2.trans (hb3.mono B2.size)⟩
set_option maxHeartbeats 1000000 in
theorem hparse_f (s : ByteArray) (k x g : Nat) (e2 : Int) (w : World) (hs : s.size ≤ 1000) (hk : k < s.size) (hc : colon s = k) (hc2 : colon (s.extract (k + 1) s.size) = -1)
    (ha : rdRes 10 (s.extract 0 k).data.toList = (x, 0)) (hb : rdRes 10 (s.extract (k + 1) s.size).data.toList = (g, e2)) (he : e2 ≠ 0) :
    Calls Try.prog 16 #[.string s] w fun e w' => e = .returned (.tuple #[.int .u64 0, .int .i64 e2]) ∧ Below w.heap.size w w' := by
  have C := hide (scut s k w hs hk hc)
  have K := hide (fun w => cont_any (s.extract (k + 1) s.size) w)
  rw [hc2, show decide ((0 : Int) ≤ -1) = false by decide] at K
  have z1 : (s.extract 0 k).size ≤ 1000 := by rw [ByteArray.size_extract]; omega
  have z2 : (s.extract (k + 1) s.size).size ≤ 1000 := by rw [ByteArray.size_extract]; omega
  have P1 := hide (fun w => parse_any (s.extract 0 k) w z1)
  have P2 := hide (fun w => parse_any (s.extract (k + 1) s.size) w z2)
  rw [ha] at P1
  rw [hb] at P2
  simp only [] at P1 P2
  generalize s.extract 0 k = a at *
  generalize s.extract (k + 1) s.size = b at *
  clear ha hb hc hc2 z1 z2
  have q1 : (e2 == 0) = false := by simpa using he
  have q2 : (e2 != 0) = true := by simp [bne, q1]
  clear he
  generalize (g : Int) = G at *
  generalize (x : Int) = X at *
  go_enter Try.func16, Try.ntmps16
  go_wp2_with fail
  refine (C.out).mono ?_
  rintro e w1 ⟨rfl, hb1⟩
  go_wp2_with fail
  refine (K.out _).mono ?_
  rintro e w' ⟨rfl, rfl⟩
  go_wp2_with fail
  refine (P1.out _).mono ?_
  rintro e w2 ⟨rfl, hb2⟩
  go_wp2_with fail
  refine (P2.out _).mono ?_
  rintro e w3 ⟨rfl, hb3⟩
  go_wp2_with fail
  go_ret2
  have B2 := hb1.trans (hb2.mono hb1.size)
  exact ⟨rfl, B2.trans (hb3.mono B2.size)⟩
set_option maxHeartbeats 1000000 in
theorem hparse_wide (s : ByteArray) (k x g : Nat) (w : World) (hs : s.size ≤ 1000) (hk : k < s.size) (hc : colon s = k) (hc2 : colon (s.extract (k + 1) s.size) = -1)
    (ha : rdRes 10 (s.extract 0 k).data.toList = (x, 0)) (hb : rdRes 10 (s.extract (k + 1) s.size).data.toList = (g, 0)) (hx : 65535 < x) :
    Calls Try.prog 16 #[.string s] w fun e w' => e = .returned (.tuple #[.int .u64 0, .int .i64 5]) ∧ Below w.heap.size w w' := by
  have C := hide (scut s k w hs hk hc)
  have K := hide (fun w => cont_any (s.extract (k + 1) s.size) w)
  rw [hc2, show decide ((0 : Int) ≤ -1) = false by decide] at K
  have z1 : (s.extract 0 k).size ≤ 1000 := by rw [ByteArray.size_extract]; omega
  have z2 : (s.extract (k + 1) s.size).size ≤ 1000 := by rw [ByteArray.size_extract]; omega
  have P1 := hide (fun w => parse_any (s.extract 0 k) w z1)
  have P2 := hide (fun w => parse_any (s.extract (k + 1) s.size) w z2)
  rw [ha] at P1
  rw [hb] at P2
  simp only [] at P1 P2
  generalize s.extract 0 k = a at *
  generalize s.extract (k + 1) s.size = b at *
  clear ha hb hc hc2 z1 z2
  have x3 : ((x : Int) == 0) = false := by rw [beq_eq_false_iff_ne]; omega
  have x2 : 65535 < (x : Int) := by omega
  clear hx
  generalize (g : Int) = G at *
  generalize (x : Int) = X at *
  go_enter Try.func16, Try.ntmps16
  go_wp2_with fail
  refine (C.out).mono ?_
  rintro e w1 ⟨rfl, hb1⟩
  go_wp2_with fail
  refine (K.out _).mono ?_
  rintro e w' ⟨rfl, rfl⟩
  go_wp2_with fail
  refine (P1.out _).mono ?_
  rintro e w2 ⟨rfl, hb2⟩
  go_wp2_with fail
  refine (P2.out _).mono ?_
  rintro e w3 ⟨rfl, hb3⟩
  go_wp2_with fail
  go_ret2
  have B2 := hb1.trans (hb2.mono hb1.size)
  exact ⟨rfl, B2.trans (hb3.mono B2.size)⟩
set_option maxHeartbeats 1000000 in
theorem hparse_gen (s : ByteArray) (k x g : Nat) (w : World) (hs : s.size ≤ 1000) (hk : k < s.size) (hc : colon s = k) (hc2 : colon (s.extract (k + 1) s.size) = -1)
    (ha : rdRes 10 (s.extract 0 k).data.toList = (x, 0)) (hb : rdRes 10 (s.extract (k + 1) s.size).data.toList = (g, 0)) (hx : 1 ≤ x ∧ x ≤ 65535) (hg : 16777215 < g) :
    Calls Try.prog 16 #[.string s] w fun e w' => e = .returned (.tuple #[.int .u64 0, .int .i64 5]) ∧ Below w.heap.size w w' := by
  have C := hide (scut s k w hs hk hc)
  have K := hide (fun w => cont_any (s.extract (k + 1) s.size) w)
  rw [hc2, show decide ((0 : Int) ≤ -1) = false by decide] at K
  have z1 : (s.extract 0 k).size ≤ 1000 := by rw [ByteArray.size_extract]; omega
  have z2 : (s.extract (k + 1) s.size).size ≤ 1000 := by rw [ByteArray.size_extract]; omega
  have P1 := hide (fun w => parse_any (s.extract 0 k) w z1)
  have P2 := hide (fun w => parse_any (s.extract (k + 1) s.size) w z2)
  rw [ha] at P1
  rw [hb] at P2
  simp only [] at P1 P2
  generalize s.extract 0 k = a at *
  generalize s.extract (k + 1) s.size = b at *
  clear ha hb hc hc2 z1 z2
  have Mk := hide (fun w => mask_any 24 w ⟨by omega, by omega⟩)
  rw [show fmask 24 = 16777215 by decide] at Mk
  have x3 : ((x : Int) == 0) = false := by rw [beq_eq_false_iff_ne]; omega
  have x1 : 1 ≤ (x : Int) := by omega
  have x2 : (x : Int) ≤ 65535 := by omega
  have g1 : 16777215 < (g : Int) := by omega
  clear hx hg
  generalize (g : Int) = G at *
  generalize (x : Int) = X at *
  go_enter Try.func16, Try.ntmps16
  go_wp2_with fail
  refine (C.out).mono ?_
  rintro e w1 ⟨rfl, hb1⟩
  go_wp2_with fail
  refine (K.out _).mono ?_
  rintro e w' ⟨rfl, rfl⟩
  go_wp2_with fail
  refine (P1.out _).mono ?_
  rintro e w2 ⟨rfl, hb2⟩
  go_wp2_with fail
  refine (P2.out _).mono ?_
  rintro e w3 ⟨rfl, hb3⟩
  go_wp2_with fail
  refine (Mk.out _).mono ?_
  rintro e w' ⟨rfl, rfl⟩
  go_wp2_with fail
  go_ret2
  have B2 := hb1.trans (hb2.mono hb1.size)
  exact ⟨rfl, B2.trans (hb3.mono B2.size)⟩

/-- handle.Parse where there is one colon. -/
theorem hparse_one (s : ByteArray) (k : Nat) (w : World) (hs : s.size ≤ 1000) (hk : k < s.size) (hc : colon s = k) (hc2 : colon (s.extract (k + 1) s.size) = -1) :
    Calls Try.prog 16 #[.string s] w fun e w' => e = .returned (.tuple #[.int .u64 (hpRes (s.extract 0 k).data.toList (s.extract (k + 1) s.size).data.toList).1, .int .i64 (hpRes (s.extract 0 k).data.toList (s.extract (k + 1) s.size).data.toList).2]) ∧ Below w.heap.size w w' := by
  obtain ⟨x, e1, ha⟩ : ∃ x e, rdRes 10 (s.extract 0 k).data.toList = (x, e) := ⟨_, _, rfl⟩
  obtain ⟨g, e2, hb⟩ : ∃ x e, rdRes 10 (s.extract (k + 1) s.size).data.toList = (x, e) := ⟨_, _, rfl⟩
  unfold hpRes
  rw [ha, hb]
  simp only []
  by_cases h1 : e1 = 0
  · subst h1
    rw [if_neg (by simp)]
    by_cases h2 : e2 = 0
    · subst h2
      rw [if_neg (by simp)]
      by_cases h3 : x = 0
      · subst h3
        rw [if_pos (.inl rfl)]
        exact hparse_zero s k g w hs hk hc hc2 ha hb
      by_cases h4 : 65535 < x
      · rw [if_pos (.inr (.inl h4))]
        exact hparse_wide s k x g w hs hk hc hc2 ha hb h4
      by_cases h5 : 16777215 < g
      · rw [if_pos (.inr (.inr h5))]
        exact hparse_gen s k x g w hs hk hc hc2 ha hb (by omega) h5
      rw [if_neg (by omega)]
      exact hparse_ok s k x g w hs hk hc hc2 ha hb (by omega) (by omega)
    · rw [if_pos h2]
      exact hparse_f s k x g e2 w hs hk hc hc2 ha hb h2
  · rw [if_pos h1]
    exact hparse_e s k x g e1 e2 w hs hk hc hc2 ha hb h1
end Go.Proofs.Ythpgoglhccoeeaa
