/-
  handle.Parse at two kinds of texts; the example; the Go functions HandleMakes and HandleBack.
-/
import Derived.Test.YthpgoglhccoeeaaHdlB
namespace Go.Proofs.Ythpgoglhccoeeaa
open Go.RowKit

set_option maxHeartbeats 1000000 in
theorem hparse_zero (s : ByteArray) (k g : Nat) (w : World) (hs : s.size ≤ 1000) (hk : k < s.size) (hc : colon s = k) (hc2 : colon (s.extract (k + 1) s.size) = -1)
    (ha : rdRes 10 (s.extract 0 k).data.toList = (0, 0)) (hb : rdRes 10 (s.extract (k + 1) s.size).data.toList = (g, 0)) :
    Calls Try.prog 16 #[.string s] w fun e w' => e = .returned (.tuple #[.int .u64 0, .int .i64 5]) ∧ Below w.heap.size w w' := by
  have C := hide (scut s k w hs hk hc)
  have K := hide (fun w => cont_any (s.extract (k + 1) s.size) w)
  rw [hc2, show decide ((0 : Int) ≤ -1) = false by decide] at K
  have z1 : (s.extract 0 k).size ≤ 1000 := by rw [ByteArray.size_extract]; omega
  have z2 : (s.extract (k + 1) s.size).size ≤ 1000 := by rw [ByteArray.size_extract]; omega
  have P1 := hide (fun w => parse_any (s.extract 0 k) w z1)
  have P2 := hide (fun w => parse_any (s.extract (k + 1) s.size) w z2)
  rw [ha] at P1
  rw [hb] at P2
  simp only [] at P1 P2
  generalize s.extract 0 k = a at *
  generalize s.extract (k + 1) s.size = b at *
  clear ha hb hc hc2 z1 z2
  rw [show ((0 : Nat) : Int) = 0 from rfl] at P1
  generalize (g : Int) = G at *
  go_enter Try.func16, Try.ntmps16
  go_wp2_with fail
  refine (C.out).mono ?_
  rintro e w1 ⟨rfl, hb1⟩
  go_wp2_with fail
  refine (K.out _).mono ?_
  rintro e w' ⟨rfl, rfl⟩
  go_wp2_with fail
  refine (P1.out _).mono ?_
  rintro e w2 ⟨rfl, hb2⟩
  go_wp2_with fail
  refine (P2.out _).mono ?_
  rintro e w3 ⟨rfl, hb3⟩
  go_wp2_with fail
  go_ret2
  have B2 := hb1.trans (hb2.mono hb1.size)
  exact ⟨rfl, B2.trans (hb3.mono B2.size)⟩

set_option maxHeartbeats 1000000 in
theorem hparse_ok (s : ByteArray) (k x g : Nat) (w : World) (hs : s.size ≤ 1000) (hk : k < s.size) (hc : colon s = k) (hc2 : colon (s.extract (k + 1) s.size) = -1)
    (ha : rdRes 10 (s.extract 0 k).data.toList = (x, 0)) (hb : rdRes 10 (s.extract (k + 1) s.size).data.toList = (g, 0)) (hx : 1 ≤ x ∧ x ≤ 65535) (hg : g ≤ 16777215) :
    Calls Try.prog 16 #[.string s] w fun e w' => e = .returned (.tuple #[.int .u64 (hmk g x), .int .i64 0]) ∧ Below w.heap.size w w' := by
  have C := hide (scut s k w hs hk hc)
  have K := hide (fun w => cont_any (s.extract (k + 1) s.size) w)
  rw [hc2, show decide ((0 : Int) ≤ -1) = false by decide] at K
  have z1 : (s.extract 0 k).size ≤ 1000 := by rw [ByteArray.size_extract]; omega
  have z2 : (s.extract (k + 1) s.size).size ≤ 1000 := by rw [ByteArray.size_extract]; omega
  have P1 := hide (fun w => parse_any (s.extract 0 k) w z1)
  have P2 := hide (fun w => parse_any (s.extract (k + 1) s.size) w z2)
  rw [ha] at P1
  rw [hb] at P2
  simp only [] at P1 P2
  generalize s.extract 0 k = a at *
  generalize s.extract (k + 1) s.size = b at *
  clear ha hb hc hc2 z1 z2
  have Mk := hide (fun w => mask_any 24 w ⟨by omega, by omega⟩)
  rw [show fmask 24 = 16777215 by decide] at Mk
  have Mh := hide (fun w => hmake_any (g : Int) (x : Int) w ⟨by omega, by omega⟩ ⟨by omega, by omega⟩)
  generalize hmk (g : Int) (x : Int) = R at *
  have x1 : 1 ≤ (x : Int) := by omega
  have x2 : (x : Int) ≤ 65535 := by omega
  have g0 : 0 ≤ (g : Int) := by omega
  have g1 : (g : Int) ≤ 16777215 := by omega
  have x3 : ((x : Int) == 0) = false := by rw [beq_eq_false_iff_ne]; omega
  clear hx hg
  generalize (g : Int) = G at *
  generalize (x : Int) = X at *
  go_enter Try.func16, Try.ntmps16
  go_wp2_with fail
  refine (C.out).mono ?_
  rintro e w1 ⟨rfl, hb1⟩
  go_wp2_with fail
  refine (K.out _).mono ?_
  rintro e w' ⟨rfl, rfl⟩
  go_wp2_with fail
  refine (P1.out _).mono ?_
  rintro e w2 ⟨rfl, hb2⟩
  go_wp2_with fail
  refine (P2.out _).mono ?_
  rintro e w3 ⟨rfl, hb3⟩
  go_wp2_with fail
  refine (Mk.out _).mono ?_
  rintro e w' ⟨rfl, rfl⟩
  go_wp2_with fail
  refine (Mh.out _).mono ?_
  rintro e w' ⟨rfl, rfl⟩
  go_wp2_with fail
  go_ret2
  have B2 := hb1.trans (hb2.mono hb1.size)
  exact ⟨rfl, B2.trans (hb3.mono B2.size)⟩

set_option maxHeartbeats 1000000 in
theorem awake03 (w : World) : Calls Try.prog 15 #[] w fun e w' => e = .returned (.bool true) ∧ Below w.heap.size w w' := by
  have M := hide (fun w => hmake_any 2 5 w ⟨by omega, by omega⟩ ⟨by omega, by omega⟩)
  rw [show hmk 2 5 = 131077 by decide] at M
  have P := hide (fun w => hparse_zero ⟨#[48, 58, 49]⟩ 1 1 w (by decide) (by decide) (by decide) (by decide) (by decide) (by decide))
  have T := hide (fun w => htext_any 131077 w ⟨by omega, by omega⟩)
  rw [show htx 131077 = ⟨#[53, 58, 50]⟩ by rfl] at T
  have R1 := hide (fun w => hright_any 131077 5 w ⟨by omega, by omega⟩)
  rw [show hrt 131077 5 = true by decide] at R1
  have R2 := hide (fun w => hright_any 131077 4 w ⟨by omega, by omega⟩)
  rw [show hrt 131077 4 = false by decide] at R2
  go_enter Try.func15, Try.ntmps15
  go_wp2_with fail
  refine (M.out _).mono ?_
  rintro e w' ⟨rfl, rfl⟩
  go_wp2_with fail
  refine (P.out _).mono ?_
  rintro e w1 ⟨rfl, hb1⟩
  go_wp2_with fail
  refine (T.out _).mono ?_
  rintro e w2 ⟨rfl, hb2⟩
  go_wp2_with fail
  refine (R1.out _).mono ?_
  rintro e w' ⟨rfl, rfl⟩
  go_wp2_with fail
  refine (R2.out _).mono ?_
  rintro e w' ⟨rfl, rfl⟩
  go_wp2_with fail
  go_ret
  exact ⟨rfl, hb1.trans (hb2.mono hb1.size)⟩

set_option maxHeartbeats 1000000 in
theorem HandleMakes_calls (gen slot h slots : Int) (w : World) (hg : W64 gen) (hs : I64 slot) (hh : W64 h) :
    Calls Try.prog 3 #[.int .u64 gen, .int .i64 slot, .int .u64 h, .int .i64 slots] w fun e w' => e = .returned (.bool true) ∧ Below w.heap.size w w' := by
  have M := hide (fun w => hmake_any gen slot w hg hs)
  have rM := hide (fun w => rhm_any gen slot w hg hs)
  have Sl := hide (fun w => hslot_any h w hh)
  have rSl := hide (fun w => rhs_any h w hh)
  have Gn := hide (fun w => hgen_any h w hh)
  have rGn := hide (fun w => rhg_any h w hh)
  have R := hide (fun w => hright_any h slots w hh)
  have rR := hide (fun w => rhr_any h slots w hh)
  have Aw := hide awake03
  generalize hmk gen slot = m at *
  generalize hsl h = a at *
  generalize hgn h = b at *
  generalize hrt h slots = c at *
  go_enter Try.func3, Try.ntmps3
  go_wp2_with fail
  refine (M.out _).mono ?_
  rintro e w' ⟨rfl, rfl⟩
  go_wp2_with fail
  refine (rM.out _).mono ?_
  rintro e w' ⟨rfl, rfl⟩
  go_wp2_with fail
  refine (Sl.out _).mono ?_
  rintro e w' ⟨rfl, rfl⟩
  go_wp2_with fail
  refine (rSl.out _).mono ?_
  rintro e w' ⟨rfl, rfl⟩
  go_wp2_with fail
  refine (Gn.out _).mono ?_
  rintro e w' ⟨rfl, rfl⟩
  go_wp2_with fail
  refine (rGn.out _).mono ?_
  rintro e w' ⟨rfl, rfl⟩
  go_wp2_with fail
  refine (R.out _).mono ?_
  rintro e w' ⟨rfl, rfl⟩
  go_wp2_with fail
  refine (rR.out _).mono ?_
  rintro e w' ⟨rfl, rfl⟩
  go_wp2_with fail
  refine (Aw.out _).mono ?_
  rintro e w1 ⟨rfl, hb1⟩
  go_wp2_with fail
  go_ret
  exact ⟨rfl, hb1⟩
end Go.Proofs.Ythpgoglhccoeeaa
