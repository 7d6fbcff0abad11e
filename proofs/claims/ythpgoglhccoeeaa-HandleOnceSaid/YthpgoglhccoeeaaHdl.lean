/-
  Package handle: strings.Cut and strings.Contains at ":".
-/
import Derived.Test.YthpgoglhccoeeaaNumG
import Derived.Test.YthpgoglhccoeeaaPast
import Derived.OwnWalk
namespace Go.Proofs.Ythpgoglhccoeeaa
open Go.RowKit

def colon (s : ByteArray) : Int := Lib.indexByte s.data.toList 58
set_option maxHeartbeats 400000 in
theorem ixc_any (s : ByteArray) (w : World) : Calls Try.prog 43 #[.string s, .int .u8 58] w fun e w' => e = .returned (.int .i64 (colon s)) ∧ w = w' := by
  have E : Lib.indexByte s.data.toList (58 : Int).toNat.toUInt8 = colon s := rfl
  go_enter Try.func43, Try.ntmps43
  go_wp2
  rw [run_callFunc_extern Try.func47 (by kernel_rfl) (by kernel_rfl) (by kernel_rfl) (e := Extern.BytealgIndexByte.indexByte) (by kernel_rfl), Lib.run_indexByteString]
  simp only [Result.andThen]
  rw [Oper.upon_value]
  rw [E]
  go_wp2
  go_ret
  exact ⟨rfl, rfl⟩

set_option maxHeartbeats 1000000 in
theorem index1 (s : ByteArray) (w : World) : Calls Try.prog 40 #[.string s, .string ⟨#[58]⟩] w fun e w' => e = .returned (.int .i64 (colon s)) ∧ w = w' := by
  have F := hide (fun w => ixc_any s w)
  by_cases hs : ([58] == s.toList) = true
  · have E := hide (show colon s = 0 by
      have h1 : [58] = s.toList := by simpa using hs
      rw [ByteArray.toList_eq] at h1
      unfold colon
      rw [← h1]
      rfl)
    go_enter Try.func40, Try.ntmps40
    go_wp2_with fail
    go_ret
    exact ⟨by rw [E.out]; rfl, rfl⟩
  · have hs2 : ([58] == s.toList) = false := by simpa using hs
    clear hs
    generalize colon s = r at *
    go_enter Try.func40, Try.ntmps40
    go_wp2_with fail
    refine (F.out _).mono ?_
    rintro e w' ⟨rfl, rfl⟩
    go_wp2_with fail
    go_ret
    exact ⟨rfl, rfl⟩
set_option maxHeartbeats 400000 in
theorem index2 (s : ByteArray) (w : World) : Calls Try.prog 35 #[.string s, .string ⟨#[58]⟩] w fun e w' => e = .returned (.int .i64 (colon s)) ∧ w = w' := by
  have F := hide (fun w => index1 s w)
  generalize colon s = r at *
  go_enter Try.func35, Try.ntmps35
  go_wp2_with fail
  refine (F.out _).mono ?_
  rintro e w' ⟨rfl, rfl⟩
  go_wp2_with fail
  go_ret
  exact ⟨rfl, rfl⟩
set_option maxHeartbeats 400000 in
theorem cont_any (s : ByteArray) (w : World) : Calls Try.prog 26 #[.string s, .string ⟨#[58]⟩] w fun e w' => e = .returned (.bool (decide (0 ≤ colon s))) ∧ w = w' := by
  have F := hide (fun w => index2 s w)
  generalize colon s = r at *
  go_enter Try.func26, Try.ntmps26
  go_wp2_with fail
  refine (F.out _).mono ?_
  rintro e w' ⟨rfl, rfl⟩
  go_wp2_with fail
  go_ret
  exact ⟨rfl, rfl⟩

set_option maxHeartbeats 1000000 in
theorem cut1 (s : ByteArray) (k : Nat) (w : World) (hs : s.size ≤ 1000) (hk : k < s.size) (hc : colon s = k) :
    Calls Try.prog 34 #[.string s, .string ⟨#[58]⟩] w fun e w' => e = .returned (.tuple #[.string (s.extract 0 k), .string (s.extract (k + 1) s.size), .bool true]) ∧ Below w.heap.size w w' := by
  have F := hide (fun w => index1 s w)
  rw [hc] at F
  clear hc
  go_enter Try.func34, Try.ntmps34
  go_wp2_with fail
  refine (F.out _).mono ?_
  rintro e w' ⟨rfl, rfl⟩
  go_wp2_with fail
  have hk1 : (k : Int) ≤ s.size := by omega
  have hk2 : 0 ≤ (k : Int) + 1 := by omega
  have hk3 : (k : Int) + 1 ≤ s.size := by omega
  have hk4 : ((k : Int) + 1).toNat = k + 1 := by omega
  go_quiet (fail)
  go_wp2_with fail
  go_ret3
  exact ⟨by simp, below_drewN (Below.refl _ _) _⟩

set_option maxHeartbeats 400000 in
theorem scut (s : ByteArray) (k : Nat) (w : World) (hs : s.size ≤ 1000) (hk : k < s.size) (hc : colon s = k) :
    Calls Try.prog 25 #[.string s, .string ⟨#[58]⟩] w fun e w' => e = .returned (.tuple #[.string (s.extract 0 k), .string (s.extract (k + 1) s.size), .bool true]) ∧ Below w.heap.size w w' := by
  have F := hide (cut1 s k w hs hk hc)
  generalize s.extract 0 k = a at *
  generalize s.extract (k + 1) s.size = b at *
  go_enter Try.func25, Try.ntmps25
  go_wp2_with fail
  refine F.out.mono ?_
  rintro e w1 ⟨rfl, hb1⟩
  go_wp2_with fail
  go_ret3
  exact ⟨rfl, hb1⟩
end Go.Proofs.Ythpgoglhccoeeaa
