/-
  Package hword and its reference.
-/
import Derived.Test.YtimhpcenfofidaaField
import Derived.Test.YtimhpcenfofidaaMem
namespace Go.Proofs.Ytimhpcenfofidaa
open Go.RowKit

def hslot (slot : Int) : Int := if slot < 0 ∨ 65535 < slot then 0 else slot
def hmake (tag slot : Int) : Int := tag % 281474976710656 * 65536 + hslot slot
theorem hslot_bound (slot : Int) : 0 ≤ hslot slot ∧ hslot slot ≤ 65535 := by unfold hslot; split <;> omega
theorem hmake_bound (tag slot : Int) : W64 (hmake tag slot) := by
  have := hslot_bound slot
  unfold hmake
  exact ⟨by omega, by omega⟩
theorem hmake_put (tag slot : Int) : fput (hslot slot) 16 48 tag = hmake tag slot := by
  have h := fput_at (hslot slot) tag 16 48 (by omega)
  have b := hslot_bound slot
  unfold hmake
  generalize hslot slot = s at *
  simp at h
  rw [h]
  omega
theorem hget_tag {w : Int} (h : W64 w) : fget w 16 48 = w / 65536 := by
  have h1 := fget_at w 16 48 (by omega)
  obtain ⟨h2, h3⟩ := h
  simp at h1
  rw [h1]
  omega
theorem hget_slot (w : Int) : fget w 0 16 = w % 65536 := by
  have h1 := fget_at w 0 16 (by omega)
  simpa using h1

set_option maxHeartbeats 400000 in
theorem hmake_any (tag slot : Int) (w : World) (ht : W64 tag) (hs : I64 slot) :
    Calls Try.prog 5 #[.int .u64 tag, .int .i64 slot] w fun r w' => r = .returned (.int .u64 (hmake tag slot)) ∧ w = w' := by
  have b := hslot_bound slot
  have P := hide (put_any (hslot slot) 16 48 tag w ⟨b.1, by omega⟩ ⟨by omega, by omega⟩ ⟨by omega, by omega⟩ ht)
  rw [hmake_put] at P
  obtain ⟨h0, h1⟩ := hs
  by_cases c0 : slot < 0
  · rw [show hslot slot = 0 from if_pos (.inl c0)] at P
    go_enter Try.func5, Try.ntmps5
    go_wp2_with fail
    refine P.out.mono ?_
    rintro e w' ⟨rfl, rfl⟩
    go_wp2_with fail
    go_ret
    exact ⟨rfl, rfl⟩
  by_cases c1 : 65535 < slot
  · rw [show hslot slot = 0 from if_pos (.inr c1)] at P
    go_enter Try.func5, Try.ntmps5
    go_wp2_with fail
    refine P.out.mono ?_
    rintro e w' ⟨rfl, rfl⟩
    go_wp2_with fail
    go_ret
    exact ⟨rfl, rfl⟩
  rw [show hslot slot = slot from if_neg (by omega)] at P
  have c2 : 0 ≤ slot := by omega
  have c3 : slot ≤ 65535 := by omega
  clear c0 c1 b
  go_enter Try.func5, Try.ntmps5
  go_wp2_with fail
  refine P.out.mono ?_
  rintro e w' ⟨rfl, rfl⟩
  go_wp2_with fail
  go_ret
  exact ⟨rfl, rfl⟩

set_option maxHeartbeats 400000 in
theorem hof_any (x : Int) (w : World) (hx : W64 x) :
    Calls Try.prog 11 #[.int .u64 x] w fun r w' => r = .returned (.agg #[.int .u64 (x / 65536), .int .i64 (x % 65536)]) ∧ Below w.heap.size w w' := by
  have T := hide (fun w => get_any x 16 48 w hx ⟨by omega, by omega⟩ ⟨by omega, by omega⟩)
  have Sl := hide (fun w => get_any x 0 16 w hx ⟨by omega, by omega⟩ ⟨by omega, by omega⟩)
  rw [hget_tag hx] at T
  rw [hget_slot] at Sl
  have b1 : 0 ≤ x % 65536 := by omega
  have b2 : x % 65536 < 65536 := by omega
  generalize x % 65536 = s at *
  generalize x / 65536 = t at *
  go_enter Try.func11, Try.ntmps11
  go_wp2_with fail
  refine (T.out _).mono ?_
  rintro e w' ⟨rfl, rfl⟩
  go_wp2_with fail
  refine (Sl.out _).mono ?_
  rintro e w' ⟨rfl, rfl⟩
  go_wp2_with fail
  refine bodyPost_ret (v := .agg #[.int .u64 t, .int .i64 s]) (by simp [results, Try.results11, go_sem]) rfl ⟨rfl, ?_⟩
  exact (Below.refl _ _).alloc (Nat.le_refl _) _

set_option maxHeartbeats 400000 in
theorem htell_slot (x : Int) (w : World) (hx : W64 x) :
    Calls Try.prog 7 #[.int .u64 x] w fun r w' => r = .returned (.int .i64 (x % 65536)) ∧ Below w.heap.size w w' := by
  have O := hide (hof_any x w hx)
  generalize x % 65536 = s at *
  generalize x / 65536 = t at *
  have hf : ∀ w : World, (Instr.field 27 (.agg #[.int .u64 t, .int .i64 s]) 1).run Try.prog w = .ok (.int .i64 s) w := fun _ => by kernel_rfl
  go_enter Try.func7, Try.ntmps7
  go_wp2_with fail
  refine O.out.mono ?_
  rintro e w' ⟨rfl, hb⟩
  go_wp2_with fail
  go_ret
  exact ⟨rfl, hb⟩
set_option maxHeartbeats 400000 in
theorem htell_tag (x : Int) (w : World) (hx : W64 x) :
    Calls Try.prog 9 #[.int .u64 x] w fun r w' => r = .returned (.int .u64 (x / 65536)) ∧ Below w.heap.size w w' := by
  have O := hide (hof_any x w hx)
  generalize x % 65536 = s at *
  generalize x / 65536 = t at *
  have hf : ∀ w : World, (Instr.field 27 (.agg #[.int .u64 t, .int .i64 s]) 0).run Try.prog w = .ok (.int .u64 t) w := fun _ => by kernel_rfl
  go_enter Try.func9, Try.ntmps9
  go_wp2_with fail
  refine O.out.mono ?_
  rintro e w' ⟨rfl, hb⟩
  go_wp2_with fail
  go_ret
  exact ⟨rfl, hb⟩

def hturn (x slot : Int) : Int := hmake (x / 65536 + 1) slot
theorem hturn_bound (x slot : Int) : W64 (hturn x slot) := hmake_bound _ _
set_option maxHeartbeats 400000 in
theorem hturn_any (x slot : Int) (w : World) (hx : W64 x) (hs : I64 slot) :
    Calls Try.prog 12 #[.int .u64 x, .int .i64 slot] w fun r w' => r = .returned (.int .u64 (hturn x slot)) ∧ Below w.heap.size w w' := by
  have O := hide (htell_tag x w hx)
  obtain ⟨h0, h1⟩ := hx
  have M := fun w => hide (hmake_any (x / 65536 + 1) slot w ⟨by omega, by omega⟩ hs)
  have E : Hid (hmake (x / 65536 + 1) slot = hturn x slot) := hide rfl
  have b1 : 0 ≤ x / 65536 := by omega
  have b2 : x / 65536 ≤ 281474976710656 := by omega
  generalize x / 65536 = t at *
  generalize hmake (t + 1) slot = r at *
  go_enter Try.func12, Try.ntmps12
  go_wp2_with fail
  refine O.out.mono ?_
  rintro e w' ⟨rfl, hb⟩
  go_wp2_with fail
  refine (M _).out.mono ?_
  rintro e w' ⟨rfl, rfl⟩
  go_wp2_with fail
  go_ret
  exact ⟨by rw [← E.out]; rfl, hb⟩

/-! The reference. -/
set_option maxHeartbeats 400000 in
theorem rhmake_any (tag slot : Int) (w : World) (ht : W64 tag) (hs : I64 slot) :
    Calls Try.prog 6 #[.int .u64 tag, .int .i64 slot] w fun r w' => r = .returned (.int .u64 (hmake tag slot)) ∧ w = w' := by
  obtain ⟨h0, h1⟩ := hs
  obtain ⟨h2, h3⟩ := ht
  by_cases c0 : slot < 0
  · have E := hide (show hmake tag slot = tag % 281474976710656 * 65536 by unfold hmake; rw [show hslot slot = 0 from if_pos (.inl c0)]; omega)
    go_enter Try.func6, Try.ntmps6
    go_wp2_with fail
    go_ret
    exact ⟨by rw [E.out]; rfl, rfl⟩
  by_cases c1 : 65535 < slot
  · have E := hide (show hmake tag slot = tag % 281474976710656 * 65536 by unfold hmake; rw [show hslot slot = 0 from if_pos (.inr c1)]; omega)
    go_enter Try.func6, Try.ntmps6
    go_wp2_with fail
    go_ret
    exact ⟨by rw [E.out]; rfl, rfl⟩
  have E := hide (show hmake tag slot = tag % 281474976710656 * 65536 + slot by unfold hmake; rw [show hslot slot = slot from if_neg (by omega)])
  have c2 : 0 ≤ slot := by omega
  have c3 : slot ≤ 65535 := by omega
  clear c0 c1
  go_enter Try.func6, Try.ntmps6
  go_wp2_with fail
  go_ret
  exact ⟨by rw [E.out]; rfl, rfl⟩
set_option maxHeartbeats 400000 in
theorem rhslot_any (x : Int) (w : World) (hx : W64 x) :
    Calls Try.prog 8 #[.int .u64 x] w fun r w' => r = .returned (.int .i64 (x % 65536)) ∧ w = w' := by
  obtain ⟨h0, h1⟩ := hx
  go_enter Try.func8, Try.ntmps8
  go_wp2_with fail
  go_ret
  exact ⟨rfl, rfl⟩
set_option maxHeartbeats 400000 in
theorem rhtag_any (x : Int) (w : World) (hx : W64 x) :
    Calls Try.prog 10 #[.int .u64 x] w fun r w' => r = .returned (.int .u64 (x / 65536)) ∧ w = w' := by
  obtain ⟨h0, h1⟩ := hx
  go_enter Try.func10, Try.ntmps10
  go_wp2_with fail
  go_ret
  exact ⟨rfl, rfl⟩
set_option maxHeartbeats 400000 in
theorem rhturn_any (x slot : Int) (w : World) (hx : W64 x) (hs : I64 slot) :
    Calls Try.prog 13 #[.int .u64 x, .int .i64 slot] w fun r w' => r = .returned (.int .u64 (hturn x slot)) ∧ w = w' := by
  have O := hide (rhtag_any x w hx)
  obtain ⟨h0, h1⟩ := hx
  have M := fun w => hide (rhmake_any (x / 65536 + 1) slot w ⟨by omega, by omega⟩ hs)
  have E : Hid (hmake (x / 65536 + 1) slot = hturn x slot) := hide rfl
  have b1 : 0 ≤ x / 65536 := by omega
  have b2 : x / 65536 ≤ 281474976710656 := by omega
  generalize x / 65536 = t at *
  generalize hmake (t + 1) slot = r at *
  go_enter Try.func13, Try.ntmps13
  go_wp2_with fail
  refine O.out.mono ?_
  rintro e w' ⟨rfl, rfl⟩
  go_wp2_with fail
  refine (M _).out.mono ?_
  rintro e w' ⟨rfl, rfl⟩
  go_wp2_with fail
  go_ret
  exact ⟨by rw [← E.out]; rfl, rfl⟩

set_option maxHeartbeats 400000 in
theorem awake06 (w : World) : Calls Try.prog 14 #[] w fun r w' => r = .returned (.bool true) ∧ Below w.heap.size w w' := by
  have M := hide (hmake_any 3 5 w ⟨by omega, by omega⟩ ⟨by omega, by omega⟩)
  have T := hide (hturn_any 196613 7 w ⟨by omega, by omega⟩ ⟨by omega, by omega⟩)
  have O := hide (fun w => hof_any 262151 w ⟨by omega, by omega⟩)
  rw [show hmake 3 5 = 196613 by decide] at M
  rw [show hturn 196613 7 = 262151 by decide] at T
  go_enter Try.func14, Try.ntmps14
  go_wp2_with fail
  refine M.out.mono ?_
  rintro e w' ⟨rfl, rfl⟩
  go_wp2_with fail
  refine T.out.mono ?_
  rintro e w' ⟨rfl, hb⟩
  go_wp2_with fail
  refine (O.out _).mono ?_
  rintro e w2 ⟨rfl, hb2⟩
  go_wp2_with fail
  go_ret
  exact ⟨rfl, hb.trans (hb2.mono hb.size)⟩

set_option maxHeartbeats 800000 in
theorem HwordMakes_calls (tag slot x : Int) (w : World) (ht : W64 tag) (hs : I64 slot) (hx : W64 x) :
    Calls Try.prog 3 #[.int .u64 tag, .int .i64 slot, .int .u64 x] w fun r w' => r = .returned (.bool true) ∧ Below w.heap.size w w' := by
  have M := hide (fun w => hmake_any tag slot w ht hs)
  have RM := hide (fun w => rhmake_any tag slot w ht hs)
  have Sl := hide (fun w => htell_slot x w hx)
  have RS := hide (fun w => rhslot_any x w hx)
  have Tg := hide (fun w => htell_tag x w hx)
  have RT := hide (fun w => rhtag_any x w hx)
  have O := hide (fun w => hof_any x w hx)
  have T := hide (fun w => hturn_any x slot w hx hs)
  have RTn := hide (fun w => rhturn_any x slot w hx hs)
  generalize hmake tag slot = a at *
  generalize hturn x slot = b at *
  generalize x % 65536 = c at *
  generalize x / 65536 = d at *
  go_enter Try.func3, Try.ntmps3
  go_wp2_with fail
  refine (M.out _).mono ?_
  rintro e w' ⟨rfl, rfl⟩
  go_wp2_with fail
  refine (RM.out _).mono ?_
  rintro e w' ⟨rfl, rfl⟩
  go_wp2_with fail
  refine (Sl.out _).mono ?_
  rintro e w1 ⟨rfl, B1⟩
  go_wp2_with fail
  refine (RS.out _).mono ?_
  rintro e w' ⟨rfl, rfl⟩
  go_wp2_with fail
  refine (Tg.out _).mono ?_
  rintro e w2 ⟨rfl, hb2⟩
  have B2 := B1.trans (hb2.mono B1.size)
  go_wp2_with fail
  refine (RT.out _).mono ?_
  rintro e w' ⟨rfl, rfl⟩
  go_wp2_with fail
  refine (O.out _).mono ?_
  rintro e w3 ⟨rfl, hb3⟩
  have B3 := B2.trans (hb3.mono B2.size)
  go_wp2_with fail
  refine (RT.out _).mono ?_
  rintro e w' ⟨rfl, rfl⟩
  go_wp2_with fail
  refine (RS.out _).mono ?_
  rintro e w' ⟨rfl, rfl⟩
  go_wp2_with fail
  refine (T.out _).mono ?_
  rintro e w4 ⟨rfl, hb4⟩
  have B4 := B3.trans (hb4.mono B3.size)
  go_wp2_with fail
  refine (RTn.out _).mono ?_
  rintro e w' ⟨rfl, rfl⟩
  go_wp2_with fail
  refine (awake06 _).mono ?_
  rintro e w5 ⟨rfl, hb5⟩
  have B5 := B4.trans (hb5.mono B4.size)
  go_wp2_with fail
  go_ret
  exact ⟨rfl, B5⟩
end Go.Proofs.Ytimhpcenfofidaa
