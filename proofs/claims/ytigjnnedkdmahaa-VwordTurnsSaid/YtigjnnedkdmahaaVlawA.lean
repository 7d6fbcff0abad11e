/-
  The Go functions VwordMakes and VwordTurns.
-/
import Derived.Test.YtigjnnedkdmahaaVrefB
import Derived.Test.YtigjnnedkdmahaaPast
namespace Go.Proofs.Ytigjnnedkdmahaa
open Go.RowKit
attribute [local go_sem] past_cell past_cell_add

set_option maxHeartbeats 1000000 in
theorem VwordMakes_calls (g c : Int) (d l : Bool) (w : World) (hg : W64 g) (hc : W64 c) :
    Calls Try.prog 3 #[.int .u64 g, .int .u64 c, .bool d, .bool l] w fun e w' => e = .returned (.bool true) ∧ Below w.heap.size w w' := by
  have M := hide (fun w => vmake_any g c d l w hg hc)
  have R := hide (fun w => rword_any l d c g w hc hg)
  have O := hide (fun w => rof_any c w hc)
  unfold vagg at O
  have L := hide (fun w => vlocked_any c w hc)
  have D := hide (fun w => vdead_any c w hc)
  have C := hide (fun w => vcnt_any c w hc)
  have G := hide (fun w => vgen_any c w hc)
  have Aw := hide vawake_any
  generalize vpack g c d l = r at *
  generalize vlocked c = lc at *
  generalize vdead c = dc at *
  generalize vcnt c = cc at *
  generalize vgen c = gc at *
  go_enter Try.func3, Try.ntmps3
  go_wp2_with fail
  refine (M.out _).mono ?_
  rintro e w' ⟨rfl, rfl⟩
  go_wp2_with fail
  refine (O.out _).mono ?_
  rintro e w1 ⟨rfl, hb1⟩
  go_wp2_with fail
  have b2 := Blk.new w1 25 #[.bool lc, .bool dc, .int .u64 cc, .int .u64 gc]
  have B2 := hb1.alloc hb1.size (.cells #[.bool lc, .bool dc, .int .u64 cc, .int .u64 gc] 25)
  generalize w1.alloc (.cells #[.bool lc, .bool dc, .int .u64 cc, .int .u64 gc] 25) = w2 at *
  have lt2 := b2.lt
  generalize w1.heap.size = g1 at *
  have c2 := fun i => b2.cell i
  have f2 := fun i => b2.frozen i
  refine wp_region_past (by kernel_rfl) (by kernel_rfl) ?_
  repeat (quiet_step ((first | (go_at_call 9; exact calls_past_same (L.out _)) | (go_at_call 10; exact calls_past_same (D.out _)) | (go_at_call 11; exact calls_past_same (C.out _)) | (go_at_call 12; exact calls_past_same (G.out _)) | (go_at_call 8; exact calls_past (R.out _)) | (go_at_call 13; exact calls_past (Aw.out _)))))
  refine wpQuiet_nil ?_
  intro _ hw'
  obtain ⟨y, hw''⟩ := hw'
  subst hw''
  have hy := past_below w2 y
  have B3 := B2.trans (hy.mono B2.size)
  generalize past w2 y = w3 at *
  go_wp2_with fail
  go_ret
  exact ⟨rfl, B3⟩

set_option maxHeartbeats 1000000 in
theorem VwordTurns_calls (x h : Int) (w : World) (hx : W64 x) (hh : W64 h) :
    Calls Try.prog 4 #[.int .u64 x, .int .u64 h] w fun e w' => e = .returned (.bool true) ∧ Below w.heap.size w w' := by
  have L := hide (fun w => vlock_any x w hx)
  have U := hide (fun w => vundo_any x w hx)
  have Bm := hide (fun w => vbump_any x w hx)
  have Kl := hide (fun w => vkill_any x w hx)
  have Rn := hide (fun w => vrenew_any x w hx)
  have Bg := hide (fun w => vbegin_any h x w hh hx)
  have rL := hide (fun w => rlock_any x w hx)
  have rU := hide (fun w => rundo_any x w hx)
  have rBm := hide (fun w => rbump_any x w hx)
  have rKl := hide (fun w => rkill_any x w hx)
  have rRn := hide (fun w => rrenew_any x w hx)
  have rBg := hide (fun w => rbegin_any h x w hh hx)
  have Aw := hide vawake_any
  generalize vlock x = q1 at *
  generalize vundo x = q2 at *
  generalize vbump x = q3 at *
  generalize vkill x = q4 at *
  generalize vrenew x = q5 at *
  generalize vbegin h x = q6 at *
  go_enter Try.func4, Try.ntmps4
  go_wp2_with fail
  refine (L.out _).mono ?_
  rintro e w' ⟨rfl, rfl⟩
  go_wp2_with fail
  refine (rL.out _).mono ?_
  rintro e w1 ⟨rfl, hb1⟩
  go_wp2_with fail
  refine (U.out _).mono ?_
  rintro e w' ⟨rfl, rfl⟩
  go_wp2_with fail
  refine (rU.out _).mono ?_
  rintro e w2 ⟨rfl, hb2⟩
  go_wp2_with fail
  refine (Bm.out _).mono ?_
  rintro e w3 ⟨rfl, hb3⟩
  go_wp2_with fail
  refine (rBm.out _).mono ?_
  rintro e w4 ⟨rfl, hb4⟩
  go_wp2_with fail
  refine (Kl.out _).mono ?_
  rintro e w5 ⟨rfl, hb5⟩
  go_wp2_with fail
  refine (rKl.out _).mono ?_
  rintro e w6 ⟨rfl, hb6⟩
  go_wp2_with fail
  refine (Rn.out _).mono ?_
  rintro e w7 ⟨rfl, hb7⟩
  go_wp2_with fail
  refine (rRn.out _).mono ?_
  rintro e w8 ⟨rfl, hb8⟩
  go_wp2_with fail
  refine (Bg.out _).mono ?_
  rintro e w' ⟨rfl, rfl⟩
  go_wp2_with fail
  refine (rBg.out _).mono ?_
  rintro e w9 ⟨rfl, hb9⟩
  go_wp2_with fail
  refine (Aw.out _).mono ?_
  rintro e w10 ⟨rfl, hb10⟩
  go_wp2_with fail
  go_ret
  have B2 := hb1.trans (hb2.mono hb1.size)
  have B3 := B2.trans (hb3.mono B2.size)
  have B4 := B3.trans (hb4.mono B3.size)
  have B5 := B4.trans (hb5.mono B4.size)
  have B6 := B5.trans (hb6.mono B5.size)
  have B7 := B6.trans (hb7.mono B6.size)
  have B8 := B7.trans (hb8.mono B7.size)
  have B9 := B8.trans (hb9.mono B8.size)
  have B10 := B9.trans (hb10.mono B9.size)
  exact ⟨rfl, B10⟩
end Go.Proofs.Ytigjnnedkdmahaa
