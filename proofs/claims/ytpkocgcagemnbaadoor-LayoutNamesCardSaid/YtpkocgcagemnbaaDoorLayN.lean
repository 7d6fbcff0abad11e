/-
  The Go function LayoutNames.
-/
import Derived.Test.YtpkocgcagemnbaaDoorLayG
namespace Go.Proofs.YtpkocgcagemnbaaDoor
open Go.RowKit
attribute [local go_sem] past_cell past_cell_add

set_option maxHeartbeats 4000000 in
theorem names_yes (s t f l p o i : Int) (w : World) (hT : Tab w) (hc : cfgOk s t f l p = true) :
    Calls Tryd.prog 4 #[.agg #[.int .i64 s, .int .i64 t, .int .i64 f, .int .i64 l, .int .i64 p], .int .i64 o, .int .i64 i] w fun e w' => e = .returned (.bool true) ∧ Below w.heap.size w w' := by
  have Aw := hide (fun w2 (hb : Below w.heap.size w w2) => awake08 w2 (hT.below hb))
  have hb := cfgOk_iff.1 hc
  have hs : 1 ≤ s ∧ s ≤ 1000 := by omega
  have ht : 1 ≤ t ∧ t ≤ 64 := by omega
  have hf : 4 ≤ f ∧ f ≤ 64 := by omega
  clear hb
  have NW := hide (fun w2 (hb : Below w.heap.size w w2) => new_yes s t f l p w2 (hT.below hb) hc)
  have AT := hide (fun k o i w => at_any s t f l p k o i w hs ht hf)
  have N1 := hide (fun w => lann_any s t f l p o w hs ht hf)
  have N2 := hide (fun w => lhaz_any s t f l p o i w hs ht hf)
  have N3 := hide (fun w => lver_any s t f l p o w hs ht hf)
  have N4 := hide (fun w => lshp_any s t f l p o w hs ht hf)
  have N5 := hide (fun w => llnk_any s t f l p o w hs ht hf)
  have N6 := hide (fun w => lkey_any s t f l p o i w hs ht hf)
  have N7 := hide (fun w => lval_any s t f l p o i w hs ht hf)
  clear hs ht hf
  clear hc
  go_enter Tryd.func4, Tryd.ntmps4
  go_wp2_with fail
  have bx := Blk.new w 23 #[.int .i64 s, .int .i64 t, .int .i64 f, .int .i64 l, .int .i64 p]
  have B0 := (Below.refl w.heap.size w).alloc (Nat.le_refl _) (.cells #[.int .i64 s, .int .i64 t, .int .i64 f, .int .i64 l, .int .i64 p] 23)
  refine (NW.out _ B0).mono ?_
  rintro e w1 ⟨rfl, hb1⟩
  replace bx := bx.below hb1 bx.lt
  replace B0 := B0.trans (hb1.mono B0.size)
  clear hb1
  have lx1 : w.heap.size < w1.heap.size := bx.lt
  have mx := fun i => bx.cell i
  go_wp2_with fail
  have bo := Blk.new w1 27 #[.int .i64 s, .int .i64 t, .int .i64 f, .int .i64 l, .int .i64 p]
  replace bx := bx.alloc (.cells #[.int .i64 s, .int .i64 t, .int .i64 f, .int .i64 l, .int .i64 p] 27)
  replace B0 := B0.alloc B0.size (.cells #[.int .i64 s, .int .i64 t, .int .i64 f, .int .i64 l, .int .i64 p] 27)
  clear mx
  generalize w1.alloc (.cells #[.int .i64 s, .int .i64 t, .int .i64 f, .int .i64 l, .int .i64 p] 27) = w2 at *
  try clear mx lx
  try clear mo lo zo
  try clear my ly zy
  try have mx := fun i => bx.cell i
  try have lx := bx.lt
  try have mo := fun i => bo.cell i
  try have lo := bo.lt
  try have zo := fun i => bo.frozen i
  try have my := fun i => by_.cell i
  try have ly := by_.lt
  try have zy := fun i => by_.frozen i
  refine wp_region_past (by kernel_rfl) (by kernel_rfl) ?_
  repeat (quiet_step ((first | ((first | (go_at_call 12; exact calls_past (AT.out _ _ _ _)) | (go_at_call 16; exact calls_past (N1.out _)) | (go_at_call 17; exact calls_past (N2.out _)) | (go_at_call 18; exact calls_past (N3.out _)))))))
  refine wpQuiet_nil ?_
  intro _ hw'
  obtain ⟨y, hw''⟩ := hw'
  subst hw''
  have hy := past_below w2 y
  try replace bx := bx.below hy bx.lt
  try replace bo := bo.below hy bo.lt
  try replace by_ := by_.below hy by_.lt
  replace B0 := B0.trans (hy.mono B0.size)
  clear hy
  try clear mx lx
  try clear mo lo zo
  try clear my ly zy
  generalize past w2 y = w3 at *
  try clear mx lx
  try clear mo lo zo
  try clear my ly zy
  try have mx := fun i => bx.cell i
  try have lx := bx.lt
  try have mo := fun i => bo.cell i
  try have lo := bo.lt
  try have zo := fun i => bo.frozen i
  try have my := fun i => by_.cell i
  try have ly := by_.lt
  try have zy := fun i => by_.frozen i
  go_wp2_with fail
  refine wp_region_past (by kernel_rfl) (by kernel_rfl) ?_
  repeat (quiet_step ((first | ((first | (go_at_call 12; exact calls_past (AT.out _ _ _ _)) | (go_at_call 19; exact calls_past (N4.out _)) | (go_at_call 20; exact calls_past (N5.out _)) | (go_at_call 21; exact calls_past (N6.out _)) | (go_at_call 22; exact calls_past (N7.out _)))))))
  refine wpQuiet_nil ?_
  intro _ hw'
  obtain ⟨y, hw''⟩ := hw'
  subst hw''
  have hy := past_below w3 y
  try replace bx := bx.below hy bx.lt
  try replace bo := bo.below hy bo.lt
  try replace by_ := by_.below hy by_.lt
  replace B0 := B0.trans (hy.mono B0.size)
  clear hy
  try clear mx lx
  try clear mo lo zo
  try clear my ly zy
  generalize past w3 y = w4 at *
  try clear mx lx
  try clear mo lo zo
  try clear my ly zy
  try have mx := fun i => bx.cell i
  try have lx := bx.lt
  try have mo := fun i => bo.cell i
  try have lo := bo.lt
  try have zo := fun i => bo.frozen i
  try have my := fun i => by_.cell i
  try have ly := by_.lt
  try have zy := fun i => by_.frozen i
  go_wp2_with fail
  refine (Aw.out _ B0).mono ?_
  rintro e w5 ⟨rfl, hb1⟩
  try replace bx := bx.below hb1 bx.lt
  try replace bo := bo.below hb1 bo.lt
  try replace by_ := by_.below hb1 by_.lt
  replace B0 := B0.trans (hb1.mono B0.size)
  clear hb1
  try clear mx lx
  try clear mo lo zo
  try clear my ly zy
  try have mx := fun i => bx.cell i
  try have lx := bx.lt
  try have mo := fun i => bo.cell i
  try have lo := bo.lt
  try have zo := fun i => bo.frozen i
  try have my := fun i => by_.cell i
  try have ly := by_.lt
  try have zy := fun i => by_.frozen i
  go_wp2_with fail
  go_ret
  exact ⟨rfl, B0⟩
set_option maxHeartbeats 4000000 in
theorem names_no (s t f l p o i : Int) (w : World) (hT : Tab w) (hc : cfgOk s t f l p = false) :
    Calls Tryd.prog 4 #[.agg #[.int .i64 s, .int .i64 t, .int .i64 f, .int .i64 l, .int .i64 p], .int .i64 o, .int .i64 i] w fun e w' => e = .returned (.bool true) ∧ Below w.heap.size w w' := by
  have Aw := hide (fun w2 (hb : Below w.heap.size w w2) => awake08 w2 (hT.below hb))
  have NW := hide (fun w2 (hb : Below w.heap.size w w2) => new_no s t f l p w2 (hT.below hb) hc)
  have AT := hide (fun k o i w => at_zero k o i w)
  have N1 := hide (fun w => lann_zero o w)
  have N2 := hide (fun w => lhaz_zero o i w)
  have N3 := hide (fun w => lver_zero o w)
  have N4 := hide (fun w => lshp_zero o w)
  have N5 := hide (fun w => llnk_zero o w)
  have N6 := hide (fun w => lkey_zero o i w)
  have N7 := hide (fun w => lval_zero o i w)
  clear hc
  go_enter Tryd.func4, Tryd.ntmps4
  go_wp2_with fail
  have bx := Blk.new w 23 #[.int .i64 s, .int .i64 t, .int .i64 f, .int .i64 l, .int .i64 p]
  have B0 := (Below.refl w.heap.size w).alloc (Nat.le_refl _) (.cells #[.int .i64 s, .int .i64 t, .int .i64 f, .int .i64 l, .int .i64 p] 23)
  refine (NW.out _ B0).mono ?_
  rintro e w1 ⟨rfl, hb1⟩
  replace bx := bx.below hb1 bx.lt
  replace B0 := B0.trans (hb1.mono B0.size)
  clear hb1
  have lx1 : w.heap.size < w1.heap.size := bx.lt
  have mx := fun i => bx.cell i
  go_wp2_with fail
  have bo := Blk.new w1 27 #[.int .i64 0, .int .i64 0, .int .i64 0, .int .i64 0, .int .i64 0]
  replace bx := bx.alloc (.cells #[.int .i64 0, .int .i64 0, .int .i64 0, .int .i64 0, .int .i64 0] 27)
  replace B0 := B0.alloc B0.size (.cells #[.int .i64 0, .int .i64 0, .int .i64 0, .int .i64 0, .int .i64 0] 27)
  clear mx
  generalize w1.alloc (.cells #[.int .i64 0, .int .i64 0, .int .i64 0, .int .i64 0, .int .i64 0] 27) = w2 at *
  try clear mx lx
  try clear mo lo zo
  try clear my ly zy
  try have mx := fun i => bx.cell i
  try have lx := bx.lt
  try have mo := fun i => bo.cell i
  try have lo := bo.lt
  try have zo := fun i => bo.frozen i
  try have my := fun i => by_.cell i
  try have ly := by_.lt
  try have zy := fun i => by_.frozen i
  refine wp_region_past (by kernel_rfl) (by kernel_rfl) ?_
  repeat (quiet_step ((first | ((first | (go_at_call 12; exact calls_past (AT.out _ _ _ _)) | (go_at_call 16; exact calls_past (N1.out _)) | (go_at_call 17; exact calls_past (N2.out _)) | (go_at_call 18; exact calls_past (N3.out _)))))))
  refine wpQuiet_nil ?_
  intro _ hw'
  obtain ⟨y, hw''⟩ := hw'
  subst hw''
  have hy := past_below w2 y
  try replace bx := bx.below hy bx.lt
  try replace bo := bo.below hy bo.lt
  try replace by_ := by_.below hy by_.lt
  replace B0 := B0.trans (hy.mono B0.size)
  clear hy
  try clear mx lx
  try clear mo lo zo
  try clear my ly zy
  generalize past w2 y = w3 at *
  try clear mx lx
  try clear mo lo zo
  try clear my ly zy
  try have mx := fun i => bx.cell i
  try have lx := bx.lt
  try have mo := fun i => bo.cell i
  try have lo := bo.lt
  try have zo := fun i => bo.frozen i
  try have my := fun i => by_.cell i
  try have ly := by_.lt
  try have zy := fun i => by_.frozen i
  go_wp2_with fail
  refine wp_region_past (by kernel_rfl) (by kernel_rfl) ?_
  repeat (quiet_step ((first | ((first | (go_at_call 12; exact calls_past (AT.out _ _ _ _)) | (go_at_call 19; exact calls_past (N4.out _)) | (go_at_call 20; exact calls_past (N5.out _)) | (go_at_call 21; exact calls_past (N6.out _)) | (go_at_call 22; exact calls_past (N7.out _)))))))
  refine wpQuiet_nil ?_
  intro _ hw'
  obtain ⟨y, hw''⟩ := hw'
  subst hw''
  have hy := past_below w3 y
  try replace bx := bx.below hy bx.lt
  try replace bo := bo.below hy bo.lt
  try replace by_ := by_.below hy by_.lt
  replace B0 := B0.trans (hy.mono B0.size)
  clear hy
  try clear mx lx
  try clear mo lo zo
  try clear my ly zy
  generalize past w3 y = w4 at *
  try clear mx lx
  try clear mo lo zo
  try clear my ly zy
  try have mx := fun i => bx.cell i
  try have lx := bx.lt
  try have mo := fun i => bo.cell i
  try have lo := bo.lt
  try have zo := fun i => bo.frozen i
  try have my := fun i => by_.cell i
  try have ly := by_.lt
  try have zy := fun i => by_.frozen i
  go_wp2_with fail
  refine (Aw.out _ B0).mono ?_
  rintro e w5 ⟨rfl, hb1⟩
  try replace bx := bx.below hb1 bx.lt
  try replace bo := bo.below hb1 bo.lt
  try replace by_ := by_.below hb1 by_.lt
  replace B0 := B0.trans (hb1.mono B0.size)
  clear hb1
  try clear mx lx
  try clear mo lo zo
  try clear my ly zy
  try have mx := fun i => bx.cell i
  try have lx := bx.lt
  try have mo := fun i => bo.cell i
  try have lo := bo.lt
  try have zo := fun i => bo.frozen i
  try have my := fun i => by_.cell i
  try have ly := by_.lt
  try have zy := fun i => by_.frozen i
  go_wp2_with fail
  go_ret
  exact ⟨rfl, B0⟩

theorem LayoutNames_calls (s t f l p o i : Int) (w : World) (hT : Tab w) :
    Calls Tryd.prog 4 #[.agg #[.int .i64 s, .int .i64 t, .int .i64 f, .int .i64 l, .int .i64 p], .int .i64 o, .int .i64 i] w fun e w' => e = .returned (.bool true) ∧ Below w.heap.size w w' := by
  by_cases hc : cfgOk s t f l p = true
  · exact names_yes s t f l p o i w hT hc
  · exact names_no s t f l p o i w hT (by simpa using hc)
end Go.Proofs.YtpkocgcagemnbaaDoor
