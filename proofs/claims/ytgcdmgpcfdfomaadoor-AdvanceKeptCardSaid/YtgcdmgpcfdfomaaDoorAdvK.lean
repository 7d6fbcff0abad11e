/-
  Chapter 18's example; the comparisons of two wants, and of two epochs that go on; two lists of numbers that read alike.
-/
import Derived.Test.YtgcdmgpcfdfomaaDoorAdvA
import Derived.Deep.QuietTactic
import Derived.BigQuiet
import Derived.Test.YtgcdmgpcfdfomaaDoorLayH
import Derived.Deep.RegionHeld3
import Derived.Deep.RegionWith
namespace Go.Proofs.YtgcdmgpcfdfomaaDoor
open Go.RowKit
attribute [local go_sem] past_cell past_cell_add

theorem ask_neq (k a o n : Int) (w : World) : (binOp .neq 34 (.agg #[.int .i64 k, .int .i64 a, .int .u64 o, .int .u64 n]) (.agg #[.int .i64 k, .int .i64 a, .int .u64 o, .int .u64 n])).run Tryd.prog w = .ok (.bool false) w := by
  have hs : Tryd.prog.stoodInHeld 34 = false := by kernel_rfl
  rw [run_neq_struct, show (10000 : Nat) = 9999 + 1 from rfl, run_equalIn_agg _ _ _ _ _ (by kernel_rfl) hs]
  simp [Program.fieldsOf, Tryd.underlying34, Tryd.underlying3, Tryd.underlying29, Op.eqFields, run_equalIn_int, go_sem]
theorem ask_eql (k a o n : Int) (w : World) : (binOp .eql 34 (.agg #[.int .i64 k, .int .i64 a, .int .u64 o, .int .u64 n]) (.agg #[.int .i64 k, .int .i64 a, .int .u64 o, .int .u64 n])).run Tryd.prog w = .ok (.bool true) w := by
  have hs : Tryd.prog.stoodInHeld 34 = false := by kernel_rfl
  rw [run_eql_struct, show (10000 : Nat) = 9999 + 1 from rfl, run_equalIn_agg _ _ _ _ _ (by kernel_rfl) hs]
  simp [Program.fieldsOf, Tryd.underlying34, Tryd.underlying3, Tryd.underlying29, Op.eqFields, run_equalIn_int, go_sem]
set_option maxHeartbeats 1000000 in
theorem adv_eql (s t f l p own oc ep th wd ev ju k : Int) (w : World) : (binOp .eql 39 (.agg #[.int .i64 s, .int .i64 t, .int .i64 f, .int .i64 l, .int .i64 p, .int .i64 own, .int .i64 k, .int .i64 oc, .int .u64 ep, .int .i64 th, .int .u64 wd, .int .u64 ev, .int .i64 ju]) (.agg #[.int .i64 s, .int .i64 t, .int .i64 f, .int .i64 l, .int .i64 p, .int .i64 own, .int .i64 k, .int .i64 oc, .int .u64 ep, .int .i64 th, .int .u64 wd, .int .u64 ev, .int .i64 ju])).run Tryd.prog w = .ok (.bool true) w := by
  have hs : Tryd.prog.stoodInHeld 39 = false := by kernel_rfl
  rw [run_eql_struct, show (10000 : Nat) = 9999 + 1 from rfl, run_equalIn_agg _ _ _ _ _ (by kernel_rfl) hs]
  simp [Program.fieldsOf, Tryd.underlying39, Tryd.underlying37, Tryd.underlying23, Tryd.underlying3, Tryd.underlying29, Op.eqFields, run_equalIn_int, go_sem]
set_option maxHeartbeats 2000000 in
theorem awake18 (w : World) (hT : Tab w) : Calls Tryd.prog 6 #[] w fun e w' => e = .returned (.bool true) ∧ Below w.heap.size w w' := by
  have NL := hide (new_yes 1 2 4 1 3 w hT (by decide))
  have N := hide (fun w2 => anew_yes 1 2 4 1 3 0 w2 (by omega) (by omega) (by omega) (by omega))
  have T1 := hide (fun w2 => atook_1 1 2 4 1 3 0 0 0 0 0 0 0 5 w2)
  rw [show aThr 0 0 = 1 by decide, show aStep 2 1 = 2 by decide] at T1
  have T2 := hide (fun w2 => atook_2b 1 2 4 1 3 0 0 5 1 0 0 0 17 w2 ⟨by omega, by omega⟩ ⟨by omega, by omega⟩ (by decide))
  have T3 := hide (fun w2 => atook_3y 1 2 4 1 3 0 0 5 1 17 0 0 3 w2 ⟨by omega, by omega⟩ ⟨by omega, by omega⟩ (by decide))
  have W := hide (fun w2 => awant_4 1 2 4 1 3 0 0 5 1 17 0 0 w2 (by omega) (by omega) (by omega) (by omega) ⟨by omega, by omega⟩)
  rw [show (3 : Int) + 1 = 4 from rfl, show (17 : Int) - 17 % 4 + 2 = 18 by decide] at W
  have T4 := hide (fun w2 => atook_4y 1 2 4 1 3 0 0 5 1 17 0 0 2 2 w2 (by omega) (by decide) (by decide))
  rw [show (1 : Int) + 1 = 2 from rfl, show aThr 0 2 = 2 by decide, show aStep 2 2 = 5 by decide] at T4
  have J := hide (fun w2 => ajust_any 1 2 4 1 3 0 0 5 2 17 2 2 5 w2 (by omega))
  rw [show (2 : Int) - 1 = 1 from rfl] at J
  have E := hide (fun w2 => evicted_any 1 2 4 1 3 0 5 0 5 2 17 2 2 w2 (by decide))
  rw [show (evL 2 64).length = 1 by decide] at E
  have Q := ask_eql 3 4 17 18
  go_enter Tryd.func6, Tryd.ntmps6
  go_wp2_with fail
  refine (NL.out).mono ?_
  rintro e w1 ⟨rfl, B0⟩
  go_wp2_with fail
  refine (N.out _).mono ?_
  rintro e wN ⟨rfl, hb1⟩
  replace B0 := B0.trans (hb1.mono B0.size)
  clear hb1
  go_wp2_with fail
  refine (T1.out _).mono ?_
  rintro e wT1 ⟨rfl, hb1⟩
  replace B0 := B0.trans (hb1.mono B0.size)
  clear hb1
  go_wp2_with fail
  refine (T2.out _).mono ?_
  rintro e wT2 ⟨rfl, hb1⟩
  replace B0 := B0.trans (hb1.mono B0.size)
  clear hb1
  go_wp2_with fail
  refine (T3.out _).mono ?_
  rintro e wT3 ⟨rfl, hb1⟩
  replace B0 := B0.trans (hb1.mono B0.size)
  clear hb1
  have bx := Blk.new wT3 39 #[.int .i64 1, .int .i64 2, .int .i64 4, .int .i64 1, .int .i64 3, .int .i64 0, .int .i64 4, .int .i64 0, .int .u64 5, .int .i64 1, .int .u64 17, .int .u64 0, .int .i64 0]
  replace B0 := B0.alloc B0.size (.cells #[.int .i64 1, .int .i64 2, .int .i64 4, .int .i64 1, .int .i64 3, .int .i64 0, .int .i64 4, .int .i64 0, .int .u64 5, .int .i64 1, .int .u64 17, .int .u64 0, .int .i64 0] 39)
  go_wp2_with fail
  refine (W.out _).mono ?_
  rintro e wW ⟨rfl, hb1⟩
  replace bx := bx.below hb1 bx.lt
  replace B0 := B0.trans (hb1.mono B0.size)
  clear hb1
  try clear mx lx
  try clear mo lo zo
  try clear my ly zy
  try have mx := fun i => bx.cell i
  try have lx := bx.lt
  try have mo := fun i => bo.cell i
  try have lo := bo.lt
  try have zo := fun i => bo.frozen i
  try have my := fun i => by_.cell i
  try have ly := by_.lt
  try have zy := fun i => by_.frozen i
  go_wp2_with fail
  refine (T4.out _).mono ?_
  rintro e wT4 ⟨rfl, hb1⟩
  replace bx := bx.below hb1 bx.lt
  replace B0 := B0.trans (hb1.mono B0.size)
  clear hb1
  try clear mx lx
  try clear mo lo zo
  try clear my ly zy
  try have mx := fun i => bx.cell i
  try have lx := bx.lt
  try have mo := fun i => bo.cell i
  try have lo := bo.lt
  try have zo := fun i => bo.frozen i
  try have my := fun i => by_.cell i
  try have ly := by_.lt
  try have zy := fun i => by_.frozen i
  go_wp2_with fail
  refine (J.out _).mono ?_
  rintro e wJ ⟨rfl, hb1⟩
  replace bx := bx.below hb1 bx.lt
  replace B0 := B0.trans (hb1.mono B0.size)
  clear hb1
  try clear mx lx
  try clear mo lo zo
  try clear my ly zy
  try have mx := fun i => bx.cell i
  try have lx := bx.lt
  try have mo := fun i => bo.cell i
  try have lo := bo.lt
  try have zo := fun i => bo.frozen i
  try have my := fun i => by_.cell i
  try have ly := by_.lt
  try have zy := fun i => by_.frozen i
  go_wp2_with fail
  refine (T4.out _).mono ?_
  rintro e wT4 ⟨rfl, hb1⟩
  replace bx := bx.below hb1 bx.lt
  replace B0 := B0.trans (hb1.mono B0.size)
  clear hb1
  try clear mx lx
  try clear mo lo zo
  try clear my ly zy
  try have mx := fun i => bx.cell i
  try have lx := bx.lt
  try have mo := fun i => bo.cell i
  try have lo := bo.lt
  try have zo := fun i => bo.frozen i
  try have my := fun i => by_.cell i
  try have ly := by_.lt
  try have zy := fun i => by_.frozen i
  go_wp2_with fail
  refine (E.out _).mono ?_
  rintro e wE ⟨⟨A1, c1, rfl, _⟩, hb1⟩
  replace bx := bx.below hb1 bx.lt
  replace B0 := B0.trans (hb1.mono B0.size)
  clear hb1
  try clear mx lx
  try clear mo lo zo
  try clear my ly zy
  try have mx := fun i => bx.cell i
  try have lx := bx.lt
  try have mo := fun i => bo.cell i
  try have lo := bo.lt
  try have zo := fun i => bo.frozen i
  try have my := fun i => by_.cell i
  try have ly := by_.lt
  try have zy := fun i => by_.frozen i
  go_wp2_with fail
  go_ret
  exact ⟨rfl, B0⟩
end Go.Proofs.YtgcdmgpcfdfomaaDoor
