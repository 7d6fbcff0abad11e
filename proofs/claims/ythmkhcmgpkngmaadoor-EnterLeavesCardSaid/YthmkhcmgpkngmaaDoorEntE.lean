/-
  Chapter 17's example; the comparisons of two wants, and of two such threads.
-/
import Derived.Test.YthmkhcmgpkngmaaDoorEntD
import Derived.Laws.StructEq
import Derived.Test.YthmkhcmgpkngmaaDoorLayH
import Derived.Deep.RegionHeld3
import Derived.Deep.RegionWith
namespace Go.Proofs.YthmkhcmgpkngmaaDoor
open Go.RowKit
attribute [local go_sem] past_cell past_cell_add

theorem ask_neq (k a o n : Int) (w : World) : (binOp .neq 39 (.agg #[.int .i64 k, .int .i64 a, .int .u64 o, .int .u64 n]) (.agg #[.int .i64 k, .int .i64 a, .int .u64 o, .int .u64 n])).run Tryd.prog w = .ok (.bool false) w := by
  have hs : Tryd.prog.stoodInHeld 39 = false := by kernel_rfl
  rw [run_neq_struct, show (10000 : Nat) = 9999 + 1 from rfl, run_equalIn_agg _ _ _ _ _ (by kernel_rfl) hs]
  simp [Program.fieldsOf, Tryd.underlying39, Tryd.underlying3, Tryd.underlying28, Op.eqFields, run_equalIn_int, go_sem]
theorem ask_eql (k a o n : Int) (w : World) : (binOp .eql 39 (.agg #[.int .i64 k, .int .i64 a, .int .u64 o, .int .u64 n]) (.agg #[.int .i64 k, .int .i64 a, .int .u64 o, .int .u64 n])).run Tryd.prog w = .ok (.bool true) w := by
  have hs : Tryd.prog.stoodInHeld 39 = false := by kernel_rfl
  rw [run_eql_struct, show (10000 : Nat) = 9999 + 1 from rfl, run_equalIn_agg _ _ _ _ _ (by kernel_rfl) hs]
  simp [Program.fieldsOf, Tryd.underlying39, Tryd.underlying3, Tryd.underlying28, Op.eqFields, run_equalIn_int, go_sem]
theorem en_eql (s t f l p th k : Int) (sl : Bool) (ep ck : Int) (w : World) : (binOp .eql 30 (.agg #[.int .i64 s, .int .i64 t, .int .i64 f, .int .i64 l, .int .i64 p, .int .i64 th, .int .i64 k, .bool sl, .int .u64 ep, .int .u64 ck]) (.agg #[.int .i64 s, .int .i64 t, .int .i64 f, .int .i64 l, .int .i64 p, .int .i64 th, .int .i64 k, .bool sl, .int .u64 ep, .int .u64 ck])).run Tryd.prog w = .ok (.bool true) w := by
  have hs : Tryd.prog.stoodInHeld 30 = false := by kernel_rfl
  rw [run_eql_struct, show (10000 : Nat) = 9999 + 1 from rfl, run_equalIn_agg _ _ _ _ _ (by kernel_rfl) hs]
  simp [Program.fieldsOf, Tryd.underlying30, Tryd.underlying27, Tryd.underlying23, Tryd.underlying3, Tryd.underlying28, Tryd.underlying4, Op.eqFields, run_equalIn_int, go_sem]
set_option maxHeartbeats 2000000 in
theorem awake17 (w : World) (hT : Tab w) : Calls Tryd.prog 9 #[] w fun e w' => e = .returned (.bool true) ∧ Below w.heap.size w w' := by
  have NL := hide (new_yes 1 2 4 1 1 w hT (by decide))
  have N := hide (fun w2 => ennew_yes 1 2 4 1 1 1 false w2 (by omega) (by omega) (by omega) (by omega))
  have T1 := hide (fun w2 => etook_1f 1 2 4 1 1 1 0 0 2 w2 ⟨by omega, by omega⟩)
  rw [show ((2 : Int) % 4 == 2) = true from rfl] at T1
  have T2 := hide (fun w2 => etook_2 1 2 4 1 1 1 true 0 0 7 w2)
  have T3 := hide (fun w2 => etook_3 1 2 4 1 1 1 true 7 0 9 w2)
  have T4 := hide (fun w2 => etook_4 1 2 4 1 1 1 true 7 9 0 w2)
  have D := hide (fun w2 => endone_0 1 2 4 1 1 1 true 7 9 w2)
  have W := hide (fun w2 => enwant_4 1 2 4 1 1 1 true 7 9 w2 (by omega) (by omega) (by omega) (by omega) ⟨by omega, by omega⟩ ⟨by omega, by omega⟩)
  rw [show amake (if true = true then 3 else 1) 7 9 = 38654705695 by decide, show (3 : Int) + 1 = 4 from rfl] at W
  have Q := ask_eql 2 4 0 38654705695
  go_enter Tryd.func9, Tryd.ntmps9
  go_wp2_with fail
  refine (NL.out).mono ?_
  rintro e w1 ⟨rfl, B0⟩
  go_wp2_with fail
  refine (N.out _).mono ?_
  rintro e w2 ⟨rfl, hb1⟩
  replace B0 := B0.trans (hb1.mono B0.size)
  clear hb1
  go_wp2_with fail
  refine (T1.out _).mono ?_
  rintro e w3 ⟨rfl, hb1⟩
  replace B0 := B0.trans (hb1.mono B0.size)
  clear hb1
  go_wp2_with fail
  refine (T2.out _).mono ?_
  rintro e w4 ⟨rfl, hb1⟩
  replace B0 := B0.trans (hb1.mono B0.size)
  clear hb1
  go_wp2_with fail
  refine (T3.out _).mono ?_
  rintro e w5 ⟨rfl, hb1⟩
  replace B0 := B0.trans (hb1.mono B0.size)
  clear hb1
  have bx := Blk.new w5 30 #[.int .i64 1, .int .i64 2, .int .i64 4, .int .i64 1, .int .i64 1, .int .i64 1, .int .i64 4, .bool true, .int .u64 7, .int .u64 9]
  replace B0 := B0.alloc B0.size (.cells #[.int .i64 1, .int .i64 2, .int .i64 4, .int .i64 1, .int .i64 1, .int .i64 1, .int .i64 4, .bool true, .int .u64 7, .int .u64 9] 30)
  go_wp2_with fail
  refine (T4.out _).mono ?_
  rintro e w6 ⟨rfl, hb1⟩
  replace bx := bx.below hb1 bx.lt
  replace B0 := B0.trans (hb1.mono B0.size)
  clear hb1
  try clear mx lx
  try clear mo lo zo
  try clear my ly zy
  try have mx := fun i => bx.cell i
  try have lx := bx.lt
  try have mo := fun i => bo.cell i
  try have lo := bo.lt
  try have zo := fun i => bo.frozen i
  try have my := fun i => by_.cell i
  try have ly := by_.lt
  try have zy := fun i => by_.frozen i
  go_wp2_with fail
  refine (D.out _).mono ?_
  rintro e w7 ⟨rfl, hb1⟩
  replace bx := bx.below hb1 bx.lt
  replace B0 := B0.trans (hb1.mono B0.size)
  clear hb1
  try clear mx lx
  try clear mo lo zo
  try clear my ly zy
  try have mx := fun i => bx.cell i
  try have lx := bx.lt
  try have mo := fun i => bo.cell i
  try have lo := bo.lt
  try have zo := fun i => bo.frozen i
  try have my := fun i => by_.cell i
  try have ly := by_.lt
  try have zy := fun i => by_.frozen i
  go_wp2_with fail
  refine (W.out _).mono ?_
  rintro e w8 ⟨rfl, hb1⟩
  replace B0 := B0.trans (hb1.mono B0.size)
  clear hb1 bx mx lx
  go_wp2_with fail
  go_ret
  exact ⟨rfl, B0⟩
end Go.Proofs.YthmkhcmgpkngmaaDoor
