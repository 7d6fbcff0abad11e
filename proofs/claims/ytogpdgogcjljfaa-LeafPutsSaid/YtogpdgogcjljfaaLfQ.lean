/-
  The Go function LeafPuts.
-/
import Derived.Test.YtogpdgogcjljfaaLfV
import Derived.Test.YtogpdgogcjljfaaLfP
namespace Go.Proofs.Ytogpdgogcjljfaa
open Go.RowKit

theorem putL_nil (l : List Int) (i j : Nat) : putL l i j [] = cutL l 0 i ++ cutL l j l.length := by simp [putL]
theorem putL_same {key : Int} {ks : List Int} (h : riseB ks = true) (hh : hasB key ks = true) : putL ks (lowN key ks) (lowN key ks + 1) [key] = ks := by
  have hlt := has_lt h hh
  rw [has_iff h] at hh
  simp only [Bool.and_eq_true, beq_iff_eq] at hh
  have e := hh.2
  have hb := cut_both ks (lowN key ks + 1)
  rw [cutL_succ ks 0 (lowN key ks) (Nat.zero_le _) hlt] at hb
  have e3 : ks.getD (lowN key ks) 0 = ks[lowN key ks] := by simp [List.getD, hlt]
  have e2 : ks[lowN key ks] = key := e3.symm.trans e
  rw [e2] at hb
  exact hb
set_option maxHeartbeats 2000000 in
theorem puts_big (v : Value) (b : Bool) (ks vs : List Int) (l key val : Int) (w : World) (h : Nd w w.heap.size v b ks vs l) (hsm : ¬ (ks.length ≤ 80 ∧ vs.length ≤ 80)) :
    Calls Try.prog 6 #[v, .int .u64 key, .int .u64 val] w fun e w' => e = .returned (.bool true) ∧ Below w.heap.size w w' := by
  obtain ⟨A, c, B, d, rfl⟩ := ValN w b ks vs l v h
  have Sm := hide (fun w2 => small_any b A B ks.length c vs.length d l w2)
  rw [show (decide (ks.length ≤ 80) && decide (vs.length ≤ 80)) = false by simp; omega] at Sm
  clear h hsm
  generalize ks.length = n at *
  generalize vs.length = m at *
  have B0 := (Below.refl w.heap.size w).alloc (Nat.le_refl _) (.cells #[.bool b, .slice A n c, .slice B m d, .int .u64 l] 27)
  have bx := Blk.new w 27 #[.bool b, .slice A n c, .slice B m d, .int .u64 l]
  go_enter Try.func6, Try.ntmps6
  go_wp2_with fail
  refine (Sm.out _).mono ?_
  rintro e w1 ⟨rfl, hb1⟩
  try replace bx := bx.below hb1 bx.lt
  try replace bo := bo.below hb1 bo.lt
  try replace by_ := by_.below hb1 by_.lt
  replace B0 := B0.trans (hb1.mono B0.size)
  clear hb1
  try clear mx lx
  try clear mo lo zo
  try clear my ly zy
  try have mx := fun i => bx.cell i
  try have lx := bx.lt
  try have mo := fun i => bo.cell i
  try have lo := bo.lt
  try have zo := fun i => bo.frozen i
  try have my := fun i => by_.cell i
  try have ly := by_.lt
  try have zy := fun i => by_.frozen i
  go_wp2_with fail
  refine (awake12 _).mono ?_
  rintro e w2 ⟨rfl, hb1⟩
  try replace bx := bx.below hb1 bx.lt
  try replace bo := bo.below hb1 bo.lt
  try replace by_ := by_.below hb1 by_.lt
  replace B0 := B0.trans (hb1.mono B0.size)
  clear hb1
  try clear mx lx
  try clear mo lo zo
  try clear my ly zy
  try have mx := fun i => bx.cell i
  try have lx := bx.lt
  try have mo := fun i => bo.cell i
  try have lo := bo.lt
  try have zo := fun i => bo.frozen i
  try have my := fun i => by_.cell i
  try have ly := by_.lt
  try have zy := fun i => by_.frozen i
  go_wp2_with fail
  go_ret
  exact ⟨rfl, B0⟩
set_option maxRecDepth 100000 in
set_option maxHeartbeats 4000000 in
theorem puts_no (v : Value) (b : Bool) (ks vs : List Int) (l key val : Int) (w : World) (h : Nd w w.heap.size v b ks vs l) (hk : ks.length ≤ 80) (hv : vs.length ≤ 80) (hr : rightB b ks vs = false) :
    Calls Try.prog 6 #[v, .int .u64 key, .int .u64 val] w fun e w' => e = .returned (.bool true) ∧ Below w.heap.size w w' := by
  have Fd := hide (fun w2 (hB : Below w.heap.size w w2) => find_any v b ks vs l key w2 (by omega) ((h.below hB).more hB.size))
  rw [show findN b ks vs key = 0 by simp [findN, hr], show findB b ks vs key = false by simp [findB, hr]] at Fd
  have zz : ((0 : Nat) : Int) = 0 := rfl
  rw [zz] at Fd
  have Pt := hide (fun w2 (hB : Below w.heap.size w w2) => put_no v b ks vs l key val w2 (by omega) ((h.below hB).more hB.size) hr)
  have Dr := hide (fun w2 (hB : Below w.heap.size w w2) => drop_no v b ks vs l key w2 (by omega) ((h.below hB).more hB.size) hr)
  have Rr := hide (fun w2 (hB : Below w.heap.size w w2) => rright_any v b ks vs l w2 (by omega) ((h.below hB).more hB.size))
  have Rt := hide (fun w2 (hB : Below w.heap.size w w2) => right_any v b ks vs l w2 (by omega) ((h.below hB).more hB.size))
  rw [hr] at Rr Rt
  have Sa := hide (fun w2 => same_any _ _ false false [] [] [] [] 0 0 w2 (by simp) (by simp) (by simp) (by simp) (Nd.zero w2 w2.heap.size) (Nd.zero w2 w2.heap.size))
  rw [same_yes] at Sa
  obtain ⟨A, c, B, d, rfl⟩ := ValN w b ks vs l v h
  have Sm := hide (fun w2 => small_any b A B ks.length c vs.length d l w2)
  rw [show (decide (ks.length ≤ 80) && decide (vs.length ≤ 80)) = true by simp; omega] at Sm
  clear h hk hv hr zz
  generalize ks.length = n at *
  generalize vs.length = m at *
  have B0 := (Below.refl w.heap.size w).alloc (Nat.le_refl _) (.cells #[.bool b, .slice A n c, .slice B m d, .int .u64 l] 27)
  have bx := Blk.new w 27 #[.bool b, .slice A n c, .slice B m d, .int .u64 l]
  go_enter Try.func6, Try.ntmps6
  go_wp2_with fail
  refine (Sm.out _).mono ?_
  rintro e w1 ⟨rfl, hb1⟩
  try replace bx := bx.below hb1 bx.lt
  try replace bo := bo.below hb1 bo.lt
  try replace by_ := by_.below hb1 by_.lt
  replace B0 := B0.trans (hb1.mono B0.size)
  clear hb1
  try clear mx lx
  try clear mo lo zo
  try clear my ly zy
  try have mx := fun i => bx.cell i
  try have lx := bx.lt
  try have mo := fun i => bo.cell i
  try have lo := bo.lt
  try have zo := fun i => bo.frozen i
  try have my := fun i => by_.cell i
  try have ly := by_.lt
  try have zy := fun i => by_.frozen i
  go_wp2_with fail
  refine (Fd.out _ B0).mono ?_
  rintro e w2 ⟨rfl, hb1⟩
  try replace bx := bx.below hb1 bx.lt
  try replace bo := bo.below hb1 bo.lt
  try replace by_ := by_.below hb1 by_.lt
  replace B0 := B0.trans (hb1.mono B0.size)
  clear hb1
  try clear mx lx
  try clear mo lo zo
  try clear my ly zy
  try have mx := fun i => bx.cell i
  try have lx := bx.lt
  try have mo := fun i => bo.cell i
  try have lo := bo.lt
  try have zo := fun i => bo.frozen i
  try have my := fun i => by_.cell i
  try have ly := by_.lt
  try have zy := fun i => by_.frozen i
  go_wp2_with fail
  refine (Pt.out _ B0).mono ?_
  rintro e w3 ⟨rfl, hb1⟩
  replace bx := bx.below hb1 bx.lt
  replace B0 := B0.trans (hb1.mono B0.size)
  clear hb1
  have bo := Blk.new w3 27 #[.bool false, .slice none 0 0, .slice none 0 0, .int .u64 0]
  replace bx := bx.alloc (.cells #[.bool false, .slice none 0 0, .slice none 0 0, .int .u64 0] 27)
  replace B0 := B0.alloc B0.size (.cells #[.bool false, .slice none 0 0, .slice none 0 0, .int .u64 0] 27)
  try clear mx lx
  try clear mo lo zo
  try clear my ly zy
  try have mx := fun i => bx.cell i
  try have lx := bx.lt
  try have mo := fun i => bo.cell i
  try have lo := bo.lt
  try have zo := fun i => bo.frozen i
  try have my := fun i => by_.cell i
  try have ly := by_.lt
  try have zy := fun i => by_.frozen i
  go_wp2_with fail
  generalize w3.alloc (.cells #[.bool false, .slice none 0 0, .slice none 0 0, .int .u64 0] 27) = w4 at *
  generalize w3.heap.size = g1 at *
  refine (Dr.out _ B0).mono ?_
  rintro e w5 ⟨rfl, hb1⟩
  replace bx := bx.below hb1 bx.lt
  replace bo := bo.below hb1 bo.lt
  replace B0 := B0.trans (hb1.mono B0.size)
  clear hb1
  have by_ := Blk.new w5 27 #[.bool false, .slice none 0 0, .slice none 0 0, .int .u64 0]
  replace bx := bx.alloc (.cells #[.bool false, .slice none 0 0, .slice none 0 0, .int .u64 0] 27)
  replace bo := bo.alloc (.cells #[.bool false, .slice none 0 0, .slice none 0 0, .int .u64 0] 27)
  replace B0 := B0.alloc B0.size (.cells #[.bool false, .slice none 0 0, .slice none 0 0, .int .u64 0] 27)
  try clear mx lx
  try clear mo lo zo
  try clear my ly zy
  try have mx := fun i => bx.cell i
  try have lx := bx.lt
  try have mo := fun i => bo.cell i
  try have lo := bo.lt
  try have zo := fun i => bo.frozen i
  try have my := fun i => by_.cell i
  try have ly := by_.lt
  try have zy := fun i => by_.frozen i
  go_wp2_with fail
  generalize w5.alloc (.cells #[.bool false, .slice none 0 0, .slice none 0 0, .int .u64 0] 27) = w6 at *
  generalize w5.heap.size = g2 at *
  refine (Rr.out _ B0).mono ?_
  rintro e w7 ⟨rfl, hb1⟩
  try replace bx := bx.below hb1 bx.lt
  try replace bo := bo.below hb1 bo.lt
  try replace by_ := by_.below hb1 by_.lt
  replace B0 := B0.trans (hb1.mono B0.size)
  clear hb1
  try clear mx lx
  try clear mo lo zo
  try clear my ly zy
  try have mx := fun i => bx.cell i
  try have lx := bx.lt
  try have mo := fun i => bo.cell i
  try have lo := bo.lt
  try have zo := fun i => bo.frozen i
  try have my := fun i => by_.cell i
  try have ly := by_.lt
  try have zy := fun i => by_.frozen i
  go_wp2_with fail
  refine (Rt.out _ B0).mono ?_
  rintro e w8 ⟨rfl, hb1⟩
  try replace bx := bx.below hb1 bx.lt
  try replace bo := bo.below hb1 bo.lt
  try replace by_ := by_.below hb1 by_.lt
  replace B0 := B0.trans (hb1.mono B0.size)
  clear hb1
  try clear mx lx
  try clear mo lo zo
  try clear my ly zy
  try have mx := fun i => bx.cell i
  try have lx := bx.lt
  try have mo := fun i => bo.cell i
  try have lo := bo.lt
  try have zo := fun i => bo.frozen i
  try have my := fun i => by_.cell i
  try have ly := by_.lt
  try have zy := fun i => by_.frozen i
  go_wp2_with fail
  refine (Sa.out _).mono ?_
  rintro e w9 ⟨rfl, hb1⟩
  try replace bx := bx.below hb1 bx.lt
  try replace bo := bo.below hb1 bo.lt
  try replace by_ := by_.below hb1 by_.lt
  replace B0 := B0.trans (hb1.mono B0.size)
  clear hb1
  try clear mx lx
  try clear mo lo zo
  try clear my ly zy
  try have mx := fun i => bx.cell i
  try have lx := bx.lt
  try have mo := fun i => bo.cell i
  try have lo := bo.lt
  try have zo := fun i => bo.frozen i
  try have my := fun i => by_.cell i
  try have ly := by_.lt
  try have zy := fun i => by_.frozen i
  go_wp2_with fail
  refine (Sa.out _).mono ?_
  rintro e wa ⟨rfl, hb1⟩
  try replace bx := bx.below hb1 bx.lt
  try replace bo := bo.below hb1 bo.lt
  try replace by_ := by_.below hb1 by_.lt
  replace B0 := B0.trans (hb1.mono B0.size)
  clear hb1
  try clear mx lx
  try clear mo lo zo
  try clear my ly zy
  try have mx := fun i => bx.cell i
  try have lx := bx.lt
  try have mo := fun i => bo.cell i
  try have lo := bo.lt
  try have zo := fun i => bo.frozen i
  try have my := fun i => by_.cell i
  try have ly := by_.lt
  try have zy := fun i => by_.frozen i
  go_wp2_with fail
  refine (awake12 _).mono ?_
  rintro e wb ⟨rfl, hb1⟩
  try replace bx := bx.below hb1 bx.lt
  try replace bo := bo.below hb1 bo.lt
  try replace by_ := by_.below hb1 by_.lt
  replace B0 := B0.trans (hb1.mono B0.size)
  clear hb1
  try clear mx lx
  try clear mo lo zo
  try clear my ly zy
  try have mx := fun i => bx.cell i
  try have lx := bx.lt
  try have mo := fun i => bo.cell i
  try have lo := bo.lt
  try have zo := fun i => bo.frozen i
  try have my := fun i => by_.cell i
  try have ly := by_.lt
  try have zy := fun i => by_.frozen i
  go_wp2_with fail
  go_ret
  exact ⟨rfl, B0⟩
end Go.Proofs.Ytogpdgogcjljfaa
