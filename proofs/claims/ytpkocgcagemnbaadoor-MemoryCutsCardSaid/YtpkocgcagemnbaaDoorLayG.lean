/-
  The Go functions LayoutTells, LayoutAsks, LayoutNames; the example.
-/
import Derived.Test.YtpkocgcagemnbaaDoorLayC
import Derived.Test.YtpkocgcagemnbaaDoorLayE
import Derived.Test.YtpkocgcagemnbaaDoorLayF
namespace Go.Proofs.YtpkocgcagemnbaaDoor
open Go.RowKit
attribute [local go_sem] past_cell past_cell_add

set_option maxHeartbeats 400000 in
theorem lann_any (s t f l p o  : Int) (w : World) (hs : 1 ≤ s ∧ s ≤ 1000) (ht : 1 ≤ t ∧ t ≤ 64) (hf : 4 ≤ f ∧ f ≤ 64) :
    Calls Tryd.prog 16 #[.agg #[.int .i64 s, .int .i64 t, .int .i64 f, .int .i64 l, .int .i64 p], .int .i64 o] w fun e w' => e = .returned (.int .i64 (atp s t f 4 o 0)) ∧ Below w.heap.size w w' := by
  have A := hide (fun w => at_any s t f l p 4 o 0 w hs ht hf)
  generalize atp s t f 4 o 0 = R at *
  go_enter Tryd.func16, Tryd.ntmps16
  go_wp2_with fail
  have B0 := (Below.refl w.heap.size w).alloc (Nat.le_refl _) (.cells #[.int .i64 s, .int .i64 t, .int .i64 f, .int .i64 l, .int .i64 p] 27)
  refine (A.out _).mono ?_
  rintro e w1 ⟨rfl, hb1⟩
  go_wp2_with fail
  go_ret
  exact ⟨rfl, B0.trans (hb1.mono B0.size)⟩
set_option maxHeartbeats 400000 in
theorem lann_zero (o  : Int) (w : World) :
    Calls Tryd.prog 16 #[.agg #[.int .i64 0, .int .i64 0, .int .i64 0, .int .i64 0, .int .i64 0], .int .i64 o] w fun e w' => e = .returned (.int .i64 (-1)) ∧ Below w.heap.size w w' := by
  have A := hide (fun w => at_zero 4 o 0 w)
  go_enter Tryd.func16, Tryd.ntmps16
  go_wp2_with fail
  have B0 := (Below.refl w.heap.size w).alloc (Nat.le_refl _) (.cells #[.int .i64 0, .int .i64 0, .int .i64 0, .int .i64 0, .int .i64 0] 27)
  refine (A.out _).mono ?_
  rintro e w1 ⟨rfl, hb1⟩
  go_wp2_with fail
  go_ret
  exact ⟨rfl, B0.trans (hb1.mono B0.size)⟩
set_option maxHeartbeats 400000 in
theorem lhaz_any (s t f l p o i : Int) (w : World) (hs : 1 ≤ s ∧ s ≤ 1000) (ht : 1 ≤ t ∧ t ≤ 64) (hf : 4 ≤ f ∧ f ≤ 64) :
    Calls Tryd.prog 17 #[.agg #[.int .i64 s, .int .i64 t, .int .i64 f, .int .i64 l, .int .i64 p], .int .i64 o, .int .i64 i] w fun e w' => e = .returned (.int .i64 (atp s t f 5 o i)) ∧ Below w.heap.size w w' := by
  have A := hide (fun w => at_any s t f l p 5 o i w hs ht hf)
  generalize atp s t f 5 o i = R at *
  go_enter Tryd.func17, Tryd.ntmps17
  go_wp2_with fail
  have B0 := (Below.refl w.heap.size w).alloc (Nat.le_refl _) (.cells #[.int .i64 s, .int .i64 t, .int .i64 f, .int .i64 l, .int .i64 p] 27)
  refine (A.out _).mono ?_
  rintro e w1 ⟨rfl, hb1⟩
  go_wp2_with fail
  go_ret
  exact ⟨rfl, B0.trans (hb1.mono B0.size)⟩
set_option maxHeartbeats 400000 in
theorem lhaz_zero (o i : Int) (w : World) :
    Calls Tryd.prog 17 #[.agg #[.int .i64 0, .int .i64 0, .int .i64 0, .int .i64 0, .int .i64 0], .int .i64 o, .int .i64 i] w fun e w' => e = .returned (.int .i64 (-1)) ∧ Below w.heap.size w w' := by
  have A := hide (fun w => at_zero 5 o i w)
  go_enter Tryd.func17, Tryd.ntmps17
  go_wp2_with fail
  have B0 := (Below.refl w.heap.size w).alloc (Nat.le_refl _) (.cells #[.int .i64 0, .int .i64 0, .int .i64 0, .int .i64 0, .int .i64 0] 27)
  refine (A.out _).mono ?_
  rintro e w1 ⟨rfl, hb1⟩
  go_wp2_with fail
  go_ret
  exact ⟨rfl, B0.trans (hb1.mono B0.size)⟩
set_option maxHeartbeats 400000 in
theorem lver_any (s t f l p o  : Int) (w : World) (hs : 1 ≤ s ∧ s ≤ 1000) (ht : 1 ≤ t ∧ t ≤ 64) (hf : 4 ≤ f ∧ f ≤ 64) :
    Calls Tryd.prog 18 #[.agg #[.int .i64 s, .int .i64 t, .int .i64 f, .int .i64 l, .int .i64 p], .int .i64 o] w fun e w' => e = .returned (.int .i64 (atp s t f 6 o 0)) ∧ Below w.heap.size w w' := by
  have A := hide (fun w => at_any s t f l p 6 o 0 w hs ht hf)
  generalize atp s t f 6 o 0 = R at *
  go_enter Tryd.func18, Tryd.ntmps18
  go_wp2_with fail
  have B0 := (Below.refl w.heap.size w).alloc (Nat.le_refl _) (.cells #[.int .i64 s, .int .i64 t, .int .i64 f, .int .i64 l, .int .i64 p] 27)
  refine (A.out _).mono ?_
  rintro e w1 ⟨rfl, hb1⟩
  go_wp2_with fail
  go_ret
  exact ⟨rfl, B0.trans (hb1.mono B0.size)⟩
set_option maxHeartbeats 400000 in
theorem lver_zero (o  : Int) (w : World) :
    Calls Tryd.prog 18 #[.agg #[.int .i64 0, .int .i64 0, .int .i64 0, .int .i64 0, .int .i64 0], .int .i64 o] w fun e w' => e = .returned (.int .i64 (-1)) ∧ Below w.heap.size w w' := by
  have A := hide (fun w => at_zero 6 o 0 w)
  go_enter Tryd.func18, Tryd.ntmps18
  go_wp2_with fail
  have B0 := (Below.refl w.heap.size w).alloc (Nat.le_refl _) (.cells #[.int .i64 0, .int .i64 0, .int .i64 0, .int .i64 0, .int .i64 0] 27)
  refine (A.out _).mono ?_
  rintro e w1 ⟨rfl, hb1⟩
  go_wp2_with fail
  go_ret
  exact ⟨rfl, B0.trans (hb1.mono B0.size)⟩
set_option maxHeartbeats 400000 in
theorem lshp_any (s t f l p o  : Int) (w : World) (hs : 1 ≤ s ∧ s ≤ 1000) (ht : 1 ≤ t ∧ t ≤ 64) (hf : 4 ≤ f ∧ f ≤ 64) :
    Calls Tryd.prog 19 #[.agg #[.int .i64 s, .int .i64 t, .int .i64 f, .int .i64 l, .int .i64 p], .int .i64 o] w fun e w' => e = .returned (.int .i64 (atp s t f 7 o 0)) ∧ Below w.heap.size w w' := by
  have A := hide (fun w => at_any s t f l p 7 o 0 w hs ht hf)
  generalize atp s t f 7 o 0 = R at *
  go_enter Tryd.func19, Tryd.ntmps19
  go_wp2_with fail
  have B0 := (Below.refl w.heap.size w).alloc (Nat.le_refl _) (.cells #[.int .i64 s, .int .i64 t, .int .i64 f, .int .i64 l, .int .i64 p] 27)
  refine (A.out _).mono ?_
  rintro e w1 ⟨rfl, hb1⟩
  go_wp2_with fail
  go_ret
  exact ⟨rfl, B0.trans (hb1.mono B0.size)⟩
set_option maxHeartbeats 400000 in
theorem lshp_zero (o  : Int) (w : World) :
    Calls Tryd.prog 19 #[.agg #[.int .i64 0, .int .i64 0, .int .i64 0, .int .i64 0, .int .i64 0], .int .i64 o] w fun e w' => e = .returned (.int .i64 (-1)) ∧ Below w.heap.size w w' := by
  have A := hide (fun w => at_zero 7 o 0 w)
  go_enter Tryd.func19, Tryd.ntmps19
  go_wp2_with fail
  have B0 := (Below.refl w.heap.size w).alloc (Nat.le_refl _) (.cells #[.int .i64 0, .int .i64 0, .int .i64 0, .int .i64 0, .int .i64 0] 27)
  refine (A.out _).mono ?_
  rintro e w1 ⟨rfl, hb1⟩
  go_wp2_with fail
  go_ret
  exact ⟨rfl, B0.trans (hb1.mono B0.size)⟩
set_option maxHeartbeats 400000 in
theorem llnk_any (s t f l p o  : Int) (w : World) (hs : 1 ≤ s ∧ s ≤ 1000) (ht : 1 ≤ t ∧ t ≤ 64) (hf : 4 ≤ f ∧ f ≤ 64) :
    Calls Tryd.prog 20 #[.agg #[.int .i64 s, .int .i64 t, .int .i64 f, .int .i64 l, .int .i64 p], .int .i64 o] w fun e w' => e = .returned (.int .i64 (atp s t f 8 o 0)) ∧ Below w.heap.size w w' := by
  have A := hide (fun w => at_any s t f l p 8 o 0 w hs ht hf)
  generalize atp s t f 8 o 0 = R at *
  go_enter Tryd.func20, Tryd.ntmps20
  go_wp2_with fail
  have B0 := (Below.refl w.heap.size w).alloc (Nat.le_refl _) (.cells #[.int .i64 s, .int .i64 t, .int .i64 f, .int .i64 l, .int .i64 p] 27)
  refine (A.out _).mono ?_
  rintro e w1 ⟨rfl, hb1⟩
  go_wp2_with fail
  go_ret
  exact ⟨rfl, B0.trans (hb1.mono B0.size)⟩
set_option maxHeartbeats 400000 in
theorem llnk_zero (o  : Int) (w : World) :
    Calls Tryd.prog 20 #[.agg #[.int .i64 0, .int .i64 0, .int .i64 0, .int .i64 0, .int .i64 0], .int .i64 o] w fun e w' => e = .returned (.int .i64 (-1)) ∧ Below w.heap.size w w' := by
  have A := hide (fun w => at_zero 8 o 0 w)
  go_enter Tryd.func20, Tryd.ntmps20
  go_wp2_with fail
  have B0 := (Below.refl w.heap.size w).alloc (Nat.le_refl _) (.cells #[.int .i64 0, .int .i64 0, .int .i64 0, .int .i64 0, .int .i64 0] 27)
  refine (A.out _).mono ?_
  rintro e w1 ⟨rfl, hb1⟩
  go_wp2_with fail
  go_ret
  exact ⟨rfl, B0.trans (hb1.mono B0.size)⟩
set_option maxHeartbeats 400000 in
theorem lkey_any (s t f l p o i : Int) (w : World) (hs : 1 ≤ s ∧ s ≤ 1000) (ht : 1 ≤ t ∧ t ≤ 64) (hf : 4 ≤ f ∧ f ≤ 64) :
    Calls Tryd.prog 21 #[.agg #[.int .i64 s, .int .i64 t, .int .i64 f, .int .i64 l, .int .i64 p], .int .i64 o, .int .i64 i] w fun e w' => e = .returned (.int .i64 (atp s t f 9 o i)) ∧ Below w.heap.size w w' := by
  have A := hide (fun w => at_any s t f l p 9 o i w hs ht hf)
  generalize atp s t f 9 o i = R at *
  go_enter Tryd.func21, Tryd.ntmps21
  go_wp2_with fail
  have B0 := (Below.refl w.heap.size w).alloc (Nat.le_refl _) (.cells #[.int .i64 s, .int .i64 t, .int .i64 f, .int .i64 l, .int .i64 p] 27)
  refine (A.out _).mono ?_
  rintro e w1 ⟨rfl, hb1⟩
  go_wp2_with fail
  go_ret
  exact ⟨rfl, B0.trans (hb1.mono B0.size)⟩
set_option maxHeartbeats 400000 in
theorem lkey_zero (o i : Int) (w : World) :
    Calls Tryd.prog 21 #[.agg #[.int .i64 0, .int .i64 0, .int .i64 0, .int .i64 0, .int .i64 0], .int .i64 o, .int .i64 i] w fun e w' => e = .returned (.int .i64 (-1)) ∧ Below w.heap.size w w' := by
  have A := hide (fun w => at_zero 9 o i w)
  go_enter Tryd.func21, Tryd.ntmps21
  go_wp2_with fail
  have B0 := (Below.refl w.heap.size w).alloc (Nat.le_refl _) (.cells #[.int .i64 0, .int .i64 0, .int .i64 0, .int .i64 0, .int .i64 0] 27)
  refine (A.out _).mono ?_
  rintro e w1 ⟨rfl, hb1⟩
  go_wp2_with fail
  go_ret
  exact ⟨rfl, B0.trans (hb1.mono B0.size)⟩
set_option maxHeartbeats 400000 in
theorem lval_any (s t f l p o i : Int) (w : World) (hs : 1 ≤ s ∧ s ≤ 1000) (ht : 1 ≤ t ∧ t ≤ 64) (hf : 4 ≤ f ∧ f ≤ 64) :
    Calls Tryd.prog 22 #[.agg #[.int .i64 s, .int .i64 t, .int .i64 f, .int .i64 l, .int .i64 p], .int .i64 o, .int .i64 i] w fun e w' => e = .returned (.int .i64 (atp s t f 10 o i)) ∧ Below w.heap.size w w' := by
  have A := hide (fun w => at_any s t f l p 10 o i w hs ht hf)
  generalize atp s t f 10 o i = R at *
  go_enter Tryd.func22, Tryd.ntmps22
  go_wp2_with fail
  have B0 := (Below.refl w.heap.size w).alloc (Nat.le_refl _) (.cells #[.int .i64 s, .int .i64 t, .int .i64 f, .int .i64 l, .int .i64 p] 27)
  refine (A.out _).mono ?_
  rintro e w1 ⟨rfl, hb1⟩
  go_wp2_with fail
  go_ret
  exact ⟨rfl, B0.trans (hb1.mono B0.size)⟩
set_option maxHeartbeats 400000 in
theorem lval_zero (o i : Int) (w : World) :
    Calls Tryd.prog 22 #[.agg #[.int .i64 0, .int .i64 0, .int .i64 0, .int .i64 0, .int .i64 0], .int .i64 o, .int .i64 i] w fun e w' => e = .returned (.int .i64 (-1)) ∧ Below w.heap.size w w' := by
  have A := hide (fun w => at_zero 10 o i w)
  go_enter Tryd.func22, Tryd.ntmps22
  go_wp2_with fail
  have B0 := (Below.refl w.heap.size w).alloc (Nat.le_refl _) (.cells #[.int .i64 0, .int .i64 0, .int .i64 0, .int .i64 0, .int .i64 0] 27)
  refine (A.out _).mono ?_
  rintro e w1 ⟨rfl, hb1⟩
  go_wp2_with fail
  go_ret
  exact ⟨rfl, B0.trans (hb1.mono B0.size)⟩

theorem plc_zero {s t f a : Int} (hf : 4 ≤ f) : (plc s t f a).1 = 0 ↔ (a < 0 ∨ laySize s t f ≤ a) := by
  unfold plc
  by_cases c0 : a < 0 ∨ laySize s t f ≤ a
  · rw [if_pos c0]
    simp [c0]
  rw [if_neg c0]
  by_cases c1 : a < 3
  · rw [if_pos c1]
    simp only [c0, iff_false]
    omega
  rw [if_neg c1]
  by_cases c2 : a < 3 + t
  · rw [if_pos c2]
    simp [c0]
  rw [if_neg c2]
  by_cases c3 : a < 3 + 3 * t
  · rw [if_pos c3]
    simp [c0]
  rw [if_neg c3]
  have := Int.emod_nonneg (a - (3 + 3 * t)) (show 3 + 2 * f ≠ 0 by omega)
  split
  · simp only [c0, iff_false]
    omega
  · split <;> simp [c0]

set_option maxHeartbeats 1000000 in
theorem awake08 (w : World) (hT : Tab w) : Calls Tryd.prog 14 #[] w fun e w' => e = .returned (.bool true) ∧ Below w.heap.size w w' := by
  have NW := hide (fun w2 (hb : Below w.heap.size w w2) => new_yes 3 2 4 1 1 w2 (hT.below hb) (by decide))
  have A1 := hide (fun w => lann_any 3 2 4 1 1 1 w (by omega) (by omega) (by omega))
  rw [show atp 3 2 4 4 1 0 = 4 by decide] at A1
  have A2 := hide (fun w => lhaz_any 3 2 4 1 1 1 0 w (by omega) (by omega) (by omega))
  rw [show atp 3 2 4 5 1 0 = 7 by decide] at A2
  have A3 := hide (fun w => lver_any 3 2 4 1 1 0 w (by omega) (by omega) (by omega))
  rw [show atp 3 2 4 6 0 0 = 9 by decide] at A3
  have A4 := hide (fun w => lkey_any 3 2 4 1 1 1 2 w (by omega) (by omega) (by omega))
  rw [show atp 3 2 4 9 1 2 = 25 by decide] at A4
  have A5 := hide (fun w => size_any 3 2 4 1 1 w (by omega) (by omega) (by omega))
  rw [show laySize 3 2 4 = 53 by decide] at A5
  go_enter Tryd.func14, Tryd.ntmps14
  go_wp2_with fail
  refine (NW.out _ (Below.refl _ _)).mono ?_
  rintro e w1 ⟨rfl, B0⟩
  go_wp2_with fail
  have bo := Blk.new w1 27 #[.int .i64 3, .int .i64 2, .int .i64 4, .int .i64 1, .int .i64 1]
  replace B0 := B0.alloc B0.size (.cells #[.int .i64 3, .int .i64 2, .int .i64 4, .int .i64 1, .int .i64 1] 27)
  refine (A1.out _).mono ?_
  rintro e w2 ⟨rfl, hb1⟩
  replace bo := bo.below hb1 bo.lt
  replace B0 := B0.trans (hb1.mono B0.size)
  clear hb1
  try clear mo
  have mo := fun i => bo.cell i
  go_wp2_with fail
  refine (A2.out _).mono ?_
  rintro e w3 ⟨rfl, hb1⟩
  replace bo := bo.below hb1 bo.lt
  replace B0 := B0.trans (hb1.mono B0.size)
  clear hb1
  try clear mo
  have mo := fun i => bo.cell i
  go_wp2_with fail
  refine (A3.out _).mono ?_
  rintro e w4 ⟨rfl, hb1⟩
  replace bo := bo.below hb1 bo.lt
  replace B0 := B0.trans (hb1.mono B0.size)
  clear hb1
  try clear mo
  have mo := fun i => bo.cell i
  go_wp2_with fail
  refine (A4.out _).mono ?_
  rintro e w5 ⟨rfl, hb1⟩
  replace bo := bo.below hb1 bo.lt
  replace B0 := B0.trans (hb1.mono B0.size)
  clear hb1
  try clear mo
  have mo := fun i => bo.cell i
  go_wp2_with fail
  refine (A5.out _).mono ?_
  rintro e w6 ⟨rfl, hb1⟩
  replace bo := bo.below hb1 bo.lt
  replace B0 := B0.trans (hb1.mono B0.size)
  clear hb1
  try clear mo
  have mo := fun i => bo.cell i
  go_wp2_with fail
  go_ret
  exact ⟨rfl, B0⟩

set_option maxHeartbeats 1000000 in
theorem tells_wrong (s t f l p a : Int) (w : World) (hT : Tab w) (hc : cfgOk s t f l p = false) :
    Calls Tryd.prog 7 #[.agg #[.int .i64 s, .int .i64 t, .int .i64 f, .int .i64 l, .int .i64 p], .int .i64 a] w fun e w' => e = .returned (.bool true) ∧ Below w.heap.size w w' := by
  have NW := hide (fun w2 (hb : Below w.heap.size w w2) => new_no s t f l p w2 (hT.below hb) hc)
  have S1 := hide size_zero
  have S2 := hide (fun w => rsize_any s t f l p w)
  rw [show rSize s t f l p = 0 by unfold rSize; rw [hc]; rfl] at S2
  have W1 := hide (fun w => wrong_any s t f l p w)
  have hw : 0 ≤ wrg s t f l p := by
    have := wrg_ok (s := s) (t := t) (f := f) (l := l) (p := p)
    rw [hc] at this
    have : ¬ wrg s t f l p < 0 := by simpa using this.symm
    omega
  have C1 := hide (fun w => lconfig_any 0 0 0 0 0 w)
  have T1 := hide (fun w => what_zero a w)
  have A1 := hide (fun w => at_zero 1 0 0 w)
  have Aw := hide (fun w2 (hb : Below w.heap.size w w2) => awake08 w2 (hT.below hb))
  clear hc
  generalize wrg s t f l p = r at *
  go_enter Tryd.func7, Tryd.ntmps7
  go_wp2_with fail
  have bx := Blk.new w 23 #[.int .i64 s, .int .i64 t, .int .i64 f, .int .i64 l, .int .i64 p]
  have B0 := (Below.refl w.heap.size w).alloc (Nat.le_refl _) (.cells #[.int .i64 s, .int .i64 t, .int .i64 f, .int .i64 l, .int .i64 p] 23)
  refine (NW.out _ B0).mono ?_
  rintro e w1 ⟨rfl, hb1⟩
  replace bx := bx.below hb1 bx.lt
  replace B0 := B0.trans (hb1.mono B0.size)
  clear hb1
  have lx1 : w.heap.size < w1.heap.size := bx.lt
  have mx := fun i => bx.cell i
  go_wp2_with fail
  have bo := Blk.new w1 27 #[.int .i64 0, .int .i64 0, .int .i64 0, .int .i64 0, .int .i64 0]
  replace bx := bx.alloc (.cells #[.int .i64 0, .int .i64 0, .int .i64 0, .int .i64 0, .int .i64 0] 27)
  replace B0 := B0.alloc B0.size (.cells #[.int .i64 0, .int .i64 0, .int .i64 0, .int .i64 0, .int .i64 0] 27)
  clear mx
  have mx := fun i => bx.cell i
  have mo := fun i => bo.cell i
  have lx := bx.lt
  have lo := bo.lt
  generalize w1.alloc (.cells #[.int .i64 0, .int .i64 0, .int .i64 0, .int .i64 0, .int .i64 0] 27) = w2 at *
  refine wp_region_past (by kernel_rfl) (by kernel_rfl) ?_
  repeat (quiet_step ((first | ((first | (go_at_call 33; exact calls_past (S1.out _)) | (go_at_call 23; exact calls_past (S2.out _)))))))
  refine wpQuiet_nil ?_
  intro _ hw'
  obtain ⟨y, hw''⟩ := hw'
  subst hw''
  have hy := past_below w2 y
  try replace bx := bx.below hy bx.lt
  try replace bo := bo.below hy bo.lt
  try replace by_ := by_.below hy by_.lt
  replace B0 := B0.trans (hy.mono B0.size)
  clear hy
  try clear mx lx
  try clear mo lo zo
  try clear my ly zy
  generalize past w2 y = w3 at *
  try clear mx lx
  try clear mo lo zo
  try clear my ly zy
  try have mx := fun i => bx.cell i
  try have lx := bx.lt
  try have mo := fun i => bo.cell i
  try have lo := bo.lt
  try have zo := fun i => bo.frozen i
  try have my := fun i => by_.cell i
  try have ly := by_.lt
  try have zy := fun i => by_.frozen i
  go_wp2_with fail
  refine (W1.out _).mono ?_
  rintro e w4 ⟨rfl, hb1⟩
  try replace bx := bx.below hb1 bx.lt
  try replace bo := bo.below hb1 bo.lt
  try replace by_ := by_.below hb1 by_.lt
  replace B0 := B0.trans (hb1.mono B0.size)
  clear hb1
  try clear mx lx
  try clear mo lo zo
  try clear my ly zy
  try have mx := fun i => bx.cell i
  try have lx := bx.lt
  try have mo := fun i => bo.cell i
  try have lo := bo.lt
  try have zo := fun i => bo.frozen i
  try have my := fun i => by_.cell i
  try have ly := by_.lt
  try have zy := fun i => by_.frozen i
  go_wp2_with fail
  refine (C1.out _).mono ?_
  rintro e w5 ⟨rfl, hb1⟩
  try replace bx := bx.below hb1 bx.lt
  try replace bo := bo.below hb1 bo.lt
  try replace by_ := by_.below hb1 by_.lt
  replace B0 := B0.trans (hb1.mono B0.size)
  clear hb1
  try clear mx lx
  try clear mo lo zo
  try clear my ly zy
  try have mx := fun i => bx.cell i
  try have lx := bx.lt
  try have mo := fun i => bo.cell i
  try have lo := bo.lt
  try have zo := fun i => bo.frozen i
  try have my := fun i => by_.cell i
  try have ly := by_.lt
  try have zy := fun i => by_.frozen i
  go_wp2_with fail
  refine (T1.out _).mono ?_
  rintro e w6 ⟨rfl, hb1⟩
  try replace bx := bx.below hb1 bx.lt
  try replace bo := bo.below hb1 bo.lt
  try replace by_ := by_.below hb1 by_.lt
  replace B0 := B0.trans (hb1.mono B0.size)
  clear hb1
  try clear mx lx
  try clear mo lo zo
  try clear my ly zy
  try have mx := fun i => bx.cell i
  try have lx := bx.lt
  try have mo := fun i => bo.cell i
  try have lo := bo.lt
  try have zo := fun i => bo.frozen i
  try have my := fun i => by_.cell i
  try have ly := by_.lt
  try have zy := fun i => by_.frozen i
  go_wp2_with fail
  refine (A1.out _).mono ?_
  rintro e w7 ⟨rfl, hb1⟩
  try replace bx := bx.below hb1 bx.lt
  try replace bo := bo.below hb1 bo.lt
  try replace by_ := by_.below hb1 by_.lt
  replace B0 := B0.trans (hb1.mono B0.size)
  clear hb1
  try clear mx lx
  try clear mo lo zo
  try clear my ly zy
  try have mx := fun i => bx.cell i
  try have lx := bx.lt
  try have mo := fun i => bo.cell i
  try have lo := bo.lt
  try have zo := fun i => bo.frozen i
  try have my := fun i => by_.cell i
  try have ly := by_.lt
  try have zy := fun i => by_.frozen i
  go_wp2_with fail
  refine (Aw.out _ B0).mono ?_
  rintro e w8 ⟨rfl, hb1⟩
  try replace bx := bx.below hb1 bx.lt
  try replace bo := bo.below hb1 bo.lt
  try replace by_ := by_.below hb1 by_.lt
  replace B0 := B0.trans (hb1.mono B0.size)
  clear hb1
  try clear mx lx
  try clear mo lo zo
  try clear my ly zy
  try have mx := fun i => bx.cell i
  try have lx := bx.lt
  try have mo := fun i => bo.cell i
  try have lo := bo.lt
  try have zo := fun i => bo.frozen i
  try have my := fun i => by_.cell i
  try have ly := by_.lt
  try have zy := fun i => by_.frozen i
  go_wp2_with fail
  go_ret
  exact ⟨rfl, B0⟩
set_option maxHeartbeats 2000000 in
theorem tells_out (s t f l p a : Int) (w : World) (hT : Tab w) (hc : cfgOk s t f l p = true) (hin : a < 0 ∨ laySize s t f ≤ a) :
    Calls Tryd.prog 7 #[.agg #[.int .i64 s, .int .i64 t, .int .i64 f, .int .i64 l, .int .i64 p], .int .i64 a] w fun e w' => e = .returned (.bool true) ∧ Below w.heap.size w w' := by
  have hb := cfgOk_iff.1 hc
  have hs : 1 ≤ s ∧ s ≤ 1000 := by omega
  have ht : 1 ≤ t ∧ t ≤ 64 := by omega
  have hf : 4 ≤ f ∧ f ≤ 64 := by omega
  clear hb
  have NW := hide (fun w2 (hb : Below w.heap.size w w2) => new_yes s t f l p w2 (hT.below hb) hc)
  have S1 := hide (fun w => size_any s t f l p w hs ht hf)
  have S2 := hide (fun w => rsize_any s t f l p w)
  rw [show rSize s t f l p = laySize s t f by unfold rSize; rw [hc]; rfl] at S2
  have W1 := hide (fun w => wrong_any s t f l p w)
  have hw : wrg s t f l p < 0 := by
    have := wrg_ok (s := s) (t := t) (f := f) (l := l) (p := p)
    rw [hc] at this
    simpa using this.symm
  have C1 := hide (fun w => lconfig_any s t f l p w)
  have T1 := hide (fun w => what_any s t f l p a w hs ht hf)
  have P1 := hide (fun w => rplace_any s t f l p a w hc)
  have A1 := hide (fun w => at_any s t f l p (plc s t f a).1 (plc s t f a).2.1 (plc s t f a).2.2 w hs ht hf)
  rw [atp_plc hs ht hf, if_pos hin] at A1
  have Aw := hide (fun w2 (hb : Below w.heap.size w w2) => awake08 w2 (hT.below hb))
  obtain hk : (plc s t f a).1 = 0 := (plc_zero hf.1).2 hin
  clear hc hs ht hf hin
  generalize wrg s t f l p = r at *
  generalize laySize s t f = R at *
  generalize (plc s t f a).1 = k at *
  generalize (plc s t f a).2.1 = o at *
  generalize (plc s t f a).2.2 = i at *
  subst hk
  go_enter Tryd.func7, Tryd.ntmps7
  go_wp2_with fail
  have bx := Blk.new w 23 #[.int .i64 s, .int .i64 t, .int .i64 f, .int .i64 l, .int .i64 p]
  have B0 := (Below.refl w.heap.size w).alloc (Nat.le_refl _) (.cells #[.int .i64 s, .int .i64 t, .int .i64 f, .int .i64 l, .int .i64 p] 23)
  refine (NW.out _ B0).mono ?_
  rintro e w1 ⟨rfl, hb1⟩
  replace bx := bx.below hb1 bx.lt
  replace B0 := B0.trans (hb1.mono B0.size)
  clear hb1
  have lx1 : w.heap.size < w1.heap.size := bx.lt
  have mx := fun i => bx.cell i
  go_wp2_with fail
  have bo := Blk.new w1 27 #[.int .i64 s, .int .i64 t, .int .i64 f, .int .i64 l, .int .i64 p]
  replace bx := bx.alloc (.cells #[.int .i64 s, .int .i64 t, .int .i64 f, .int .i64 l, .int .i64 p] 27)
  replace B0 := B0.alloc B0.size (.cells #[.int .i64 s, .int .i64 t, .int .i64 f, .int .i64 l, .int .i64 p] 27)
  clear mx
  have mx := fun i => bx.cell i
  have mo := fun i => bo.cell i
  have lx := bx.lt
  have lo := bo.lt
  generalize w1.alloc (.cells #[.int .i64 s, .int .i64 t, .int .i64 f, .int .i64 l, .int .i64 p] 27) = w2 at *
  refine wp_region_past (by kernel_rfl) (by kernel_rfl) ?_
  repeat (quiet_step ((first | ((first | (go_at_call 33; exact calls_past (S1.out _)) | (go_at_call 23; exact calls_past (S2.out _)))))))
  refine wpQuiet_nil ?_
  intro _ hw'
  obtain ⟨y, hw''⟩ := hw'
  subst hw''
  have hy := past_below w2 y
  try replace bx := bx.below hy bx.lt
  try replace bo := bo.below hy bo.lt
  try replace by_ := by_.below hy by_.lt
  replace B0 := B0.trans (hy.mono B0.size)
  clear hy
  try clear mx lx
  try clear mo lo zo
  try clear my ly zy
  generalize past w2 y = w3 at *
  try clear mx lx
  try clear mo lo zo
  try clear my ly zy
  try have mx := fun i => bx.cell i
  try have lx := bx.lt
  try have mo := fun i => bo.cell i
  try have lo := bo.lt
  try have zo := fun i => bo.frozen i
  try have my := fun i => by_.cell i
  try have ly := by_.lt
  try have zy := fun i => by_.frozen i
  go_wp2_with fail
  refine (W1.out _).mono ?_
  rintro e w4 ⟨rfl, hb1⟩
  try replace bx := bx.below hb1 bx.lt
  try replace bo := bo.below hb1 bo.lt
  try replace by_ := by_.below hb1 by_.lt
  replace B0 := B0.trans (hb1.mono B0.size)
  clear hb1
  try clear mx lx
  try clear mo lo zo
  try clear my ly zy
  try have mx := fun i => bx.cell i
  try have lx := bx.lt
  try have mo := fun i => bo.cell i
  try have lo := bo.lt
  try have zo := fun i => bo.frozen i
  try have my := fun i => by_.cell i
  try have ly := by_.lt
  try have zy := fun i => by_.frozen i
  go_wp2_with fail
  refine (P1.out _).mono ?_
  rintro e w5 ⟨rfl, hb1⟩
  try replace bx := bx.below hb1 bx.lt
  try replace bo := bo.below hb1 bo.lt
  try replace by_ := by_.below hb1 by_.lt
  replace B0 := B0.trans (hb1.mono B0.size)
  clear hb1
  try clear mx lx
  try clear mo lo zo
  try clear my ly zy
  try have mx := fun i => bx.cell i
  try have lx := bx.lt
  try have mo := fun i => bo.cell i
  try have lo := bo.lt
  try have zo := fun i => bo.frozen i
  try have my := fun i => by_.cell i
  try have ly := by_.lt
  try have zy := fun i => by_.frozen i
  go_wp2_with fail
  refine (T1.out _).mono ?_
  rintro e w6 ⟨rfl, hb1⟩
  try replace bx := bx.below hb1 bx.lt
  try replace bo := bo.below hb1 bo.lt
  try replace by_ := by_.below hb1 by_.lt
  replace B0 := B0.trans (hb1.mono B0.size)
  clear hb1
  try clear mx lx
  try clear mo lo zo
  try clear my ly zy
  try have mx := fun i => bx.cell i
  try have lx := bx.lt
  try have mo := fun i => bo.cell i
  try have lo := bo.lt
  try have zo := fun i => bo.frozen i
  try have my := fun i => by_.cell i
  try have ly := by_.lt
  try have zy := fun i => by_.frozen i
  go_wp2_with fail
  have by_ := Blk.new w6 25 #[.int .i64 0, .int .i64 o, .int .i64 i]
  replace bx := bx.alloc (.cells #[.int .i64 0, .int .i64 o, .int .i64 i] 25)
  replace bo := bo.alloc (.cells #[.int .i64 0, .int .i64 o, .int .i64 i] 25)
  replace B0 := B0.alloc B0.size (.cells #[.int .i64 0, .int .i64 o, .int .i64 i] 25)
  generalize w6.alloc (.cells #[.int .i64 0, .int .i64 o, .int .i64 i] 25) = w7 at *
  try clear mx lx
  try clear mo lo zo
  try clear my ly zy
  try have mx := fun i => bx.cell i
  try have lx := bx.lt
  try have mo := fun i => bo.cell i
  try have lo := bo.lt
  try have zo := fun i => bo.frozen i
  try have my := fun i => by_.cell i
  try have ly := by_.lt
  try have zy := fun i => by_.frozen i
  refine wp_region_past (by kernel_rfl) (by kernel_rfl) ?_
  repeat (quiet_step ((first | ((go_at_call 34; exact calls_past (C1.out _))))))
  refine wpQuiet_nil ?_
  intro _ hw'
  obtain ⟨y, hw''⟩ := hw'
  subst hw''
  have hy := past_below w7 y
  try replace bx := bx.below hy bx.lt
  try replace bo := bo.below hy bo.lt
  try replace by_ := by_.below hy by_.lt
  replace B0 := B0.trans (hy.mono B0.size)
  clear hy
  try clear mx lx
  try clear mo lo zo
  try clear my ly zy
  generalize past w7 y = w8 at *
  try clear mx lx
  try clear mo lo zo
  try clear my ly zy
  try have mx := fun i => bx.cell i
  try have lx := bx.lt
  try have mo := fun i => bo.cell i
  try have lo := bo.lt
  try have zo := fun i => bo.frozen i
  try have my := fun i => by_.cell i
  try have ly := by_.lt
  try have zy := fun i => by_.frozen i
  go_wp2_with fail
  refine (A1.out _).mono ?_
  rintro e w9 ⟨rfl, hb1⟩
  try replace bx := bx.below hb1 bx.lt
  try replace bo := bo.below hb1 bo.lt
  try replace by_ := by_.below hb1 by_.lt
  replace B0 := B0.trans (hb1.mono B0.size)
  clear hb1
  try clear mx lx
  try clear mo lo zo
  try clear my ly zy
  try have mx := fun i => bx.cell i
  try have lx := bx.lt
  try have mo := fun i => bo.cell i
  try have lo := bo.lt
  try have zo := fun i => bo.frozen i
  try have my := fun i => by_.cell i
  try have ly := by_.lt
  try have zy := fun i => by_.frozen i
  go_wp2_with fail
  refine (Aw.out _ B0).mono ?_
  rintro e w10 ⟨rfl, hb1⟩
  try replace bx := bx.below hb1 bx.lt
  try replace bo := bo.below hb1 bo.lt
  try replace by_ := by_.below hb1 by_.lt
  replace B0 := B0.trans (hb1.mono B0.size)
  clear hb1
  try clear mx lx
  try clear mo lo zo
  try clear my ly zy
  try have mx := fun i => bx.cell i
  try have lx := bx.lt
  try have mo := fun i => bo.cell i
  try have lo := bo.lt
  try have zo := fun i => bo.frozen i
  try have my := fun i => by_.cell i
  try have ly := by_.lt
  try have zy := fun i => by_.frozen i
  go_wp2_with fail
  go_ret
  exact ⟨rfl, B0⟩
set_option maxHeartbeats 2000000 in
theorem tells_in (s t f l p a : Int) (w : World) (hT : Tab w) (hc : cfgOk s t f l p = true) (hin : ¬ (a < 0 ∨ laySize s t f ≤ a)) :
    Calls Tryd.prog 7 #[.agg #[.int .i64 s, .int .i64 t, .int .i64 f, .int .i64 l, .int .i64 p], .int .i64 a] w fun e w' => e = .returned (.bool true) ∧ Below w.heap.size w w' := by
  have hb := cfgOk_iff.1 hc
  have hs : 1 ≤ s ∧ s ≤ 1000 := by omega
  have ht : 1 ≤ t ∧ t ≤ 64 := by omega
  have hf : 4 ≤ f ∧ f ≤ 64 := by omega
  clear hb
  have NW := hide (fun w2 (hb : Below w.heap.size w w2) => new_yes s t f l p w2 (hT.below hb) hc)
  have S1 := hide (fun w => size_any s t f l p w hs ht hf)
  have S2 := hide (fun w => rsize_any s t f l p w)
  rw [show rSize s t f l p = laySize s t f by unfold rSize; rw [hc]; rfl] at S2
  have W1 := hide (fun w => wrong_any s t f l p w)
  have hw : wrg s t f l p < 0 := by
    have := wrg_ok (s := s) (t := t) (f := f) (l := l) (p := p)
    rw [hc] at this
    simpa using this.symm
  have C1 := hide (fun w => lconfig_any s t f l p w)
  have T1 := hide (fun w => what_any s t f l p a w hs ht hf)
  have P1 := hide (fun w => rplace_any s t f l p a w hc)
  have A1 := hide (fun w => at_any s t f l p (plc s t f a).1 (plc s t f a).2.1 (plc s t f a).2.2 w hs ht hf)
  rw [atp_plc hs ht hf, if_neg hin] at A1
  have Aw := hide (fun w2 (hb : Below w.heap.size w w2) => awake08 w2 (hT.below hb))
  have hk : ((plc s t f a).1 == 0) = false := by simpa using fun h => hin ((plc_zero hf.1).1 h)
  clear hc hs ht hf hin
  generalize wrg s t f l p = r at *
  generalize laySize s t f = R at *
  generalize (plc s t f a).1 = k at *
  generalize (plc s t f a).2.1 = o at *
  generalize (plc s t f a).2.2 = i at *
  skip
  go_enter Tryd.func7, Tryd.ntmps7
  go_wp2_with fail
  have bx := Blk.new w 23 #[.int .i64 s, .int .i64 t, .int .i64 f, .int .i64 l, .int .i64 p]
  have B0 := (Below.refl w.heap.size w).alloc (Nat.le_refl _) (.cells #[.int .i64 s, .int .i64 t, .int .i64 f, .int .i64 l, .int .i64 p] 23)
  refine (NW.out _ B0).mono ?_
  rintro e w1 ⟨rfl, hb1⟩
  replace bx := bx.below hb1 bx.lt
  replace B0 := B0.trans (hb1.mono B0.size)
  clear hb1
  have lx1 : w.heap.size < w1.heap.size := bx.lt
  have mx := fun i => bx.cell i
  go_wp2_with fail
  have bo := Blk.new w1 27 #[.int .i64 s, .int .i64 t, .int .i64 f, .int .i64 l, .int .i64 p]
  replace bx := bx.alloc (.cells #[.int .i64 s, .int .i64 t, .int .i64 f, .int .i64 l, .int .i64 p] 27)
  replace B0 := B0.alloc B0.size (.cells #[.int .i64 s, .int .i64 t, .int .i64 f, .int .i64 l, .int .i64 p] 27)
  clear mx
  have mx := fun i => bx.cell i
  have mo := fun i => bo.cell i
  have lx := bx.lt
  have lo := bo.lt
  generalize w1.alloc (.cells #[.int .i64 s, .int .i64 t, .int .i64 f, .int .i64 l, .int .i64 p] 27) = w2 at *
  refine wp_region_past (by kernel_rfl) (by kernel_rfl) ?_
  repeat (quiet_step ((first | ((first | (go_at_call 33; exact calls_past (S1.out _)) | (go_at_call 23; exact calls_past (S2.out _)))))))
  refine wpQuiet_nil ?_
  intro _ hw'
  obtain ⟨y, hw''⟩ := hw'
  subst hw''
  have hy := past_below w2 y
  try replace bx := bx.below hy bx.lt
  try replace bo := bo.below hy bo.lt
  try replace by_ := by_.below hy by_.lt
  replace B0 := B0.trans (hy.mono B0.size)
  clear hy
  try clear mx lx
  try clear mo lo zo
  try clear my ly zy
  generalize past w2 y = w3 at *
  try clear mx lx
  try clear mo lo zo
  try clear my ly zy
  try have mx := fun i => bx.cell i
  try have lx := bx.lt
  try have mo := fun i => bo.cell i
  try have lo := bo.lt
  try have zo := fun i => bo.frozen i
  try have my := fun i => by_.cell i
  try have ly := by_.lt
  try have zy := fun i => by_.frozen i
  go_wp2_with fail
  refine (W1.out _).mono ?_
  rintro e w4 ⟨rfl, hb1⟩
  try replace bx := bx.below hb1 bx.lt
  try replace bo := bo.below hb1 bo.lt
  try replace by_ := by_.below hb1 by_.lt
  replace B0 := B0.trans (hb1.mono B0.size)
  clear hb1
  try clear mx lx
  try clear mo lo zo
  try clear my ly zy
  try have mx := fun i => bx.cell i
  try have lx := bx.lt
  try have mo := fun i => bo.cell i
  try have lo := bo.lt
  try have zo := fun i => bo.frozen i
  try have my := fun i => by_.cell i
  try have ly := by_.lt
  try have zy := fun i => by_.frozen i
  go_wp2_with fail
  refine (P1.out _).mono ?_
  rintro e w5 ⟨rfl, hb1⟩
  try replace bx := bx.below hb1 bx.lt
  try replace bo := bo.below hb1 bo.lt
  try replace by_ := by_.below hb1 by_.lt
  replace B0 := B0.trans (hb1.mono B0.size)
  clear hb1
  try clear mx lx
  try clear mo lo zo
  try clear my ly zy
  try have mx := fun i => bx.cell i
  try have lx := bx.lt
  try have mo := fun i => bo.cell i
  try have lo := bo.lt
  try have zo := fun i => bo.frozen i
  try have my := fun i => by_.cell i
  try have ly := by_.lt
  try have zy := fun i => by_.frozen i
  go_wp2_with fail
  refine (T1.out _).mono ?_
  rintro e w6 ⟨rfl, hb1⟩
  try replace bx := bx.below hb1 bx.lt
  try replace bo := bo.below hb1 bo.lt
  try replace by_ := by_.below hb1 by_.lt
  replace B0 := B0.trans (hb1.mono B0.size)
  clear hb1
  try clear mx lx
  try clear mo lo zo
  try clear my ly zy
  try have mx := fun i => bx.cell i
  try have lx := bx.lt
  try have mo := fun i => bo.cell i
  try have lo := bo.lt
  try have zo := fun i => bo.frozen i
  try have my := fun i => by_.cell i
  try have ly := by_.lt
  try have zy := fun i => by_.frozen i
  go_wp2_with fail
  have by_ := Blk.new w6 25 #[.int .i64 k, .int .i64 o, .int .i64 i]
  replace bx := bx.alloc (.cells #[.int .i64 k, .int .i64 o, .int .i64 i] 25)
  replace bo := bo.alloc (.cells #[.int .i64 k, .int .i64 o, .int .i64 i] 25)
  replace B0 := B0.alloc B0.size (.cells #[.int .i64 k, .int .i64 o, .int .i64 i] 25)
  generalize w6.alloc (.cells #[.int .i64 k, .int .i64 o, .int .i64 i] 25) = w7 at *
  try clear mx lx
  try clear mo lo zo
  try clear my ly zy
  try have mx := fun i => bx.cell i
  try have lx := bx.lt
  try have mo := fun i => bo.cell i
  try have lo := bo.lt
  try have zo := fun i => bo.frozen i
  try have my := fun i => by_.cell i
  try have ly := by_.lt
  try have zy := fun i => by_.frozen i
  refine wp_region_past (by kernel_rfl) (by kernel_rfl) ?_
  repeat (quiet_step ((first | ((go_at_call 34; exact calls_past (C1.out _))))))
  refine wpQuiet_nil ?_
  intro _ hw'
  obtain ⟨y, hw''⟩ := hw'
  subst hw''
  have hy := past_below w7 y
  try replace bx := bx.below hy bx.lt
  try replace bo := bo.below hy bo.lt
  try replace by_ := by_.below hy by_.lt
  replace B0 := B0.trans (hy.mono B0.size)
  clear hy
  try clear mx lx
  try clear mo lo zo
  try clear my ly zy
  generalize past w7 y = w8 at *
  try clear mx lx
  try clear mo lo zo
  try clear my ly zy
  try have mx := fun i => bx.cell i
  try have lx := bx.lt
  try have mo := fun i => bo.cell i
  try have lo := bo.lt
  try have zo := fun i => bo.frozen i
  try have my := fun i => by_.cell i
  try have ly := by_.lt
  try have zy := fun i => by_.frozen i
  go_wp2_with fail
  refine (A1.out _).mono ?_
  rintro e w9 ⟨rfl, hb1⟩
  try replace bx := bx.below hb1 bx.lt
  try replace bo := bo.below hb1 bo.lt
  try replace by_ := by_.below hb1 by_.lt
  replace B0 := B0.trans (hb1.mono B0.size)
  clear hb1
  try clear mx lx
  try clear mo lo zo
  try clear my ly zy
  try have mx := fun i => bx.cell i
  try have lx := bx.lt
  try have mo := fun i => bo.cell i
  try have lo := bo.lt
  try have zo := fun i => bo.frozen i
  try have my := fun i => by_.cell i
  try have ly := by_.lt
  try have zy := fun i => by_.frozen i
  go_wp2_with fail
  refine (Aw.out _ B0).mono ?_
  rintro e w10 ⟨rfl, hb1⟩
  try replace bx := bx.below hb1 bx.lt
  try replace bo := bo.below hb1 bo.lt
  try replace by_ := by_.below hb1 by_.lt
  replace B0 := B0.trans (hb1.mono B0.size)
  clear hb1
  try clear mx lx
  try clear mo lo zo
  try clear my ly zy
  try have mx := fun i => bx.cell i
  try have lx := bx.lt
  try have mo := fun i => bo.cell i
  try have lo := bo.lt
  try have zo := fun i => bo.frozen i
  try have my := fun i => by_.cell i
  try have ly := by_.lt
  try have zy := fun i => by_.frozen i
  go_wp2_with fail
  go_ret
  exact ⟨rfl, B0⟩
theorem LayoutTells_calls (s t f l p a : Int) (w : World) (hT : Tab w) :
    Calls Tryd.prog 7 #[.agg #[.int .i64 s, .int .i64 t, .int .i64 f, .int .i64 l, .int .i64 p], .int .i64 a] w fun e w' => e = .returned (.bool true) ∧ Below w.heap.size w w' := by
  by_cases hc : cfgOk s t f l p = true
  · by_cases h : a < 0 ∨ laySize s t f ≤ a
    · exact tells_out s t f l p a w hT hc h
    · exact tells_in s t f l p a w hT hc h
  · exact tells_wrong s t f l p a w hT (by simpa using hc)
end Go.Proofs.YtpkocgcagemnbaaDoor
