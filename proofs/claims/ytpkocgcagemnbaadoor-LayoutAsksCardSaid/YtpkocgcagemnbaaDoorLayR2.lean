/-
  The Go function LayoutAsks.
-/
import Derived.Test.YtpkocgcagemnbaaDoorLayR
namespace Go.Proofs.YtpkocgcagemnbaaDoor
open Go.RowKit
attribute [local go_sem] past_cell past_cell_add

set_option maxRecDepth 100000 in
set_option maxHeartbeats 4000000 in
theorem asks_6a (s t f l p o i : Int) (w : World) (hT : Tab w) (hc : cfgOk s t f l p = true) (h : atp s t f 6 o i < 0) (q1 : o < 0) :
    Calls Tryd.prog 3 #[.agg #[.int .i64 s, .int .i64 t, .int .i64 f, .int .i64 l, .int .i64 p], .agg #[.int .i64 6, .int .i64 o, .int .i64 i]] w fun e w' => e = .returned (.bool true) ∧ Below w.heap.size w w' := by
  have hb := cfgOk_iff.1 hc
  have hs : 1 ≤ s ∧ s ≤ 1000 := by omega
  have ht : 1 ≤ t ∧ t ≤ 64 := by omega
  have hf : 4 ≤ f ∧ f ≤ 64 := by omega
  clear hb
  have NW := hide (fun w2 (hb : Below w.heap.size w w2) => new_yes s t f l p w2 (hT.below hb) hc)
  have Aw := hide (fun w2 (hb : Below w.heap.size w w2) => awake08 w2 (hT.below hb))
  have AT := hide (fun w => at_any s t f l p 6 o i w hs ht hf)
  rw [atp_ge ht hf h] at AT
  have W1 := hide (fun w => wrong_any s t f l p w)
  have hw : wrg s t f l p < 0 := by
    have := wrg_ok (s := s) (t := t) (f := f) (l := l) (p := p)
    rw [hc] at this
    simpa using this.symm
  clear hc hs ht hf h
  generalize wrg s t f l p = r at *
  go_enter Tryd.func3, Tryd.ntmps3
  go_wp2_with fail
  have bx := Blk.new w 23 #[.int .i64 s, .int .i64 t, .int .i64 f, .int .i64 l, .int .i64 p]
  have B0 := (Below.refl w.heap.size w).alloc (Nat.le_refl _) (.cells #[.int .i64 s, .int .i64 t, .int .i64 f, .int .i64 l, .int .i64 p] 23)
  have by_ := Blk.new (w.alloc (.cells #[.int .i64 s, .int .i64 t, .int .i64 f, .int .i64 l, .int .i64 p] 23)) 25 #[.int .i64 6, .int .i64 o, .int .i64 i]
  replace bx := bx.alloc (.cells #[.int .i64 6, .int .i64 o, .int .i64 i] 25)
  replace B0 := B0.alloc B0.size (.cells #[.int .i64 6, .int .i64 o, .int .i64 i] 25)
  rw [World.size_alloc] at by_
  refine (NW.out _ B0).mono ?_
  rintro e w1 ⟨rfl, hb1⟩
  replace bx := bx.below hb1 bx.lt
  replace by_ := by_.below hb1 by_.lt
  replace B0 := B0.trans (hb1.mono B0.size)
  clear hb1
  have lx1 : w.heap.size < w1.heap.size := bx.lt
  have ly1 : w.heap.size + 1 < w1.heap.size := by_.lt
  have mx := fun i => bx.cell i
  have my := fun i => by_.cell i
  go_wp2_with fail
  have bo := Blk.new w1 27 #[.int .i64 s, .int .i64 t, .int .i64 f, .int .i64 l, .int .i64 p]
  replace bx := bx.alloc (.cells #[.int .i64 s, .int .i64 t, .int .i64 f, .int .i64 l, .int .i64 p] 27)
  replace by_ := by_.alloc (.cells #[.int .i64 s, .int .i64 t, .int .i64 f, .int .i64 l, .int .i64 p] 27)
  replace B0 := B0.alloc B0.size (.cells #[.int .i64 s, .int .i64 t, .int .i64 f, .int .i64 l, .int .i64 p] 27)
  clear mx my
  generalize w1.alloc (.cells #[.int .i64 s, .int .i64 t, .int .i64 f, .int .i64 l, .int .i64 p] 27) = w2 at *
  try clear mx lx
  try clear mo lo zo
  try clear my ly zy
  try have mx := fun i => bx.cell i
  try have lx := bx.lt
  try have mo := fun i => bo.cell i
  try have lo := bo.lt
  try have zo := fun i => bo.frozen i
  try have my := fun i => by_.cell i
  try have ly := by_.lt
  try have zy := fun i => by_.frozen i
  refine (AT.out _).mono ?_
  rintro e w3 ⟨rfl, hb1⟩
  try replace bx := bx.below hb1 bx.lt
  try replace bo := bo.below hb1 bo.lt
  try replace by_ := by_.below hb1 by_.lt
  replace B0 := B0.trans (hb1.mono B0.size)
  clear hb1
  try clear mx lx
  try clear mo lo zo
  try clear my ly zy
  try have mx := fun i => bx.cell i
  try have lx := bx.lt
  try have mo := fun i => bo.cell i
  try have lo := bo.lt
  try have zo := fun i => bo.frozen i
  try have my := fun i => by_.cell i
  try have ly := by_.lt
  try have zy := fun i => by_.frozen i
  go_wp2_with fail
  refine (W1.out _).mono ?_
  rintro e w4 ⟨rfl, hb1⟩
  try replace bx := bx.below hb1 bx.lt
  try replace bo := bo.below hb1 bo.lt
  try replace by_ := by_.below hb1 by_.lt
  replace B0 := B0.trans (hb1.mono B0.size)
  clear hb1
  try clear mx lx
  try clear mo lo zo
  try clear my ly zy
  try have mx := fun i => bx.cell i
  try have lx := bx.lt
  try have mo := fun i => bo.cell i
  try have lo := bo.lt
  try have zo := fun i => bo.frozen i
  try have my := fun i => by_.cell i
  try have ly := by_.lt
  try have zy := fun i => by_.frozen i
  go_wp2_with fail
  refine (Aw.out _ B0).mono ?_
  rintro e w5 ⟨rfl, hb1⟩
  try replace bx := bx.below hb1 bx.lt
  try replace bo := bo.below hb1 bo.lt
  try replace by_ := by_.below hb1 by_.lt
  replace B0 := B0.trans (hb1.mono B0.size)
  clear hb1
  try clear mx lx
  try clear mo lo zo
  try clear my ly zy
  try have mx := fun i => bx.cell i
  try have lx := bx.lt
  try have mo := fun i => bo.cell i
  try have lo := bo.lt
  try have zo := fun i => bo.frozen i
  try have my := fun i => by_.cell i
  try have ly := by_.lt
  try have zy := fun i => by_.frozen i
  go_wp2_with fail
  go_ret
  exact ⟨rfl, B0⟩
set_option maxRecDepth 100000 in
set_option maxHeartbeats 4000000 in
theorem asks_6b (s t f l p o i : Int) (w : World) (hT : Tab w) (hc : cfgOk s t f l p = true) (h : atp s t f 6 o i < 0) (q0 : 0 ≤ o) (q1 : s < o) :
    Calls Tryd.prog 3 #[.agg #[.int .i64 s, .int .i64 t, .int .i64 f, .int .i64 l, .int .i64 p], .agg #[.int .i64 6, .int .i64 o, .int .i64 i]] w fun e w' => e = .returned (.bool true) ∧ Below w.heap.size w w' := by
  have hb := cfgOk_iff.1 hc
  have hs : 1 ≤ s ∧ s ≤ 1000 := by omega
  have ht : 1 ≤ t ∧ t ≤ 64 := by omega
  have hf : 4 ≤ f ∧ f ≤ 64 := by omega
  clear hb
  have NW := hide (fun w2 (hb : Below w.heap.size w w2) => new_yes s t f l p w2 (hT.below hb) hc)
  have Aw := hide (fun w2 (hb : Below w.heap.size w w2) => awake08 w2 (hT.below hb))
  have AT := hide (fun w => at_any s t f l p 6 o i w hs ht hf)
  rw [atp_ge ht hf h] at AT
  have W1 := hide (fun w => wrong_any s t f l p w)
  have hw : wrg s t f l p < 0 := by
    have := wrg_ok (s := s) (t := t) (f := f) (l := l) (p := p)
    rw [hc] at this
    simpa using this.symm
  clear hc hs ht hf h
  generalize wrg s t f l p = r at *
  go_enter Tryd.func3, Tryd.ntmps3
  go_wp2_with fail
  have bx := Blk.new w 23 #[.int .i64 s, .int .i64 t, .int .i64 f, .int .i64 l, .int .i64 p]
  have B0 := (Below.refl w.heap.size w).alloc (Nat.le_refl _) (.cells #[.int .i64 s, .int .i64 t, .int .i64 f, .int .i64 l, .int .i64 p] 23)
  have by_ := Blk.new (w.alloc (.cells #[.int .i64 s, .int .i64 t, .int .i64 f, .int .i64 l, .int .i64 p] 23)) 25 #[.int .i64 6, .int .i64 o, .int .i64 i]
  replace bx := bx.alloc (.cells #[.int .i64 6, .int .i64 o, .int .i64 i] 25)
  replace B0 := B0.alloc B0.size (.cells #[.int .i64 6, .int .i64 o, .int .i64 i] 25)
  rw [World.size_alloc] at by_
  refine (NW.out _ B0).mono ?_
  rintro e w1 ⟨rfl, hb1⟩
  replace bx := bx.below hb1 bx.lt
  replace by_ := by_.below hb1 by_.lt
  replace B0 := B0.trans (hb1.mono B0.size)
  clear hb1
  have lx1 : w.heap.size < w1.heap.size := bx.lt
  have ly1 : w.heap.size + 1 < w1.heap.size := by_.lt
  have mx := fun i => bx.cell i
  have my := fun i => by_.cell i
  go_wp2_with fail
  have bo := Blk.new w1 27 #[.int .i64 s, .int .i64 t, .int .i64 f, .int .i64 l, .int .i64 p]
  replace bx := bx.alloc (.cells #[.int .i64 s, .int .i64 t, .int .i64 f, .int .i64 l, .int .i64 p] 27)
  replace by_ := by_.alloc (.cells #[.int .i64 s, .int .i64 t, .int .i64 f, .int .i64 l, .int .i64 p] 27)
  replace B0 := B0.alloc B0.size (.cells #[.int .i64 s, .int .i64 t, .int .i64 f, .int .i64 l, .int .i64 p] 27)
  clear mx my
  generalize w1.alloc (.cells #[.int .i64 s, .int .i64 t, .int .i64 f, .int .i64 l, .int .i64 p] 27) = w2 at *
  try clear mx lx
  try clear mo lo zo
  try clear my ly zy
  try have mx := fun i => bx.cell i
  try have lx := bx.lt
  try have mo := fun i => bo.cell i
  try have lo := bo.lt
  try have zo := fun i => bo.frozen i
  try have my := fun i => by_.cell i
  try have ly := by_.lt
  try have zy := fun i => by_.frozen i
  refine (AT.out _).mono ?_
  rintro e w3 ⟨rfl, hb1⟩
  try replace bx := bx.below hb1 bx.lt
  try replace bo := bo.below hb1 bo.lt
  try replace by_ := by_.below hb1 by_.lt
  replace B0 := B0.trans (hb1.mono B0.size)
  clear hb1
  try clear mx lx
  try clear mo lo zo
  try clear my ly zy
  try have mx := fun i => bx.cell i
  try have lx := bx.lt
  try have mo := fun i => bo.cell i
  try have lo := bo.lt
  try have zo := fun i => bo.frozen i
  try have my := fun i => by_.cell i
  try have ly := by_.lt
  try have zy := fun i => by_.frozen i
  go_wp2_with fail
  refine (W1.out _).mono ?_
  rintro e w4 ⟨rfl, hb1⟩
  try replace bx := bx.below hb1 bx.lt
  try replace bo := bo.below hb1 bo.lt
  try replace by_ := by_.below hb1 by_.lt
  replace B0 := B0.trans (hb1.mono B0.size)
  clear hb1
  try clear mx lx
  try clear mo lo zo
  try clear my ly zy
  try have mx := fun i => bx.cell i
  try have lx := bx.lt
  try have mo := fun i => bo.cell i
  try have lo := bo.lt
  try have zo := fun i => bo.frozen i
  try have my := fun i => by_.cell i
  try have ly := by_.lt
  try have zy := fun i => by_.frozen i
  go_wp2_with fail
  refine (Aw.out _ B0).mono ?_
  rintro e w5 ⟨rfl, hb1⟩
  try replace bx := bx.below hb1 bx.lt
  try replace bo := bo.below hb1 bo.lt
  try replace by_ := by_.below hb1 by_.lt
  replace B0 := B0.trans (hb1.mono B0.size)
  clear hb1
  try clear mx lx
  try clear mo lo zo
  try clear my ly zy
  try have mx := fun i => bx.cell i
  try have lx := bx.lt
  try have mo := fun i => bo.cell i
  try have lo := bo.lt
  try have zo := fun i => bo.frozen i
  try have my := fun i => by_.cell i
  try have ly := by_.lt
  try have zy := fun i => by_.frozen i
  go_wp2_with fail
  go_ret
  exact ⟨rfl, B0⟩
set_option maxRecDepth 100000 in
set_option maxHeartbeats 4000000 in
theorem asks_7a (s t f l p o i : Int) (w : World) (hT : Tab w) (hc : cfgOk s t f l p = true) (h : atp s t f 7 o i < 0) (q1 : o < 0) :
    Calls Tryd.prog 3 #[.agg #[.int .i64 s, .int .i64 t, .int .i64 f, .int .i64 l, .int .i64 p], .agg #[.int .i64 7, .int .i64 o, .int .i64 i]] w fun e w' => e = .returned (.bool true) ∧ Below w.heap.size w w' := by
  have hb := cfgOk_iff.1 hc
  have hs : 1 ≤ s ∧ s ≤ 1000 := by omega
  have ht : 1 ≤ t ∧ t ≤ 64 := by omega
  have hf : 4 ≤ f ∧ f ≤ 64 := by omega
  clear hb
  have NW := hide (fun w2 (hb : Below w.heap.size w w2) => new_yes s t f l p w2 (hT.below hb) hc)
  have Aw := hide (fun w2 (hb : Below w.heap.size w w2) => awake08 w2 (hT.below hb))
  have AT := hide (fun w => at_any s t f l p 7 o i w hs ht hf)
  rw [atp_ge ht hf h] at AT
  have W1 := hide (fun w => wrong_any s t f l p w)
  have hw : wrg s t f l p < 0 := by
    have := wrg_ok (s := s) (t := t) (f := f) (l := l) (p := p)
    rw [hc] at this
    simpa using this.symm
  clear hc hs ht hf h
  generalize wrg s t f l p = r at *
  go_enter Tryd.func3, Tryd.ntmps3
  go_wp2_with fail
  have bx := Blk.new w 23 #[.int .i64 s, .int .i64 t, .int .i64 f, .int .i64 l, .int .i64 p]
  have B0 := (Below.refl w.heap.size w).alloc (Nat.le_refl _) (.cells #[.int .i64 s, .int .i64 t, .int .i64 f, .int .i64 l, .int .i64 p] 23)
  have by_ := Blk.new (w.alloc (.cells #[.int .i64 s, .int .i64 t, .int .i64 f, .int .i64 l, .int .i64 p] 23)) 25 #[.int .i64 7, .int .i64 o, .int .i64 i]
  replace bx := bx.alloc (.cells #[.int .i64 7, .int .i64 o, .int .i64 i] 25)
  replace B0 := B0.alloc B0.size (.cells #[.int .i64 7, .int .i64 o, .int .i64 i] 25)
  rw [World.size_alloc] at by_
  refine (NW.out _ B0).mono ?_
  rintro e w1 ⟨rfl, hb1⟩
  replace bx := bx.below hb1 bx.lt
  replace by_ := by_.below hb1 by_.lt
  replace B0 := B0.trans (hb1.mono B0.size)
  clear hb1
  have lx1 : w.heap.size < w1.heap.size := bx.lt
  have ly1 : w.heap.size + 1 < w1.heap.size := by_.lt
  have mx := fun i => bx.cell i
  have my := fun i => by_.cell i
  go_wp2_with fail
  have bo := Blk.new w1 27 #[.int .i64 s, .int .i64 t, .int .i64 f, .int .i64 l, .int .i64 p]
  replace bx := bx.alloc (.cells #[.int .i64 s, .int .i64 t, .int .i64 f, .int .i64 l, .int .i64 p] 27)
  replace by_ := by_.alloc (.cells #[.int .i64 s, .int .i64 t, .int .i64 f, .int .i64 l, .int .i64 p] 27)
  replace B0 := B0.alloc B0.size (.cells #[.int .i64 s, .int .i64 t, .int .i64 f, .int .i64 l, .int .i64 p] 27)
  clear mx my
  generalize w1.alloc (.cells #[.int .i64 s, .int .i64 t, .int .i64 f, .int .i64 l, .int .i64 p] 27) = w2 at *
  try clear mx lx
  try clear mo lo zo
  try clear my ly zy
  try have mx := fun i => bx.cell i
  try have lx := bx.lt
  try have mo := fun i => bo.cell i
  try have lo := bo.lt
  try have zo := fun i => bo.frozen i
  try have my := fun i => by_.cell i
  try have ly := by_.lt
  try have zy := fun i => by_.frozen i
  refine (AT.out _).mono ?_
  rintro e w3 ⟨rfl, hb1⟩
  try replace bx := bx.below hb1 bx.lt
  try replace bo := bo.below hb1 bo.lt
  try replace by_ := by_.below hb1 by_.lt
  replace B0 := B0.trans (hb1.mono B0.size)
  clear hb1
  try clear mx lx
  try clear mo lo zo
  try clear my ly zy
  try have mx := fun i => bx.cell i
  try have lx := bx.lt
  try have mo := fun i => bo.cell i
  try have lo := bo.lt
  try have zo := fun i => bo.frozen i
  try have my := fun i => by_.cell i
  try have ly := by_.lt
  try have zy := fun i => by_.frozen i
  go_wp2_with fail
  refine (W1.out _).mono ?_
  rintro e w4 ⟨rfl, hb1⟩
  try replace bx := bx.below hb1 bx.lt
  try replace bo := bo.below hb1 bo.lt
  try replace by_ := by_.below hb1 by_.lt
  replace B0 := B0.trans (hb1.mono B0.size)
  clear hb1
  try clear mx lx
  try clear mo lo zo
  try clear my ly zy
  try have mx := fun i => bx.cell i
  try have lx := bx.lt
  try have mo := fun i => bo.cell i
  try have lo := bo.lt
  try have zo := fun i => bo.frozen i
  try have my := fun i => by_.cell i
  try have ly := by_.lt
  try have zy := fun i => by_.frozen i
  go_wp2_with fail
  refine (Aw.out _ B0).mono ?_
  rintro e w5 ⟨rfl, hb1⟩
  try replace bx := bx.below hb1 bx.lt
  try replace bo := bo.below hb1 bo.lt
  try replace by_ := by_.below hb1 by_.lt
  replace B0 := B0.trans (hb1.mono B0.size)
  clear hb1
  try clear mx lx
  try clear mo lo zo
  try clear my ly zy
  try have mx := fun i => bx.cell i
  try have lx := bx.lt
  try have mo := fun i => bo.cell i
  try have lo := bo.lt
  try have zo := fun i => bo.frozen i
  try have my := fun i => by_.cell i
  try have ly := by_.lt
  try have zy := fun i => by_.frozen i
  go_wp2_with fail
  go_ret
  exact ⟨rfl, B0⟩
set_option maxRecDepth 100000 in
set_option maxHeartbeats 4000000 in
theorem asks_7b (s t f l p o i : Int) (w : World) (hT : Tab w) (hc : cfgOk s t f l p = true) (h : atp s t f 7 o i < 0) (q0 : 0 ≤ o) (q1 : s < o) :
    Calls Tryd.prog 3 #[.agg #[.int .i64 s, .int .i64 t, .int .i64 f, .int .i64 l, .int .i64 p], .agg #[.int .i64 7, .int .i64 o, .int .i64 i]] w fun e w' => e = .returned (.bool true) ∧ Below w.heap.size w w' := by
  have hb := cfgOk_iff.1 hc
  have hs : 1 ≤ s ∧ s ≤ 1000 := by omega
  have ht : 1 ≤ t ∧ t ≤ 64 := by omega
  have hf : 4 ≤ f ∧ f ≤ 64 := by omega
  clear hb
  have NW := hide (fun w2 (hb : Below w.heap.size w w2) => new_yes s t f l p w2 (hT.below hb) hc)
  have Aw := hide (fun w2 (hb : Below w.heap.size w w2) => awake08 w2 (hT.below hb))
  have AT := hide (fun w => at_any s t f l p 7 o i w hs ht hf)
  rw [atp_ge ht hf h] at AT
  have W1 := hide (fun w => wrong_any s t f l p w)
  have hw : wrg s t f l p < 0 := by
    have := wrg_ok (s := s) (t := t) (f := f) (l := l) (p := p)
    rw [hc] at this
    simpa using this.symm
  clear hc hs ht hf h
  generalize wrg s t f l p = r at *
  go_enter Tryd.func3, Tryd.ntmps3
  go_wp2_with fail
  have bx := Blk.new w 23 #[.int .i64 s, .int .i64 t, .int .i64 f, .int .i64 l, .int .i64 p]
  have B0 := (Below.refl w.heap.size w).alloc (Nat.le_refl _) (.cells #[.int .i64 s, .int .i64 t, .int .i64 f, .int .i64 l, .int .i64 p] 23)
  have by_ := Blk.new (w.alloc (.cells #[.int .i64 s, .int .i64 t, .int .i64 f, .int .i64 l, .int .i64 p] 23)) 25 #[.int .i64 7, .int .i64 o, .int .i64 i]
  replace bx := bx.alloc (.cells #[.int .i64 7, .int .i64 o, .int .i64 i] 25)
  replace B0 := B0.alloc B0.size (.cells #[.int .i64 7, .int .i64 o, .int .i64 i] 25)
  rw [World.size_alloc] at by_
  refine (NW.out _ B0).mono ?_
  rintro e w1 ⟨rfl, hb1⟩
  replace bx := bx.below hb1 bx.lt
  replace by_ := by_.below hb1 by_.lt
  replace B0 := B0.trans (hb1.mono B0.size)
  clear hb1
  have lx1 : w.heap.size < w1.heap.size := bx.lt
  have ly1 : w.heap.size + 1 < w1.heap.size := by_.lt
  have mx := fun i => bx.cell i
  have my := fun i => by_.cell i
  go_wp2_with fail
  have bo := Blk.new w1 27 #[.int .i64 s, .int .i64 t, .int .i64 f, .int .i64 l, .int .i64 p]
  replace bx := bx.alloc (.cells #[.int .i64 s, .int .i64 t, .int .i64 f, .int .i64 l, .int .i64 p] 27)
  replace by_ := by_.alloc (.cells #[.int .i64 s, .int .i64 t, .int .i64 f, .int .i64 l, .int .i64 p] 27)
  replace B0 := B0.alloc B0.size (.cells #[.int .i64 s, .int .i64 t, .int .i64 f, .int .i64 l, .int .i64 p] 27)
  clear mx my
  generalize w1.alloc (.cells #[.int .i64 s, .int .i64 t, .int .i64 f, .int .i64 l, .int .i64 p] 27) = w2 at *
  try clear mx lx
  try clear mo lo zo
  try clear my ly zy
  try have mx := fun i => bx.cell i
  try have lx := bx.lt
  try have mo := fun i => bo.cell i
  try have lo := bo.lt
  try have zo := fun i => bo.frozen i
  try have my := fun i => by_.cell i
  try have ly := by_.lt
  try have zy := fun i => by_.frozen i
  refine (AT.out _).mono ?_
  rintro e w3 ⟨rfl, hb1⟩
  try replace bx := bx.below hb1 bx.lt
  try replace bo := bo.below hb1 bo.lt
  try replace by_ := by_.below hb1 by_.lt
  replace B0 := B0.trans (hb1.mono B0.size)
  clear hb1
  try clear mx lx
  try clear mo lo zo
  try clear my ly zy
  try have mx := fun i => bx.cell i
  try have lx := bx.lt
  try have mo := fun i => bo.cell i
  try have lo := bo.lt
  try have zo := fun i => bo.frozen i
  try have my := fun i => by_.cell i
  try have ly := by_.lt
  try have zy := fun i => by_.frozen i
  go_wp2_with fail
  refine (W1.out _).mono ?_
  rintro e w4 ⟨rfl, hb1⟩
  try replace bx := bx.below hb1 bx.lt
  try replace bo := bo.below hb1 bo.lt
  try replace by_ := by_.below hb1 by_.lt
  replace B0 := B0.trans (hb1.mono B0.size)
  clear hb1
  try clear mx lx
  try clear mo lo zo
  try clear my ly zy
  try have mx := fun i => bx.cell i
  try have lx := bx.lt
  try have mo := fun i => bo.cell i
  try have lo := bo.lt
  try have zo := fun i => bo.frozen i
  try have my := fun i => by_.cell i
  try have ly := by_.lt
  try have zy := fun i => by_.frozen i
  go_wp2_with fail
  refine (Aw.out _ B0).mono ?_
  rintro e w5 ⟨rfl, hb1⟩
  try replace bx := bx.below hb1 bx.lt
  try replace bo := bo.below hb1 bo.lt
  try replace by_ := by_.below hb1 by_.lt
  replace B0 := B0.trans (hb1.mono B0.size)
  clear hb1
  try clear mx lx
  try clear mo lo zo
  try clear my ly zy
  try have mx := fun i => bx.cell i
  try have lx := bx.lt
  try have mo := fun i => bo.cell i
  try have lo := bo.lt
  try have zo := fun i => bo.frozen i
  try have my := fun i => by_.cell i
  try have ly := by_.lt
  try have zy := fun i => by_.frozen i
  go_wp2_with fail
  go_ret
  exact ⟨rfl, B0⟩
set_option maxRecDepth 100000 in
set_option maxHeartbeats 4000000 in
theorem asks_8a (s t f l p o i : Int) (w : World) (hT : Tab w) (hc : cfgOk s t f l p = true) (h : atp s t f 8 o i < 0) (q1 : o < 0) :
    Calls Tryd.prog 3 #[.agg #[.int .i64 s, .int .i64 t, .int .i64 f, .int .i64 l, .int .i64 p], .agg #[.int .i64 8, .int .i64 o, .int .i64 i]] w fun e w' => e = .returned (.bool true) ∧ Below w.heap.size w w' := by
  have hb := cfgOk_iff.1 hc
  have hs : 1 ≤ s ∧ s ≤ 1000 := by omega
  have ht : 1 ≤ t ∧ t ≤ 64 := by omega
  have hf : 4 ≤ f ∧ f ≤ 64 := by omega
  clear hb
  have NW := hide (fun w2 (hb : Below w.heap.size w w2) => new_yes s t f l p w2 (hT.below hb) hc)
  have Aw := hide (fun w2 (hb : Below w.heap.size w w2) => awake08 w2 (hT.below hb))
  have AT := hide (fun w => at_any s t f l p 8 o i w hs ht hf)
  rw [atp_ge ht hf h] at AT
  have W1 := hide (fun w => wrong_any s t f l p w)
  have hw : wrg s t f l p < 0 := by
    have := wrg_ok (s := s) (t := t) (f := f) (l := l) (p := p)
    rw [hc] at this
    simpa using this.symm
  clear hc hs ht hf h
  generalize wrg s t f l p = r at *
  go_enter Tryd.func3, Tryd.ntmps3
  go_wp2_with fail
  have bx := Blk.new w 23 #[.int .i64 s, .int .i64 t, .int .i64 f, .int .i64 l, .int .i64 p]
  have B0 := (Below.refl w.heap.size w).alloc (Nat.le_refl _) (.cells #[.int .i64 s, .int .i64 t, .int .i64 f, .int .i64 l, .int .i64 p] 23)
  have by_ := Blk.new (w.alloc (.cells #[.int .i64 s, .int .i64 t, .int .i64 f, .int .i64 l, .int .i64 p] 23)) 25 #[.int .i64 8, .int .i64 o, .int .i64 i]
  replace bx := bx.alloc (.cells #[.int .i64 8, .int .i64 o, .int .i64 i] 25)
  replace B0 := B0.alloc B0.size (.cells #[.int .i64 8, .int .i64 o, .int .i64 i] 25)
  rw [World.size_alloc] at by_
  refine (NW.out _ B0).mono ?_
  rintro e w1 ⟨rfl, hb1⟩
  replace bx := bx.below hb1 bx.lt
  replace by_ := by_.below hb1 by_.lt
  replace B0 := B0.trans (hb1.mono B0.size)
  clear hb1
  have lx1 : w.heap.size < w1.heap.size := bx.lt
  have ly1 : w.heap.size + 1 < w1.heap.size := by_.lt
  have mx := fun i => bx.cell i
  have my := fun i => by_.cell i
  go_wp2_with fail
  have bo := Blk.new w1 27 #[.int .i64 s, .int .i64 t, .int .i64 f, .int .i64 l, .int .i64 p]
  replace bx := bx.alloc (.cells #[.int .i64 s, .int .i64 t, .int .i64 f, .int .i64 l, .int .i64 p] 27)
  replace by_ := by_.alloc (.cells #[.int .i64 s, .int .i64 t, .int .i64 f, .int .i64 l, .int .i64 p] 27)
  replace B0 := B0.alloc B0.size (.cells #[.int .i64 s, .int .i64 t, .int .i64 f, .int .i64 l, .int .i64 p] 27)
  clear mx my
  generalize w1.alloc (.cells #[.int .i64 s, .int .i64 t, .int .i64 f, .int .i64 l, .int .i64 p] 27) = w2 at *
  try clear mx lx
  try clear mo lo zo
  try clear my ly zy
  try have mx := fun i => bx.cell i
  try have lx := bx.lt
  try have mo := fun i => bo.cell i
  try have lo := bo.lt
  try have zo := fun i => bo.frozen i
  try have my := fun i => by_.cell i
  try have ly := by_.lt
  try have zy := fun i => by_.frozen i
  refine (AT.out _).mono ?_
  rintro e w3 ⟨rfl, hb1⟩
  try replace bx := bx.below hb1 bx.lt
  try replace bo := bo.below hb1 bo.lt
  try replace by_ := by_.below hb1 by_.lt
  replace B0 := B0.trans (hb1.mono B0.size)
  clear hb1
  try clear mx lx
  try clear mo lo zo
  try clear my ly zy
  try have mx := fun i => bx.cell i
  try have lx := bx.lt
  try have mo := fun i => bo.cell i
  try have lo := bo.lt
  try have zo := fun i => bo.frozen i
  try have my := fun i => by_.cell i
  try have ly := by_.lt
  try have zy := fun i => by_.frozen i
  go_wp2_with fail
  refine (W1.out _).mono ?_
  rintro e w4 ⟨rfl, hb1⟩
  try replace bx := bx.below hb1 bx.lt
  try replace bo := bo.below hb1 bo.lt
  try replace by_ := by_.below hb1 by_.lt
  replace B0 := B0.trans (hb1.mono B0.size)
  clear hb1
  try clear mx lx
  try clear mo lo zo
  try clear my ly zy
  try have mx := fun i => bx.cell i
  try have lx := bx.lt
  try have mo := fun i => bo.cell i
  try have lo := bo.lt
  try have zo := fun i => bo.frozen i
  try have my := fun i => by_.cell i
  try have ly := by_.lt
  try have zy := fun i => by_.frozen i
  go_wp2_with fail
  refine (Aw.out _ B0).mono ?_
  rintro e w5 ⟨rfl, hb1⟩
  try replace bx := bx.below hb1 bx.lt
  try replace bo := bo.below hb1 bo.lt
  try replace by_ := by_.below hb1 by_.lt
  replace B0 := B0.trans (hb1.mono B0.size)
  clear hb1
  try clear mx lx
  try clear mo lo zo
  try clear my ly zy
  try have mx := fun i => bx.cell i
  try have lx := bx.lt
  try have mo := fun i => bo.cell i
  try have lo := bo.lt
  try have zo := fun i => bo.frozen i
  try have my := fun i => by_.cell i
  try have ly := by_.lt
  try have zy := fun i => by_.frozen i
  go_wp2_with fail
  go_ret
  exact ⟨rfl, B0⟩
set_option maxRecDepth 100000 in
set_option maxHeartbeats 4000000 in
theorem asks_8b (s t f l p o i : Int) (w : World) (hT : Tab w) (hc : cfgOk s t f l p = true) (h : atp s t f 8 o i < 0) (q0 : 0 ≤ o) (q1 : s < o) :
    Calls Tryd.prog 3 #[.agg #[.int .i64 s, .int .i64 t, .int .i64 f, .int .i64 l, .int .i64 p], .agg #[.int .i64 8, .int .i64 o, .int .i64 i]] w fun e w' => e = .returned (.bool true) ∧ Below w.heap.size w w' := by
  have hb := cfgOk_iff.1 hc
  have hs : 1 ≤ s ∧ s ≤ 1000 := by omega
  have ht : 1 ≤ t ∧ t ≤ 64 := by omega
  have hf : 4 ≤ f ∧ f ≤ 64 := by omega
  clear hb
  have NW := hide (fun w2 (hb : Below w.heap.size w w2) => new_yes s t f l p w2 (hT.below hb) hc)
  have Aw := hide (fun w2 (hb : Below w.heap.size w w2) => awake08 w2 (hT.below hb))
  have AT := hide (fun w => at_any s t f l p 8 o i w hs ht hf)
  rw [atp_ge ht hf h] at AT
  have W1 := hide (fun w => wrong_any s t f l p w)
  have hw : wrg s t f l p < 0 := by
    have := wrg_ok (s := s) (t := t) (f := f) (l := l) (p := p)
    rw [hc] at this
    simpa using this.symm
  clear hc hs ht hf h
  generalize wrg s t f l p = r at *
  go_enter Tryd.func3, Tryd.ntmps3
  go_wp2_with fail
  have bx := Blk.new w 23 #[.int .i64 s, .int .i64 t, .int .i64 f, .int .i64 l, .int .i64 p]
  have B0 := (Below.refl w.heap.size w).alloc (Nat.le_refl _) (.cells #[.int .i64 s, .int .i64 t, .int .i64 f, .int .i64 l, .int .i64 p] 23)
  have by_ := Blk.new (w.alloc (.cells #[.int .i64 s, .int .i64 t, .int .i64 f, .int .i64 l, .int .i64 p] 23)) 25 #[.int .i64 8, .int .i64 o, .int .i64 i]
  replace bx := bx.alloc (.cells #[.int .i64 8, .int .i64 o, .int .i64 i] 25)
  replace B0 := B0.alloc B0.size (.cells #[.int .i64 8, .int .i64 o, .int .i64 i] 25)
  rw [World.size_alloc] at by_
  refine (NW.out _ B0).mono ?_
  rintro e w1 ⟨rfl, hb1⟩
  replace bx := bx.below hb1 bx.lt
  replace by_ := by_.below hb1 by_.lt
  replace B0 := B0.trans (hb1.mono B0.size)
  clear hb1
  have lx1 : w.heap.size < w1.heap.size := bx.lt
  have ly1 : w.heap.size + 1 < w1.heap.size := by_.lt
  have mx := fun i => bx.cell i
  have my := fun i => by_.cell i
  go_wp2_with fail
  have bo := Blk.new w1 27 #[.int .i64 s, .int .i64 t, .int .i64 f, .int .i64 l, .int .i64 p]
  replace bx := bx.alloc (.cells #[.int .i64 s, .int .i64 t, .int .i64 f, .int .i64 l, .int .i64 p] 27)
  replace by_ := by_.alloc (.cells #[.int .i64 s, .int .i64 t, .int .i64 f, .int .i64 l, .int .i64 p] 27)
  replace B0 := B0.alloc B0.size (.cells #[.int .i64 s, .int .i64 t, .int .i64 f, .int .i64 l, .int .i64 p] 27)
  clear mx my
  generalize w1.alloc (.cells #[.int .i64 s, .int .i64 t, .int .i64 f, .int .i64 l, .int .i64 p] 27) = w2 at *
  try clear mx lx
  try clear mo lo zo
  try clear my ly zy
  try have mx := fun i => bx.cell i
  try have lx := bx.lt
  try have mo := fun i => bo.cell i
  try have lo := bo.lt
  try have zo := fun i => bo.frozen i
  try have my := fun i => by_.cell i
  try have ly := by_.lt
  try have zy := fun i => by_.frozen i
  refine (AT.out _).mono ?_
  rintro e w3 ⟨rfl, hb1⟩
  try replace bx := bx.below hb1 bx.lt
  try replace bo := bo.below hb1 bo.lt
  try replace by_ := by_.below hb1 by_.lt
  replace B0 := B0.trans (hb1.mono B0.size)
  clear hb1
  try clear mx lx
  try clear mo lo zo
  try clear my ly zy
  try have mx := fun i => bx.cell i
  try have lx := bx.lt
  try have mo := fun i => bo.cell i
  try have lo := bo.lt
  try have zo := fun i => bo.frozen i
  try have my := fun i => by_.cell i
  try have ly := by_.lt
  try have zy := fun i => by_.frozen i
  go_wp2_with fail
  refine (W1.out _).mono ?_
  rintro e w4 ⟨rfl, hb1⟩
  try replace bx := bx.below hb1 bx.lt
  try replace bo := bo.below hb1 bo.lt
  try replace by_ := by_.below hb1 by_.lt
  replace B0 := B0.trans (hb1.mono B0.size)
  clear hb1
  try clear mx lx
  try clear mo lo zo
  try clear my ly zy
  try have mx := fun i => bx.cell i
  try have lx := bx.lt
  try have mo := fun i => bo.cell i
  try have lo := bo.lt
  try have zo := fun i => bo.frozen i
  try have my := fun i => by_.cell i
  try have ly := by_.lt
  try have zy := fun i => by_.frozen i
  go_wp2_with fail
  refine (Aw.out _ B0).mono ?_
  rintro e w5 ⟨rfl, hb1⟩
  try replace bx := bx.below hb1 bx.lt
  try replace bo := bo.below hb1 bo.lt
  try replace by_ := by_.below hb1 by_.lt
  replace B0 := B0.trans (hb1.mono B0.size)
  clear hb1
  try clear mx lx
  try clear mo lo zo
  try clear my ly zy
  try have mx := fun i => bx.cell i
  try have lx := bx.lt
  try have mo := fun i => bo.cell i
  try have lo := bo.lt
  try have zo := fun i => bo.frozen i
  try have my := fun i => by_.cell i
  try have ly := by_.lt
  try have zy := fun i => by_.frozen i
  go_wp2_with fail
  go_ret
  exact ⟨rfl, B0⟩
set_option maxRecDepth 100000 in
set_option maxHeartbeats 4000000 in
theorem asks_9a (s t f l p o i : Int) (w : World) (hT : Tab w) (hc : cfgOk s t f l p = true) (h : atp s t f 9 o i < 0) (q1 : o < 0) :
    Calls Tryd.prog 3 #[.agg #[.int .i64 s, .int .i64 t, .int .i64 f, .int .i64 l, .int .i64 p], .agg #[.int .i64 9, .int .i64 o, .int .i64 i]] w fun e w' => e = .returned (.bool true) ∧ Below w.heap.size w w' := by
  have hb := cfgOk_iff.1 hc
  have hs : 1 ≤ s ∧ s ≤ 1000 := by omega
  have ht : 1 ≤ t ∧ t ≤ 64 := by omega
  have hf : 4 ≤ f ∧ f ≤ 64 := by omega
  clear hb
  have NW := hide (fun w2 (hb : Below w.heap.size w w2) => new_yes s t f l p w2 (hT.below hb) hc)
  have Aw := hide (fun w2 (hb : Below w.heap.size w w2) => awake08 w2 (hT.below hb))
  have AT := hide (fun w => at_any s t f l p 9 o i w hs ht hf)
  rw [atp_ge ht hf h] at AT
  have W1 := hide (fun w => wrong_any s t f l p w)
  have hw : wrg s t f l p < 0 := by
    have := wrg_ok (s := s) (t := t) (f := f) (l := l) (p := p)
    rw [hc] at this
    simpa using this.symm
  clear hc hs ht hf h
  generalize wrg s t f l p = r at *
  go_enter Tryd.func3, Tryd.ntmps3
  go_wp2_with fail
  have bx := Blk.new w 23 #[.int .i64 s, .int .i64 t, .int .i64 f, .int .i64 l, .int .i64 p]
  have B0 := (Below.refl w.heap.size w).alloc (Nat.le_refl _) (.cells #[.int .i64 s, .int .i64 t, .int .i64 f, .int .i64 l, .int .i64 p] 23)
  have by_ := Blk.new (w.alloc (.cells #[.int .i64 s, .int .i64 t, .int .i64 f, .int .i64 l, .int .i64 p] 23)) 25 #[.int .i64 9, .int .i64 o, .int .i64 i]
  replace bx := bx.alloc (.cells #[.int .i64 9, .int .i64 o, .int .i64 i] 25)
  replace B0 := B0.alloc B0.size (.cells #[.int .i64 9, .int .i64 o, .int .i64 i] 25)
  rw [World.size_alloc] at by_
  refine (NW.out _ B0).mono ?_
  rintro e w1 ⟨rfl, hb1⟩
  replace bx := bx.below hb1 bx.lt
  replace by_ := by_.below hb1 by_.lt
  replace B0 := B0.trans (hb1.mono B0.size)
  clear hb1
  have lx1 : w.heap.size < w1.heap.size := bx.lt
  have ly1 : w.heap.size + 1 < w1.heap.size := by_.lt
  have mx := fun i => bx.cell i
  have my := fun i => by_.cell i
  go_wp2_with fail
  have bo := Blk.new w1 27 #[.int .i64 s, .int .i64 t, .int .i64 f, .int .i64 l, .int .i64 p]
  replace bx := bx.alloc (.cells #[.int .i64 s, .int .i64 t, .int .i64 f, .int .i64 l, .int .i64 p] 27)
  replace by_ := by_.alloc (.cells #[.int .i64 s, .int .i64 t, .int .i64 f, .int .i64 l, .int .i64 p] 27)
  replace B0 := B0.alloc B0.size (.cells #[.int .i64 s, .int .i64 t, .int .i64 f, .int .i64 l, .int .i64 p] 27)
  clear mx my
  generalize w1.alloc (.cells #[.int .i64 s, .int .i64 t, .int .i64 f, .int .i64 l, .int .i64 p] 27) = w2 at *
  try clear mx lx
  try clear mo lo zo
  try clear my ly zy
  try have mx := fun i => bx.cell i
  try have lx := bx.lt
  try have mo := fun i => bo.cell i
  try have lo := bo.lt
  try have zo := fun i => bo.frozen i
  try have my := fun i => by_.cell i
  try have ly := by_.lt
  try have zy := fun i => by_.frozen i
  refine (AT.out _).mono ?_
  rintro e w3 ⟨rfl, hb1⟩
  try replace bx := bx.below hb1 bx.lt
  try replace bo := bo.below hb1 bo.lt
  try replace by_ := by_.below hb1 by_.lt
  replace B0 := B0.trans (hb1.mono B0.size)
  clear hb1
  try clear mx lx
  try clear mo lo zo
  try clear my ly zy
  try have mx := fun i => bx.cell i
  try have lx := bx.lt
  try have mo := fun i => bo.cell i
  try have lo := bo.lt
  try have zo := fun i => bo.frozen i
  try have my := fun i => by_.cell i
  try have ly := by_.lt
  try have zy := fun i => by_.frozen i
  go_wp2_with fail
  refine (W1.out _).mono ?_
  rintro e w4 ⟨rfl, hb1⟩
  try replace bx := bx.below hb1 bx.lt
  try replace bo := bo.below hb1 bo.lt
  try replace by_ := by_.below hb1 by_.lt
  replace B0 := B0.trans (hb1.mono B0.size)
  clear hb1
  try clear mx lx
  try clear mo lo zo
  try clear my ly zy
  try have mx := fun i => bx.cell i
  try have lx := bx.lt
  try have mo := fun i => bo.cell i
  try have lo := bo.lt
  try have zo := fun i => bo.frozen i
  try have my := fun i => by_.cell i
  try have ly := by_.lt
  try have zy := fun i => by_.frozen i
  go_wp2_with fail
  refine (Aw.out _ B0).mono ?_
  rintro e w5 ⟨rfl, hb1⟩
  try replace bx := bx.below hb1 bx.lt
  try replace bo := bo.below hb1 bo.lt
  try replace by_ := by_.below hb1 by_.lt
  replace B0 := B0.trans (hb1.mono B0.size)
  clear hb1
  try clear mx lx
  try clear mo lo zo
  try clear my ly zy
  try have mx := fun i => bx.cell i
  try have lx := bx.lt
  try have mo := fun i => bo.cell i
  try have lo := bo.lt
  try have zo := fun i => bo.frozen i
  try have my := fun i => by_.cell i
  try have ly := by_.lt
  try have zy := fun i => by_.frozen i
  go_wp2_with fail
  go_ret
  exact ⟨rfl, B0⟩
set_option maxRecDepth 100000 in
set_option maxHeartbeats 4000000 in
theorem asks_9b (s t f l p o i : Int) (w : World) (hT : Tab w) (hc : cfgOk s t f l p = true) (h : atp s t f 9 o i < 0) (q0 : 0 ≤ o) (q1 : s < o) :
    Calls Tryd.prog 3 #[.agg #[.int .i64 s, .int .i64 t, .int .i64 f, .int .i64 l, .int .i64 p], .agg #[.int .i64 9, .int .i64 o, .int .i64 i]] w fun e w' => e = .returned (.bool true) ∧ Below w.heap.size w w' := by
  have hb := cfgOk_iff.1 hc
  have hs : 1 ≤ s ∧ s ≤ 1000 := by omega
  have ht : 1 ≤ t ∧ t ≤ 64 := by omega
  have hf : 4 ≤ f ∧ f ≤ 64 := by omega
  clear hb
  have NW := hide (fun w2 (hb : Below w.heap.size w w2) => new_yes s t f l p w2 (hT.below hb) hc)
  have Aw := hide (fun w2 (hb : Below w.heap.size w w2) => awake08 w2 (hT.below hb))
  have AT := hide (fun w => at_any s t f l p 9 o i w hs ht hf)
  rw [atp_ge ht hf h] at AT
  have W1 := hide (fun w => wrong_any s t f l p w)
  have hw : wrg s t f l p < 0 := by
    have := wrg_ok (s := s) (t := t) (f := f) (l := l) (p := p)
    rw [hc] at this
    simpa using this.symm
  clear hc hs ht hf h
  generalize wrg s t f l p = r at *
  go_enter Tryd.func3, Tryd.ntmps3
  go_wp2_with fail
  have bx := Blk.new w 23 #[.int .i64 s, .int .i64 t, .int .i64 f, .int .i64 l, .int .i64 p]
  have B0 := (Below.refl w.heap.size w).alloc (Nat.le_refl _) (.cells #[.int .i64 s, .int .i64 t, .int .i64 f, .int .i64 l, .int .i64 p] 23)
  have by_ := Blk.new (w.alloc (.cells #[.int .i64 s, .int .i64 t, .int .i64 f, .int .i64 l, .int .i64 p] 23)) 25 #[.int .i64 9, .int .i64 o, .int .i64 i]
  replace bx := bx.alloc (.cells #[.int .i64 9, .int .i64 o, .int .i64 i] 25)
  replace B0 := B0.alloc B0.size (.cells #[.int .i64 9, .int .i64 o, .int .i64 i] 25)
  rw [World.size_alloc] at by_
  refine (NW.out _ B0).mono ?_
  rintro e w1 ⟨rfl, hb1⟩
  replace bx := bx.below hb1 bx.lt
  replace by_ := by_.below hb1 by_.lt
  replace B0 := B0.trans (hb1.mono B0.size)
  clear hb1
  have lx1 : w.heap.size < w1.heap.size := bx.lt
  have ly1 : w.heap.size + 1 < w1.heap.size := by_.lt
  have mx := fun i => bx.cell i
  have my := fun i => by_.cell i
  go_wp2_with fail
  have bo := Blk.new w1 27 #[.int .i64 s, .int .i64 t, .int .i64 f, .int .i64 l, .int .i64 p]
  replace bx := bx.alloc (.cells #[.int .i64 s, .int .i64 t, .int .i64 f, .int .i64 l, .int .i64 p] 27)
  replace by_ := by_.alloc (.cells #[.int .i64 s, .int .i64 t, .int .i64 f, .int .i64 l, .int .i64 p] 27)
  replace B0 := B0.alloc B0.size (.cells #[.int .i64 s, .int .i64 t, .int .i64 f, .int .i64 l, .int .i64 p] 27)
  clear mx my
  generalize w1.alloc (.cells #[.int .i64 s, .int .i64 t, .int .i64 f, .int .i64 l, .int .i64 p] 27) = w2 at *
  try clear mx lx
  try clear mo lo zo
  try clear my ly zy
  try have mx := fun i => bx.cell i
  try have lx := bx.lt
  try have mo := fun i => bo.cell i
  try have lo := bo.lt
  try have zo := fun i => bo.frozen i
  try have my := fun i => by_.cell i
  try have ly := by_.lt
  try have zy := fun i => by_.frozen i
  refine (AT.out _).mono ?_
  rintro e w3 ⟨rfl, hb1⟩
  try replace bx := bx.below hb1 bx.lt
  try replace bo := bo.below hb1 bo.lt
  try replace by_ := by_.below hb1 by_.lt
  replace B0 := B0.trans (hb1.mono B0.size)
  clear hb1
  try clear mx lx
  try clear mo lo zo
  try clear my ly zy
  try have mx := fun i => bx.cell i
  try have lx := bx.lt
  try have mo := fun i => bo.cell i
  try have lo := bo.lt
  try have zo := fun i => bo.frozen i
  try have my := fun i => by_.cell i
  try have ly := by_.lt
  try have zy := fun i => by_.frozen i
  go_wp2_with fail
  refine (W1.out _).mono ?_
  rintro e w4 ⟨rfl, hb1⟩
  try replace bx := bx.below hb1 bx.lt
  try replace bo := bo.below hb1 bo.lt
  try replace by_ := by_.below hb1 by_.lt
  replace B0 := B0.trans (hb1.mono B0.size)
  clear hb1
  try clear mx lx
  try clear mo lo zo
  try clear my ly zy
  try have mx := fun i => bx.cell i
  try have lx := bx.lt
  try have mo := fun i => bo.cell i
  try have lo := bo.lt
  try have zo := fun i => bo.frozen i
  try have my := fun i => by_.cell i
  try have ly := by_.lt
  try have zy := fun i => by_.frozen i
  go_wp2_with fail
  refine (Aw.out _ B0).mono ?_
  rintro e w5 ⟨rfl, hb1⟩
  try replace bx := bx.below hb1 bx.lt
  try replace bo := bo.below hb1 bo.lt
  try replace by_ := by_.below hb1 by_.lt
  replace B0 := B0.trans (hb1.mono B0.size)
  clear hb1
  try clear mx lx
  try clear mo lo zo
  try clear my ly zy
  try have mx := fun i => bx.cell i
  try have lx := bx.lt
  try have mo := fun i => bo.cell i
  try have lo := bo.lt
  try have zo := fun i => bo.frozen i
  try have my := fun i => by_.cell i
  try have ly := by_.lt
  try have zy := fun i => by_.frozen i
  go_wp2_with fail
  go_ret
  exact ⟨rfl, B0⟩
set_option maxRecDepth 100000 in
set_option maxHeartbeats 4000000 in
theorem asks_10a (s t f l p o i : Int) (w : World) (hT : Tab w) (hc : cfgOk s t f l p = true) (h : atp s t f 10 o i < 0) (q1 : o < 0) :
    Calls Tryd.prog 3 #[.agg #[.int .i64 s, .int .i64 t, .int .i64 f, .int .i64 l, .int .i64 p], .agg #[.int .i64 10, .int .i64 o, .int .i64 i]] w fun e w' => e = .returned (.bool true) ∧ Below w.heap.size w w' := by
  have hb := cfgOk_iff.1 hc
  have hs : 1 ≤ s ∧ s ≤ 1000 := by omega
  have ht : 1 ≤ t ∧ t ≤ 64 := by omega
  have hf : 4 ≤ f ∧ f ≤ 64 := by omega
  clear hb
  have NW := hide (fun w2 (hb : Below w.heap.size w w2) => new_yes s t f l p w2 (hT.below hb) hc)
  have Aw := hide (fun w2 (hb : Below w.heap.size w w2) => awake08 w2 (hT.below hb))
  have AT := hide (fun w => at_any s t f l p 10 o i w hs ht hf)
  rw [atp_ge ht hf h] at AT
  have W1 := hide (fun w => wrong_any s t f l p w)
  have hw : wrg s t f l p < 0 := by
    have := wrg_ok (s := s) (t := t) (f := f) (l := l) (p := p)
    rw [hc] at this
    simpa using this.symm
  clear hc hs ht hf h
  generalize wrg s t f l p = r at *
  go_enter Tryd.func3, Tryd.ntmps3
  go_wp2_with fail
  have bx := Blk.new w 23 #[.int .i64 s, .int .i64 t, .int .i64 f, .int .i64 l, .int .i64 p]
  have B0 := (Below.refl w.heap.size w).alloc (Nat.le_refl _) (.cells #[.int .i64 s, .int .i64 t, .int .i64 f, .int .i64 l, .int .i64 p] 23)
  have by_ := Blk.new (w.alloc (.cells #[.int .i64 s, .int .i64 t, .int .i64 f, .int .i64 l, .int .i64 p] 23)) 25 #[.int .i64 10, .int .i64 o, .int .i64 i]
  replace bx := bx.alloc (.cells #[.int .i64 10, .int .i64 o, .int .i64 i] 25)
  replace B0 := B0.alloc B0.size (.cells #[.int .i64 10, .int .i64 o, .int .i64 i] 25)
  rw [World.size_alloc] at by_
  refine (NW.out _ B0).mono ?_
  rintro e w1 ⟨rfl, hb1⟩
  replace bx := bx.below hb1 bx.lt
  replace by_ := by_.below hb1 by_.lt
  replace B0 := B0.trans (hb1.mono B0.size)
  clear hb1
  have lx1 : w.heap.size < w1.heap.size := bx.lt
  have ly1 : w.heap.size + 1 < w1.heap.size := by_.lt
  have mx := fun i => bx.cell i
  have my := fun i => by_.cell i
  go_wp2_with fail
  have bo := Blk.new w1 27 #[.int .i64 s, .int .i64 t, .int .i64 f, .int .i64 l, .int .i64 p]
  replace bx := bx.alloc (.cells #[.int .i64 s, .int .i64 t, .int .i64 f, .int .i64 l, .int .i64 p] 27)
  replace by_ := by_.alloc (.cells #[.int .i64 s, .int .i64 t, .int .i64 f, .int .i64 l, .int .i64 p] 27)
  replace B0 := B0.alloc B0.size (.cells #[.int .i64 s, .int .i64 t, .int .i64 f, .int .i64 l, .int .i64 p] 27)
  clear mx my
  generalize w1.alloc (.cells #[.int .i64 s, .int .i64 t, .int .i64 f, .int .i64 l, .int .i64 p] 27) = w2 at *
  try clear mx lx
  try clear mo lo zo
  try clear my ly zy
  try have mx := fun i => bx.cell i
  try have lx := bx.lt
  try have mo := fun i => bo.cell i
  try have lo := bo.lt
  try have zo := fun i => bo.frozen i
  try have my := fun i => by_.cell i
  try have ly := by_.lt
  try have zy := fun i => by_.frozen i
  refine (AT.out _).mono ?_
  rintro e w3 ⟨rfl, hb1⟩
  try replace bx := bx.below hb1 bx.lt
  try replace bo := bo.below hb1 bo.lt
  try replace by_ := by_.below hb1 by_.lt
  replace B0 := B0.trans (hb1.mono B0.size)
  clear hb1
  try clear mx lx
  try clear mo lo zo
  try clear my ly zy
  try have mx := fun i => bx.cell i
  try have lx := bx.lt
  try have mo := fun i => bo.cell i
  try have lo := bo.lt
  try have zo := fun i => bo.frozen i
  try have my := fun i => by_.cell i
  try have ly := by_.lt
  try have zy := fun i => by_.frozen i
  go_wp2_with fail
  refine (W1.out _).mono ?_
  rintro e w4 ⟨rfl, hb1⟩
  try replace bx := bx.below hb1 bx.lt
  try replace bo := bo.below hb1 bo.lt
  try replace by_ := by_.below hb1 by_.lt
  replace B0 := B0.trans (hb1.mono B0.size)
  clear hb1
  try clear mx lx
  try clear mo lo zo
  try clear my ly zy
  try have mx := fun i => bx.cell i
  try have lx := bx.lt
  try have mo := fun i => bo.cell i
  try have lo := bo.lt
  try have zo := fun i => bo.frozen i
  try have my := fun i => by_.cell i
  try have ly := by_.lt
  try have zy := fun i => by_.frozen i
  go_wp2_with fail
  refine (Aw.out _ B0).mono ?_
  rintro e w5 ⟨rfl, hb1⟩
  try replace bx := bx.below hb1 bx.lt
  try replace bo := bo.below hb1 bo.lt
  try replace by_ := by_.below hb1 by_.lt
  replace B0 := B0.trans (hb1.mono B0.size)
  clear hb1
  try clear mx lx
  try clear mo lo zo
  try clear my ly zy
  try have mx := fun i => bx.cell i
  try have lx := bx.lt
  try have mo := fun i => bo.cell i
  try have lo := bo.lt
  try have zo := fun i => bo.frozen i
  try have my := fun i => by_.cell i
  try have ly := by_.lt
  try have zy := fun i => by_.frozen i
  go_wp2_with fail
  go_ret
  exact ⟨rfl, B0⟩
set_option maxRecDepth 100000 in
set_option maxHeartbeats 4000000 in
theorem asks_10b (s t f l p o i : Int) (w : World) (hT : Tab w) (hc : cfgOk s t f l p = true) (h : atp s t f 10 o i < 0) (q0 : 0 ≤ o) (q1 : s < o) :
    Calls Tryd.prog 3 #[.agg #[.int .i64 s, .int .i64 t, .int .i64 f, .int .i64 l, .int .i64 p], .agg #[.int .i64 10, .int .i64 o, .int .i64 i]] w fun e w' => e = .returned (.bool true) ∧ Below w.heap.size w w' := by
  have hb := cfgOk_iff.1 hc
  have hs : 1 ≤ s ∧ s ≤ 1000 := by omega
  have ht : 1 ≤ t ∧ t ≤ 64 := by omega
  have hf : 4 ≤ f ∧ f ≤ 64 := by omega
  clear hb
  have NW := hide (fun w2 (hb : Below w.heap.size w w2) => new_yes s t f l p w2 (hT.below hb) hc)
  have Aw := hide (fun w2 (hb : Below w.heap.size w w2) => awake08 w2 (hT.below hb))
  have AT := hide (fun w => at_any s t f l p 10 o i w hs ht hf)
  rw [atp_ge ht hf h] at AT
  have W1 := hide (fun w => wrong_any s t f l p w)
  have hw : wrg s t f l p < 0 := by
    have := wrg_ok (s := s) (t := t) (f := f) (l := l) (p := p)
    rw [hc] at this
    simpa using this.symm
  clear hc hs ht hf h
  generalize wrg s t f l p = r at *
  go_enter Tryd.func3, Tryd.ntmps3
  go_wp2_with fail
  have bx := Blk.new w 23 #[.int .i64 s, .int .i64 t, .int .i64 f, .int .i64 l, .int .i64 p]
  have B0 := (Below.refl w.heap.size w).alloc (Nat.le_refl _) (.cells #[.int .i64 s, .int .i64 t, .int .i64 f, .int .i64 l, .int .i64 p] 23)
  have by_ := Blk.new (w.alloc (.cells #[.int .i64 s, .int .i64 t, .int .i64 f, .int .i64 l, .int .i64 p] 23)) 25 #[.int .i64 10, .int .i64 o, .int .i64 i]
  replace bx := bx.alloc (.cells #[.int .i64 10, .int .i64 o, .int .i64 i] 25)
  replace B0 := B0.alloc B0.size (.cells #[.int .i64 10, .int .i64 o, .int .i64 i] 25)
  rw [World.size_alloc] at by_
  refine (NW.out _ B0).mono ?_
  rintro e w1 ⟨rfl, hb1⟩
  replace bx := bx.below hb1 bx.lt
  replace by_ := by_.below hb1 by_.lt
  replace B0 := B0.trans (hb1.mono B0.size)
  clear hb1
  have lx1 : w.heap.size < w1.heap.size := bx.lt
  have ly1 : w.heap.size + 1 < w1.heap.size := by_.lt
  have mx := fun i => bx.cell i
  have my := fun i => by_.cell i
  go_wp2_with fail
  have bo := Blk.new w1 27 #[.int .i64 s, .int .i64 t, .int .i64 f, .int .i64 l, .int .i64 p]
  replace bx := bx.alloc (.cells #[.int .i64 s, .int .i64 t, .int .i64 f, .int .i64 l, .int .i64 p] 27)
  replace by_ := by_.alloc (.cells #[.int .i64 s, .int .i64 t, .int .i64 f, .int .i64 l, .int .i64 p] 27)
  replace B0 := B0.alloc B0.size (.cells #[.int .i64 s, .int .i64 t, .int .i64 f, .int .i64 l, .int .i64 p] 27)
  clear mx my
  generalize w1.alloc (.cells #[.int .i64 s, .int .i64 t, .int .i64 f, .int .i64 l, .int .i64 p] 27) = w2 at *
  try clear mx lx
  try clear mo lo zo
  try clear my ly zy
  try have mx := fun i => bx.cell i
  try have lx := bx.lt
  try have mo := fun i => bo.cell i
  try have lo := bo.lt
  try have zo := fun i => bo.frozen i
  try have my := fun i => by_.cell i
  try have ly := by_.lt
  try have zy := fun i => by_.frozen i
  refine (AT.out _).mono ?_
  rintro e w3 ⟨rfl, hb1⟩
  try replace bx := bx.below hb1 bx.lt
  try replace bo := bo.below hb1 bo.lt
  try replace by_ := by_.below hb1 by_.lt
  replace B0 := B0.trans (hb1.mono B0.size)
  clear hb1
  try clear mx lx
  try clear mo lo zo
  try clear my ly zy
  try have mx := fun i => bx.cell i
  try have lx := bx.lt
  try have mo := fun i => bo.cell i
  try have lo := bo.lt
  try have zo := fun i => bo.frozen i
  try have my := fun i => by_.cell i
  try have ly := by_.lt
  try have zy := fun i => by_.frozen i
  go_wp2_with fail
  refine (W1.out _).mono ?_
  rintro e w4 ⟨rfl, hb1⟩
  try replace bx := bx.below hb1 bx.lt
  try replace bo := bo.below hb1 bo.lt
  try replace by_ := by_.below hb1 by_.lt
  replace B0 := B0.trans (hb1.mono B0.size)
  clear hb1
  try clear mx lx
  try clear mo lo zo
  try clear my ly zy
  try have mx := fun i => bx.cell i
  try have lx := bx.lt
  try have mo := fun i => bo.cell i
  try have lo := bo.lt
  try have zo := fun i => bo.frozen i
  try have my := fun i => by_.cell i
  try have ly := by_.lt
  try have zy := fun i => by_.frozen i
  go_wp2_with fail
  refine (Aw.out _ B0).mono ?_
  rintro e w5 ⟨rfl, hb1⟩
  try replace bx := bx.below hb1 bx.lt
  try replace bo := bo.below hb1 bo.lt
  try replace by_ := by_.below hb1 by_.lt
  replace B0 := B0.trans (hb1.mono B0.size)
  clear hb1
  try clear mx lx
  try clear mo lo zo
  try clear my ly zy
  try have mx := fun i => bx.cell i
  try have lx := bx.lt
  try have mo := fun i => bo.cell i
  try have lo := bo.lt
  try have zo := fun i => bo.frozen i
  try have my := fun i => by_.cell i
  try have ly := by_.lt
  try have zy := fun i => by_.frozen i
  go_wp2_with fail
  go_ret
  exact ⟨rfl, B0⟩
set_option maxRecDepth 100000 in
set_option maxHeartbeats 4000000 in
theorem asks_6c (s t f l p o i : Int) (w : World) (hT : Tab w) (hc : cfgOk s t f l p = true) (h : atp s t f 6 o i < 0) (q0 : 0 ≤ o) (q1 : o ≤ s) (_ : (i == 0) = false) (q3 : (i != 0) = true) :
    Calls Tryd.prog 3 #[.agg #[.int .i64 s, .int .i64 t, .int .i64 f, .int .i64 l, .int .i64 p], .agg #[.int .i64 6, .int .i64 o, .int .i64 i]] w fun e w' => e = .returned (.bool true) ∧ Below w.heap.size w w' := by
  have hb := cfgOk_iff.1 hc
  have hs : 1 ≤ s ∧ s ≤ 1000 := by omega
  have ht : 1 ≤ t ∧ t ≤ 64 := by omega
  have hf : 4 ≤ f ∧ f ≤ 64 := by omega
  clear hb
  have NW := hide (fun w2 (hb : Below w.heap.size w w2) => new_yes s t f l p w2 (hT.below hb) hc)
  have Aw := hide (fun w2 (hb : Below w.heap.size w w2) => awake08 w2 (hT.below hb))
  have AT := hide (fun w => at_any s t f l p 6 o i w hs ht hf)
  rw [atp_ge ht hf h] at AT
  have W1 := hide (fun w => wrong_any s t f l p w)
  have hw : wrg s t f l p < 0 := by
    have := wrg_ok (s := s) (t := t) (f := f) (l := l) (p := p)
    rw [hc] at this
    simpa using this.symm
  clear hc hs ht hf h
  generalize wrg s t f l p = r at *
  go_enter Tryd.func3, Tryd.ntmps3
  go_wp2_with fail
  have bx := Blk.new w 23 #[.int .i64 s, .int .i64 t, .int .i64 f, .int .i64 l, .int .i64 p]
  have B0 := (Below.refl w.heap.size w).alloc (Nat.le_refl _) (.cells #[.int .i64 s, .int .i64 t, .int .i64 f, .int .i64 l, .int .i64 p] 23)
  have by_ := Blk.new (w.alloc (.cells #[.int .i64 s, .int .i64 t, .int .i64 f, .int .i64 l, .int .i64 p] 23)) 25 #[.int .i64 6, .int .i64 o, .int .i64 i]
  replace bx := bx.alloc (.cells #[.int .i64 6, .int .i64 o, .int .i64 i] 25)
  replace B0 := B0.alloc B0.size (.cells #[.int .i64 6, .int .i64 o, .int .i64 i] 25)
  rw [World.size_alloc] at by_
  refine (NW.out _ B0).mono ?_
  rintro e w1 ⟨rfl, hb1⟩
  replace bx := bx.below hb1 bx.lt
  replace by_ := by_.below hb1 by_.lt
  replace B0 := B0.trans (hb1.mono B0.size)
  clear hb1
  have lx1 : w.heap.size < w1.heap.size := bx.lt
  have ly1 : w.heap.size + 1 < w1.heap.size := by_.lt
  have mx := fun i => bx.cell i
  have my := fun i => by_.cell i
  go_wp2_with fail
  have bo := Blk.new w1 27 #[.int .i64 s, .int .i64 t, .int .i64 f, .int .i64 l, .int .i64 p]
  replace bx := bx.alloc (.cells #[.int .i64 s, .int .i64 t, .int .i64 f, .int .i64 l, .int .i64 p] 27)
  replace by_ := by_.alloc (.cells #[.int .i64 s, .int .i64 t, .int .i64 f, .int .i64 l, .int .i64 p] 27)
  replace B0 := B0.alloc B0.size (.cells #[.int .i64 s, .int .i64 t, .int .i64 f, .int .i64 l, .int .i64 p] 27)
  clear mx my
  generalize w1.alloc (.cells #[.int .i64 s, .int .i64 t, .int .i64 f, .int .i64 l, .int .i64 p] 27) = w2 at *
  try clear mx lx
  try clear mo lo zo
  try clear my ly zy
  try have mx := fun i => bx.cell i
  try have lx := bx.lt
  try have mo := fun i => bo.cell i
  try have lo := bo.lt
  try have zo := fun i => bo.frozen i
  try have my := fun i => by_.cell i
  try have ly := by_.lt
  try have zy := fun i => by_.frozen i
  refine (AT.out _).mono ?_
  rintro e w3 ⟨rfl, hb1⟩
  try replace bx := bx.below hb1 bx.lt
  try replace bo := bo.below hb1 bo.lt
  try replace by_ := by_.below hb1 by_.lt
  replace B0 := B0.trans (hb1.mono B0.size)
  clear hb1
  try clear mx lx
  try clear mo lo zo
  try clear my ly zy
  try have mx := fun i => bx.cell i
  try have lx := bx.lt
  try have mo := fun i => bo.cell i
  try have lo := bo.lt
  try have zo := fun i => bo.frozen i
  try have my := fun i => by_.cell i
  try have ly := by_.lt
  try have zy := fun i => by_.frozen i
  go_wp2_with fail
  refine (W1.out _).mono ?_
  rintro e w4 ⟨rfl, hb1⟩
  try replace bx := bx.below hb1 bx.lt
  try replace bo := bo.below hb1 bo.lt
  try replace by_ := by_.below hb1 by_.lt
  replace B0 := B0.trans (hb1.mono B0.size)
  clear hb1
  try clear mx lx
  try clear mo lo zo
  try clear my ly zy
  try have mx := fun i => bx.cell i
  try have lx := bx.lt
  try have mo := fun i => bo.cell i
  try have lo := bo.lt
  try have zo := fun i => bo.frozen i
  try have my := fun i => by_.cell i
  try have ly := by_.lt
  try have zy := fun i => by_.frozen i
  go_wp2_with fail
  refine (Aw.out _ B0).mono ?_
  rintro e w5 ⟨rfl, hb1⟩
  try replace bx := bx.below hb1 bx.lt
  try replace bo := bo.below hb1 bo.lt
  try replace by_ := by_.below hb1 by_.lt
  replace B0 := B0.trans (hb1.mono B0.size)
  clear hb1
  try clear mx lx
  try clear mo lo zo
  try clear my ly zy
  try have mx := fun i => bx.cell i
  try have lx := bx.lt
  try have mo := fun i => bo.cell i
  try have lo := bo.lt
  try have zo := fun i => bo.frozen i
  try have my := fun i => by_.cell i
  try have ly := by_.lt
  try have zy := fun i => by_.frozen i
  go_wp2_with fail
  go_ret
  exact ⟨rfl, B0⟩
set_option maxRecDepth 100000 in
set_option maxHeartbeats 4000000 in
theorem asks_7c (s t f l p o i : Int) (w : World) (hT : Tab w) (hc : cfgOk s t f l p = true) (h : atp s t f 7 o i < 0) (q0 : 0 ≤ o) (q1 : o ≤ s) (_ : (i == 0) = false) (q3 : (i != 0) = true) :
    Calls Tryd.prog 3 #[.agg #[.int .i64 s, .int .i64 t, .int .i64 f, .int .i64 l, .int .i64 p], .agg #[.int .i64 7, .int .i64 o, .int .i64 i]] w fun e w' => e = .returned (.bool true) ∧ Below w.heap.size w w' := by
  have hb := cfgOk_iff.1 hc
  have hs : 1 ≤ s ∧ s ≤ 1000 := by omega
  have ht : 1 ≤ t ∧ t ≤ 64 := by omega
  have hf : 4 ≤ f ∧ f ≤ 64 := by omega
  clear hb
  have NW := hide (fun w2 (hb : Below w.heap.size w w2) => new_yes s t f l p w2 (hT.below hb) hc)
  have Aw := hide (fun w2 (hb : Below w.heap.size w w2) => awake08 w2 (hT.below hb))
  have AT := hide (fun w => at_any s t f l p 7 o i w hs ht hf)
  rw [atp_ge ht hf h] at AT
  have W1 := hide (fun w => wrong_any s t f l p w)
  have hw : wrg s t f l p < 0 := by
    have := wrg_ok (s := s) (t := t) (f := f) (l := l) (p := p)
    rw [hc] at this
    simpa using this.symm
  clear hc hs ht hf h
  generalize wrg s t f l p = r at *
  go_enter Tryd.func3, Tryd.ntmps3
  go_wp2_with fail
  have bx := Blk.new w 23 #[.int .i64 s, .int .i64 t, .int .i64 f, .int .i64 l, .int .i64 p]
  have B0 := (Below.refl w.heap.size w).alloc (Nat.le_refl _) (.cells #[.int .i64 s, .int .i64 t, .int .i64 f, .int .i64 l, .int .i64 p] 23)
  have by_ := Blk.new (w.alloc (.cells #[.int .i64 s, .int .i64 t, .int .i64 f, .int .i64 l, .int .i64 p] 23)) 25 #[.int .i64 7, .int .i64 o, .int .i64 i]
  replace bx := bx.alloc (.cells #[.int .i64 7, .int .i64 o, .int .i64 i] 25)
  replace B0 := B0.alloc B0.size (.cells #[.int .i64 7, .int .i64 o, .int .i64 i] 25)
  rw [World.size_alloc] at by_
  refine (NW.out _ B0).mono ?_
  rintro e w1 ⟨rfl, hb1⟩
  replace bx := bx.below hb1 bx.lt
  replace by_ := by_.below hb1 by_.lt
  replace B0 := B0.trans (hb1.mono B0.size)
  clear hb1
  have lx1 : w.heap.size < w1.heap.size := bx.lt
  have ly1 : w.heap.size + 1 < w1.heap.size := by_.lt
  have mx := fun i => bx.cell i
  have my := fun i => by_.cell i
  go_wp2_with fail
  have bo := Blk.new w1 27 #[.int .i64 s, .int .i64 t, .int .i64 f, .int .i64 l, .int .i64 p]
  replace bx := bx.alloc (.cells #[.int .i64 s, .int .i64 t, .int .i64 f, .int .i64 l, .int .i64 p] 27)
  replace by_ := by_.alloc (.cells #[.int .i64 s, .int .i64 t, .int .i64 f, .int .i64 l, .int .i64 p] 27)
  replace B0 := B0.alloc B0.size (.cells #[.int .i64 s, .int .i64 t, .int .i64 f, .int .i64 l, .int .i64 p] 27)
  clear mx my
  generalize w1.alloc (.cells #[.int .i64 s, .int .i64 t, .int .i64 f, .int .i64 l, .int .i64 p] 27) = w2 at *
  try clear mx lx
  try clear mo lo zo
  try clear my ly zy
  try have mx := fun i => bx.cell i
  try have lx := bx.lt
  try have mo := fun i => bo.cell i
  try have lo := bo.lt
  try have zo := fun i => bo.frozen i
  try have my := fun i => by_.cell i
  try have ly := by_.lt
  try have zy := fun i => by_.frozen i
  refine (AT.out _).mono ?_
  rintro e w3 ⟨rfl, hb1⟩
  try replace bx := bx.below hb1 bx.lt
  try replace bo := bo.below hb1 bo.lt
  try replace by_ := by_.below hb1 by_.lt
  replace B0 := B0.trans (hb1.mono B0.size)
  clear hb1
  try clear mx lx
  try clear mo lo zo
  try clear my ly zy
  try have mx := fun i => bx.cell i
  try have lx := bx.lt
  try have mo := fun i => bo.cell i
  try have lo := bo.lt
  try have zo := fun i => bo.frozen i
  try have my := fun i => by_.cell i
  try have ly := by_.lt
  try have zy := fun i => by_.frozen i
  go_wp2_with fail
  refine (W1.out _).mono ?_
  rintro e w4 ⟨rfl, hb1⟩
  try replace bx := bx.below hb1 bx.lt
  try replace bo := bo.below hb1 bo.lt
  try replace by_ := by_.below hb1 by_.lt
  replace B0 := B0.trans (hb1.mono B0.size)
  clear hb1
  try clear mx lx
  try clear mo lo zo
  try clear my ly zy
  try have mx := fun i => bx.cell i
  try have lx := bx.lt
  try have mo := fun i => bo.cell i
  try have lo := bo.lt
  try have zo := fun i => bo.frozen i
  try have my := fun i => by_.cell i
  try have ly := by_.lt
  try have zy := fun i => by_.frozen i
  go_wp2_with fail
  refine (Aw.out _ B0).mono ?_
  rintro e w5 ⟨rfl, hb1⟩
  try replace bx := bx.below hb1 bx.lt
  try replace bo := bo.below hb1 bo.lt
  try replace by_ := by_.below hb1 by_.lt
  replace B0 := B0.trans (hb1.mono B0.size)
  clear hb1
  try clear mx lx
  try clear mo lo zo
  try clear my ly zy
  try have mx := fun i => bx.cell i
  try have lx := bx.lt
  try have mo := fun i => bo.cell i
  try have lo := bo.lt
  try have zo := fun i => bo.frozen i
  try have my := fun i => by_.cell i
  try have ly := by_.lt
  try have zy := fun i => by_.frozen i
  go_wp2_with fail
  go_ret
  exact ⟨rfl, B0⟩
set_option maxRecDepth 100000 in
set_option maxHeartbeats 4000000 in
theorem asks_8c (s t f l p o i : Int) (w : World) (hT : Tab w) (hc : cfgOk s t f l p = true) (h : atp s t f 8 o i < 0) (q0 : 0 ≤ o) (q1 : o ≤ s) (_ : (i == 0) = false) (q3 : (i != 0) = true) :
    Calls Tryd.prog 3 #[.agg #[.int .i64 s, .int .i64 t, .int .i64 f, .int .i64 l, .int .i64 p], .agg #[.int .i64 8, .int .i64 o, .int .i64 i]] w fun e w' => e = .returned (.bool true) ∧ Below w.heap.size w w' := by
  have hb := cfgOk_iff.1 hc
  have hs : 1 ≤ s ∧ s ≤ 1000 := by omega
  have ht : 1 ≤ t ∧ t ≤ 64 := by omega
  have hf : 4 ≤ f ∧ f ≤ 64 := by omega
  clear hb
  have NW := hide (fun w2 (hb : Below w.heap.size w w2) => new_yes s t f l p w2 (hT.below hb) hc)
  have Aw := hide (fun w2 (hb : Below w.heap.size w w2) => awake08 w2 (hT.below hb))
  have AT := hide (fun w => at_any s t f l p 8 o i w hs ht hf)
  rw [atp_ge ht hf h] at AT
  have W1 := hide (fun w => wrong_any s t f l p w)
  have hw : wrg s t f l p < 0 := by
    have := wrg_ok (s := s) (t := t) (f := f) (l := l) (p := p)
    rw [hc] at this
    simpa using this.symm
  clear hc hs ht hf h
  generalize wrg s t f l p = r at *
  go_enter Tryd.func3, Tryd.ntmps3
  go_wp2_with fail
  have bx := Blk.new w 23 #[.int .i64 s, .int .i64 t, .int .i64 f, .int .i64 l, .int .i64 p]
  have B0 := (Below.refl w.heap.size w).alloc (Nat.le_refl _) (.cells #[.int .i64 s, .int .i64 t, .int .i64 f, .int .i64 l, .int .i64 p] 23)
  have by_ := Blk.new (w.alloc (.cells #[.int .i64 s, .int .i64 t, .int .i64 f, .int .i64 l, .int .i64 p] 23)) 25 #[.int .i64 8, .int .i64 o, .int .i64 i]
  replace bx := bx.alloc (.cells #[.int .i64 8, .int .i64 o, .int .i64 i] 25)
  replace B0 := B0.alloc B0.size (.cells #[.int .i64 8, .int .i64 o, .int .i64 i] 25)
  rw [World.size_alloc] at by_
  refine (NW.out _ B0).mono ?_
  rintro e w1 ⟨rfl, hb1⟩
  replace bx := bx.below hb1 bx.lt
  replace by_ := by_.below hb1 by_.lt
  replace B0 := B0.trans (hb1.mono B0.size)
  clear hb1
  have lx1 : w.heap.size < w1.heap.size := bx.lt
  have ly1 : w.heap.size + 1 < w1.heap.size := by_.lt
  have mx := fun i => bx.cell i
  have my := fun i => by_.cell i
  go_wp2_with fail
  have bo := Blk.new w1 27 #[.int .i64 s, .int .i64 t, .int .i64 f, .int .i64 l, .int .i64 p]
  replace bx := bx.alloc (.cells #[.int .i64 s, .int .i64 t, .int .i64 f, .int .i64 l, .int .i64 p] 27)
  replace by_ := by_.alloc (.cells #[.int .i64 s, .int .i64 t, .int .i64 f, .int .i64 l, .int .i64 p] 27)
  replace B0 := B0.alloc B0.size (.cells #[.int .i64 s, .int .i64 t, .int .i64 f, .int .i64 l, .int .i64 p] 27)
  clear mx my
  generalize w1.alloc (.cells #[.int .i64 s, .int .i64 t, .int .i64 f, .int .i64 l, .int .i64 p] 27) = w2 at *
  try clear mx lx
  try clear mo lo zo
  try clear my ly zy
  try have mx := fun i => bx.cell i
  try have lx := bx.lt
  try have mo := fun i => bo.cell i
  try have lo := bo.lt
  try have zo := fun i => bo.frozen i
  try have my := fun i => by_.cell i
  try have ly := by_.lt
  try have zy := fun i => by_.frozen i
  refine (AT.out _).mono ?_
  rintro e w3 ⟨rfl, hb1⟩
  try replace bx := bx.below hb1 bx.lt
  try replace bo := bo.below hb1 bo.lt
  try replace by_ := by_.below hb1 by_.lt
  replace B0 := B0.trans (hb1.mono B0.size)
  clear hb1
  try clear mx lx
  try clear mo lo zo
  try clear my ly zy
  try have mx := fun i => bx.cell i
  try have lx := bx.lt
  try have mo := fun i => bo.cell i
  try have lo := bo.lt
  try have zo := fun i => bo.frozen i
  try have my := fun i => by_.cell i
  try have ly := by_.lt
  try have zy := fun i => by_.frozen i
  go_wp2_with fail
  refine (W1.out _).mono ?_
  rintro e w4 ⟨rfl, hb1⟩
  try replace bx := bx.below hb1 bx.lt
  try replace bo := bo.below hb1 bo.lt
  try replace by_ := by_.below hb1 by_.lt
  replace B0 := B0.trans (hb1.mono B0.size)
  clear hb1
  try clear mx lx
  try clear mo lo zo
  try clear my ly zy
  try have mx := fun i => bx.cell i
  try have lx := bx.lt
  try have mo := fun i => bo.cell i
  try have lo := bo.lt
  try have zo := fun i => bo.frozen i
  try have my := fun i => by_.cell i
  try have ly := by_.lt
  try have zy := fun i => by_.frozen i
  go_wp2_with fail
  refine (Aw.out _ B0).mono ?_
  rintro e w5 ⟨rfl, hb1⟩
  try replace bx := bx.below hb1 bx.lt
  try replace bo := bo.below hb1 bo.lt
  try replace by_ := by_.below hb1 by_.lt
  replace B0 := B0.trans (hb1.mono B0.size)
  clear hb1
  try clear mx lx
  try clear mo lo zo
  try clear my ly zy
  try have mx := fun i => bx.cell i
  try have lx := bx.lt
  try have mo := fun i => bo.cell i
  try have lo := bo.lt
  try have zo := fun i => bo.frozen i
  try have my := fun i => by_.cell i
  try have ly := by_.lt
  try have zy := fun i => by_.frozen i
  go_wp2_with fail
  go_ret
  exact ⟨rfl, B0⟩
set_option maxRecDepth 100000 in
set_option maxHeartbeats 4000000 in
theorem asks_9c (s t f l p o i : Int) (w : World) (hT : Tab w) (hc : cfgOk s t f l p = true) (h : atp s t f 9 o i < 0) (q0 : 0 ≤ o) (q1 : o ≤ s) (q2 : i < 0) :
    Calls Tryd.prog 3 #[.agg #[.int .i64 s, .int .i64 t, .int .i64 f, .int .i64 l, .int .i64 p], .agg #[.int .i64 9, .int .i64 o, .int .i64 i]] w fun e w' => e = .returned (.bool true) ∧ Below w.heap.size w w' := by
  have hb := cfgOk_iff.1 hc
  have hs : 1 ≤ s ∧ s ≤ 1000 := by omega
  have ht : 1 ≤ t ∧ t ≤ 64 := by omega
  have hf : 4 ≤ f ∧ f ≤ 64 := by omega
  clear hb
  have NW := hide (fun w2 (hb : Below w.heap.size w w2) => new_yes s t f l p w2 (hT.below hb) hc)
  have Aw := hide (fun w2 (hb : Below w.heap.size w w2) => awake08 w2 (hT.below hb))
  have AT := hide (fun w => at_any s t f l p 9 o i w hs ht hf)
  rw [atp_ge ht hf h] at AT
  have W1 := hide (fun w => wrong_any s t f l p w)
  have hw : wrg s t f l p < 0 := by
    have := wrg_ok (s := s) (t := t) (f := f) (l := l) (p := p)
    rw [hc] at this
    simpa using this.symm
  clear hc hs ht hf h
  generalize wrg s t f l p = r at *
  go_enter Tryd.func3, Tryd.ntmps3
  go_wp2_with fail
  have bx := Blk.new w 23 #[.int .i64 s, .int .i64 t, .int .i64 f, .int .i64 l, .int .i64 p]
  have B0 := (Below.refl w.heap.size w).alloc (Nat.le_refl _) (.cells #[.int .i64 s, .int .i64 t, .int .i64 f, .int .i64 l, .int .i64 p] 23)
  have by_ := Blk.new (w.alloc (.cells #[.int .i64 s, .int .i64 t, .int .i64 f, .int .i64 l, .int .i64 p] 23)) 25 #[.int .i64 9, .int .i64 o, .int .i64 i]
  replace bx := bx.alloc (.cells #[.int .i64 9, .int .i64 o, .int .i64 i] 25)
  replace B0 := B0.alloc B0.size (.cells #[.int .i64 9, .int .i64 o, .int .i64 i] 25)
  rw [World.size_alloc] at by_
  refine (NW.out _ B0).mono ?_
  rintro e w1 ⟨rfl, hb1⟩
  replace bx := bx.below hb1 bx.lt
  replace by_ := by_.below hb1 by_.lt
  replace B0 := B0.trans (hb1.mono B0.size)
  clear hb1
  have lx1 : w.heap.size < w1.heap.size := bx.lt
  have ly1 : w.heap.size + 1 < w1.heap.size := by_.lt
  have mx := fun i => bx.cell i
  have my := fun i => by_.cell i
  go_wp2_with fail
  have bo := Blk.new w1 27 #[.int .i64 s, .int .i64 t, .int .i64 f, .int .i64 l, .int .i64 p]
  replace bx := bx.alloc (.cells #[.int .i64 s, .int .i64 t, .int .i64 f, .int .i64 l, .int .i64 p] 27)
  replace by_ := by_.alloc (.cells #[.int .i64 s, .int .i64 t, .int .i64 f, .int .i64 l, .int .i64 p] 27)
  replace B0 := B0.alloc B0.size (.cells #[.int .i64 s, .int .i64 t, .int .i64 f, .int .i64 l, .int .i64 p] 27)
  clear mx my
  generalize w1.alloc (.cells #[.int .i64 s, .int .i64 t, .int .i64 f, .int .i64 l, .int .i64 p] 27) = w2 at *
  try clear mx lx
  try clear mo lo zo
  try clear my ly zy
  try have mx := fun i => bx.cell i
  try have lx := bx.lt
  try have mo := fun i => bo.cell i
  try have lo := bo.lt
  try have zo := fun i => bo.frozen i
  try have my := fun i => by_.cell i
  try have ly := by_.lt
  try have zy := fun i => by_.frozen i
  refine (AT.out _).mono ?_
  rintro e w3 ⟨rfl, hb1⟩
  try replace bx := bx.below hb1 bx.lt
  try replace bo := bo.below hb1 bo.lt
  try replace by_ := by_.below hb1 by_.lt
  replace B0 := B0.trans (hb1.mono B0.size)
  clear hb1
  try clear mx lx
  try clear mo lo zo
  try clear my ly zy
  try have mx := fun i => bx.cell i
  try have lx := bx.lt
  try have mo := fun i => bo.cell i
  try have lo := bo.lt
  try have zo := fun i => bo.frozen i
  try have my := fun i => by_.cell i
  try have ly := by_.lt
  try have zy := fun i => by_.frozen i
  go_wp2_with fail
  refine (W1.out _).mono ?_
  rintro e w4 ⟨rfl, hb1⟩
  try replace bx := bx.below hb1 bx.lt
  try replace bo := bo.below hb1 bo.lt
  try replace by_ := by_.below hb1 by_.lt
  replace B0 := B0.trans (hb1.mono B0.size)
  clear hb1
  try clear mx lx
  try clear mo lo zo
  try clear my ly zy
  try have mx := fun i => bx.cell i
  try have lx := bx.lt
  try have mo := fun i => bo.cell i
  try have lo := bo.lt
  try have zo := fun i => bo.frozen i
  try have my := fun i => by_.cell i
  try have ly := by_.lt
  try have zy := fun i => by_.frozen i
  go_wp2_with fail
  refine (Aw.out _ B0).mono ?_
  rintro e w5 ⟨rfl, hb1⟩
  try replace bx := bx.below hb1 bx.lt
  try replace bo := bo.below hb1 bo.lt
  try replace by_ := by_.below hb1 by_.lt
  replace B0 := B0.trans (hb1.mono B0.size)
  clear hb1
  try clear mx lx
  try clear mo lo zo
  try clear my ly zy
  try have mx := fun i => bx.cell i
  try have lx := bx.lt
  try have mo := fun i => bo.cell i
  try have lo := bo.lt
  try have zo := fun i => bo.frozen i
  try have my := fun i => by_.cell i
  try have ly := by_.lt
  try have zy := fun i => by_.frozen i
  go_wp2_with fail
  go_ret
  exact ⟨rfl, B0⟩
set_option maxRecDepth 100000 in
set_option maxHeartbeats 4000000 in
theorem asks_9d (s t f l p o i : Int) (w : World) (hT : Tab w) (hc : cfgOk s t f l p = true) (h : atp s t f 9 o i < 0) (q0 : 0 ≤ o) (q1 : o ≤ s) (q2 : 0 ≤ i) (q3 : f ≤ i) :
    Calls Tryd.prog 3 #[.agg #[.int .i64 s, .int .i64 t, .int .i64 f, .int .i64 l, .int .i64 p], .agg #[.int .i64 9, .int .i64 o, .int .i64 i]] w fun e w' => e = .returned (.bool true) ∧ Below w.heap.size w w' := by
  have hb := cfgOk_iff.1 hc
  have hs : 1 ≤ s ∧ s ≤ 1000 := by omega
  have ht : 1 ≤ t ∧ t ≤ 64 := by omega
  have hf : 4 ≤ f ∧ f ≤ 64 := by omega
  clear hb
  have NW := hide (fun w2 (hb : Below w.heap.size w w2) => new_yes s t f l p w2 (hT.below hb) hc)
  have Aw := hide (fun w2 (hb : Below w.heap.size w w2) => awake08 w2 (hT.below hb))
  have AT := hide (fun w => at_any s t f l p 9 o i w hs ht hf)
  rw [atp_ge ht hf h] at AT
  have W1 := hide (fun w => wrong_any s t f l p w)
  have hw : wrg s t f l p < 0 := by
    have := wrg_ok (s := s) (t := t) (f := f) (l := l) (p := p)
    rw [hc] at this
    simpa using this.symm
  clear hc hs ht hf h
  generalize wrg s t f l p = r at *
  go_enter Tryd.func3, Tryd.ntmps3
  go_wp2_with fail
  have bx := Blk.new w 23 #[.int .i64 s, .int .i64 t, .int .i64 f, .int .i64 l, .int .i64 p]
  have B0 := (Below.refl w.heap.size w).alloc (Nat.le_refl _) (.cells #[.int .i64 s, .int .i64 t, .int .i64 f, .int .i64 l, .int .i64 p] 23)
  have by_ := Blk.new (w.alloc (.cells #[.int .i64 s, .int .i64 t, .int .i64 f, .int .i64 l, .int .i64 p] 23)) 25 #[.int .i64 9, .int .i64 o, .int .i64 i]
  replace bx := bx.alloc (.cells #[.int .i64 9, .int .i64 o, .int .i64 i] 25)
  replace B0 := B0.alloc B0.size (.cells #[.int .i64 9, .int .i64 o, .int .i64 i] 25)
  rw [World.size_alloc] at by_
  refine (NW.out _ B0).mono ?_
  rintro e w1 ⟨rfl, hb1⟩
  replace bx := bx.below hb1 bx.lt
  replace by_ := by_.below hb1 by_.lt
  replace B0 := B0.trans (hb1.mono B0.size)
  clear hb1
  have lx1 : w.heap.size < w1.heap.size := bx.lt
  have ly1 : w.heap.size + 1 < w1.heap.size := by_.lt
  have mx := fun i => bx.cell i
  have my := fun i => by_.cell i
  go_wp2_with fail
  have bo := Blk.new w1 27 #[.int .i64 s, .int .i64 t, .int .i64 f, .int .i64 l, .int .i64 p]
  replace bx := bx.alloc (.cells #[.int .i64 s, .int .i64 t, .int .i64 f, .int .i64 l, .int .i64 p] 27)
  replace by_ := by_.alloc (.cells #[.int .i64 s, .int .i64 t, .int .i64 f, .int .i64 l, .int .i64 p] 27)
  replace B0 := B0.alloc B0.size (.cells #[.int .i64 s, .int .i64 t, .int .i64 f, .int .i64 l, .int .i64 p] 27)
  clear mx my
  generalize w1.alloc (.cells #[.int .i64 s, .int .i64 t, .int .i64 f, .int .i64 l, .int .i64 p] 27) = w2 at *
  try clear mx lx
  try clear mo lo zo
  try clear my ly zy
  try have mx := fun i => bx.cell i
  try have lx := bx.lt
  try have mo := fun i => bo.cell i
  try have lo := bo.lt
  try have zo := fun i => bo.frozen i
  try have my := fun i => by_.cell i
  try have ly := by_.lt
  try have zy := fun i => by_.frozen i
  refine (AT.out _).mono ?_
  rintro e w3 ⟨rfl, hb1⟩
  try replace bx := bx.below hb1 bx.lt
  try replace bo := bo.below hb1 bo.lt
  try replace by_ := by_.below hb1 by_.lt
  replace B0 := B0.trans (hb1.mono B0.size)
  clear hb1
  try clear mx lx
  try clear mo lo zo
  try clear my ly zy
  try have mx := fun i => bx.cell i
  try have lx := bx.lt
  try have mo := fun i => bo.cell i
  try have lo := bo.lt
  try have zo := fun i => bo.frozen i
  try have my := fun i => by_.cell i
  try have ly := by_.lt
  try have zy := fun i => by_.frozen i
  go_wp2_with fail
  refine (W1.out _).mono ?_
  rintro e w4 ⟨rfl, hb1⟩
  try replace bx := bx.below hb1 bx.lt
  try replace bo := bo.below hb1 bo.lt
  try replace by_ := by_.below hb1 by_.lt
  replace B0 := B0.trans (hb1.mono B0.size)
  clear hb1
  try clear mx lx
  try clear mo lo zo
  try clear my ly zy
  try have mx := fun i => bx.cell i
  try have lx := bx.lt
  try have mo := fun i => bo.cell i
  try have lo := bo.lt
  try have zo := fun i => bo.frozen i
  try have my := fun i => by_.cell i
  try have ly := by_.lt
  try have zy := fun i => by_.frozen i
  go_wp2_with fail
  refine (Aw.out _ B0).mono ?_
  rintro e w5 ⟨rfl, hb1⟩
  try replace bx := bx.below hb1 bx.lt
  try replace bo := bo.below hb1 bo.lt
  try replace by_ := by_.below hb1 by_.lt
  replace B0 := B0.trans (hb1.mono B0.size)
  clear hb1
  try clear mx lx
  try clear mo lo zo
  try clear my ly zy
  try have mx := fun i => bx.cell i
  try have lx := bx.lt
  try have mo := fun i => bo.cell i
  try have lo := bo.lt
  try have zo := fun i => bo.frozen i
  try have my := fun i => by_.cell i
  try have ly := by_.lt
  try have zy := fun i => by_.frozen i
  go_wp2_with fail
  go_ret
  exact ⟨rfl, B0⟩
set_option maxRecDepth 100000 in
set_option maxHeartbeats 4000000 in
theorem asks_10c (s t f l p o i : Int) (w : World) (hT : Tab w) (hc : cfgOk s t f l p = true) (h : atp s t f 10 o i < 0) (q0 : 0 ≤ o) (q1 : o ≤ s) (q2 : i < 0) :
    Calls Tryd.prog 3 #[.agg #[.int .i64 s, .int .i64 t, .int .i64 f, .int .i64 l, .int .i64 p], .agg #[.int .i64 10, .int .i64 o, .int .i64 i]] w fun e w' => e = .returned (.bool true) ∧ Below w.heap.size w w' := by
  have hb := cfgOk_iff.1 hc
  have hs : 1 ≤ s ∧ s ≤ 1000 := by omega
  have ht : 1 ≤ t ∧ t ≤ 64 := by omega
  have hf : 4 ≤ f ∧ f ≤ 64 := by omega
  clear hb
  have NW := hide (fun w2 (hb : Below w.heap.size w w2) => new_yes s t f l p w2 (hT.below hb) hc)
  have Aw := hide (fun w2 (hb : Below w.heap.size w w2) => awake08 w2 (hT.below hb))
  have AT := hide (fun w => at_any s t f l p 10 o i w hs ht hf)
  rw [atp_ge ht hf h] at AT
  have W1 := hide (fun w => wrong_any s t f l p w)
  have hw : wrg s t f l p < 0 := by
    have := wrg_ok (s := s) (t := t) (f := f) (l := l) (p := p)
    rw [hc] at this
    simpa using this.symm
  clear hc hs ht hf h
  generalize wrg s t f l p = r at *
  go_enter Tryd.func3, Tryd.ntmps3
  go_wp2_with fail
  have bx := Blk.new w 23 #[.int .i64 s, .int .i64 t, .int .i64 f, .int .i64 l, .int .i64 p]
  have B0 := (Below.refl w.heap.size w).alloc (Nat.le_refl _) (.cells #[.int .i64 s, .int .i64 t, .int .i64 f, .int .i64 l, .int .i64 p] 23)
  have by_ := Blk.new (w.alloc (.cells #[.int .i64 s, .int .i64 t, .int .i64 f, .int .i64 l, .int .i64 p] 23)) 25 #[.int .i64 10, .int .i64 o, .int .i64 i]
  replace bx := bx.alloc (.cells #[.int .i64 10, .int .i64 o, .int .i64 i] 25)
  replace B0 := B0.alloc B0.size (.cells #[.int .i64 10, .int .i64 o, .int .i64 i] 25)
  rw [World.size_alloc] at by_
  refine (NW.out _ B0).mono ?_
  rintro e w1 ⟨rfl, hb1⟩
  replace bx := bx.below hb1 bx.lt
  replace by_ := by_.below hb1 by_.lt
  replace B0 := B0.trans (hb1.mono B0.size)
  clear hb1
  have lx1 : w.heap.size < w1.heap.size := bx.lt
  have ly1 : w.heap.size + 1 < w1.heap.size := by_.lt
  have mx := fun i => bx.cell i
  have my := fun i => by_.cell i
  go_wp2_with fail
  have bo := Blk.new w1 27 #[.int .i64 s, .int .i64 t, .int .i64 f, .int .i64 l, .int .i64 p]
  replace bx := bx.alloc (.cells #[.int .i64 s, .int .i64 t, .int .i64 f, .int .i64 l, .int .i64 p] 27)
  replace by_ := by_.alloc (.cells #[.int .i64 s, .int .i64 t, .int .i64 f, .int .i64 l, .int .i64 p] 27)
  replace B0 := B0.alloc B0.size (.cells #[.int .i64 s, .int .i64 t, .int .i64 f, .int .i64 l, .int .i64 p] 27)
  clear mx my
  generalize w1.alloc (.cells #[.int .i64 s, .int .i64 t, .int .i64 f, .int .i64 l, .int .i64 p] 27) = w2 at *
  try clear mx lx
  try clear mo lo zo
  try clear my ly zy
  try have mx := fun i => bx.cell i
  try have lx := bx.lt
  try have mo := fun i => bo.cell i
  try have lo := bo.lt
  try have zo := fun i => bo.frozen i
  try have my := fun i => by_.cell i
  try have ly := by_.lt
  try have zy := fun i => by_.frozen i
  refine (AT.out _).mono ?_
  rintro e w3 ⟨rfl, hb1⟩
  try replace bx := bx.below hb1 bx.lt
  try replace bo := bo.below hb1 bo.lt
  try replace by_ := by_.below hb1 by_.lt
  replace B0 := B0.trans (hb1.mono B0.size)
  clear hb1
  try clear mx lx
  try clear mo lo zo
  try clear my ly zy
  try have mx := fun i => bx.cell i
  try have lx := bx.lt
  try have mo := fun i => bo.cell i
  try have lo := bo.lt
  try have zo := fun i => bo.frozen i
  try have my := fun i => by_.cell i
  try have ly := by_.lt
  try have zy := fun i => by_.frozen i
  go_wp2_with fail
  refine (W1.out _).mono ?_
  rintro e w4 ⟨rfl, hb1⟩
  try replace bx := bx.below hb1 bx.lt
  try replace bo := bo.below hb1 bo.lt
  try replace by_ := by_.below hb1 by_.lt
  replace B0 := B0.trans (hb1.mono B0.size)
  clear hb1
  try clear mx lx
  try clear mo lo zo
  try clear my ly zy
  try have mx := fun i => bx.cell i
  try have lx := bx.lt
  try have mo := fun i => bo.cell i
  try have lo := bo.lt
  try have zo := fun i => bo.frozen i
  try have my := fun i => by_.cell i
  try have ly := by_.lt
  try have zy := fun i => by_.frozen i
  go_wp2_with fail
  refine (Aw.out _ B0).mono ?_
  rintro e w5 ⟨rfl, hb1⟩
  try replace bx := bx.below hb1 bx.lt
  try replace bo := bo.below hb1 bo.lt
  try replace by_ := by_.below hb1 by_.lt
  replace B0 := B0.trans (hb1.mono B0.size)
  clear hb1
  try clear mx lx
  try clear mo lo zo
  try clear my ly zy
  try have mx := fun i => bx.cell i
  try have lx := bx.lt
  try have mo := fun i => bo.cell i
  try have lo := bo.lt
  try have zo := fun i => bo.frozen i
  try have my := fun i => by_.cell i
  try have ly := by_.lt
  try have zy := fun i => by_.frozen i
  go_wp2_with fail
  go_ret
  exact ⟨rfl, B0⟩
set_option maxRecDepth 100000 in
set_option maxHeartbeats 4000000 in
theorem asks_10d (s t f l p o i : Int) (w : World) (hT : Tab w) (hc : cfgOk s t f l p = true) (h : atp s t f 10 o i < 0) (q0 : 0 ≤ o) (q1 : o ≤ s) (q2 : 0 ≤ i) (q3 : f ≤ i) :
    Calls Tryd.prog 3 #[.agg #[.int .i64 s, .int .i64 t, .int .i64 f, .int .i64 l, .int .i64 p], .agg #[.int .i64 10, .int .i64 o, .int .i64 i]] w fun e w' => e = .returned (.bool true) ∧ Below w.heap.size w w' := by
  have hb := cfgOk_iff.1 hc
  have hs : 1 ≤ s ∧ s ≤ 1000 := by omega
  have ht : 1 ≤ t ∧ t ≤ 64 := by omega
  have hf : 4 ≤ f ∧ f ≤ 64 := by omega
  clear hb
  have NW := hide (fun w2 (hb : Below w.heap.size w w2) => new_yes s t f l p w2 (hT.below hb) hc)
  have Aw := hide (fun w2 (hb : Below w.heap.size w w2) => awake08 w2 (hT.below hb))
  have AT := hide (fun w => at_any s t f l p 10 o i w hs ht hf)
  rw [atp_ge ht hf h] at AT
  have W1 := hide (fun w => wrong_any s t f l p w)
  have hw : wrg s t f l p < 0 := by
    have := wrg_ok (s := s) (t := t) (f := f) (l := l) (p := p)
    rw [hc] at this
    simpa using this.symm
  clear hc hs ht hf h
  generalize wrg s t f l p = r at *
  go_enter Tryd.func3, Tryd.ntmps3
  go_wp2_with fail
  have bx := Blk.new w 23 #[.int .i64 s, .int .i64 t, .int .i64 f, .int .i64 l, .int .i64 p]
  have B0 := (Below.refl w.heap.size w).alloc (Nat.le_refl _) (.cells #[.int .i64 s, .int .i64 t, .int .i64 f, .int .i64 l, .int .i64 p] 23)
  have by_ := Blk.new (w.alloc (.cells #[.int .i64 s, .int .i64 t, .int .i64 f, .int .i64 l, .int .i64 p] 23)) 25 #[.int .i64 10, .int .i64 o, .int .i64 i]
  replace bx := bx.alloc (.cells #[.int .i64 10, .int .i64 o, .int .i64 i] 25)
  replace B0 := B0.alloc B0.size (.cells #[.int .i64 10, .int .i64 o, .int .i64 i] 25)
  rw [World.size_alloc] at by_
  refine (NW.out _ B0).mono ?_
  rintro e w1 ⟨rfl, hb1⟩
  replace bx := bx.below hb1 bx.lt
  replace by_ := by_.below hb1 by_.lt
  replace B0 := B0.trans (hb1.mono B0.size)
  clear hb1
  have lx1 : w.heap.size < w1.heap.size := bx.lt
  have ly1 : w.heap.size + 1 < w1.heap.size := by_.lt
  have mx := fun i => bx.cell i
  have my := fun i => by_.cell i
  go_wp2_with fail
  have bo := Blk.new w1 27 #[.int .i64 s, .int .i64 t, .int .i64 f, .int .i64 l, .int .i64 p]
  replace bx := bx.alloc (.cells #[.int .i64 s, .int .i64 t, .int .i64 f, .int .i64 l, .int .i64 p] 27)
  replace by_ := by_.alloc (.cells #[.int .i64 s, .int .i64 t, .int .i64 f, .int .i64 l, .int .i64 p] 27)
  replace B0 := B0.alloc B0.size (.cells #[.int .i64 s, .int .i64 t, .int .i64 f, .int .i64 l, .int .i64 p] 27)
  clear mx my
  generalize w1.alloc (.cells #[.int .i64 s, .int .i64 t, .int .i64 f, .int .i64 l, .int .i64 p] 27) = w2 at *
  try clear mx lx
  try clear mo lo zo
  try clear my ly zy
  try have mx := fun i => bx.cell i
  try have lx := bx.lt
  try have mo := fun i => bo.cell i
  try have lo := bo.lt
  try have zo := fun i => bo.frozen i
  try have my := fun i => by_.cell i
  try have ly := by_.lt
  try have zy := fun i => by_.frozen i
  refine (AT.out _).mono ?_
  rintro e w3 ⟨rfl, hb1⟩
  try replace bx := bx.below hb1 bx.lt
  try replace bo := bo.below hb1 bo.lt
  try replace by_ := by_.below hb1 by_.lt
  replace B0 := B0.trans (hb1.mono B0.size)
  clear hb1
  try clear mx lx
  try clear mo lo zo
  try clear my ly zy
  try have mx := fun i => bx.cell i
  try have lx := bx.lt
  try have mo := fun i => bo.cell i
  try have lo := bo.lt
  try have zo := fun i => bo.frozen i
  try have my := fun i => by_.cell i
  try have ly := by_.lt
  try have zy := fun i => by_.frozen i
  go_wp2_with fail
  refine (W1.out _).mono ?_
  rintro e w4 ⟨rfl, hb1⟩
  try replace bx := bx.below hb1 bx.lt
  try replace bo := bo.below hb1 bo.lt
  try replace by_ := by_.below hb1 by_.lt
  replace B0 := B0.trans (hb1.mono B0.size)
  clear hb1
  try clear mx lx
  try clear mo lo zo
  try clear my ly zy
  try have mx := fun i => bx.cell i
  try have lx := bx.lt
  try have mo := fun i => bo.cell i
  try have lo := bo.lt
  try have zo := fun i => bo.frozen i
  try have my := fun i => by_.cell i
  try have ly := by_.lt
  try have zy := fun i => by_.frozen i
  go_wp2_with fail
  refine (Aw.out _ B0).mono ?_
  rintro e w5 ⟨rfl, hb1⟩
  try replace bx := bx.below hb1 bx.lt
  try replace bo := bo.below hb1 bo.lt
  try replace by_ := by_.below hb1 by_.lt
  replace B0 := B0.trans (hb1.mono B0.size)
  clear hb1
  try clear mx lx
  try clear mo lo zo
  try clear my ly zy
  try have mx := fun i => bx.cell i
  try have lx := bx.lt
  try have mo := fun i => bo.cell i
  try have lo := bo.lt
  try have zo := fun i => bo.frozen i
  try have my := fun i => by_.cell i
  try have ly := by_.lt
  try have zy := fun i => by_.frozen i
  go_wp2_with fail
  go_ret
  exact ⟨rfl, B0⟩

theorem ne_bools {x : Int} (h : x ≠ 0) : (x == 0) = false ∧ (x != 0) = true := by
  have h1 : (x == 0) = false := by simpa using h
  exact ⟨h1, by simp [bne, h1]⟩
theorem LayoutAsks_calls (s t f l p k o i : Int) (w : World) (hT : Tab w) :
    Calls Tryd.prog 3 #[.agg #[.int .i64 s, .int .i64 t, .int .i64 f, .int .i64 l, .int .i64 p], .agg #[.int .i64 k, .int .i64 o, .int .i64 i]] w fun e w' => e = .returned (.bool true) ∧ Below w.heap.size w w' := by
  by_cases hc : cfgOk s t f l p = true
  · by_cases h : 0 ≤ atp s t f k o i
    · exact asks_yes s t f l p k o i w hT hc h
    · have h' : atp s t f k o i < 0 := by omega
      have hb := cfgOk_iff.1 hc
      rcases atp_bad (by omega) (by omega) h' with c | c | ⟨ck, c⟩ | ⟨rfl, c⟩ | ⟨rfl, c⟩ | ⟨ck, c⟩ | ⟨ck, c1, c2, c3⟩ | ⟨ck, c1, c2, c3⟩
      · exact asks_lo s t f l p k o i w hT hc h' c
      · exact asks_hi s t f l p k o i w hT hc h' c (by omega)
      · rcases c with c | ⟨rfl, c⟩
        · obtain ⟨b1, b2⟩ := ne_bools c
          rcases ck with rfl | rfl | rfl
          · exact asks_1o s t f l p o i w hT hc h' b1 b2
          · exact asks_2o s t f l p o i w hT hc h' b1 b2
          · exact asks_3o s t f l p o i w hT hc h' b1 b2
        · obtain ⟨b1, b2⟩ := ne_bools c
          rcases ck with rfl | rfl | rfl
          · exact asks_1i s t f l p i w hT hc h' b1 b2
          · exact asks_2i s t f l p i w hT hc h' b1 b2
          · exact asks_3i s t f l p i w hT hc h' b1 b2
      · rcases c with c | ⟨c1, c2⟩ | ⟨c1, c2, c3⟩
        · exact asks_4a s t f l p o i w hT hc h' c
        · exact asks_4b s t f l p o i w hT hc h' c1 c2
        · obtain ⟨b1, b2⟩ := ne_bools c3
          exact asks_4c s t f l p o i w hT hc h' c1 c2 b1 b2
      · rcases c with c | ⟨c1, c2⟩ | ⟨c1, c2, c3⟩ | ⟨c1, c2, c3, c4⟩
        · exact asks_5a s t f l p o i w hT hc h' c
        · exact asks_5b s t f l p o i w hT hc h' c1 c2
        · exact asks_5c s t f l p o i w hT hc h' c1 c2 c3
        · exact asks_5d s t f l p o i w hT hc h' c1 c2 c3 c4
      · rcases c with c | ⟨c1, c2⟩
        · rcases ck with rfl | rfl | rfl | rfl | rfl
          · exact asks_6a s t f l p o i w hT hc h' c
          · exact asks_7a s t f l p o i w hT hc h' c
          · exact asks_8a s t f l p o i w hT hc h' c
          · exact asks_9a s t f l p o i w hT hc h' c
          · exact asks_10a s t f l p o i w hT hc h' c
        · rcases ck with rfl | rfl | rfl | rfl | rfl
          · exact asks_6b s t f l p o i w hT hc h' c1 c2
          · exact asks_7b s t f l p o i w hT hc h' c1 c2
          · exact asks_8b s t f l p o i w hT hc h' c1 c2
          · exact asks_9b s t f l p o i w hT hc h' c1 c2
          · exact asks_10b s t f l p o i w hT hc h' c1 c2
      · obtain ⟨b1, b2⟩ := ne_bools c3
        rcases ck with rfl | rfl | rfl
        · exact asks_6c s t f l p o i w hT hc h' c1 c2 b1 b2
        · exact asks_7c s t f l p o i w hT hc h' c1 c2 b1 b2
        · exact asks_8c s t f l p o i w hT hc h' c1 c2 b1 b2
      · rcases c3 with c3 | ⟨c3, c4⟩
        · rcases ck with rfl | rfl
          · exact asks_9c s t f l p o i w hT hc h' c1 c2 c3
          · exact asks_10c s t f l p o i w hT hc h' c1 c2 c3
        · rcases ck with rfl | rfl
          · exact asks_9d s t f l p o i w hT hc h' c1 c2 c3 c4
          · exact asks_10d s t f l p o i w hT hc h' c1 c2 c3 c4
  · exact asks_wrong s t f l p k o i w hT (by simpa using hc)
end Go.Proofs.YtpkocgcagemnbaaDoor
