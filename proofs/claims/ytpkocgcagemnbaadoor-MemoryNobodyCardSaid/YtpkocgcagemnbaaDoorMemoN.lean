/-
  The Go function MemoryNobody.
-/
import Derived.Test.YtpkocgcagemnbaaDoorMemoE
namespace Go.Proofs.YtpkocgcagemnbaaDoor
open Go.RowKit
attribute [local go_sem] past_cell past_cell_add

set_option maxRecDepth 100000 in
set_option maxHeartbeats 2000000 in
theorem MemoryNobody_calls (k a o n x y : Int) (w : World) (hT : Tab w) :
    Calls Tryd.prog 8 #[.agg #[.int .i64 k, .int .i64 a, .int .u64 o, .int .u64 n], .int .i64 x, .int .i64 y] w fun e w' => e = .returned (.bool true) ∧ Below w.heap.size w w' := by
  have Aw := hide (fun w2 (hb : Below w.heap.size w w2) => awake09 w2 (hT.below hb))
  have NZ := hide (fun (w2 : World) (g : Nat) (h : Blk w2 g 58 #[.int .i64 0, .int .i64 0, .int .i64 0, .int .i64 0, .int .i64 0, .slice none 0 0]) (z : Int) => (show NoWord w2 (.pointer (some ⟨g, 0, none⟩)) z from .inr ⟨g, none, 0, rfl, h.cell 5, by omega⟩))
  have WZ := hide (fun (w2 : World) (g : Nat) (h : Blk w2 g 58 #[.int .i64 0, .int .i64 0, .int .i64 0, .int .i64 0, .int .i64 0, .slice none 0 0]) => words_none g 0 none x y w2 (h.cell 5) (by omega))
  have SZ := hide size_zero
  have W1 := hide (fun (w2 : World) (A : Option Addr) hr => write_none (.pointer none) A 1 1 [(a, 1)] w2 hr (fun _ => .inl rfl) (by omega))
  have W2 := hide (fun (w2 : World) (g : Nat) (h : Blk w2 g 58 #[.int .i64 0, .int .i64 0, .int .i64 0, .int .i64 0, .int .i64 0, .slice none 0 0]) (A : Option Addr) hr => write_none (.pointer (some ⟨g, 0, none⟩)) A 1 1 [(a, 1)] w2 hr (NZ.out w2 g h) (by omega))
  have D1 := hide (fun (w2 : World) => do_none (.pointer none) k a o n w2 (.inl rfl))
  have D2 := hide (fun (w2 : World) (g : Nat) (h : Blk w2 g 58 #[.int .i64 0, .int .i64 0, .int .i64 0, .int .i64 0, .int .i64 0, .slice none 0 0]) => do_none (.pointer (some ⟨g, 0, none⟩)) k a o n w2 (NZ.out w2 g h a))
  have G1 := hide (fun (w2 : World) => word_f (.pointer none) x w2 (.inl rfl))
  have G2 := hide (fun (w2 : World) (g : Nat) (h : Blk w2 g 58 #[.int .i64 0, .int .i64 0, .int .i64 0, .int .i64 0, .int .i64 0, .slice none 0 0]) => word_f (.pointer (some ⟨g, 0, none⟩)) x w2 (NZ.out w2 g h x))
  have X1 := hide (fun (w2 : World) => words_nil x y w2)
  have bx := (Blk.new w 46 #[.int .i64 k, .int .i64 a, .int .u64 o, .int .u64 n]).alloc (.cells #[.int .i64 0, .int .i64 0, .int .i64 0, .int .i64 0, .int .i64 0, .slice none 0 0] 58)
  have bo := Blk.new (w.alloc (.cells #[.int .i64 k, .int .i64 a, .int .u64 o, .int .u64 n] 46)) 58 #[.int .i64 0, .int .i64 0, .int .i64 0, .int .i64 0, .int .i64 0, .slice none 0 0]
  have B0 := ((Below.refl w.heap.size w).alloc (Nat.le_refl _) (.cells #[.int .i64 k, .int .i64 a, .int .u64 o, .int .u64 n] 46)).alloc (by simp only [World.size_alloc]; omega) (.cells #[.int .i64 0, .int .i64 0, .int .i64 0, .int .i64 0, .int .i64 0, .slice none 0 0] 58)
  have hs0 : ((w.alloc (.cells #[.int .i64 k, .int .i64 a, .int .u64 o, .int .u64 n] 46)).alloc (.cells #[.int .i64 0, .int .i64 0, .int .i64 0, .int .i64 0, .int .i64 0, .slice none 0 0] 58)).heap.size = w.heap.size + 1 + 1 := by simp only [World.size_alloc]
  rw [World.size_alloc] at bo
  have HX := hide bx
  have HO := hide bo
  have HB := hide B0
  have HS := hide hs0
  clear bx bo B0 hs0 NZ
  go_enter Tryd.func8, Tryd.ntmps8
  go_wp2_with fail
  generalize (w.alloc (.cells #[.int .i64 k, .int .i64 a, .int .u64 o, .int .u64 n] 46)).alloc (.cells #[.int .i64 0, .int .i64 0, .int .i64 0, .int .i64 0, .int .i64 0, .slice none 0 0] 58) = w0 at *
  have bx := HX.out.alloc (.cells #[.int .i64 a, .int .u64 1] 55)
  have bo := HO.out.alloc (.cells #[.int .i64 a, .int .u64 1] 55)
  have B0 := HB.out.alloc HB.out.size (.cells #[.int .i64 a, .int .u64 1] 55)
  have hr := Reads.new w0 [.int .i64 a, .int .u64 1] 55 1 2 rfl
  rw [HS.out] at hr
  clear HX HO HB
  refine (W1.out _ _ (by rw [World.size_alloc, HS.out]; exact hr)).mono ?_
  rintro e w1 ⟨⟨v, rfl⟩, hb1⟩
  try replace bx := bx.below hb1 bx.lt
  try replace bo := bo.below hb1 bo.lt
  replace B0 := B0.trans (hb1.mono B0.size)
  clear hb1
  try clear mx lx
  try clear mo lo zo
  try clear my ly zy
  try have mx := fun i => bx.cell i
  try have lx := bx.lt
  try have mo := fun i => bo.cell i
  try have lo := bo.lt
  try have zo := fun i => bo.frozen i
  try have my := fun i => by_.cell i
  try have ly := by_.lt
  try have zy := fun i => by_.frozen i
  go_wp2_with fail
  clear hr
  have hr := Reads.new w1 [.int .i64 a, .int .u64 1] 55 1 2 rfl
  replace bx := bx.alloc (.cells #[.int .i64 a, .int .u64 1] 55)
  replace bo := bo.alloc (.cells #[.int .i64 a, .int .u64 1] 55)
  replace B0 := B0.alloc B0.size (.cells #[.int .i64 a, .int .u64 1] 55)
  refine (W2.out _ _ bo _ (by rw [World.size_alloc]; exact hr)).mono ?_
  rintro e w2 ⟨⟨v, rfl⟩, hb1⟩
  try replace bx := bx.below hb1 bx.lt
  try replace bo := bo.below hb1 bo.lt
  replace B0 := B0.trans (hb1.mono B0.size)
  clear hb1
  try clear mx lx
  try clear mo lo zo
  try clear my ly zy
  try have mx := fun i => bx.cell i
  try have lx := bx.lt
  try have mo := fun i => bo.cell i
  try have lo := bo.lt
  try have zo := fun i => bo.frozen i
  try have my := fun i => by_.cell i
  try have ly := by_.lt
  try have zy := fun i => by_.frozen i
  go_wp2_with fail
  clear hr
  refine (D1.out _).mono ?_
  rintro e w3 ⟨rfl, hb1⟩
  try replace bx := bx.below hb1 bx.lt
  try replace bo := bo.below hb1 bo.lt
  try replace by_ := by_.below hb1 by_.lt
  replace B0 := B0.trans (hb1.mono B0.size)
  clear hb1
  try clear mx lx
  try clear mo lo zo
  try clear my ly zy
  try have mx := fun i => bx.cell i
  try have lx := bx.lt
  try have mo := fun i => bo.cell i
  try have lo := bo.lt
  try have zo := fun i => bo.frozen i
  try have my := fun i => by_.cell i
  try have ly := by_.lt
  try have zy := fun i => by_.frozen i
  go_wp2_with fail
  refine (D2.out _ _ bo).mono ?_
  rintro e w4 ⟨rfl, hb1⟩
  try replace bx := bx.below hb1 bx.lt
  try replace bo := bo.below hb1 bo.lt
  try replace by_ := by_.below hb1 by_.lt
  replace B0 := B0.trans (hb1.mono B0.size)
  clear hb1
  try clear mx lx
  try clear mo lo zo
  try clear my ly zy
  try have mx := fun i => bx.cell i
  try have lx := bx.lt
  try have mo := fun i => bo.cell i
  try have lo := bo.lt
  try have zo := fun i => bo.frozen i
  try have my := fun i => by_.cell i
  try have ly := by_.lt
  try have zy := fun i => by_.frozen i
  go_wp2_with fail
  refine (X1.out _).mono ?_
  rintro e w5 ⟨rfl, hb1⟩
  try replace bx := bx.below hb1 bx.lt
  try replace bo := bo.below hb1 bo.lt
  try replace by_ := by_.below hb1 by_.lt
  replace B0 := B0.trans (hb1.mono B0.size)
  clear hb1
  try clear mx lx
  try clear mo lo zo
  try clear my ly zy
  try have mx := fun i => bx.cell i
  try have lx := bx.lt
  try have mo := fun i => bo.cell i
  try have lo := bo.lt
  try have zo := fun i => bo.frozen i
  try have my := fun i => by_.cell i
  try have ly := by_.lt
  try have zy := fun i => by_.frozen i
  go_wp2_with fail
  refine (WZ.out _ _ bo).mono ?_
  rintro e w6 ⟨rfl, hb1⟩
  try replace bx := bx.below hb1 bx.lt
  try replace bo := bo.below hb1 bo.lt
  try replace by_ := by_.below hb1 by_.lt
  replace B0 := B0.trans (hb1.mono B0.size)
  clear hb1
  try clear mx lx
  try clear mo lo zo
  try clear my ly zy
  try have mx := fun i => bx.cell i
  try have lx := bx.lt
  try have mo := fun i => bo.cell i
  try have lo := bo.lt
  try have zo := fun i => bo.frozen i
  try have my := fun i => by_.cell i
  try have ly := by_.lt
  try have zy := fun i => by_.frozen i
  go_wp2_with fail
  refine (G1.out _).mono ?_
  rintro e w' ⟨rfl, rfl⟩
  go_wp2_with fail
  refine (G2.out _ _ bo).mono ?_
  rintro e w' ⟨rfl, rfl⟩
  go_wp2_with fail
  refine (copy_nil _).mono ?_
  rintro e w7 ⟨rfl, hb1⟩
  try replace bx := bx.below hb1 bx.lt
  try replace bo := bo.below hb1 bo.lt
  try replace by_ := by_.below hb1 by_.lt
  replace B0 := B0.trans (hb1.mono B0.size)
  clear hb1
  try clear mx lx
  try clear mo lo zo
  try clear my ly zy
  try have mx := fun i => bx.cell i
  try have lx := bx.lt
  try have mo := fun i => bo.cell i
  try have lo := bo.lt
  try have zo := fun i => bo.frozen i
  try have my := fun i => by_.cell i
  try have ly := by_.lt
  try have zy := fun i => by_.frozen i
  go_wp2_with fail
  refine (SZ.out _).mono ?_
  rintro e w8 ⟨rfl, hb1⟩
  try replace bx := bx.below hb1 bx.lt
  try replace bo := bo.below hb1 bo.lt
  try replace by_ := by_.below hb1 by_.lt
  replace B0 := B0.trans (hb1.mono B0.size)
  clear hb1
  try clear mx lx
  try clear mo lo zo
  try clear my ly zy
  try have mx := fun i => bx.cell i
  try have lx := bx.lt
  try have mo := fun i => bo.cell i
  try have lo := bo.lt
  try have zo := fun i => bo.frozen i
  try have my := fun i => by_.cell i
  try have ly := by_.lt
  try have zy := fun i => by_.frozen i
  go_wp2_with fail
  refine (Aw.out _ B0).mono ?_
  rintro e w9 ⟨rfl, hb1⟩
  try replace bx := bx.below hb1 bx.lt
  try replace bo := bo.below hb1 bo.lt
  try replace by_ := by_.below hb1 by_.lt
  replace B0 := B0.trans (hb1.mono B0.size)
  clear hb1
  try clear mx lx
  try clear mo lo zo
  try clear my ly zy
  try have mx := fun i => bx.cell i
  try have lx := bx.lt
  try have mo := fun i => bo.cell i
  try have lo := bo.lt
  try have zo := fun i => bo.frozen i
  try have my := fun i => by_.cell i
  try have ly := by_.lt
  try have zy := fun i => by_.frozen i
  go_wp2_with fail
  go_ret
  exact ⟨rfl, B0⟩
end Go.Proofs.YtpkocgcagemnbaaDoor
