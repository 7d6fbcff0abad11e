/-
  gleaningref17.Leaves.
-/
import Derived.Test.YthmkhcmgpkngmaaDoorEntE
import Derived.Test.YthmkhcmgpkngmaaDoorHeldC
namespace Go.Proofs.YthmkhcmgpkngmaaDoor
open Go.RowKit

def recA (l : List Int) : List Value := l.flatMap fun x => [.int .i64 2, .int .i64 x, .int .u64 0, .int .u64 0]
theorem recA_app (l m : List Int) : recA (l ++ m) = recA l ++ recA m := by simp [recA]
theorem infoA : (Tryd.prog.info? 39).map (fun i => (i.zero, i.size, i.bytes)) = some (some (.agg #[.int .i64 0, .int .i64 0, .int .u64 0, .int .u64 0]), 4, 32) := by kernel_rfl
set_option maxHeartbeats 1000000 in
theorem rhaz_any (s t f l p th i : Int) (w : World) (ht : 1 ≤ t ∧ t ≤ 64) (hth : 0 ≤ th ∧ th ≤ 1000) (hi : 0 ≤ i ∧ i ≤ 1) :
    Calls Tryd.prog 64 #[.agg #[.int .i64 s, .int .i64 t, .int .i64 f, .int .i64 l, .int .i64 p], .int .i64 th, .int .i64 i] w fun e w' => e = .returned (.int .i64 (3 + t + 2 * th + i)) ∧ Below w.heap.size w w' := by
  have B0 := (Below.refl w.heap.size w).alloc (Nat.le_refl _) (.cells #[.int .i64 s, .int .i64 t, .int .i64 f, .int .i64 l, .int .i64 p] 23)
  have h0 : IntKind.i64.wrap (3 + t) = 3 + t := IntWalk.i64_in _ (by omega)
  have h1 : IntKind.i64.wrap (2 * th) = 2 * th := IntWalk.i64_in _ (by omega)
  have h2 : IntKind.i64.wrap (3 + t + 2 * th) = 3 + t + 2 * th := IntWalk.i64_in _ (by omega)
  have h3 : IntKind.i64.wrap (3 + t + 2 * th + i) = 3 + t + 2 * th + i := IntWalk.i64_in _ (by omega)
  go_enter Tryd.func64, Tryd.ntmps64
  go_wp2_with fail
  go_ret
  exact ⟨rfl, B0⟩
set_option maxRecDepth 100000 in
set_option maxHeartbeats 2000000 in
theorem rleaves_none (s t f l p th : Int) (sl : Bool) (w : World) (hno : cfgOk s t f l p = false ∨ th < 0 ∨ t ≤ th) :
    Calls Tryd.prog 29 #[.agg #[.int .i64 s, .int .i64 t, .int .i64 f, .int .i64 l, .int .i64 p], .int .i64 th, .bool sl] w fun e w' => (∃ v, e = .returned v ∧ w'.ownsRow w.heap.size 39 4 v 0 (recA [])) ∧ Below w.heap.size w w' := by
  have HASNO : ∀ w2, Calls Tryd.prog 43 #[.agg #[.int .i64 s, .int .i64 t, .int .i64 f, .int .i64 l, .int .i64 p], .int .i64 th] w2 fun e w' => e = .returned (.bool false) ∧ Below w2.heap.size w2 w' := by
    intro w2
    cases hc : cfgOk s t f l p with
    | false => exact has_wrong s t f l p th w2 hc
    | true =>
      by_cases h0 : th < 0
      · exact has_lo s t f l p th w2 hc h0
      · refine has_hi s t f l p th w2 hc (by omega) ?_
        rcases hno with h | h | h
        · rw [hc] at h; cases h
        · omega
        · exact h
  have H := hide HASNO
  clear HASNO hno
  have B0 := (Below.refl w.heap.size w).alloc (Nat.le_refl _) (.cells #[.int .i64 s, .int .i64 t, .int .i64 f, .int .i64 l, .int .i64 p] 23)
  have bx := Blk.new w 23 #[.int .i64 s, .int .i64 t, .int .i64 f, .int .i64 l, .int .i64 p]
  have mx := fun i => bx.cell i
  go_enter Tryd.func29, Tryd.ntmps29
  go_wp2_with fail
  refine (H.out _).mono ?_
  rintro e w1 ⟨rfl, hb1⟩
  replace B0 := B0.trans (hb1.mono B0.size)
  go_wp2_with fail
  go_ret
  exact ⟨⟨_, rfl, World.ownsRow_nil _ _ _ _⟩, B0⟩
set_option maxRecDepth 100000 in
set_option maxHeartbeats 2000000 in
theorem rleaves_one (s t f l p th : Int) (w : World) (hc : cfgOk s t f l p = true) (hth : 0 ≤ th ∧ th < t) :
    Calls Tryd.prog 29 #[.agg #[.int .i64 s, .int .i64 t, .int .i64 f, .int .i64 l, .int .i64 p], .int .i64 th, .bool false] w fun e w' => (∃ v, e = .returned v ∧ w'.ownsRow w.heap.size 39 4 v 1 (recA [3 + th])) ∧ Below w.heap.size w w' := by
  have hb := cfgOk_iff.1 hc
  have H := hide (fun w2 => has_yes s t f l p th w2 hc hth.1 hth.2)
  have R := hide (fun w2 => rann_any s t f l p th w2 (by omega))
  clear hc
  generalize 3 + th = q at *
  have B0 := (Below.refl w.heap.size w).alloc (Nat.le_refl _) (.cells #[.int .i64 s, .int .i64 t, .int .i64 f, .int .i64 l, .int .i64 p] 23)
  have bx := Blk.new w 23 #[.int .i64 s, .int .i64 t, .int .i64 f, .int .i64 l, .int .i64 p]
  have mx := fun i => bx.cell i
  have lx := bx.lt
  go_enter Tryd.func29, Tryd.ntmps29
  go_wp2_with fail
  refine (H.out _).mono ?_
  rintro e w1 ⟨rfl, hb1⟩
  try replace bx := bx.below hb1 bx.lt
  try replace bo := bo.below hb1 bo.lt
  try replace by_ := by_.below hb1 by_.lt
  replace B0 := B0.trans (hb1.mono B0.size)
  clear hb1
  try clear mx lx
  try clear mo lo zo
  try clear my ly zy
  try have mx := fun i => bx.cell i
  try have lx := bx.lt
  try have mo := fun i => bo.cell i
  try have lo := bo.lt
  try have zo := fun i => bo.frozen i
  try have my := fun i => by_.cell i
  try have ly := by_.lt
  try have zy := fun i => by_.frozen i
  go_wp2_with fail
  refine (R.out _).mono ?_
  rintro e w2 ⟨rfl, hb1⟩
  try replace bx := bx.below hb1 bx.lt
  try replace bo := bo.below hb1 bo.lt
  try replace by_ := by_.below hb1 by_.lt
  replace B0 := B0.trans (hb1.mono B0.size)
  clear hb1
  try clear mx lx
  try clear mo lo zo
  try clear my ly zy
  try have mx := fun i => bx.cell i
  try have lx := bx.lt
  try have mo := fun i => bo.cell i
  try have lo := bo.lt
  try have zo := fun i => bo.frozen i
  try have my := fun i => by_.cell i
  try have ly := by_.lt
  try have zy := fun i => by_.frozen i
  go_wp2_with fail
  go_ret
  exact ⟨⟨_, rfl, World.ownsRow_lit w2 #[.int .i64 2, .int .i64 q, .int .u64 0, .int .u64 0] 1 B0.size (by decide) rfl⟩, B0.alloc B0.size _⟩
end Go.Proofs.YthmkhcmgpkngmaaDoor
