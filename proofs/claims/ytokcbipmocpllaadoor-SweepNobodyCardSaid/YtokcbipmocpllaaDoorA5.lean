/-
  Package sweep: who is covered, and who goes.
-/
import Derived.Test.YtokcbipmocpllaaDoorA4
namespace Go.Proofs.YtokcbipmocpllaaDoor
open Go.RowKit

theorem W64.wf {x : Int} (h : W64 x) : (Lit.int .u64 x).wf = true := by
  show (decide (IntKind.u64.min ≤ x) && decide (x ≤ IntKind.u64.max)) = true
  rw [Bool.and_eq_true, decide_eq_true_iff, decide_eq_true_iff]
  exact h
def askRipe (r : List (Int × Int)) (ep : Int) : List Int := (r.filter fun x => ripeB x.2 ep).map (·.1)
def askOver (r : List (Int × Int)) (hz : List Int) (ep : Int) : List Int := (askRipe r ep).filter (coverB hz)
def askFree (r : List (Int × Int)) (hz : List Int) (ep : Int) : List Int := (askRipe r ep).filter fun x => !coverB hz x
def askBare (ks hz : List Int) : List Int := ks.filter fun x => !coverB hz x
def askTd (r : List (Int × Int)) (ks hz : List Int) (ep : Int) : List (Int × Bool) := (askBare ks hz).map (fun x => (x, true)) ++ (askFree r hz ep).map (fun x => (x, false))
def askL (ep : Int) (r : List (Int × Int)) (over : List Int) : List (Int × Int) := over.foldl (fun r h => r.eraseP fun x => x.1 == h && ripeB x.2 ep) r
theorem askL_next (ep : Int) (r : List (Int × Int)) (o : List Int) (k : Nat) (h : k < o.length) : askL ep r (o.take (k + 1)) = (askL ep r (o.take k)).eraseP fun x => x.1 == o[k] && ripeB x.2 ep := by
  unfold askL
  rw [List.take_succ_eq_append_getElem h, List.foldl_append]
  rfl
theorem askL_sub (ep : Int) (r : List (Int × Int)) (o : List Int) : (askL ep r o).Sublist r := by
  unfold askL
  induction o generalizing r with
  | nil => exact List.Sublist.refl _
  | cons x o ih => exact (ih _).trans List.eraseP_sublist
theorem ones_next (pre : List (Int × Bool)) (src : List Int) (b : Bool) (k : Nat) (h : k < src.length) : ones (pre ++ (src.take (k + 1)).map fun x => (x, b)) = ones (pre ++ (src.take k).map fun x => (x, b)) ++ [.int .u64 src[k], .bool b] := by
  unfold ones
  rw [List.take_succ_eq_append_getElem h, List.map_append, ← List.append_assoc, List.flatMap_append]
  simp only [List.map_cons, List.map_nil, List.flatMap_cons, List.flatMap_nil, List.append_nil]
theorem infoOne : (Tryd.prog.info? 82).map (fun i => (i.zero, i.size, i.bytes)) = some (some (.agg #[.int .u64 0, .bool false]), 2, 16) := by kernel_rfl

/-- The loops that lay what is to be done. -/
def AskI (w w4 : World) (cs : Value → Array Value) (co : Array Value) (pre : List (Int × Bool)) (src : List Int) (b : Bool) (iv : Value) (wr : World) : Prop :=
  ∃ (k n : Nat) (A : Option Addr) (c : Nat), iv = .int .i64 k ∧ k ≤ src.length ∧ n = pre.length + k ∧ wr.ownsRow w.heap.size 82 2 (.slice A n c) n (ones (pre ++ (src.take k).map fun x => (x, b))) ∧
    Blk wr w.heap.size 51 (cs (.slice A n c)) ∧ Blk wr (w.heap.size + 1) 51 co ∧ Below w.heap.size w wr ∧ KeepB 51 82 w4 wr
/-- The loop that takes who is covered off the limbo. -/
def AskO (w w4 : World) (cs : Value → Array Value) (co : Array Value) (ep : Int) (r : List (Int × Int)) (over : List Int) (iv : Value) (wr : World) : Prop :=
  ∃ (k n : Nat) (A : Option Addr) (c : Nat), iv = .int .i64 k ∧ k ≤ over.length ∧ n = (askL ep r (over.take k)).length ∧ Tr wr 31 2 (.slice A n c) n (rec2 (askL ep r (over.take k))) ∧
    Blk wr w.heap.size 51 (cs (.slice A n c)) ∧ Blk wr (w.heap.size + 1) 51 co ∧ Below w.heap.size w wr ∧ KeepB 51 51 w4 wr
set_option linter.unusedSimpArgs false in
set_option maxRecDepth 100000 in
set_option maxHeartbeats 4000000 in
theorem sasked_any (s t f l p k ep : Int) (r : List (Int × Int)) (ks hz : List Int) (td : List (Int × Bool)) (q0 q1 q2 q3 q4 pk sl hd tr : Int) (fr : List Int) (ju : Int) (v : Value) (w : World) (hv : SwV w s t f l p k ep r ks hz td q0 q1 q2 q3 q4 pk sl hd tr fr ju v) (h1 : r.length ≤ 1000) (h2 : ks.length ≤ 1000) (h3 : hz.length ≤ 1000) (hwr : ∀ x ∈ r, W64 x.1 ∧ W64 x.2) (hwk : ∀ x ∈ ks, W64 x) (hwz : ∀ x ∈ hz, W64 x) (hp : W64 ep)
    (PP : Int → Int → Int → Int → Int → Int → Int → Int → Int → Int → Prop)
    (NX : ∀ v w1, SwV w1 s t f l p k ep (askL ep r (askOver r hz ep)) (ks ++ askOver r hz ep) hz (askTd r ks hz ep) q0 q1 q2 q3 q4 pk sl hd tr fr ju v → Calls Tryd.prog 51 #[v] w1 fun e w2 => (∃ v2 k2 p0 p1 p2 p3 p4 pk2 sl2 hd2 tr2, e = .returned v2 ∧ SwV w2 s t f l p k2 ep (askL ep r (askOver r hz ep)) (ks ++ askOver r hz ep) hz (askTd r ks hz ep) p0 p1 p2 p3 p4 pk2 sl2 hd2 tr2 fr ju v2 ∧ PP k2 p0 p1 p2 p3 p4 pk2 sl2 hd2 tr2) ∧ Below w1.heap.size w1 w2) :
    Calls Tryd.prog 47 #[v] w fun e w' => (∃ v2 k2 p0 p1 p2 p3 p4 pk2 sl2 hd2 tr2, e = .returned v2 ∧ SwV w' s t f l p k2 ep (askL ep r (askOver r hz ep)) (ks ++ askOver r hz ep) hz (askTd r ks hz ep) p0 p1 p2 p3 p4 pk2 sl2 hd2 tr2 fr ju v2 ∧ PP k2 p0 p1 p2 p3 p4 pk2 sl2 hd2 tr2) ∧ Below w.heap.size w w' := by
  obtain ⟨A1, c1, A2, c2, A3, c3, A4, c4, A5, c5, rfl, t1, t2, t3, t4, t5⟩ := hv
  obtain ⟨i1, hi1, hz1, hs1, hb1⟩ := info_parts infoOne
  have B0 := ((Below.refl w.heap.size w).alloc (Nat.le_refl _) (.cells #[.slice A1 r.length c1, .slice A2 ks.length c2, .int .i64 s, .int .i64 t, .int .i64 f, .int .i64 l, .int .i64 p, .int .i64 k, .int .u64 ep, .slice A3 hz.length c3, .slice A4 td.length c4, .int .i64 q0, .int .i64 q1, .int .i64 q2, .int .i64 q3, .int .i64 q4, .int .i64 pk, .int .i64 sl, .int .u64 hd, .int .i64 tr, .slice A5 fr.length c5, .int .i64 ju] 51)).alloc (by simp only [World.size_alloc]; omega) (.cells #[.slice none 0 0, .slice none 0 0, .int .i64 0, .int .i64 0, .int .i64 0, .int .i64 0, .int .i64 0, .int .i64 0, .int .u64 0, .slice none 0 0, .slice none 0 0, .int .i64 0, .int .i64 0, .int .i64 0, .int .i64 0, .int .i64 0, .int .i64 0, .int .i64 0, .int .u64 0, .int .i64 0, .slice none 0 0, .int .i64 0] 51)
  have bs := (Blk.new w 51 #[.slice A1 r.length c1, .slice A2 ks.length c2, .int .i64 s, .int .i64 t, .int .i64 f, .int .i64 l, .int .i64 p, .int .i64 k, .int .u64 ep, .slice A3 hz.length c3, .slice A4 td.length c4, .int .i64 q0, .int .i64 q1, .int .i64 q2, .int .i64 q3, .int .i64 q4, .int .i64 pk, .int .i64 sl, .int .u64 hd, .int .i64 tr, .slice A5 fr.length c5, .int .i64 ju]).alloc (.cells #[.slice none 0 0, .slice none 0 0, .int .i64 0, .int .i64 0, .int .i64 0, .int .i64 0, .int .i64 0, .int .i64 0, .int .u64 0, .slice none 0 0, .slice none 0 0, .int .i64 0, .int .i64 0, .int .i64 0, .int .i64 0, .int .i64 0, .int .i64 0, .int .i64 0, .int .u64 0, .int .i64 0, .slice none 0 0, .int .i64 0] 51)
  have bo := Blk.new (w.alloc (.cells #[.slice A1 r.length c1, .slice A2 ks.length c2, .int .i64 s, .int .i64 t, .int .i64 f, .int .i64 l, .int .i64 p, .int .i64 k, .int .u64 ep, .slice A3 hz.length c3, .slice A4 td.length c4, .int .i64 q0, .int .i64 q1, .int .i64 q2, .int .i64 q3, .int .i64 q4, .int .i64 pk, .int .i64 sl, .int .u64 hd, .int .i64 tr, .slice A5 fr.length c5, .int .i64 ju] 51)) 51 #[.slice none 0 0, .slice none 0 0, .int .i64 0, .int .i64 0, .int .i64 0, .int .i64 0, .int .i64 0, .int .i64 0, .int .u64 0, .slice none 0 0, .slice none 0 0, .int .i64 0, .int .i64 0, .int .i64 0, .int .i64 0, .int .i64 0, .int .i64 0, .int .i64 0, .int .u64 0, .int .i64 0, .slice none 0 0, .int .i64 0]
  simp only [World.size_alloc] at bo
  have PT := hide (fun w2 (h : Tr w2 31 2 (.slice A1 r.length c1) r.length (rec2 r)) => Part_own A1 r.length c1 r ep w2 h1 h.reads hwr hp)
  have CV := hide (fun w2 (ha : Tr w2 29 1 (.slice A2 ks.length c2) ks.length (ints .u64 ks)) (hb : Tr w2 29 1 (.slice A3 hz.length c3) hz.length (ints .u64 hz)) => Covered_own A2 A3 ks.length c2 hz.length c3 ks hz w2 h2 h3 ha.reads hb.reads (fun x hx => (hwk x hx).wf) (fun x hx => (hwz x hx).wf))
  have HL1 := hide h1
  have HWR := hide hwr
  have HWZ := hide hwz
  have HP := hide hp
  have HN := hide NX
  have H123 := hide (show ks.length + r.length ≤ 2000 by omega)
  clear hwr hwk hwz hp NX
  replace t1 := (t1.alloc (.cells #[.slice A1 r.length c1, .slice A2 ks.length c2, .int .i64 s, .int .i64 t, .int .i64 f, .int .i64 l, .int .i64 p, .int .i64 k, .int .u64 ep, .slice A3 hz.length c3, .slice A4 td.length c4, .int .i64 q0, .int .i64 q1, .int .i64 q2, .int .i64 q3, .int .i64 q4, .int .i64 pk, .int .i64 sl, .int .u64 hd, .int .i64 tr, .slice A5 fr.length c5, .int .i64 ju] 51)).alloc (.cells #[.slice none 0 0, .slice none 0 0, .int .i64 0, .int .i64 0, .int .i64 0, .int .i64 0, .int .i64 0, .int .i64 0, .int .u64 0, .slice none 0 0, .slice none 0 0, .int .i64 0, .int .i64 0, .int .i64 0, .int .i64 0, .int .i64 0, .int .i64 0, .int .i64 0, .int .u64 0, .int .i64 0, .slice none 0 0, .int .i64 0] 51)
  replace t2 := (t2.alloc (.cells #[.slice A1 r.length c1, .slice A2 ks.length c2, .int .i64 s, .int .i64 t, .int .i64 f, .int .i64 l, .int .i64 p, .int .i64 k, .int .u64 ep, .slice A3 hz.length c3, .slice A4 td.length c4, .int .i64 q0, .int .i64 q1, .int .i64 q2, .int .i64 q3, .int .i64 q4, .int .i64 pk, .int .i64 sl, .int .u64 hd, .int .i64 tr, .slice A5 fr.length c5, .int .i64 ju] 51)).alloc (.cells #[.slice none 0 0, .slice none 0 0, .int .i64 0, .int .i64 0, .int .i64 0, .int .i64 0, .int .i64 0, .int .i64 0, .int .u64 0, .slice none 0 0, .slice none 0 0, .int .i64 0, .int .i64 0, .int .i64 0, .int .i64 0, .int .i64 0, .int .i64 0, .int .i64 0, .int .u64 0, .int .i64 0, .slice none 0 0, .int .i64 0] 51)
  replace t3 := (t3.alloc (.cells #[.slice A1 r.length c1, .slice A2 ks.length c2, .int .i64 s, .int .i64 t, .int .i64 f, .int .i64 l, .int .i64 p, .int .i64 k, .int .u64 ep, .slice A3 hz.length c3, .slice A4 td.length c4, .int .i64 q0, .int .i64 q1, .int .i64 q2, .int .i64 q3, .int .i64 q4, .int .i64 pk, .int .i64 sl, .int .u64 hd, .int .i64 tr, .slice A5 fr.length c5, .int .i64 ju] 51)).alloc (.cells #[.slice none 0 0, .slice none 0 0, .int .i64 0, .int .i64 0, .int .i64 0, .int .i64 0, .int .i64 0, .int .i64 0, .int .u64 0, .slice none 0 0, .slice none 0 0, .int .i64 0, .int .i64 0, .int .i64 0, .int .i64 0, .int .i64 0, .int .i64 0, .int .i64 0, .int .u64 0, .int .i64 0, .slice none 0 0, .int .i64 0] 51)
  replace t4 := (t4.alloc (.cells #[.slice A1 r.length c1, .slice A2 ks.length c2, .int .i64 s, .int .i64 t, .int .i64 f, .int .i64 l, .int .i64 p, .int .i64 k, .int .u64 ep, .slice A3 hz.length c3, .slice A4 td.length c4, .int .i64 q0, .int .i64 q1, .int .i64 q2, .int .i64 q3, .int .i64 q4, .int .i64 pk, .int .i64 sl, .int .u64 hd, .int .i64 tr, .slice A5 fr.length c5, .int .i64 ju] 51)).alloc (.cells #[.slice none 0 0, .slice none 0 0, .int .i64 0, .int .i64 0, .int .i64 0, .int .i64 0, .int .i64 0, .int .i64 0, .int .u64 0, .slice none 0 0, .slice none 0 0, .int .i64 0, .int .i64 0, .int .i64 0, .int .i64 0, .int .i64 0, .int .i64 0, .int .i64 0, .int .u64 0, .int .i64 0, .slice none 0 0, .int .i64 0] 51)
  replace t5 := (t5.alloc (.cells #[.slice A1 r.length c1, .slice A2 ks.length c2, .int .i64 s, .int .i64 t, .int .i64 f, .int .i64 l, .int .i64 p, .int .i64 k, .int .u64 ep, .slice A3 hz.length c3, .slice A4 td.length c4, .int .i64 q0, .int .i64 q1, .int .i64 q2, .int .i64 q3, .int .i64 q4, .int .i64 pk, .int .i64 sl, .int .u64 hd, .int .i64 tr, .slice A5 fr.length c5, .int .i64 ju] 51)).alloc (.cells #[.slice none 0 0, .slice none 0 0, .int .i64 0, .int .i64 0, .int .i64 0, .int .i64 0, .int .i64 0, .int .i64 0, .int .u64 0, .slice none 0 0, .slice none 0 0, .int .i64 0, .int .i64 0, .int .i64 0, .int .i64 0, .int .i64 0, .int .i64 0, .int .i64 0, .int .u64 0, .int .i64 0, .slice none 0 0, .int .i64 0] 51)
  go_enter Tryd.func47, Tryd.ntmps47
  go_wp2_with fail
  generalize (w.alloc (.cells #[.slice A1 r.length c1, .slice A2 ks.length c2, .int .i64 s, .int .i64 t, .int .i64 f, .int .i64 l, .int .i64 p, .int .i64 k, .int .u64 ep, .slice A3 hz.length c3, .slice A4 td.length c4, .int .i64 q0, .int .i64 q1, .int .i64 q2, .int .i64 q3, .int .i64 q4, .int .i64 pk, .int .i64 sl, .int .u64 hd, .int .i64 tr, .slice A5 fr.length c5, .int .i64 ju] 51)).alloc (.cells #[.slice none 0 0, .slice none 0 0, .int .i64 0, .int .i64 0, .int .i64 0, .int .i64 0, .int .i64 0, .int .i64 0, .int .u64 0, .slice none 0 0, .slice none 0 0, .int .i64 0, .int .i64 0, .int .i64 0, .int .i64 0, .int .i64 0, .int .i64 0, .int .i64 0, .int .u64 0, .int .i64 0, .slice none 0 0, .int .i64 0] 51) = w0 at *
  have ms := fun i => bs.cell i
  go_wp2_with fail
  refine (PT.out _ t1).mono ?_
  rintro e w1 ⟨⟨A6, n6, c6, A7, n7, c7, rfl, e6, e7, o6, o7⟩, hb⟩
  replace t1 := t1.below (Nat.le_refl _) hb
  replace t2 := t2.below (Nat.le_refl _) hb
  replace t3 := t3.below (Nat.le_refl _) hb
  replace t4 := t4.below (Nat.le_refl _) hb
  replace t5 := t5.below (Nat.le_refl _) hb
  replace bs := bs.below hb bs.lt
  replace bo := bo.below hb bo.lt
  replace B0 := B0.trans (hb.mono B0.size)
  have E6 := hide e6
  replace B0 := B0
  have t6 := Tr.of_own o6
  clear hb o6 o7 e6 e7 ms
  have ms := fun i => bs.cell i
  go_wp2_with fail
  refine (CV.out _ t2 t3).mono ?_
  rintro e w2 ⟨⟨A8, n8, c8, A9, n9, c9, rfl, e8, e9, o8, o9⟩, hb⟩
  replace t1 := t1.below (Nat.le_refl _) hb
  replace t2 := t2.below (Nat.le_refl _) hb
  replace t3 := t3.below (Nat.le_refl _) hb
  replace t4 := t4.below (Nat.le_refl _) hb
  replace t5 := t5.below (Nat.le_refl _) hb
  replace t6 := t6.below (Nat.le_refl _) hb
  replace bs := bs.below hb bs.lt
  replace bo := bo.below hb bo.lt
  replace B0 := B0.trans (hb.mono B0.size)
  have E9 := hide e9
  have t9 := Tr.of_own o9
  clear hb o8 o9 e8 e9 ms
  go_wp2_with fail
  refine wp_region_heldZ [] (fun w' => w'.cell? ⟨w.heap.size, 9, none⟩ = some (.slice A3 hz.length c3)) (by kernel_rfl) (by exact bs.cell 9) (fun hHeld => ?_)
  replace bs := bs.drew
  replace bo := bo.drew
  replace B0 := B0.drew
  replace t1 := t1.drew
  replace t2 := t2.drew
  replace t3 := t3.drew
  replace t4 := t4.drew
  replace t5 := t5.drew
  replace t6 := t6.drew
  replace t9 := t9.drew
  generalize w2.drew = wd at *
  refine' wpAnyZ_takeA (i := 0) (v := ?_) (opAt rfl) (by kernel_rfl) (by kernel_rfl) (by kernel_rfl) (by kernel_rfl) (fun _ _ _ h => h) (by assumption) (by rfl) (fun w hSw => ?_) ?_
  rotate_left
  · (try dsimp only at hSw); go_simp; (try with_reducible rfl)
  try simp only [Act.put, List.setIfInBounds_toArray, List.set_cons_zero, List.set_cons_succ]
  refine' wpAnyZ_takeA (i := 2) (v := ?_) (opAt rfl) (by kernel_rfl) (by kernel_rfl) (by kernel_rfl) (by kernel_rfl) (fun _ _ _ h => h) (by assumption) (by rfl) (fun w hSw => ?_) ?_
  rotate_left
  · (try dsimp only at hSw); go_simp; (try with_reducible rfl)
  try simp only [Act.put, List.setIfInBounds_toArray, List.set_cons_zero, List.set_cons_succ]
  refine' wpAnyZ_takeA (i := 3) (v := ?_) (opAt rfl) (by kernel_rfl) (by kernel_rfl) (by kernel_rfl) (by kernel_rfl) (fun _ _ _ h => h) (by assumption) (by rfl) (fun w hSw => ?_) ?_
  rotate_left
  · (try dsimp only at hSw); go_simp; (try with_reducible rfl)
  try simp only [Act.put, List.setIfInBounds_toArray, List.set_cons_zero, List.set_cons_succ]
  refine wpAnyZ_ready (rs := [1]) (by kernel_rfl) (by simp) ?_
  refine AllReadyZ.cons (opAt rfl) (fun K hK => ?_) ?_
  · skip
    go_simp
    refine (handles_own A6 n6 c6 _ _ (by rw [E6.out]; exact Nat.le_trans (List.length_filter_le _ _) HL1.out) t6.reads).mono ?_
    rintro e w3 ⟨⟨u, rfl, o10⟩, hb⟩
    replace o10 : Own w3 _ u (askRipe r ep) := o10
    replace t1 := t1.below (Nat.le_refl _) hb
    replace t2 := t2.below (Nat.le_refl _) hb
    replace t3 := t3.below (Nat.le_refl _) hb
    replace t4 := t4.below (Nat.le_refl _) hb
    replace t5 := t5.below (Nat.le_refl _) hb
    replace t9 := t9.below (Nat.le_refl _) hb
    replace bs := bs.below hb bs.lt
    replace bo := bo.below hb bo.lt
    replace B0 := B0.trans (hb.mono B0.size)
    obtain ⟨A10, c10, rfl⟩ := o10.val
    have t10 := Tr.of_own o10
    clear hb o10 t6
    try go_wp2_with fail
    refine hK.out _ _ (by exact bs.cell 9) (fun hHeld => ?_)
    clear hK K
    try simp only [Act.put, List.setIfInBounds_toArray, List.set_cons_zero, List.set_cons_succ]
    refine wpAnyZ_ready (rs := [4]) (by kernel_rfl) (by simp) ?_
    refine AllReadyZ.cons (opAt rfl) (fun K hK => ?_) ?_
    · skip
      go_simp
      refine (Covered_own A10 A3 (askRipe r ep).length c10 hz.length c3 (askRipe r ep) hz _ (by unfold askRipe; rw [List.length_map]; exact Nat.le_trans (List.length_filter_le _ _) HL1.out) h3 t10.reads t3.reads (fun x hx => by unfold askRipe at hx; rw [List.mem_map] at hx; obtain ⟨y, hy, rfl⟩ := hx; exact (HWR.out y (List.mem_filter.1 hy).1).1.wf) (fun x hx => (HWZ.out x hx).wf)).mono ?_
      rintro e w4 ⟨⟨A11, n11, c11, A12, n12, c12, rfl, e11, e12, o11, o12⟩, hb⟩
      replace t1 := t1.below (Nat.le_refl _) hb
      replace t2 := t2.below (Nat.le_refl _) hb
      replace t3 := t3.below (Nat.le_refl _) hb
      replace t4 := t4.below (Nat.le_refl _) hb
      replace t5 := t5.below (Nat.le_refl _) hb
      replace t9 := t9.below (Nat.le_refl _) hb
      replace bs := bs.below hb bs.lt
      replace bo := bo.below hb bo.lt
      replace B0 := B0.trans (hb.mono B0.size)
      have E11 := hide e11
      have E12 := hide e12
      have t11 := Tr.of_own o11
      have t12 := Tr.of_own o12
      clear hb o11 o12 e11 e12 t10
      try go_wp2_with fail
      refine hK.out _ _ (by exact bs.cell 9) (fun hHeld => ?_)
      clear hK K
      try simp only [Act.put, List.setIfInBounds_toArray, List.set_cons_zero, List.set_cons_succ]
      refine' wpAnyZ_takeA (i := 5) (v := ?_) (opAt rfl) (by kernel_rfl) (by kernel_rfl) (by kernel_rfl) (by kernel_rfl) (fun _ _ _ h => h) (by assumption) (by rfl) (fun w hSw => ?_) ?_
      rotate_left
      · (try dsimp only at hSw); go_simp; (try with_reducible rfl)
      try simp only [Act.put, List.setIfInBounds_toArray, List.set_cons_zero, List.set_cons_succ]
      refine' wpAnyZ_takeA (i := 6) (v := ?_) (opAt rfl) (by kernel_rfl) (by kernel_rfl) (by kernel_rfl) (by kernel_rfl) (fun _ _ _ h => h) (by assumption) (by rfl) (fun w hSw => ?_) ?_
      rotate_left
      · (try dsimp only at hSw); go_simp; (try with_reducible rfl)
      try simp only [Act.put, List.setIfInBounds_toArray, List.set_cons_zero, List.set_cons_succ]
      refine' wpAnyZ_takeA (i := 7) (v := ?_) (opAt rfl) (by kernel_rfl) (by kernel_rfl) (by kernel_rfl) (by kernel_rfl) (fun _ _ _ h => h) (by assumption) (by rfl) (fun w hSw => ?_) ?_
      rotate_left
      · (try dsimp only at hSw); go_simp; (try with_reducible rfl)
      try simp only [Act.put, List.setIfInBounds_toArray, List.set_cons_zero, List.set_cons_succ]
      refine' wpAnyZ_takeA (i := 8) (v := ?_) (opAt rfl) (by kernel_rfl) (by kernel_rfl) (by kernel_rfl) (by kernel_rfl) (fun _ _ _ h => h) (by assumption) (by rfl) (fun w hSw => ?_) ?_
      rotate_left
      · (try dsimp only at hSw); go_simp; (try with_reducible rfl)
      try simp only [Act.put, List.setIfInBounds_toArray, List.set_cons_zero, List.set_cons_succ]
      refine' wpAnyZ_takeA (i := 9) (v := ?_) (opAt rfl) (by kernel_rfl) (by kernel_rfl) (by kernel_rfl) (by kernel_rfl) (fun _ _ _ h => h) (by assumption) (by rfl) (fun w hSw => ?_) ?_
      rotate_left
      · (try dsimp only at hSw); go_simp; (try with_reducible rfl)
      try simp only [Act.put, List.setIfInBounds_toArray, List.set_cons_zero, List.set_cons_succ]
      refine wpAnyZ_done (by kernel_rfl) ?_ _
      have T9 : Tr w4 29 1 (.slice A9 n9 c9) n9 (ints .u64 (askBare ks hz)) := t9
      have T11 : Tr w4 29 1 (.slice A11 n11 c11) n11 (ints .u64 (askOver r hz ep)) := t11
      have T12 : Tr w4 29 1 (.slice A12 n12 c12) n12 (ints .u64 (askFree r hz ep)) := t12
      replace E9 := hide (show n9 = (askBare ks hz).length from E9.out)
      replace E11 := hide (show n11 = (askOver r hz ep).length from E11.out)
      replace E12 := hide (show n12 = (askFree r hz ep).length from E12.out)
      clear t9 t11 t12 E6 PT CV HWZ hHeld h1 h2 h3
      have HT := hide (show askTd r ks hz ep = (askBare ks hz).map (fun x => (x, true)) ++ (askFree r hz ep).map (fun x => (x, false)) from rfl)
      have LB := hide (show (askBare ks hz).length ≤ ks.length from List.length_filter_le _ _)
      have LF := hide (show (askFree r hz ep).length ≤ r.length by unfold askFree askRipe; exact Nat.le_trans (List.length_filter_le _ _) (by rw [List.length_map]; exact List.length_filter_le _ _))
      have LO := hide (show (askOver r hz ep).length ≤ r.length by unfold askOver askRipe; exact Nat.le_trans (List.length_filter_le _ _) (by rw [List.length_map]; exact List.length_filter_le _ _))
      generalize askBare ks hz = bare at *
      generalize askFree r hz ep = free at *
      generalize hOV : askOver r hz ep = over at *
      have HOV := hide hOV
      clear hOV
      generalize hTD : askTd r ks hz ep = tdl at *
      have HTD := hide hTD
      clear hTD
      clear t4
      have ms := fun i => bs.cell i
      have zs := fun i => bs.frozen i
      replace t1 := hide (t1.set_ bs (by decide) 10 (.slice none 0 0))
      replace t2 := hide (t2.set_ bs (by decide) 10 (.slice none 0 0))
      replace t3 := hide (t3.set_ bs (by decide) 10 (.slice none 0 0))
      replace t5 := hide (t5.set_ bs (by decide) 10 (.slice none 0 0))
      replace T9 := hide (T9.set_ bs (by decide) 10 (.slice none 0 0))
      replace T11 := hide (T11.set_ bs (by decide) 10 (.slice none 0 0))
      replace T12 := hide (T12.set_ bs (by decide) 10 (.slice none 0 0))
      have bs5 := bs.set_ 10 (.slice none 0 0)
      simp only [List.setIfInBounds_toArray, List.set_cons_zero, List.set_cons_succ] at bs5
      have bo5 := bo.far (p := ⟨w.heap.size, 10, none⟩) (by show w.heap.size + 1 ≠ w.heap.size; omega) (.slice none 0 0)
      replace B0 := B0.setCell (p := ⟨w.heap.size, 10, none⟩) (Nat.le_refl _) (.slice none 0 0)
      go_wp2_with fail
      generalize w4.setCell ⟨w.heap.size, 10, none⟩ (.slice none 0 0) = w5 at *
      go_loopw [44] (AskI w w5 (fun u => #[.slice A1 r.length c1, .slice A2 ks.length c2, .int .i64 s, .int .i64 t, .int .i64 f, .int .i64 l, .int .i64 p, .int .i64 k, .int .u64 ep, .slice A3 hz.length c3, u, .int .i64 q0, .int .i64 q1, .int .i64 q2, .int .i64 q3, .int .i64 q4, .int .i64 pk, .int .i64 sl, .int .u64 hd, .int .i64 tr, .slice A5 fr.length c5, .int .i64 ju]) #[.slice none 0 0, .slice none 0 0, .int .i64 0, .int .i64 0, .int .i64 0, .int .i64 0, .int .i64 0, .int .i64 0, .int .u64 0, .slice none 0 0, .slice none 0 0, .int .i64 0, .int .i64 0, .int .i64 0, .int .i64 0, .int .i64 0, .int .i64 0, .int .i64 0, .int .u64 0, .int .i64 0, .slice none 0 0, .int .i64 0] [] bare true) (fun i _ => n9 - (intOf i).toNat)
      case atStart => exact ⟨0, 0, none, 0, rfl, Nat.zero_le _, rfl, World.ownsRow_nil _ _ _ _, bs5, bo5, B0, KeepB.refl _⟩
      case round =>
        clear bs bo ms zs bs5 bo5 B0
        obtain ⟨k9, m9, Aj, cj, rfl, hk9, hm9, oa, bs, bo, hb, hkp⟩ := hrel
        dsimp only at bs
        have HM9 := hide hm9
        clear hm9
        have ez := E9.out
        by_cases hlt : k9 < n9
        · skip
          have tsrc := T9.out.keepB hkp (by decide) (by decide)
          have hkl : k9 < bare.length := by omega
          obtain ⟨a, ea, hkl2, z1⟩ := tsrc.reads.word hlt
          have ON := hide (ones_next [] bare true k9 hkl)
          generalize bare[k9] = x at *
          subst ea
          clear tsrc
          have hlt2 : (k9 : Int) < (n9 : Int) := by omega
          have hk3 : (k9 : Int) ≤ 4000 := by have := H123.out; have := LB.out; have := LF.out; have := LO.out; omega
          have HPN := hide (show m9 ≤ 4294967296 by rw [HM9.out]; have := H123.out; have := LB.out; have := LF.out; simp only [List.length_nil, List.length_map]; omega)
          have HKL := hide (show k9 + 1 ≤ bare.length from hkl)
          clear hkl hkl2 ez
          have ms := fun i => bs.cell i
          have hsz := hb.size
          go_wp2_with (at_builtin; refine wpList_append_one rfl (.tmp 49) (.tmp 52) _ rfl w.heap.size 82 i1 _ 2 16 Tryd.underlying45 hi1 hz1 hs1 hb1 rfl (by omega) (by omega) _ _ _ rfl (oa.alloc (.cells #[.int .u64 x, .bool true] 82)) wr.heap.size #[.int .u64 x, .bool true] rfl (Blk.new _ _ _) rfl rfl HPN.out (by rw [World.size_alloc]; omega) ?_; intro A13 c13 w13 oa7 hg7 hat7; have bs7 := (bs.alloc (.cells #[.int .u64 x, .bool true] 82)).grown hg7 (own_blk_ne (oa.alloc (.cells #[.int .u64 x, .bool true] 82)) (bs.alloc (.cells #[.int .u64 x, .bool true] 82)) (by decide)).symm; have bo7 := (bo.alloc (.cells #[.int .u64 x, .bool true] 82)).grown hg7 (own_blk_ne (oa.alloc (.cells #[.int .u64 x, .bool true] 82)) (bo.alloc (.cells #[.int .u64 x, .bool true] 82)) (by decide)).symm; have B7 := below_appended (hb.alloc (by omega) (.cells #[.int .u64 x, .bool true] 82)) (oa.alloc (.cells #[.int .u64 x, .bool true] 82)) hg7 (Nat.le_refl _) (by rw [World.size_alloc]; omega); have K7 := (hkp.alloc (.cells #[.int .u64 x, .bool true] 82)).appended (oa.alloc (.cells #[.int .u64 x, .bool true] 82)) (.inr rfl) hg7; clear hg7 hat7; have ms7 := fun i => bs7.cell i; have zs7 := fun i => bs7.frozen i)
          go_roundw
          case measure => simp [intOf]; omega
          case rel => exact ⟨k9 + 1, m9 + 1, A13, c13, by go_num, HKL.out, by rw [HM9.out, Nat.add_assoc], by rw [ON.out]; exact own_set1 oa7 bs7 (by decide) _, by have h9 := bs7.set_ 10 (.slice A13 (m9 + 1) c13); simpa only [List.setIfInBounds_toArray, List.set_cons_zero, List.set_cons_succ] using h9, bo7.far (p := ⟨w.heap.size, 10, none⟩) (by show w.heap.size + 1 ≠ w.heap.size; omega) _, B7.setCell (p := ⟨w.heap.size, 10, none⟩) (Nat.le_refl _) _, K7.set_ bs7 (.inl rfl) 10 _⟩
        · skip
          have hkk : k9 = bare.length := by omega
          have et : bare.take k9 = bare := List.take_of_length_le (by omega)
          rw [et, List.nil_append] at oa
          have HM2 := hide (show m9 = (bare.map fun x => (x, true)).length + 0 by rw [HM9.out, List.length_nil, List.length_map]; omega)
          have hlt2 : ¬ (k9 : Int) < (n9 : Int) := by omega
          clear hkk et HM9 ez hlt hk9
          have ms := fun i => bs.cell i
          go_wp2_with fail
          clear hlt2
          go_loopw [58] (AskI w w5 (fun u => #[.slice A1 r.length c1, .slice A2 ks.length c2, .int .i64 s, .int .i64 t, .int .i64 f, .int .i64 l, .int .i64 p, .int .i64 k, .int .u64 ep, .slice A3 hz.length c3, u, .int .i64 q0, .int .i64 q1, .int .i64 q2, .int .i64 q3, .int .i64 q4, .int .i64 pk, .int .i64 sl, .int .u64 hd, .int .i64 tr, .slice A5 fr.length c5, .int .i64 ju]) #[.slice none 0 0, .slice none 0 0, .int .i64 0, .int .i64 0, .int .i64 0, .int .i64 0, .int .i64 0, .int .i64 0, .int .u64 0, .slice none 0 0, .slice none 0 0, .int .i64 0, .int .i64 0, .int .i64 0, .int .i64 0, .int .i64 0, .int .i64 0, .int .i64 0, .int .u64 0, .int .i64 0, .slice none 0 0, .int .i64 0] (bare.map fun x => (x, true)) free false) (fun i _ => n12 - (intOf i).toNat)
          case atStart => exact ⟨0, m9, Aj, cj, rfl, Nat.zero_le _, HM2.out, by rw [List.take_zero, List.map_nil, List.append_nil]; exact oa, bs, bo, hb, hkp⟩
          case round =>
            clear oa bs bo hb hkp ms HM2
            obtain ⟨k9, m9, Aj, cj, rfl, hk9, hm9, oa, bs, bo, hb, hkp⟩ := hrel
            dsimp only at bs
            have HM9 := hide hm9
            clear hm9
            have ez := E12.out
            by_cases hlt : k9 < n12
            · skip
              have tsrc := T12.out.keepB hkp (by decide) (by decide)
              have hkl : k9 < free.length := by omega
              obtain ⟨a, ea, hkl2, z1⟩ := tsrc.reads.word hlt
              have ON := hide (ones_next (bare.map fun x => (x, true)) free false k9 hkl)
              generalize free[k9] = x at *
              subst ea
              clear tsrc
              have hlt2 : (k9 : Int) < (n12 : Int) := by omega
              have hk3 : (k9 : Int) ≤ 4000 := by have := H123.out; have := LB.out; have := LF.out; have := LO.out; omega
              have HPN := hide (show m9 ≤ 4294967296 by rw [HM9.out]; have := H123.out; have := LB.out; have := LF.out; simp only [List.length_nil, List.length_map]; omega)
              have HKL := hide (show k9 + 1 ≤ free.length from hkl)
              clear hkl hkl2 ez
              have ms := fun i => bs.cell i
              have hsz := hb.size
              go_wp2_with (at_builtin; refine wpList_append_one rfl (.tmp 63) (.tmp 66) _ rfl w.heap.size 82 i1 _ 2 16 Tryd.underlying45 hi1 hz1 hs1 hb1 rfl (by omega) (by omega) _ _ _ rfl (oa.alloc (.cells #[.int .u64 x, .bool false] 82)) wr.heap.size #[.int .u64 x, .bool false] rfl (Blk.new _ _ _) rfl rfl HPN.out (by rw [World.size_alloc]; omega) ?_; intro A13 c13 w13 oa7 hg7 hat7; have bs7 := (bs.alloc (.cells #[.int .u64 x, .bool false] 82)).grown hg7 (own_blk_ne (oa.alloc (.cells #[.int .u64 x, .bool false] 82)) (bs.alloc (.cells #[.int .u64 x, .bool false] 82)) (by decide)).symm; have bo7 := (bo.alloc (.cells #[.int .u64 x, .bool false] 82)).grown hg7 (own_blk_ne (oa.alloc (.cells #[.int .u64 x, .bool false] 82)) (bo.alloc (.cells #[.int .u64 x, .bool false] 82)) (by decide)).symm; have B7 := below_appended (hb.alloc (by omega) (.cells #[.int .u64 x, .bool false] 82)) (oa.alloc (.cells #[.int .u64 x, .bool false] 82)) hg7 (Nat.le_refl _) (by rw [World.size_alloc]; omega); have K7 := (hkp.alloc (.cells #[.int .u64 x, .bool false] 82)).appended (oa.alloc (.cells #[.int .u64 x, .bool false] 82)) (.inr rfl) hg7; clear hg7 hat7; have ms7 := fun i => bs7.cell i; have zs7 := fun i => bs7.frozen i)
              go_roundw
              case measure => simp [intOf]; omega
              case rel => exact ⟨k9 + 1, m9 + 1, A13, c13, by go_num, HKL.out, by rw [HM9.out, Nat.add_assoc], by rw [ON.out]; exact own_set1 oa7 bs7 (by decide) _, by have h9 := bs7.set_ 10 (.slice A13 (m9 + 1) c13); simpa only [List.setIfInBounds_toArray, List.set_cons_zero, List.set_cons_succ] using h9, bo7.far (p := ⟨w.heap.size, 10, none⟩) (by show w.heap.size + 1 ≠ w.heap.size; omega) _, B7.setCell (p := ⟨w.heap.size, 10, none⟩) (Nat.le_refl _) _, K7.set_ bs7 (.inl rfl) 10 _⟩
            · skip
              have hkk : k9 = free.length := by omega
              have et : free.take k9 = free := List.take_of_length_le (by omega)
              rw [et, ← HT.out] at oa
              have HM4 := hide (show m9 = tdl.length by rw [HM9.out, HT.out, List.length_append, List.length_map, List.length_map, hkk])
              have hlt2 : ¬ (k9 : Int) < (n12 : Int) := by omega
              have T4 := hide (Tr.of_own oa)
              replace t1 := hide (t1.out.keepB hkp (by decide) (by decide))
              replace t2 := hide (t2.out.keepB hkp (by decide) (by decide))
              replace t3 := hide (t3.out.keepB hkp (by decide) (by decide))
              replace t5 := hide (t5.out.keepB hkp (by decide) (by decide))
              replace T11 := hide (T11.out.keepB hkp (by decide) (by decide))
              clear hkk et HM9 ez hlt hk9 oa T9 T12 hkp
              have ms := fun i => bs.cell i
              go_wp2_with fail
              clear hlt2
              go_loopw [72] (AskO w wr (fun u => #[u, .slice A2 ks.length c2, .int .i64 s, .int .i64 t, .int .i64 f, .int .i64 l, .int .i64 p, .int .i64 k, .int .u64 ep, .slice A3 hz.length c3, .slice Aj m9 cj, .int .i64 q0, .int .i64 q1, .int .i64 q2, .int .i64 q3, .int .i64 q4, .int .i64 pk, .int .i64 sl, .int .u64 hd, .int .i64 tr, .slice A5 fr.length c5, .int .i64 ju]) #[.slice none 0 0, .slice none 0 0, .int .i64 0, .int .i64 0, .int .i64 0, .int .i64 0, .int .i64 0, .int .i64 0, .int .u64 0, .slice none 0 0, .slice none 0 0, .int .i64 0, .int .i64 0, .int .i64 0, .int .i64 0, .int .i64 0, .int .i64 0, .int .i64 0, .int .u64 0, .int .i64 0, .slice none 0 0, .int .i64 0] ep r over) (fun i _ => n11 - (intOf i).toNat)
              case atStart => exact ⟨0, r.length, A1, c1, rfl, Nat.zero_le _, by rw [List.take_zero]; rfl, by rw [List.take_zero]; exact t1.out, bs, bo, hb, KeepB.refl _⟩
              case round =>
                clear bs bo hb ms
                rename_i w6
                obtain ⟨k9, m8, Ak, ck, rfl, hk9, hm8, tk, bs, bo, hb, hkp⟩ := hrel
                dsimp only at bs
                have HM8 := hide hm8
                clear hm8
                have ez := E11.out
                by_cases hlt : k9 < n11
                · skip
                  have tsrc := T11.out.keepB hkp (by decide) (by decide)
                  have hkl : k9 < over.length := by omega
                  obtain ⟨a, ea, hkl2, z1⟩ := tsrc.reads.word hlt
                  have AL := hide (askL_next ep r over k9 hkl)
                  have SUB := hide (askL_sub ep r (over.take k9))
                  generalize over[k9] = x at *
                  generalize askL ep r (over.take k9) = rk at *
                  have hm := HM8.out
                  subst hm ea
                  clear tsrc HM8
                  have hlt2 : (k9 : Int) < (n11 : Int) := by omega
                  have hk3 : (k9 : Int) ≤ 4000 := by have := H123.out; have := LO.out; omega
                  have HKL := hide (show k9 + 1 ≤ over.length from hkl)
                  clear hkl hkl2 ez
                  have ms := fun i => bs.cell i
                  have hsz := hb.size
                  have hl1 := bs.lt
                  go_wp2_with fail
                  have bh := Blk.new wr 29 #[.int .u64 x]
                  replace bs := bs.alloc (.cells #[.int .u64 x] 29)
                  replace bo := bo.alloc (.cells #[.int .u64 x] 29)
                  replace tk := tk.alloc (.cells #[.int .u64 x] 29)
                  replace hkp := hkp.alloc (.cells #[.int .u64 x] 29)
                  replace hb := hb.alloc hb.size (.cells #[.int .u64 x] 29)
                  clear ms
                  generalize wr.alloc (.cells #[.int .u64 x] 29) = w8 at *
                  generalize wr.heap.size = g8 at *
                  refine (withoutR_any _ rk 69 #[] #[.pointer (some ⟨g8, 0, none⟩), .pointer (some ⟨w.heap.size, 0, none⟩)] (fun y => y.1 == x && ripeB y.2 ep) w8 (Nat.le_trans SUB.out.length_le HL1.out) tk (fun args w' => run_enter Tryd.func69 (by decide) (by simp [Tryd.f69]) args w') (fun y hy w' hbb => asked1_any _ _ _ _ _ _ _ _ _ _ _ _ _ _ _ _ _ _ _ _ _ ep y.1 y.2 x w' _ _ (HWR.out y (SUB.out.subset hy)).2 HP.out (bh.below hbb bh.lt) (bs.below hbb bs.lt))).mono ?_
                  rintro e w9 ⟨⟨u, rfl, o2⟩, hbb⟩
                  obtain ⟨A13, c13, rfl⟩ := o2.val
                  replace bs := bs.below hbb bs.lt
                  replace bo := bo.below hbb bo.lt
                  replace hb := hb.trans (hbb.mono hb.size)
                  replace hkp := hkp.below hbb
                  clear hbb tk bh
                  have ms := fun i => bs.cell i
                  have zs := fun i => bs.frozen i
                  go_wp2_with fail
                  go_roundw
                  case measure => simp [intOf]; omega
                  case rel => exact ⟨k9 + 1, _, A13, c13, by go_num, HKL.out, by rw [AL.out], by rw [AL.out]; exact o2.set_ bs (by decide) 0 _, by have h9 := bs.set_ 0 (.slice A13 (rk.eraseP fun y => y.1 == x && ripeB y.2 ep).length c13); simpa only [List.setIfInBounds_toArray, List.set_cons_zero, List.set_cons_succ] using h9, bo.far (p := ⟨w.heap.size, 0, none⟩) (by show w.heap.size + 1 ≠ w.heap.size; omega) _, hb.setCell (p := ⟨w.heap.size, 0, none⟩) (Nat.le_refl _) _, hkp.set_ bs (.inl rfl) 0 _⟩
                · skip
                  have hkk : k9 = over.length := by omega
                  have et : over.take k9 = over := List.take_of_length_le (by omega)
                  rw [et] at tk HM8
                  have hlt2 : ¬ (k9 : Int) < (n11 : Int) := by omega
                  have t2 := t2.out.keepB hkp (by decide) (by decide)
                  have t3 := t3.out.keepB hkp (by decide) (by decide)
                  have t4 := T4.out.keepB hkp (by decide) (by decide)
                  have t5 := t5.out.keepB hkp (by decide) (by decide)
                  have t11 := T11.out.keepB hkp (by decide) (by decide)
                  have hm := HM8.out
                  subst hm
                  have t1 := tk
                  clear tk hkk et hlt hk9 ez hkp HM8
                  generalize hRR : askL ep r over = rr at *
                  have HRR := hide hRR
                  clear hRR
                  have ms := fun i => bs.cell i
                  have zs := fun i => bs.frozen i
                  have HLO := hide (show (ks ++ over).length ≤ 1000000 by rw [List.length_append]; have := H123.out; have := LO.out; omega)
                  go_wp2_with fail
                  refine (catU_two _ _ ks over _ _ _ _ (Blk.new wr _ _) (t2.alloc _) (t11.alloc _) HLO.out).mono ?_
                  rintro e w9 ⟨⟨u, rfl, o2⟩, hbb⟩
                  replace t1 := (t1.alloc (.cells #[.slice A2 ks.length c2, .slice A11 n11 c11] 23)).below (Nat.le_refl _) hbb
                  replace t3 := (t3.alloc (.cells #[.slice A2 ks.length c2, .slice A11 n11 c11] 23)).below (Nat.le_refl _) hbb
                  replace t4 := (t4.alloc (.cells #[.slice A2 ks.length c2, .slice A11 n11 c11] 23)).below (Nat.le_refl _) hbb
                  replace t5 := (t5.alloc (.cells #[.slice A2 ks.length c2, .slice A11 n11 c11] 23)).below (Nat.le_refl _) hbb
                  replace bs := (bs.alloc (.cells #[.slice A2 ks.length c2, .slice A11 n11 c11] 23)).below hbb (bs.alloc (.cells #[.slice A2 ks.length c2, .slice A11 n11 c11] 23)).lt
                  replace bo := (bo.alloc (.cells #[.slice A2 ks.length c2, .slice A11 n11 c11] 23)).below hbb (bo.alloc (.cells #[.slice A2 ks.length c2, .slice A11 n11 c11] 23)).lt
                  replace hb := (hb.alloc hb.size (.cells #[.slice A2 ks.length c2, .slice A11 n11 c11] 23)).trans (hbb.mono (hb.alloc hb.size (.cells #[.slice A2 ks.length c2, .slice A11 n11 c11] 23)).size)
                  clear hbb t2 t11 HLO ms zs
                  generalize hKK : ks ++ over = kk at *
                  have HKK := hide hKK
                  clear hKK
                  have t2 := Tr.of_own o2
                  obtain ⟨A13, c13, rfl⟩ := t2.val
                  clear o2
                  have hm := HM4.out
                  subst hm
                  have ms := fun i => bs.cell i
                  have zs := fun i => bs.frozen i
                  replace t1 := t1.set_ bs (by decide) 1 (.slice A13 kk.length c13)
                  replace t2 := t2.set_ bs (by decide) 1 (.slice A13 kk.length c13)
                  replace t3 := t3.set_ bs (by decide) 1 (.slice A13 kk.length c13)
                  replace t4 := t4.set_ bs (by decide) 1 (.slice A13 kk.length c13)
                  replace t5 := t5.set_ bs (by decide) 1 (.slice A13 kk.length c13)
                  replace bo := bo.far (p := ⟨w.heap.size, 1, none⟩) (by show w.heap.size + 1 ≠ w.heap.size; omega) (.slice A13 kk.length c13)
                  replace hb := hb.setCell (p := ⟨w.heap.size, 1, none⟩) (Nat.le_refl _) (.slice A13 kk.length c13)
                  replace bs := bs.set_ 1 (.slice A13 kk.length c13)
                  simp only [List.setIfInBounds_toArray, List.set_cons_zero, List.set_cons_succ] at bs
                  go_wp2_with (first | (refine wpList_load_mid rfl 51 (.tmp 1) rfl w.heap.size 0 (by rfl) [.slice Ak rr.length ck, .slice A13 kk.length c13, .int .i64 s, .int .i64 t, .int .i64 f, .int .i64 l, .int .i64 p, .int .i64 k, .int .u64 ep, .slice A3 hz.length c3, .slice Aj tdl.length cj, .int .i64 q0, .int .i64 q1, .int .i64 q2, .int .i64 q3, .int .i64 q4, .int .i64 pk, .int .i64 sl, .int .u64 hd, .int .i64 tr, .slice A5 fr.length c5, .int .i64 ju] _ bs.range Tryd.underlying51 rfl (by kernel_rfl) ?_))
                  refine (HN.out _ _ ⟨_, _, _, _, _, _, _, _, _, _, rfl, t1, t2, t3, t4, t5⟩).mono ?_
                  rintro e w10 ⟨⟨v2, k2, p0, p1, p2, p3, p4, pk2, sl2, hd2, tr2, rfl, hv2, hpp⟩, hbb⟩
                  clear t1 t2 t3 t4 t5 bs ms zs
                  obtain ⟨B1, d1, B2, d2, B3, d3, B4, d4, B5, d5, rfl, t1, t2, t3, t4, t5⟩ := hv2
                  replace bo := bo.below hbb bo.lt
                  have B0 := hb.trans (hbb.mono hb.size)
                  have HPP := hide hpp
                  clear hb hbb hpp
                  go_wp2_with (first | (refine wpList_store_mid rfl 51 (.tmp 2) (.tmp 93) rfl (w.heap.size + 1) 0 #[.slice B1 rr.length d1, .slice B2 kk.length d2, .int .i64 s, .int .i64 t, .int .i64 f, .int .i64 l, .int .i64 p, .int .i64 k2, .int .u64 ep, .slice B3 hz.length d3, .slice B4 tdl.length d4, .int .i64 p0, .int .i64 p1, .int .i64 p2, .int .i64 p3, .int .i64 p4, .int .i64 pk2, .int .i64 sl2, .int .u64 hd2, .int .i64 tr2, .slice B5 fr.length d5, .int .i64 ju] (by rfl) (by rfl) (bo.there rfl) (by kernel_rfl) (by kernel_rfl) ?_))
                  replace t1 := (show Tr (w10.setCells (w.heap.size + 1) 0 [.slice B1 rr.length d1, .slice B2 kk.length d2, .int .i64 s, .int .i64 t, .int .i64 f, .int .i64 l, .int .i64 p, .int .i64 k2, .int .u64 ep, .slice B3 hz.length d3, .slice B4 tdl.length d4, .int .i64 p0, .int .i64 p1, .int .i64 p2, .int .i64 p3, .int .i64 p4, .int .i64 pk2, .int .i64 sl2, .int .u64 hd2, .int .i64 tr2, .slice B5 fr.length d5, .int .i64 ju]) _ _ _ _ _ from by rw [putL_eq]; exact Tr.putL (by decide) _ 0 bo t1)
                  replace t2 := (show Tr (w10.setCells (w.heap.size + 1) 0 [.slice B1 rr.length d1, .slice B2 kk.length d2, .int .i64 s, .int .i64 t, .int .i64 f, .int .i64 l, .int .i64 p, .int .i64 k2, .int .u64 ep, .slice B3 hz.length d3, .slice B4 tdl.length d4, .int .i64 p0, .int .i64 p1, .int .i64 p2, .int .i64 p3, .int .i64 p4, .int .i64 pk2, .int .i64 sl2, .int .u64 hd2, .int .i64 tr2, .slice B5 fr.length d5, .int .i64 ju]) _ _ _ _ _ from by rw [putL_eq]; exact Tr.putL (by decide) _ 0 bo t2)
                  replace t3 := (show Tr (w10.setCells (w.heap.size + 1) 0 [.slice B1 rr.length d1, .slice B2 kk.length d2, .int .i64 s, .int .i64 t, .int .i64 f, .int .i64 l, .int .i64 p, .int .i64 k2, .int .u64 ep, .slice B3 hz.length d3, .slice B4 tdl.length d4, .int .i64 p0, .int .i64 p1, .int .i64 p2, .int .i64 p3, .int .i64 p4, .int .i64 pk2, .int .i64 sl2, .int .u64 hd2, .int .i64 tr2, .slice B5 fr.length d5, .int .i64 ju]) _ _ _ _ _ from by rw [putL_eq]; exact Tr.putL (by decide) _ 0 bo t3)
                  replace t4 := (show Tr (w10.setCells (w.heap.size + 1) 0 [.slice B1 rr.length d1, .slice B2 kk.length d2, .int .i64 s, .int .i64 t, .int .i64 f, .int .i64 l, .int .i64 p, .int .i64 k2, .int .u64 ep, .slice B3 hz.length d3, .slice B4 tdl.length d4, .int .i64 p0, .int .i64 p1, .int .i64 p2, .int .i64 p3, .int .i64 p4, .int .i64 pk2, .int .i64 sl2, .int .u64 hd2, .int .i64 tr2, .slice B5 fr.length d5, .int .i64 ju]) _ _ _ _ _ from by rw [putL_eq]; exact Tr.putL (by decide) _ 0 bo t4)
                  replace t5 := (show Tr (w10.setCells (w.heap.size + 1) 0 [.slice B1 rr.length d1, .slice B2 kk.length d2, .int .i64 s, .int .i64 t, .int .i64 f, .int .i64 l, .int .i64 p, .int .i64 k2, .int .u64 ep, .slice B3 hz.length d3, .slice B4 tdl.length d4, .int .i64 p0, .int .i64 p1, .int .i64 p2, .int .i64 p3, .int .i64 p4, .int .i64 pk2, .int .i64 sl2, .int .u64 hd2, .int .i64 tr2, .slice B5 fr.length d5, .int .i64 ju]) _ _ _ _ _ from by rw [putL_eq]; exact Tr.putL (by decide) _ 0 bo t5)
                  replace B0 := (show Below w.heap.size w (w10.setCells (w.heap.size + 1) 0 [.slice B1 rr.length d1, .slice B2 kk.length d2, .int .i64 s, .int .i64 t, .int .i64 f, .int .i64 l, .int .i64 p, .int .i64 k2, .int .u64 ep, .slice B3 hz.length d3, .slice B4 tdl.length d4, .int .i64 p0, .int .i64 p1, .int .i64 p2, .int .i64 p3, .int .i64 p4, .int .i64 pk2, .int .i64 sl2, .int .u64 hd2, .int .i64 tr2, .slice B5 fr.length d5, .int .i64 ju]) from by rw [putL_eq]; exact Below.putL (by omega) _ _ 0 B0)
                  replace bo := (show Blk (w10.setCells (w.heap.size + 1) 0 [.slice B1 rr.length d1, .slice B2 kk.length d2, .int .i64 s, .int .i64 t, .int .i64 f, .int .i64 l, .int .i64 p, .int .i64 k2, .int .u64 ep, .slice B3 hz.length d3, .slice B4 tdl.length d4, .int .i64 p0, .int .i64 p1, .int .i64 p2, .int .i64 p3, .int .i64 p4, .int .i64 pk2, .int .i64 sl2, .int .u64 hd2, .int .i64 tr2, .slice B5 fr.length d5, .int .i64 ju]) (w.heap.size + 1) 51 #[.slice B1 rr.length d1, .slice B2 kk.length d2, .int .i64 s, .int .i64 t, .int .i64 f, .int .i64 l, .int .i64 p, .int .i64 k2, .int .u64 ep, .slice B3 hz.length d3, .slice B4 tdl.length d4, .int .i64 p0, .int .i64 p1, .int .i64 p2, .int .i64 p3, .int .i64 p4, .int .i64 pk2, .int .i64 sl2, .int .u64 hd2, .int .i64 tr2, .slice B5 fr.length d5, .int .i64 ju] from by rw [putL_eq]; have h9 := Blk.putL [.slice B1 rr.length d1, .slice B2 kk.length d2, .int .i64 s, .int .i64 t, .int .i64 f, .int .i64 l, .int .i64 p, .int .i64 k2, .int .u64 ep, .slice B3 hz.length d3, .slice B4 tdl.length d4, .int .i64 p0, .int .i64 p1, .int .i64 p2, .int .i64 p3, .int .i64 p4, .int .i64 pk2, .int .i64 sl2, .int .u64 hd2, .int .i64 tr2, .slice B5 fr.length d5, .int .i64 ju] _ _ 0 bo; simpa only [setL, List.setIfInBounds_toArray, List.set_cons_zero, List.set_cons_succ] using h9)
                  generalize w10.setCells (w.heap.size + 1) 0 [.slice B1 rr.length d1, .slice B2 kk.length d2, .int .i64 s, .int .i64 t, .int .i64 f, .int .i64 l, .int .i64 p, .int .i64 k2, .int .u64 ep, .slice B3 hz.length d3, .slice B4 tdl.length d4, .int .i64 p0, .int .i64 p1, .int .i64 p2, .int .i64 p3, .int .i64 p4, .int .i64 pk2, .int .i64 sl2, .int .u64 hd2, .int .i64 tr2, .slice B5 fr.length d5, .int .i64 ju] = w12 at *
                  have hres : (loadVar 51 ⟨w.heap.size + 1, 0, none⟩).run Tryd.prog w12 = .ok (.agg #[.slice B1 rr.length d1, .slice B2 kk.length d2, .int .i64 s, .int .i64 t, .int .i64 f, .int .i64 l, .int .i64 p, .int .i64 k2, .int .u64 ep, .slice B3 hz.length d3, .slice B4 tdl.length d4, .int .i64 p0, .int .i64 p1, .int .i64 p2, .int .i64 p3, .int .i64 p4, .int .i64 pk2, .int .i64 sl2, .int .u64 hd2, .int .i64 tr2, .slice B5 fr.length d5, .int .i64 ju]) w12 := run_loadVar_mid w12 _ 0 _ [.slice B1 rr.length d1, .slice B2 kk.length d2, .int .i64 s, .int .i64 t, .int .i64 f, .int .i64 l, .int .i64 p, .int .i64 k2, .int .u64 ep, .slice B3 hz.length d3, .slice B4 tdl.length d4, .int .i64 p0, .int .i64 p1, .int .i64 p2, .int .i64 p3, .int .i64 p4, .int .i64 pk2, .int .i64 sl2, .int .u64 hd2, .int .i64 tr2, .slice B5 fr.length d5, .int .i64 ju] _ bo.range Tryd.underlying51 rfl (by kernel_rfl)
                  refine bodyPost_ret (v := .agg #[.slice B1 rr.length d1, .slice B2 kk.length d2, .int .i64 s, .int .i64 t, .int .i64 f, .int .i64 l, .int .i64 p, .int .i64 k2, .int .u64 ep, .slice B3 hz.length d3, .slice B4 tdl.length d4, .int .i64 p0, .int .i64 p1, .int .i64 p2, .int .i64 p3, .int .i64 p4, .int .i64 pk2, .int .i64 sl2, .int .u64 hd2, .int .i64 tr2, .slice B5 fr.length d5, .int .i64 ju]) (by simp [results, Tryd.results47, Act.put, asAddr, hres]) rfl (by have h1 := HTD.out; have h2 := HKK.out; have h3 := HRR.out; have h4 := HOV.out; subst h1 h2 h3 h4; exact ⟨⟨_, k2, p0, p1, p2, p3, p4, pk2, sl2, hd2, tr2, rfl, ⟨_, _, _, _, _, _, _, _, _, _, rfl, t1, t2, t3, t4, t5⟩, HPP.out⟩, B0⟩)
    exact AllReadyZ.nil
  exact AllReadyZ.nil
end Go.Proofs.YtokcbipmocpllaaDoor

/-
  Package sweep: Took.
-/
namespace Go.Proofs.YtokcbipmocpllaaDoor
open Go.RowKit

set_option linter.unusedSimpArgs false in
set_option maxRecDepth 100000 in
set_option maxHeartbeats 4000000 in
theorem stook_0 (s t f l p ep : Int) (r : List (Int × Int)) (ks hz : List Int) (td : List (Int × Bool)) (q0 q1 q2 q3 q4 pk sl hd tr : Int) (fr : List Int) (ju : Int) (g : Int) (v : Value) (w : World) (hv : SwV w s t f l p 0 ep r ks hz td q0 q1 q2 q3 q4 pk sl hd tr fr ju v) :
    Calls Tryd.prog 20 #[v, .int .u64 g] w fun e w' => (∃ v', e = .returned v' ∧ SwV w' s t f l p 0 ep r ks hz td q0 q1 q2 q3 q4 pk sl hd tr fr 0 v') ∧ Below w.heap.size w w' := by
  obtain ⟨A1, c1, A2, c2, A3, c3, A4, c4, A5, c5, rfl, t1, t2, t3, t4, t5⟩ := hv
  have B0 := ((Below.refl w.heap.size w).alloc (Nat.le_refl _) (.cells #[.slice A1 r.length c1, .slice A2 ks.length c2, .int .i64 s, .int .i64 t, .int .i64 f, .int .i64 l, .int .i64 p, .int .i64 0, .int .u64 ep, .slice A3 hz.length c3, .slice A4 td.length c4, .int .i64 q0, .int .i64 q1, .int .i64 q2, .int .i64 q3, .int .i64 q4, .int .i64 pk, .int .i64 sl, .int .u64 hd, .int .i64 tr, .slice A5 fr.length c5, .int .i64 0] 51)).alloc (by simp only [World.size_alloc]; omega) (.cells #[.slice none 0 0, .slice none 0 0, .int .i64 0, .int .i64 0, .int .i64 0, .int .i64 0, .int .i64 0, .int .i64 0, .int .u64 0, .slice none 0 0, .slice none 0 0, .int .i64 0, .int .i64 0, .int .i64 0, .int .i64 0, .int .i64 0, .int .i64 0, .int .i64 0, .int .u64 0, .int .i64 0, .slice none 0 0, .int .i64 0] 51)
  have bs := (Blk.new w 51 #[.slice A1 r.length c1, .slice A2 ks.length c2, .int .i64 s, .int .i64 t, .int .i64 f, .int .i64 l, .int .i64 p, .int .i64 0, .int .u64 ep, .slice A3 hz.length c3, .slice A4 td.length c4, .int .i64 q0, .int .i64 q1, .int .i64 q2, .int .i64 q3, .int .i64 q4, .int .i64 pk, .int .i64 sl, .int .u64 hd, .int .i64 tr, .slice A5 fr.length c5, .int .i64 0]).alloc (.cells #[.slice none 0 0, .slice none 0 0, .int .i64 0, .int .i64 0, .int .i64 0, .int .i64 0, .int .i64 0, .int .i64 0, .int .u64 0, .slice none 0 0, .slice none 0 0, .int .i64 0, .int .i64 0, .int .i64 0, .int .i64 0, .int .i64 0, .int .i64 0, .int .i64 0, .int .u64 0, .int .i64 0, .slice none 0 0, .int .i64 0] 51)
  have bo := Blk.new (w.alloc (.cells #[.slice A1 r.length c1, .slice A2 ks.length c2, .int .i64 s, .int .i64 t, .int .i64 f, .int .i64 l, .int .i64 p, .int .i64 0, .int .u64 ep, .slice A3 hz.length c3, .slice A4 td.length c4, .int .i64 q0, .int .i64 q1, .int .i64 q2, .int .i64 q3, .int .i64 q4, .int .i64 pk, .int .i64 sl, .int .u64 hd, .int .i64 tr, .slice A5 fr.length c5, .int .i64 0] 51)) 51 #[.slice none 0 0, .slice none 0 0, .int .i64 0, .int .i64 0, .int .i64 0, .int .i64 0, .int .i64 0, .int .i64 0, .int .u64 0, .slice none 0 0, .slice none 0 0, .int .i64 0, .int .i64 0, .int .i64 0, .int .i64 0, .int .i64 0, .int .i64 0, .int .i64 0, .int .u64 0, .int .i64 0, .slice none 0 0, .int .i64 0]
  simp only [World.size_alloc] at bo
  replace t1 := (t1.alloc (.cells #[.slice A1 r.length c1, .slice A2 ks.length c2, .int .i64 s, .int .i64 t, .int .i64 f, .int .i64 l, .int .i64 p, .int .i64 0, .int .u64 ep, .slice A3 hz.length c3, .slice A4 td.length c4, .int .i64 q0, .int .i64 q1, .int .i64 q2, .int .i64 q3, .int .i64 q4, .int .i64 pk, .int .i64 sl, .int .u64 hd, .int .i64 tr, .slice A5 fr.length c5, .int .i64 0] 51)).alloc (.cells #[.slice none 0 0, .slice none 0 0, .int .i64 0, .int .i64 0, .int .i64 0, .int .i64 0, .int .i64 0, .int .i64 0, .int .u64 0, .slice none 0 0, .slice none 0 0, .int .i64 0, .int .i64 0, .int .i64 0, .int .i64 0, .int .i64 0, .int .i64 0, .int .i64 0, .int .u64 0, .int .i64 0, .slice none 0 0, .int .i64 0] 51)
  replace t2 := (t2.alloc (.cells #[.slice A1 r.length c1, .slice A2 ks.length c2, .int .i64 s, .int .i64 t, .int .i64 f, .int .i64 l, .int .i64 p, .int .i64 0, .int .u64 ep, .slice A3 hz.length c3, .slice A4 td.length c4, .int .i64 q0, .int .i64 q1, .int .i64 q2, .int .i64 q3, .int .i64 q4, .int .i64 pk, .int .i64 sl, .int .u64 hd, .int .i64 tr, .slice A5 fr.length c5, .int .i64 0] 51)).alloc (.cells #[.slice none 0 0, .slice none 0 0, .int .i64 0, .int .i64 0, .int .i64 0, .int .i64 0, .int .i64 0, .int .i64 0, .int .u64 0, .slice none 0 0, .slice none 0 0, .int .i64 0, .int .i64 0, .int .i64 0, .int .i64 0, .int .i64 0, .int .i64 0, .int .i64 0, .int .u64 0, .int .i64 0, .slice none 0 0, .int .i64 0] 51)
  replace t3 := (t3.alloc (.cells #[.slice A1 r.length c1, .slice A2 ks.length c2, .int .i64 s, .int .i64 t, .int .i64 f, .int .i64 l, .int .i64 p, .int .i64 0, .int .u64 ep, .slice A3 hz.length c3, .slice A4 td.length c4, .int .i64 q0, .int .i64 q1, .int .i64 q2, .int .i64 q3, .int .i64 q4, .int .i64 pk, .int .i64 sl, .int .u64 hd, .int .i64 tr, .slice A5 fr.length c5, .int .i64 0] 51)).alloc (.cells #[.slice none 0 0, .slice none 0 0, .int .i64 0, .int .i64 0, .int .i64 0, .int .i64 0, .int .i64 0, .int .i64 0, .int .u64 0, .slice none 0 0, .slice none 0 0, .int .i64 0, .int .i64 0, .int .i64 0, .int .i64 0, .int .i64 0, .int .i64 0, .int .i64 0, .int .u64 0, .int .i64 0, .slice none 0 0, .int .i64 0] 51)
  replace t4 := (t4.alloc (.cells #[.slice A1 r.length c1, .slice A2 ks.length c2, .int .i64 s, .int .i64 t, .int .i64 f, .int .i64 l, .int .i64 p, .int .i64 0, .int .u64 ep, .slice A3 hz.length c3, .slice A4 td.length c4, .int .i64 q0, .int .i64 q1, .int .i64 q2, .int .i64 q3, .int .i64 q4, .int .i64 pk, .int .i64 sl, .int .u64 hd, .int .i64 tr, .slice A5 fr.length c5, .int .i64 0] 51)).alloc (.cells #[.slice none 0 0, .slice none 0 0, .int .i64 0, .int .i64 0, .int .i64 0, .int .i64 0, .int .i64 0, .int .i64 0, .int .u64 0, .slice none 0 0, .slice none 0 0, .int .i64 0, .int .i64 0, .int .i64 0, .int .i64 0, .int .i64 0, .int .i64 0, .int .i64 0, .int .u64 0, .int .i64 0, .slice none 0 0, .int .i64 0] 51)
  replace t5 := (t5.alloc (.cells #[.slice A1 r.length c1, .slice A2 ks.length c2, .int .i64 s, .int .i64 t, .int .i64 f, .int .i64 l, .int .i64 p, .int .i64 0, .int .u64 ep, .slice A3 hz.length c3, .slice A4 td.length c4, .int .i64 q0, .int .i64 q1, .int .i64 q2, .int .i64 q3, .int .i64 q4, .int .i64 pk, .int .i64 sl, .int .u64 hd, .int .i64 tr, .slice A5 fr.length c5, .int .i64 0] 51)).alloc (.cells #[.slice none 0 0, .slice none 0 0, .int .i64 0, .int .i64 0, .int .i64 0, .int .i64 0, .int .i64 0, .int .i64 0, .int .u64 0, .slice none 0 0, .slice none 0 0, .int .i64 0, .int .i64 0, .int .i64 0, .int .i64 0, .int .i64 0, .int .i64 0, .int .i64 0, .int .u64 0, .int .i64 0, .slice none 0 0, .int .i64 0] 51)
  go_enter Tryd.func20, Tryd.ntmps20
  go_wp2_with (first | (refine wpList_load_mid rfl 51 (.tmp 2) rfl w.heap.size 0 (by rfl) [.slice A1 r.length c1, .slice A2 ks.length c2, .int .i64 s, .int .i64 t, .int .i64 f, .int .i64 l, .int .i64 p, .int .i64 0, .int .u64 ep, .slice A3 hz.length c3, .slice A4 td.length c4, .int .i64 q0, .int .i64 q1, .int .i64 q2, .int .i64 q3, .int .i64 q4, .int .i64 pk, .int .i64 sl, .int .u64 hd, .int .i64 tr, .slice A5 fr.length c5, .int .i64 0] _ bs.range Tryd.underlying51 rfl (by kernel_rfl) ?_) | (refine wpList_store_mid rfl 51 (.tmp 4) (.tmp 72) rfl (w.heap.size + 1) 0 #[.slice A1 r.length c1, .slice A2 ks.length c2, .int .i64 s, .int .i64 t, .int .i64 f, .int .i64 l, .int .i64 p, .int .i64 0, .int .u64 ep, .slice A3 hz.length c3, .slice A4 td.length c4, .int .i64 q0, .int .i64 q1, .int .i64 q2, .int .i64 q3, .int .i64 q4, .int .i64 pk, .int .i64 sl, .int .u64 hd, .int .i64 tr, .slice A5 fr.length c5, .int .i64 0] (by rfl) (by rfl) (bo.there rfl) (by kernel_rfl) (by kernel_rfl) ?_))
  replace t1 := (show Tr (((w.alloc (.cells #[.slice A1 r.length c1, .slice A2 ks.length c2, .int .i64 s, .int .i64 t, .int .i64 f, .int .i64 l, .int .i64 p, .int .i64 0, .int .u64 ep, .slice A3 hz.length c3, .slice A4 td.length c4, .int .i64 q0, .int .i64 q1, .int .i64 q2, .int .i64 q3, .int .i64 q4, .int .i64 pk, .int .i64 sl, .int .u64 hd, .int .i64 tr, .slice A5 fr.length c5, .int .i64 0] 51)).alloc (.cells #[.slice none 0 0, .slice none 0 0, .int .i64 0, .int .i64 0, .int .i64 0, .int .i64 0, .int .i64 0, .int .i64 0, .int .u64 0, .slice none 0 0, .slice none 0 0, .int .i64 0, .int .i64 0, .int .i64 0, .int .i64 0, .int .i64 0, .int .i64 0, .int .i64 0, .int .u64 0, .int .i64 0, .slice none 0 0, .int .i64 0] 51)).setCells (w.heap.size + 1) 0 [.slice A1 r.length c1, .slice A2 ks.length c2, .int .i64 s, .int .i64 t, .int .i64 f, .int .i64 l, .int .i64 p, .int .i64 0, .int .u64 ep, .slice A3 hz.length c3, .slice A4 td.length c4, .int .i64 q0, .int .i64 q1, .int .i64 q2, .int .i64 q3, .int .i64 q4, .int .i64 pk, .int .i64 sl, .int .u64 hd, .int .i64 tr, .slice A5 fr.length c5, .int .i64 0]) _ _ _ _ _ from by rw [putL_eq]; exact Tr.putL (by decide) _ 0 bo t1)
  replace t2 := (show Tr (((w.alloc (.cells #[.slice A1 r.length c1, .slice A2 ks.length c2, .int .i64 s, .int .i64 t, .int .i64 f, .int .i64 l, .int .i64 p, .int .i64 0, .int .u64 ep, .slice A3 hz.length c3, .slice A4 td.length c4, .int .i64 q0, .int .i64 q1, .int .i64 q2, .int .i64 q3, .int .i64 q4, .int .i64 pk, .int .i64 sl, .int .u64 hd, .int .i64 tr, .slice A5 fr.length c5, .int .i64 0] 51)).alloc (.cells #[.slice none 0 0, .slice none 0 0, .int .i64 0, .int .i64 0, .int .i64 0, .int .i64 0, .int .i64 0, .int .i64 0, .int .u64 0, .slice none 0 0, .slice none 0 0, .int .i64 0, .int .i64 0, .int .i64 0, .int .i64 0, .int .i64 0, .int .i64 0, .int .i64 0, .int .u64 0, .int .i64 0, .slice none 0 0, .int .i64 0] 51)).setCells (w.heap.size + 1) 0 [.slice A1 r.length c1, .slice A2 ks.length c2, .int .i64 s, .int .i64 t, .int .i64 f, .int .i64 l, .int .i64 p, .int .i64 0, .int .u64 ep, .slice A3 hz.length c3, .slice A4 td.length c4, .int .i64 q0, .int .i64 q1, .int .i64 q2, .int .i64 q3, .int .i64 q4, .int .i64 pk, .int .i64 sl, .int .u64 hd, .int .i64 tr, .slice A5 fr.length c5, .int .i64 0]) _ _ _ _ _ from by rw [putL_eq]; exact Tr.putL (by decide) _ 0 bo t2)
  replace t3 := (show Tr (((w.alloc (.cells #[.slice A1 r.length c1, .slice A2 ks.length c2, .int .i64 s, .int .i64 t, .int .i64 f, .int .i64 l, .int .i64 p, .int .i64 0, .int .u64 ep, .slice A3 hz.length c3, .slice A4 td.length c4, .int .i64 q0, .int .i64 q1, .int .i64 q2, .int .i64 q3, .int .i64 q4, .int .i64 pk, .int .i64 sl, .int .u64 hd, .int .i64 tr, .slice A5 fr.length c5, .int .i64 0] 51)).alloc (.cells #[.slice none 0 0, .slice none 0 0, .int .i64 0, .int .i64 0, .int .i64 0, .int .i64 0, .int .i64 0, .int .i64 0, .int .u64 0, .slice none 0 0, .slice none 0 0, .int .i64 0, .int .i64 0, .int .i64 0, .int .i64 0, .int .i64 0, .int .i64 0, .int .i64 0, .int .u64 0, .int .i64 0, .slice none 0 0, .int .i64 0] 51)).setCells (w.heap.size + 1) 0 [.slice A1 r.length c1, .slice A2 ks.length c2, .int .i64 s, .int .i64 t, .int .i64 f, .int .i64 l, .int .i64 p, .int .i64 0, .int .u64 ep, .slice A3 hz.length c3, .slice A4 td.length c4, .int .i64 q0, .int .i64 q1, .int .i64 q2, .int .i64 q3, .int .i64 q4, .int .i64 pk, .int .i64 sl, .int .u64 hd, .int .i64 tr, .slice A5 fr.length c5, .int .i64 0]) _ _ _ _ _ from by rw [putL_eq]; exact Tr.putL (by decide) _ 0 bo t3)
  replace t4 := (show Tr (((w.alloc (.cells #[.slice A1 r.length c1, .slice A2 ks.length c2, .int .i64 s, .int .i64 t, .int .i64 f, .int .i64 l, .int .i64 p, .int .i64 0, .int .u64 ep, .slice A3 hz.length c3, .slice A4 td.length c4, .int .i64 q0, .int .i64 q1, .int .i64 q2, .int .i64 q3, .int .i64 q4, .int .i64 pk, .int .i64 sl, .int .u64 hd, .int .i64 tr, .slice A5 fr.length c5, .int .i64 0] 51)).alloc (.cells #[.slice none 0 0, .slice none 0 0, .int .i64 0, .int .i64 0, .int .i64 0, .int .i64 0, .int .i64 0, .int .i64 0, .int .u64 0, .slice none 0 0, .slice none 0 0, .int .i64 0, .int .i64 0, .int .i64 0, .int .i64 0, .int .i64 0, .int .i64 0, .int .i64 0, .int .u64 0, .int .i64 0, .slice none 0 0, .int .i64 0] 51)).setCells (w.heap.size + 1) 0 [.slice A1 r.length c1, .slice A2 ks.length c2, .int .i64 s, .int .i64 t, .int .i64 f, .int .i64 l, .int .i64 p, .int .i64 0, .int .u64 ep, .slice A3 hz.length c3, .slice A4 td.length c4, .int .i64 q0, .int .i64 q1, .int .i64 q2, .int .i64 q3, .int .i64 q4, .int .i64 pk, .int .i64 sl, .int .u64 hd, .int .i64 tr, .slice A5 fr.length c5, .int .i64 0]) _ _ _ _ _ from by rw [putL_eq]; exact Tr.putL (by decide) _ 0 bo t4)
  replace t5 := (show Tr (((w.alloc (.cells #[.slice A1 r.length c1, .slice A2 ks.length c2, .int .i64 s, .int .i64 t, .int .i64 f, .int .i64 l, .int .i64 p, .int .i64 0, .int .u64 ep, .slice A3 hz.length c3, .slice A4 td.length c4, .int .i64 q0, .int .i64 q1, .int .i64 q2, .int .i64 q3, .int .i64 q4, .int .i64 pk, .int .i64 sl, .int .u64 hd, .int .i64 tr, .slice A5 fr.length c5, .int .i64 0] 51)).alloc (.cells #[.slice none 0 0, .slice none 0 0, .int .i64 0, .int .i64 0, .int .i64 0, .int .i64 0, .int .i64 0, .int .i64 0, .int .u64 0, .slice none 0 0, .slice none 0 0, .int .i64 0, .int .i64 0, .int .i64 0, .int .i64 0, .int .i64 0, .int .i64 0, .int .i64 0, .int .u64 0, .int .i64 0, .slice none 0 0, .int .i64 0] 51)).setCells (w.heap.size + 1) 0 [.slice A1 r.length c1, .slice A2 ks.length c2, .int .i64 s, .int .i64 t, .int .i64 f, .int .i64 l, .int .i64 p, .int .i64 0, .int .u64 ep, .slice A3 hz.length c3, .slice A4 td.length c4, .int .i64 q0, .int .i64 q1, .int .i64 q2, .int .i64 q3, .int .i64 q4, .int .i64 pk, .int .i64 sl, .int .u64 hd, .int .i64 tr, .slice A5 fr.length c5, .int .i64 0]) _ _ _ _ _ from by rw [putL_eq]; exact Tr.putL (by decide) _ 0 bo t5)
  replace B0 := (show Below w.heap.size w (((w.alloc (.cells #[.slice A1 r.length c1, .slice A2 ks.length c2, .int .i64 s, .int .i64 t, .int .i64 f, .int .i64 l, .int .i64 p, .int .i64 0, .int .u64 ep, .slice A3 hz.length c3, .slice A4 td.length c4, .int .i64 q0, .int .i64 q1, .int .i64 q2, .int .i64 q3, .int .i64 q4, .int .i64 pk, .int .i64 sl, .int .u64 hd, .int .i64 tr, .slice A5 fr.length c5, .int .i64 0] 51)).alloc (.cells #[.slice none 0 0, .slice none 0 0, .int .i64 0, .int .i64 0, .int .i64 0, .int .i64 0, .int .i64 0, .int .i64 0, .int .u64 0, .slice none 0 0, .slice none 0 0, .int .i64 0, .int .i64 0, .int .i64 0, .int .i64 0, .int .i64 0, .int .i64 0, .int .i64 0, .int .u64 0, .int .i64 0, .slice none 0 0, .int .i64 0] 51)).setCells (w.heap.size + 1) 0 [.slice A1 r.length c1, .slice A2 ks.length c2, .int .i64 s, .int .i64 t, .int .i64 f, .int .i64 l, .int .i64 p, .int .i64 0, .int .u64 ep, .slice A3 hz.length c3, .slice A4 td.length c4, .int .i64 q0, .int .i64 q1, .int .i64 q2, .int .i64 q3, .int .i64 q4, .int .i64 pk, .int .i64 sl, .int .u64 hd, .int .i64 tr, .slice A5 fr.length c5, .int .i64 0]) from by rw [putL_eq]; exact Below.putL (by omega) _ _ 0 B0)
  replace bo := (show Blk (((w.alloc (.cells #[.slice A1 r.length c1, .slice A2 ks.length c2, .int .i64 s, .int .i64 t, .int .i64 f, .int .i64 l, .int .i64 p, .int .i64 0, .int .u64 ep, .slice A3 hz.length c3, .slice A4 td.length c4, .int .i64 q0, .int .i64 q1, .int .i64 q2, .int .i64 q3, .int .i64 q4, .int .i64 pk, .int .i64 sl, .int .u64 hd, .int .i64 tr, .slice A5 fr.length c5, .int .i64 0] 51)).alloc (.cells #[.slice none 0 0, .slice none 0 0, .int .i64 0, .int .i64 0, .int .i64 0, .int .i64 0, .int .i64 0, .int .i64 0, .int .u64 0, .slice none 0 0, .slice none 0 0, .int .i64 0, .int .i64 0, .int .i64 0, .int .i64 0, .int .i64 0, .int .i64 0, .int .i64 0, .int .u64 0, .int .i64 0, .slice none 0 0, .int .i64 0] 51)).setCells (w.heap.size + 1) 0 [.slice A1 r.length c1, .slice A2 ks.length c2, .int .i64 s, .int .i64 t, .int .i64 f, .int .i64 l, .int .i64 p, .int .i64 0, .int .u64 ep, .slice A3 hz.length c3, .slice A4 td.length c4, .int .i64 q0, .int .i64 q1, .int .i64 q2, .int .i64 q3, .int .i64 q4, .int .i64 pk, .int .i64 sl, .int .u64 hd, .int .i64 tr, .slice A5 fr.length c5, .int .i64 0]) (w.heap.size + 1) 51 #[.slice A1 r.length c1, .slice A2 ks.length c2, .int .i64 s, .int .i64 t, .int .i64 f, .int .i64 l, .int .i64 p, .int .i64 0, .int .u64 ep, .slice A3 hz.length c3, .slice A4 td.length c4, .int .i64 q0, .int .i64 q1, .int .i64 q2, .int .i64 q3, .int .i64 q4, .int .i64 pk, .int .i64 sl, .int .u64 hd, .int .i64 tr, .slice A5 fr.length c5, .int .i64 0] from by rw [putL_eq]; have h9 := Blk.putL [.slice A1 r.length c1, .slice A2 ks.length c2, .int .i64 s, .int .i64 t, .int .i64 f, .int .i64 l, .int .i64 p, .int .i64 0, .int .u64 ep, .slice A3 hz.length c3, .slice A4 td.length c4, .int .i64 q0, .int .i64 q1, .int .i64 q2, .int .i64 q3, .int .i64 q4, .int .i64 pk, .int .i64 sl, .int .u64 hd, .int .i64 tr, .slice A5 fr.length c5, .int .i64 0] _ _ 0 bo; simpa only [setL, List.setIfInBounds_toArray, List.set_cons_zero, List.set_cons_succ] using h9)
  clear bs
  generalize ((w.alloc (.cells #[.slice A1 r.length c1, .slice A2 ks.length c2, .int .i64 s, .int .i64 t, .int .i64 f, .int .i64 l, .int .i64 p, .int .i64 0, .int .u64 ep, .slice A3 hz.length c3, .slice A4 td.length c4, .int .i64 q0, .int .i64 q1, .int .i64 q2, .int .i64 q3, .int .i64 q4, .int .i64 pk, .int .i64 sl, .int .u64 hd, .int .i64 tr, .slice A5 fr.length c5, .int .i64 0] 51)).alloc (.cells #[.slice none 0 0, .slice none 0 0, .int .i64 0, .int .i64 0, .int .i64 0, .int .i64 0, .int .i64 0, .int .i64 0, .int .u64 0, .slice none 0 0, .slice none 0 0, .int .i64 0, .int .i64 0, .int .i64 0, .int .i64 0, .int .i64 0, .int .i64 0, .int .i64 0, .int .u64 0, .int .i64 0, .slice none 0 0, .int .i64 0] 51)).setCells (w.heap.size + 1) 0 [.slice A1 r.length c1, .slice A2 ks.length c2, .int .i64 s, .int .i64 t, .int .i64 f, .int .i64 l, .int .i64 p, .int .i64 0, .int .u64 ep, .slice A3 hz.length c3, .slice A4 td.length c4, .int .i64 q0, .int .i64 q1, .int .i64 q2, .int .i64 q3, .int .i64 q4, .int .i64 pk, .int .i64 sl, .int .u64 hd, .int .i64 tr, .slice A5 fr.length c5, .int .i64 0] = w12 at *
  have hres : (loadVar 51 ⟨w.heap.size + 1, 0, none⟩).run Tryd.prog w12 = .ok (.agg #[.slice A1 r.length c1, .slice A2 ks.length c2, .int .i64 s, .int .i64 t, .int .i64 f, .int .i64 l, .int .i64 p, .int .i64 0, .int .u64 ep, .slice A3 hz.length c3, .slice A4 td.length c4, .int .i64 q0, .int .i64 q1, .int .i64 q2, .int .i64 q3, .int .i64 q4, .int .i64 pk, .int .i64 sl, .int .u64 hd, .int .i64 tr, .slice A5 fr.length c5, .int .i64 0]) w12 := run_loadVar_mid w12 _ 0 _ [.slice A1 r.length c1, .slice A2 ks.length c2, .int .i64 s, .int .i64 t, .int .i64 f, .int .i64 l, .int .i64 p, .int .i64 0, .int .u64 ep, .slice A3 hz.length c3, .slice A4 td.length c4, .int .i64 q0, .int .i64 q1, .int .i64 q2, .int .i64 q3, .int .i64 q4, .int .i64 pk, .int .i64 sl, .int .u64 hd, .int .i64 tr, .slice A5 fr.length c5, .int .i64 0] _ bo.range Tryd.underlying51 rfl (by kernel_rfl)
  refine bodyPost_ret (v := .agg #[.slice A1 r.length c1, .slice A2 ks.length c2, .int .i64 s, .int .i64 t, .int .i64 f, .int .i64 l, .int .i64 p, .int .i64 0, .int .u64 ep, .slice A3 hz.length c3, .slice A4 td.length c4, .int .i64 q0, .int .i64 q1, .int .i64 q2, .int .i64 q3, .int .i64 q4, .int .i64 pk, .int .i64 sl, .int .u64 hd, .int .i64 tr, .slice A5 fr.length c5, .int .i64 0]) (by simp [results, Tryd.results20, Act.put, asAddr, hres]) rfl ⟨⟨_, rfl, _, _, _, _, _, _, _, _, _, _, rfl, t1, t2, t3, t4, t5⟩, B0⟩
set_option linter.unusedSimpArgs false in
set_option maxRecDepth 100000 in
set_option maxHeartbeats 4000000 in
theorem stook_1r (s t f l p ep : Int) (r : List (Int × Int)) (ks hz : List Int) (td : List (Int × Bool)) (q0 q1 q2 q3 q4 pk sl hd tr : Int) (fr : List Int) (ju : Int) (g : Int) (v : Value) (w : World) (hv : SwV w s t f l p 1 ep r ks hz td q0 q1 q2 q3 q4 pk sl hd tr fr ju v) (h1 : r.length ≤ 1000) (hw : ∀ x ∈ r, W64 x.2) (hg : W64 g) (hr : (r.any fun x => ripeB x.2 g) = true) :
    Calls Tryd.prog 20 #[v, .int .u64 g] w fun e w' => (∃ v', e = .returned v' ∧ SwV w' s t f l p 2 g r ks hz td q0 q1 q2 q3 q4 pk sl hd tr fr 0 v') ∧ Below w.heap.size w w' := by
  obtain ⟨A1, c1, A2, c2, A3, c3, A4, c4, A5, c5, rfl, t1, t2, t3, t4, t5⟩ := hv
  have HR := hide hr
  clear hr
  have CF := hide (fun w2 (h : Tr w2 31 2 (.slice A1 r.length c1) r.length (rec2 r)) => containsr_any A1 r.length c1 r 44 #[.agg #[.slice A1 r.length c1, .slice A2 ks.length c2, .int .i64 s, .int .i64 t, .int .i64 f, .int .i64 l, .int .i64 p, .int .i64 2, .int .u64 g, .slice A3 hz.length c3, .slice A4 td.length c4, .int .i64 q0, .int .i64 q1, .int .i64 q2, .int .i64 q3, .int .i64 q4, .int .i64 pk, .int .i64 sl, .int .u64 hd, .int .i64 tr, .slice A5 fr.length c5, .int .i64 0]] #[] (fun x => ripeB x.2 g) w2 rfl h1 h.reads (fun args w' => run_enter Tryd.func44 (by decide) (by simp [Tryd.f44]) args w') (fun x hx w' _ => sripe_any _ _ _ _ _ _ _ _ _ _ _ _ _ _ _ _ _ _ _ _ _ g x.1 x.2 w' (hw x hx) hg))
  clear hw hg
  have B0 := ((Below.refl w.heap.size w).alloc (Nat.le_refl _) (.cells #[.slice A1 r.length c1, .slice A2 ks.length c2, .int .i64 s, .int .i64 t, .int .i64 f, .int .i64 l, .int .i64 p, .int .i64 2, .int .u64 g, .slice A3 hz.length c3, .slice A4 td.length c4, .int .i64 q0, .int .i64 q1, .int .i64 q2, .int .i64 q3, .int .i64 q4, .int .i64 pk, .int .i64 sl, .int .u64 hd, .int .i64 tr, .slice A5 fr.length c5, .int .i64 0] 51)).alloc (by simp only [World.size_alloc]; omega) (.cells #[.slice none 0 0, .slice none 0 0, .int .i64 0, .int .i64 0, .int .i64 0, .int .i64 0, .int .i64 0, .int .i64 0, .int .u64 0, .slice none 0 0, .slice none 0 0, .int .i64 0, .int .i64 0, .int .i64 0, .int .i64 0, .int .i64 0, .int .i64 0, .int .i64 0, .int .u64 0, .int .i64 0, .slice none 0 0, .int .i64 0] 51)
  have bs := (Blk.new w 51 #[.slice A1 r.length c1, .slice A2 ks.length c2, .int .i64 s, .int .i64 t, .int .i64 f, .int .i64 l, .int .i64 p, .int .i64 2, .int .u64 g, .slice A3 hz.length c3, .slice A4 td.length c4, .int .i64 q0, .int .i64 q1, .int .i64 q2, .int .i64 q3, .int .i64 q4, .int .i64 pk, .int .i64 sl, .int .u64 hd, .int .i64 tr, .slice A5 fr.length c5, .int .i64 0]).alloc (.cells #[.slice none 0 0, .slice none 0 0, .int .i64 0, .int .i64 0, .int .i64 0, .int .i64 0, .int .i64 0, .int .i64 0, .int .u64 0, .slice none 0 0, .slice none 0 0, .int .i64 0, .int .i64 0, .int .i64 0, .int .i64 0, .int .i64 0, .int .i64 0, .int .i64 0, .int .u64 0, .int .i64 0, .slice none 0 0, .int .i64 0] 51)
  have bo := Blk.new (w.alloc (.cells #[.slice A1 r.length c1, .slice A2 ks.length c2, .int .i64 s, .int .i64 t, .int .i64 f, .int .i64 l, .int .i64 p, .int .i64 2, .int .u64 g, .slice A3 hz.length c3, .slice A4 td.length c4, .int .i64 q0, .int .i64 q1, .int .i64 q2, .int .i64 q3, .int .i64 q4, .int .i64 pk, .int .i64 sl, .int .u64 hd, .int .i64 tr, .slice A5 fr.length c5, .int .i64 0] 51)) 51 #[.slice none 0 0, .slice none 0 0, .int .i64 0, .int .i64 0, .int .i64 0, .int .i64 0, .int .i64 0, .int .i64 0, .int .u64 0, .slice none 0 0, .slice none 0 0, .int .i64 0, .int .i64 0, .int .i64 0, .int .i64 0, .int .i64 0, .int .i64 0, .int .i64 0, .int .u64 0, .int .i64 0, .slice none 0 0, .int .i64 0]
  simp only [World.size_alloc] at bo
  replace t1 := (t1.alloc (.cells #[.slice A1 r.length c1, .slice A2 ks.length c2, .int .i64 s, .int .i64 t, .int .i64 f, .int .i64 l, .int .i64 p, .int .i64 2, .int .u64 g, .slice A3 hz.length c3, .slice A4 td.length c4, .int .i64 q0, .int .i64 q1, .int .i64 q2, .int .i64 q3, .int .i64 q4, .int .i64 pk, .int .i64 sl, .int .u64 hd, .int .i64 tr, .slice A5 fr.length c5, .int .i64 0] 51)).alloc (.cells #[.slice none 0 0, .slice none 0 0, .int .i64 0, .int .i64 0, .int .i64 0, .int .i64 0, .int .i64 0, .int .i64 0, .int .u64 0, .slice none 0 0, .slice none 0 0, .int .i64 0, .int .i64 0, .int .i64 0, .int .i64 0, .int .i64 0, .int .i64 0, .int .i64 0, .int .u64 0, .int .i64 0, .slice none 0 0, .int .i64 0] 51)
  replace t2 := (t2.alloc (.cells #[.slice A1 r.length c1, .slice A2 ks.length c2, .int .i64 s, .int .i64 t, .int .i64 f, .int .i64 l, .int .i64 p, .int .i64 2, .int .u64 g, .slice A3 hz.length c3, .slice A4 td.length c4, .int .i64 q0, .int .i64 q1, .int .i64 q2, .int .i64 q3, .int .i64 q4, .int .i64 pk, .int .i64 sl, .int .u64 hd, .int .i64 tr, .slice A5 fr.length c5, .int .i64 0] 51)).alloc (.cells #[.slice none 0 0, .slice none 0 0, .int .i64 0, .int .i64 0, .int .i64 0, .int .i64 0, .int .i64 0, .int .i64 0, .int .u64 0, .slice none 0 0, .slice none 0 0, .int .i64 0, .int .i64 0, .int .i64 0, .int .i64 0, .int .i64 0, .int .i64 0, .int .i64 0, .int .u64 0, .int .i64 0, .slice none 0 0, .int .i64 0] 51)
  replace t3 := (t3.alloc (.cells #[.slice A1 r.length c1, .slice A2 ks.length c2, .int .i64 s, .int .i64 t, .int .i64 f, .int .i64 l, .int .i64 p, .int .i64 2, .int .u64 g, .slice A3 hz.length c3, .slice A4 td.length c4, .int .i64 q0, .int .i64 q1, .int .i64 q2, .int .i64 q3, .int .i64 q4, .int .i64 pk, .int .i64 sl, .int .u64 hd, .int .i64 tr, .slice A5 fr.length c5, .int .i64 0] 51)).alloc (.cells #[.slice none 0 0, .slice none 0 0, .int .i64 0, .int .i64 0, .int .i64 0, .int .i64 0, .int .i64 0, .int .i64 0, .int .u64 0, .slice none 0 0, .slice none 0 0, .int .i64 0, .int .i64 0, .int .i64 0, .int .i64 0, .int .i64 0, .int .i64 0, .int .i64 0, .int .u64 0, .int .i64 0, .slice none 0 0, .int .i64 0] 51)
  replace t4 := (t4.alloc (.cells #[.slice A1 r.length c1, .slice A2 ks.length c2, .int .i64 s, .int .i64 t, .int .i64 f, .int .i64 l, .int .i64 p, .int .i64 2, .int .u64 g, .slice A3 hz.length c3, .slice A4 td.length c4, .int .i64 q0, .int .i64 q1, .int .i64 q2, .int .i64 q3, .int .i64 q4, .int .i64 pk, .int .i64 sl, .int .u64 hd, .int .i64 tr, .slice A5 fr.length c5, .int .i64 0] 51)).alloc (.cells #[.slice none 0 0, .slice none 0 0, .int .i64 0, .int .i64 0, .int .i64 0, .int .i64 0, .int .i64 0, .int .i64 0, .int .u64 0, .slice none 0 0, .slice none 0 0, .int .i64 0, .int .i64 0, .int .i64 0, .int .i64 0, .int .i64 0, .int .i64 0, .int .i64 0, .int .u64 0, .int .i64 0, .slice none 0 0, .int .i64 0] 51)
  replace t5 := (t5.alloc (.cells #[.slice A1 r.length c1, .slice A2 ks.length c2, .int .i64 s, .int .i64 t, .int .i64 f, .int .i64 l, .int .i64 p, .int .i64 2, .int .u64 g, .slice A3 hz.length c3, .slice A4 td.length c4, .int .i64 q0, .int .i64 q1, .int .i64 q2, .int .i64 q3, .int .i64 q4, .int .i64 pk, .int .i64 sl, .int .u64 hd, .int .i64 tr, .slice A5 fr.length c5, .int .i64 0] 51)).alloc (.cells #[.slice none 0 0, .slice none 0 0, .int .i64 0, .int .i64 0, .int .i64 0, .int .i64 0, .int .i64 0, .int .i64 0, .int .u64 0, .slice none 0 0, .slice none 0 0, .int .i64 0, .int .i64 0, .int .i64 0, .int .i64 0, .int .i64 0, .int .i64 0, .int .i64 0, .int .u64 0, .int .i64 0, .slice none 0 0, .int .i64 0] 51)
  go_enter Tryd.func20, Tryd.ntmps20
  go_wp2_with (first | (refine wpList_load_mid rfl 51 (.tmp 2) rfl w.heap.size 0 (by rfl) [.slice A1 r.length c1, .slice A2 ks.length c2, .int .i64 s, .int .i64 t, .int .i64 f, .int .i64 l, .int .i64 p, .int .i64 2, .int .u64 g, .slice A3 hz.length c3, .slice A4 td.length c4, .int .i64 q0, .int .i64 q1, .int .i64 q2, .int .i64 q3, .int .i64 q4, .int .i64 pk, .int .i64 sl, .int .u64 hd, .int .i64 tr, .slice A5 fr.length c5, .int .i64 0] _ bs.range Tryd.underlying51 rfl (by kernel_rfl) ?_))
  generalize ((w.alloc (.cells #[.slice A1 r.length c1, .slice A2 ks.length c2, .int .i64 s, .int .i64 t, .int .i64 f, .int .i64 l, .int .i64 p, .int .i64 2, .int .u64 g, .slice A3 hz.length c3, .slice A4 td.length c4, .int .i64 q0, .int .i64 q1, .int .i64 q2, .int .i64 q3, .int .i64 q4, .int .i64 pk, .int .i64 sl, .int .u64 hd, .int .i64 tr, .slice A5 fr.length c5, .int .i64 0] 51)).alloc (.cells #[.slice none 0 0, .slice none 0 0, .int .i64 0, .int .i64 0, .int .i64 0, .int .i64 0, .int .i64 0, .int .i64 0, .int .u64 0, .slice none 0 0, .slice none 0 0, .int .i64 0, .int .i64 0, .int .i64 0, .int .i64 0, .int .i64 0, .int .i64 0, .int .i64 0, .int .u64 0, .int .i64 0, .slice none 0 0, .int .i64 0] 51)) = w0 at *
  refine (CF.out _ t1).mono ?_
  rintro e w1 ⟨rfl, hb⟩
  replace t1 := t1.below (Nat.le_refl _) hb
  replace t2 := t2.below (Nat.le_refl _) hb
  replace t3 := t3.below (Nat.le_refl _) hb
  replace t4 := t4.below (Nat.le_refl _) hb
  replace t5 := t5.below (Nat.le_refl _) hb
  replace bs := bs.below hb bs.lt
  replace bo := bo.below hb bo.lt
  replace B0 := B0.trans (hb.mono B0.size)
  clear hb
  have ms := fun i => bs.cell i
  have zs := fun i => bs.frozen i
  rw [HR.out]
  go_wp2_with (first | (refine wpList_load_mid rfl 51 (.tmp 2) rfl w.heap.size 0 (by rfl) [.slice A1 r.length c1, .slice A2 ks.length c2, .int .i64 s, .int .i64 t, .int .i64 f, .int .i64 l, .int .i64 p, .int .i64 2, .int .u64 g, .slice A3 hz.length c3, .slice A4 td.length c4, .int .i64 q0, .int .i64 q1, .int .i64 q2, .int .i64 q3, .int .i64 q4, .int .i64 pk, .int .i64 sl, .int .u64 hd, .int .i64 tr, .slice A5 fr.length c5, .int .i64 0] _ bs.range Tryd.underlying51 rfl (by kernel_rfl) ?_) | (refine wpList_store_mid rfl 51 (.tmp 4) (.tmp 72) rfl (w.heap.size + 1) 0 #[.slice A1 r.length c1, .slice A2 ks.length c2, .int .i64 s, .int .i64 t, .int .i64 f, .int .i64 l, .int .i64 p, .int .i64 2, .int .u64 g, .slice A3 hz.length c3, .slice A4 td.length c4, .int .i64 q0, .int .i64 q1, .int .i64 q2, .int .i64 q3, .int .i64 q4, .int .i64 pk, .int .i64 sl, .int .u64 hd, .int .i64 tr, .slice A5 fr.length c5, .int .i64 0] (by rfl) (by rfl) (bo.there rfl) (by kernel_rfl) (by kernel_rfl) ?_))
  replace t1 := (show Tr (w1.setCells (w.heap.size + 1) 0 [.slice A1 r.length c1, .slice A2 ks.length c2, .int .i64 s, .int .i64 t, .int .i64 f, .int .i64 l, .int .i64 p, .int .i64 2, .int .u64 g, .slice A3 hz.length c3, .slice A4 td.length c4, .int .i64 q0, .int .i64 q1, .int .i64 q2, .int .i64 q3, .int .i64 q4, .int .i64 pk, .int .i64 sl, .int .u64 hd, .int .i64 tr, .slice A5 fr.length c5, .int .i64 0]) _ _ _ _ _ from by rw [putL_eq]; exact Tr.putL (by decide) _ 0 bo t1)
  replace t2 := (show Tr (w1.setCells (w.heap.size + 1) 0 [.slice A1 r.length c1, .slice A2 ks.length c2, .int .i64 s, .int .i64 t, .int .i64 f, .int .i64 l, .int .i64 p, .int .i64 2, .int .u64 g, .slice A3 hz.length c3, .slice A4 td.length c4, .int .i64 q0, .int .i64 q1, .int .i64 q2, .int .i64 q3, .int .i64 q4, .int .i64 pk, .int .i64 sl, .int .u64 hd, .int .i64 tr, .slice A5 fr.length c5, .int .i64 0]) _ _ _ _ _ from by rw [putL_eq]; exact Tr.putL (by decide) _ 0 bo t2)
  replace t3 := (show Tr (w1.setCells (w.heap.size + 1) 0 [.slice A1 r.length c1, .slice A2 ks.length c2, .int .i64 s, .int .i64 t, .int .i64 f, .int .i64 l, .int .i64 p, .int .i64 2, .int .u64 g, .slice A3 hz.length c3, .slice A4 td.length c4, .int .i64 q0, .int .i64 q1, .int .i64 q2, .int .i64 q3, .int .i64 q4, .int .i64 pk, .int .i64 sl, .int .u64 hd, .int .i64 tr, .slice A5 fr.length c5, .int .i64 0]) _ _ _ _ _ from by rw [putL_eq]; exact Tr.putL (by decide) _ 0 bo t3)
  replace t4 := (show Tr (w1.setCells (w.heap.size + 1) 0 [.slice A1 r.length c1, .slice A2 ks.length c2, .int .i64 s, .int .i64 t, .int .i64 f, .int .i64 l, .int .i64 p, .int .i64 2, .int .u64 g, .slice A3 hz.length c3, .slice A4 td.length c4, .int .i64 q0, .int .i64 q1, .int .i64 q2, .int .i64 q3, .int .i64 q4, .int .i64 pk, .int .i64 sl, .int .u64 hd, .int .i64 tr, .slice A5 fr.length c5, .int .i64 0]) _ _ _ _ _ from by rw [putL_eq]; exact Tr.putL (by decide) _ 0 bo t4)
  replace t5 := (show Tr (w1.setCells (w.heap.size + 1) 0 [.slice A1 r.length c1, .slice A2 ks.length c2, .int .i64 s, .int .i64 t, .int .i64 f, .int .i64 l, .int .i64 p, .int .i64 2, .int .u64 g, .slice A3 hz.length c3, .slice A4 td.length c4, .int .i64 q0, .int .i64 q1, .int .i64 q2, .int .i64 q3, .int .i64 q4, .int .i64 pk, .int .i64 sl, .int .u64 hd, .int .i64 tr, .slice A5 fr.length c5, .int .i64 0]) _ _ _ _ _ from by rw [putL_eq]; exact Tr.putL (by decide) _ 0 bo t5)
  replace B0 := (show Below w.heap.size w (w1.setCells (w.heap.size + 1) 0 [.slice A1 r.length c1, .slice A2 ks.length c2, .int .i64 s, .int .i64 t, .int .i64 f, .int .i64 l, .int .i64 p, .int .i64 2, .int .u64 g, .slice A3 hz.length c3, .slice A4 td.length c4, .int .i64 q0, .int .i64 q1, .int .i64 q2, .int .i64 q3, .int .i64 q4, .int .i64 pk, .int .i64 sl, .int .u64 hd, .int .i64 tr, .slice A5 fr.length c5, .int .i64 0]) from by rw [putL_eq]; exact Below.putL (by omega) _ _ 0 B0)
  replace bo := (show Blk (w1.setCells (w.heap.size + 1) 0 [.slice A1 r.length c1, .slice A2 ks.length c2, .int .i64 s, .int .i64 t, .int .i64 f, .int .i64 l, .int .i64 p, .int .i64 2, .int .u64 g, .slice A3 hz.length c3, .slice A4 td.length c4, .int .i64 q0, .int .i64 q1, .int .i64 q2, .int .i64 q3, .int .i64 q4, .int .i64 pk, .int .i64 sl, .int .u64 hd, .int .i64 tr, .slice A5 fr.length c5, .int .i64 0]) (w.heap.size + 1) 51 #[.slice A1 r.length c1, .slice A2 ks.length c2, .int .i64 s, .int .i64 t, .int .i64 f, .int .i64 l, .int .i64 p, .int .i64 2, .int .u64 g, .slice A3 hz.length c3, .slice A4 td.length c4, .int .i64 q0, .int .i64 q1, .int .i64 q2, .int .i64 q3, .int .i64 q4, .int .i64 pk, .int .i64 sl, .int .u64 hd, .int .i64 tr, .slice A5 fr.length c5, .int .i64 0] from by rw [putL_eq]; have h9 := Blk.putL [.slice A1 r.length c1, .slice A2 ks.length c2, .int .i64 s, .int .i64 t, .int .i64 f, .int .i64 l, .int .i64 p, .int .i64 2, .int .u64 g, .slice A3 hz.length c3, .slice A4 td.length c4, .int .i64 q0, .int .i64 q1, .int .i64 q2, .int .i64 q3, .int .i64 q4, .int .i64 pk, .int .i64 sl, .int .u64 hd, .int .i64 tr, .slice A5 fr.length c5, .int .i64 0] _ _ 0 bo; simpa only [setL, List.setIfInBounds_toArray, List.set_cons_zero, List.set_cons_succ] using h9)
  clear bs
  generalize w1.setCells (w.heap.size + 1) 0 [.slice A1 r.length c1, .slice A2 ks.length c2, .int .i64 s, .int .i64 t, .int .i64 f, .int .i64 l, .int .i64 p, .int .i64 2, .int .u64 g, .slice A3 hz.length c3, .slice A4 td.length c4, .int .i64 q0, .int .i64 q1, .int .i64 q2, .int .i64 q3, .int .i64 q4, .int .i64 pk, .int .i64 sl, .int .u64 hd, .int .i64 tr, .slice A5 fr.length c5, .int .i64 0] = w12 at *
  have hres : (loadVar 51 ⟨w.heap.size + 1, 0, none⟩).run Tryd.prog w12 = .ok (.agg #[.slice A1 r.length c1, .slice A2 ks.length c2, .int .i64 s, .int .i64 t, .int .i64 f, .int .i64 l, .int .i64 p, .int .i64 2, .int .u64 g, .slice A3 hz.length c3, .slice A4 td.length c4, .int .i64 q0, .int .i64 q1, .int .i64 q2, .int .i64 q3, .int .i64 q4, .int .i64 pk, .int .i64 sl, .int .u64 hd, .int .i64 tr, .slice A5 fr.length c5, .int .i64 0]) w12 := run_loadVar_mid w12 _ 0 _ [.slice A1 r.length c1, .slice A2 ks.length c2, .int .i64 s, .int .i64 t, .int .i64 f, .int .i64 l, .int .i64 p, .int .i64 2, .int .u64 g, .slice A3 hz.length c3, .slice A4 td.length c4, .int .i64 q0, .int .i64 q1, .int .i64 q2, .int .i64 q3, .int .i64 q4, .int .i64 pk, .int .i64 sl, .int .u64 hd, .int .i64 tr, .slice A5 fr.length c5, .int .i64 0] _ bo.range Tryd.underlying51 rfl (by kernel_rfl)
  refine bodyPost_ret (v := .agg #[.slice A1 r.length c1, .slice A2 ks.length c2, .int .i64 s, .int .i64 t, .int .i64 f, .int .i64 l, .int .i64 p, .int .i64 2, .int .u64 g, .slice A3 hz.length c3, .slice A4 td.length c4, .int .i64 q0, .int .i64 q1, .int .i64 q2, .int .i64 q3, .int .i64 q4, .int .i64 pk, .int .i64 sl, .int .u64 hd, .int .i64 tr, .slice A5 fr.length c5, .int .i64 0]) (by simp [results, Tryd.results20, Act.put, asAddr, hres]) rfl ⟨⟨_, rfl, _, _, _, _, _, _, _, _, _, _, rfl, t1, t2, t3, t4, t5⟩, B0⟩
set_option linter.unusedSimpArgs false in
set_option maxRecDepth 100000 in
set_option maxHeartbeats 4000000 in
theorem stook_1k (s t f l p ep : Int) (r : List (Int × Int)) (ks hz : List Int) (td : List (Int × Bool)) (q0 q1 q2 q3 q4 pk sl hd tr : Int) (fr : List Int) (ju : Int) (g : Int) (v : Value) (w : World) (hv : SwV w s t f l p 1 ep r ks hz td q0 q1 q2 q3 q4 pk sl hd tr fr ju v) (h1 : r.length ≤ 1000) (hw : ∀ x ∈ r, W64 x.2) (hg : W64 g) (hr : (r.any fun x => ripeB x.2 g) = false) (hk : 0 < ks.length) :
    Calls Tryd.prog 20 #[v, .int .u64 g] w fun e w' => (∃ v', e = .returned v' ∧ SwV w' s t f l p 2 g r ks hz td q0 q1 q2 q3 q4 pk sl hd tr fr 0 v') ∧ Below w.heap.size w w' := by
  obtain ⟨A1, c1, A2, c2, A3, c3, A4, c4, A5, c5, rfl, t1, t2, t3, t4, t5⟩ := hv
  have HR := hide hr
  clear hr
  have hk2 : ((ks.length : Int) == 0) = false := by rw [beq_eq_false_iff_ne]; omega
  have hk3 : (ks.length == 0) = false := by rw [beq_eq_false_iff_ne]; omega
  clear hk
  have CF := hide (fun w2 (h : Tr w2 31 2 (.slice A1 r.length c1) r.length (rec2 r)) => containsr_any A1 r.length c1 r 44 #[.agg #[.slice A1 r.length c1, .slice A2 ks.length c2, .int .i64 s, .int .i64 t, .int .i64 f, .int .i64 l, .int .i64 p, .int .i64 2, .int .u64 g, .slice A3 hz.length c3, .slice A4 td.length c4, .int .i64 q0, .int .i64 q1, .int .i64 q2, .int .i64 q3, .int .i64 q4, .int .i64 pk, .int .i64 sl, .int .u64 hd, .int .i64 tr, .slice A5 fr.length c5, .int .i64 0]] #[] (fun x => ripeB x.2 g) w2 rfl h1 h.reads (fun args w' => run_enter Tryd.func44 (by decide) (by simp [Tryd.f44]) args w') (fun x hx w' _ => sripe_any _ _ _ _ _ _ _ _ _ _ _ _ _ _ _ _ _ _ _ _ _ g x.1 x.2 w' (hw x hx) hg))
  clear hw hg
  have B0 := ((Below.refl w.heap.size w).alloc (Nat.le_refl _) (.cells #[.slice A1 r.length c1, .slice A2 ks.length c2, .int .i64 s, .int .i64 t, .int .i64 f, .int .i64 l, .int .i64 p, .int .i64 2, .int .u64 g, .slice A3 hz.length c3, .slice A4 td.length c4, .int .i64 q0, .int .i64 q1, .int .i64 q2, .int .i64 q3, .int .i64 q4, .int .i64 pk, .int .i64 sl, .int .u64 hd, .int .i64 tr, .slice A5 fr.length c5, .int .i64 0] 51)).alloc (by simp only [World.size_alloc]; omega) (.cells #[.slice none 0 0, .slice none 0 0, .int .i64 0, .int .i64 0, .int .i64 0, .int .i64 0, .int .i64 0, .int .i64 0, .int .u64 0, .slice none 0 0, .slice none 0 0, .int .i64 0, .int .i64 0, .int .i64 0, .int .i64 0, .int .i64 0, .int .i64 0, .int .i64 0, .int .u64 0, .int .i64 0, .slice none 0 0, .int .i64 0] 51)
  have bs := (Blk.new w 51 #[.slice A1 r.length c1, .slice A2 ks.length c2, .int .i64 s, .int .i64 t, .int .i64 f, .int .i64 l, .int .i64 p, .int .i64 2, .int .u64 g, .slice A3 hz.length c3, .slice A4 td.length c4, .int .i64 q0, .int .i64 q1, .int .i64 q2, .int .i64 q3, .int .i64 q4, .int .i64 pk, .int .i64 sl, .int .u64 hd, .int .i64 tr, .slice A5 fr.length c5, .int .i64 0]).alloc (.cells #[.slice none 0 0, .slice none 0 0, .int .i64 0, .int .i64 0, .int .i64 0, .int .i64 0, .int .i64 0, .int .i64 0, .int .u64 0, .slice none 0 0, .slice none 0 0, .int .i64 0, .int .i64 0, .int .i64 0, .int .i64 0, .int .i64 0, .int .i64 0, .int .i64 0, .int .u64 0, .int .i64 0, .slice none 0 0, .int .i64 0] 51)
  have bo := Blk.new (w.alloc (.cells #[.slice A1 r.length c1, .slice A2 ks.length c2, .int .i64 s, .int .i64 t, .int .i64 f, .int .i64 l, .int .i64 p, .int .i64 2, .int .u64 g, .slice A3 hz.length c3, .slice A4 td.length c4, .int .i64 q0, .int .i64 q1, .int .i64 q2, .int .i64 q3, .int .i64 q4, .int .i64 pk, .int .i64 sl, .int .u64 hd, .int .i64 tr, .slice A5 fr.length c5, .int .i64 0] 51)) 51 #[.slice none 0 0, .slice none 0 0, .int .i64 0, .int .i64 0, .int .i64 0, .int .i64 0, .int .i64 0, .int .i64 0, .int .u64 0, .slice none 0 0, .slice none 0 0, .int .i64 0, .int .i64 0, .int .i64 0, .int .i64 0, .int .i64 0, .int .i64 0, .int .i64 0, .int .u64 0, .int .i64 0, .slice none 0 0, .int .i64 0]
  simp only [World.size_alloc] at bo
  replace t1 := (t1.alloc (.cells #[.slice A1 r.length c1, .slice A2 ks.length c2, .int .i64 s, .int .i64 t, .int .i64 f, .int .i64 l, .int .i64 p, .int .i64 2, .int .u64 g, .slice A3 hz.length c3, .slice A4 td.length c4, .int .i64 q0, .int .i64 q1, .int .i64 q2, .int .i64 q3, .int .i64 q4, .int .i64 pk, .int .i64 sl, .int .u64 hd, .int .i64 tr, .slice A5 fr.length c5, .int .i64 0] 51)).alloc (.cells #[.slice none 0 0, .slice none 0 0, .int .i64 0, .int .i64 0, .int .i64 0, .int .i64 0, .int .i64 0, .int .i64 0, .int .u64 0, .slice none 0 0, .slice none 0 0, .int .i64 0, .int .i64 0, .int .i64 0, .int .i64 0, .int .i64 0, .int .i64 0, .int .i64 0, .int .u64 0, .int .i64 0, .slice none 0 0, .int .i64 0] 51)
  replace t2 := (t2.alloc (.cells #[.slice A1 r.length c1, .slice A2 ks.length c2, .int .i64 s, .int .i64 t, .int .i64 f, .int .i64 l, .int .i64 p, .int .i64 2, .int .u64 g, .slice A3 hz.length c3, .slice A4 td.length c4, .int .i64 q0, .int .i64 q1, .int .i64 q2, .int .i64 q3, .int .i64 q4, .int .i64 pk, .int .i64 sl, .int .u64 hd, .int .i64 tr, .slice A5 fr.length c5, .int .i64 0] 51)).alloc (.cells #[.slice none 0 0, .slice none 0 0, .int .i64 0, .int .i64 0, .int .i64 0, .int .i64 0, .int .i64 0, .int .i64 0, .int .u64 0, .slice none 0 0, .slice none 0 0, .int .i64 0, .int .i64 0, .int .i64 0, .int .i64 0, .int .i64 0, .int .i64 0, .int .i64 0, .int .u64 0, .int .i64 0, .slice none 0 0, .int .i64 0] 51)
  replace t3 := (t3.alloc (.cells #[.slice A1 r.length c1, .slice A2 ks.length c2, .int .i64 s, .int .i64 t, .int .i64 f, .int .i64 l, .int .i64 p, .int .i64 2, .int .u64 g, .slice A3 hz.length c3, .slice A4 td.length c4, .int .i64 q0, .int .i64 q1, .int .i64 q2, .int .i64 q3, .int .i64 q4, .int .i64 pk, .int .i64 sl, .int .u64 hd, .int .i64 tr, .slice A5 fr.length c5, .int .i64 0] 51)).alloc (.cells #[.slice none 0 0, .slice none 0 0, .int .i64 0, .int .i64 0, .int .i64 0, .int .i64 0, .int .i64 0, .int .i64 0, .int .u64 0, .slice none 0 0, .slice none 0 0, .int .i64 0, .int .i64 0, .int .i64 0, .int .i64 0, .int .i64 0, .int .i64 0, .int .i64 0, .int .u64 0, .int .i64 0, .slice none 0 0, .int .i64 0] 51)
  replace t4 := (t4.alloc (.cells #[.slice A1 r.length c1, .slice A2 ks.length c2, .int .i64 s, .int .i64 t, .int .i64 f, .int .i64 l, .int .i64 p, .int .i64 2, .int .u64 g, .slice A3 hz.length c3, .slice A4 td.length c4, .int .i64 q0, .int .i64 q1, .int .i64 q2, .int .i64 q3, .int .i64 q4, .int .i64 pk, .int .i64 sl, .int .u64 hd, .int .i64 tr, .slice A5 fr.length c5, .int .i64 0] 51)).alloc (.cells #[.slice none 0 0, .slice none 0 0, .int .i64 0, .int .i64 0, .int .i64 0, .int .i64 0, .int .i64 0, .int .i64 0, .int .u64 0, .slice none 0 0, .slice none 0 0, .int .i64 0, .int .i64 0, .int .i64 0, .int .i64 0, .int .i64 0, .int .i64 0, .int .i64 0, .int .u64 0, .int .i64 0, .slice none 0 0, .int .i64 0] 51)
  replace t5 := (t5.alloc (.cells #[.slice A1 r.length c1, .slice A2 ks.length c2, .int .i64 s, .int .i64 t, .int .i64 f, .int .i64 l, .int .i64 p, .int .i64 2, .int .u64 g, .slice A3 hz.length c3, .slice A4 td.length c4, .int .i64 q0, .int .i64 q1, .int .i64 q2, .int .i64 q3, .int .i64 q4, .int .i64 pk, .int .i64 sl, .int .u64 hd, .int .i64 tr, .slice A5 fr.length c5, .int .i64 0] 51)).alloc (.cells #[.slice none 0 0, .slice none 0 0, .int .i64 0, .int .i64 0, .int .i64 0, .int .i64 0, .int .i64 0, .int .i64 0, .int .u64 0, .slice none 0 0, .slice none 0 0, .int .i64 0, .int .i64 0, .int .i64 0, .int .i64 0, .int .i64 0, .int .i64 0, .int .i64 0, .int .u64 0, .int .i64 0, .slice none 0 0, .int .i64 0] 51)
  go_enter Tryd.func20, Tryd.ntmps20
  go_wp2_with (first | (refine wpList_load_mid rfl 51 (.tmp 2) rfl w.heap.size 0 (by rfl) [.slice A1 r.length c1, .slice A2 ks.length c2, .int .i64 s, .int .i64 t, .int .i64 f, .int .i64 l, .int .i64 p, .int .i64 2, .int .u64 g, .slice A3 hz.length c3, .slice A4 td.length c4, .int .i64 q0, .int .i64 q1, .int .i64 q2, .int .i64 q3, .int .i64 q4, .int .i64 pk, .int .i64 sl, .int .u64 hd, .int .i64 tr, .slice A5 fr.length c5, .int .i64 0] _ bs.range Tryd.underlying51 rfl (by kernel_rfl) ?_))
  generalize ((w.alloc (.cells #[.slice A1 r.length c1, .slice A2 ks.length c2, .int .i64 s, .int .i64 t, .int .i64 f, .int .i64 l, .int .i64 p, .int .i64 2, .int .u64 g, .slice A3 hz.length c3, .slice A4 td.length c4, .int .i64 q0, .int .i64 q1, .int .i64 q2, .int .i64 q3, .int .i64 q4, .int .i64 pk, .int .i64 sl, .int .u64 hd, .int .i64 tr, .slice A5 fr.length c5, .int .i64 0] 51)).alloc (.cells #[.slice none 0 0, .slice none 0 0, .int .i64 0, .int .i64 0, .int .i64 0, .int .i64 0, .int .i64 0, .int .i64 0, .int .u64 0, .slice none 0 0, .slice none 0 0, .int .i64 0, .int .i64 0, .int .i64 0, .int .i64 0, .int .i64 0, .int .i64 0, .int .i64 0, .int .u64 0, .int .i64 0, .slice none 0 0, .int .i64 0] 51)) = w0 at *
  refine (CF.out _ t1).mono ?_
  rintro e w1 ⟨rfl, hb⟩
  replace t1 := t1.below (Nat.le_refl _) hb
  replace t2 := t2.below (Nat.le_refl _) hb
  replace t3 := t3.below (Nat.le_refl _) hb
  replace t4 := t4.below (Nat.le_refl _) hb
  replace t5 := t5.below (Nat.le_refl _) hb
  replace bs := bs.below hb bs.lt
  replace bo := bo.below hb bo.lt
  replace B0 := B0.trans (hb.mono B0.size)
  clear hb
  have ms := fun i => bs.cell i
  have zs := fun i => bs.frozen i
  rw [HR.out]
  go_wp2_with (first | (refine wpList_load_mid rfl 51 (.tmp 2) rfl w.heap.size 0 (by rfl) [.slice A1 r.length c1, .slice A2 ks.length c2, .int .i64 s, .int .i64 t, .int .i64 f, .int .i64 l, .int .i64 p, .int .i64 2, .int .u64 g, .slice A3 hz.length c3, .slice A4 td.length c4, .int .i64 q0, .int .i64 q1, .int .i64 q2, .int .i64 q3, .int .i64 q4, .int .i64 pk, .int .i64 sl, .int .u64 hd, .int .i64 tr, .slice A5 fr.length c5, .int .i64 0] _ bs.range Tryd.underlying51 rfl (by kernel_rfl) ?_) | (refine wpList_store_mid rfl 51 (.tmp 4) (.tmp 72) rfl (w.heap.size + 1) 0 #[.slice A1 r.length c1, .slice A2 ks.length c2, .int .i64 s, .int .i64 t, .int .i64 f, .int .i64 l, .int .i64 p, .int .i64 2, .int .u64 g, .slice A3 hz.length c3, .slice A4 td.length c4, .int .i64 q0, .int .i64 q1, .int .i64 q2, .int .i64 q3, .int .i64 q4, .int .i64 pk, .int .i64 sl, .int .u64 hd, .int .i64 tr, .slice A5 fr.length c5, .int .i64 0] (by rfl) (by rfl) (bo.there rfl) (by kernel_rfl) (by kernel_rfl) ?_))
  replace t1 := (show Tr (w1.setCells (w.heap.size + 1) 0 [.slice A1 r.length c1, .slice A2 ks.length c2, .int .i64 s, .int .i64 t, .int .i64 f, .int .i64 l, .int .i64 p, .int .i64 2, .int .u64 g, .slice A3 hz.length c3, .slice A4 td.length c4, .int .i64 q0, .int .i64 q1, .int .i64 q2, .int .i64 q3, .int .i64 q4, .int .i64 pk, .int .i64 sl, .int .u64 hd, .int .i64 tr, .slice A5 fr.length c5, .int .i64 0]) _ _ _ _ _ from by rw [putL_eq]; exact Tr.putL (by decide) _ 0 bo t1)
  replace t2 := (show Tr (w1.setCells (w.heap.size + 1) 0 [.slice A1 r.length c1, .slice A2 ks.length c2, .int .i64 s, .int .i64 t, .int .i64 f, .int .i64 l, .int .i64 p, .int .i64 2, .int .u64 g, .slice A3 hz.length c3, .slice A4 td.length c4, .int .i64 q0, .int .i64 q1, .int .i64 q2, .int .i64 q3, .int .i64 q4, .int .i64 pk, .int .i64 sl, .int .u64 hd, .int .i64 tr, .slice A5 fr.length c5, .int .i64 0]) _ _ _ _ _ from by rw [putL_eq]; exact Tr.putL (by decide) _ 0 bo t2)
  replace t3 := (show Tr (w1.setCells (w.heap.size + 1) 0 [.slice A1 r.length c1, .slice A2 ks.length c2, .int .i64 s, .int .i64 t, .int .i64 f, .int .i64 l, .int .i64 p, .int .i64 2, .int .u64 g, .slice A3 hz.length c3, .slice A4 td.length c4, .int .i64 q0, .int .i64 q1, .int .i64 q2, .int .i64 q3, .int .i64 q4, .int .i64 pk, .int .i64 sl, .int .u64 hd, .int .i64 tr, .slice A5 fr.length c5, .int .i64 0]) _ _ _ _ _ from by rw [putL_eq]; exact Tr.putL (by decide) _ 0 bo t3)
  replace t4 := (show Tr (w1.setCells (w.heap.size + 1) 0 [.slice A1 r.length c1, .slice A2 ks.length c2, .int .i64 s, .int .i64 t, .int .i64 f, .int .i64 l, .int .i64 p, .int .i64 2, .int .u64 g, .slice A3 hz.length c3, .slice A4 td.length c4, .int .i64 q0, .int .i64 q1, .int .i64 q2, .int .i64 q3, .int .i64 q4, .int .i64 pk, .int .i64 sl, .int .u64 hd, .int .i64 tr, .slice A5 fr.length c5, .int .i64 0]) _ _ _ _ _ from by rw [putL_eq]; exact Tr.putL (by decide) _ 0 bo t4)
  replace t5 := (show Tr (w1.setCells (w.heap.size + 1) 0 [.slice A1 r.length c1, .slice A2 ks.length c2, .int .i64 s, .int .i64 t, .int .i64 f, .int .i64 l, .int .i64 p, .int .i64 2, .int .u64 g, .slice A3 hz.length c3, .slice A4 td.length c4, .int .i64 q0, .int .i64 q1, .int .i64 q2, .int .i64 q3, .int .i64 q4, .int .i64 pk, .int .i64 sl, .int .u64 hd, .int .i64 tr, .slice A5 fr.length c5, .int .i64 0]) _ _ _ _ _ from by rw [putL_eq]; exact Tr.putL (by decide) _ 0 bo t5)
  replace B0 := (show Below w.heap.size w (w1.setCells (w.heap.size + 1) 0 [.slice A1 r.length c1, .slice A2 ks.length c2, .int .i64 s, .int .i64 t, .int .i64 f, .int .i64 l, .int .i64 p, .int .i64 2, .int .u64 g, .slice A3 hz.length c3, .slice A4 td.length c4, .int .i64 q0, .int .i64 q1, .int .i64 q2, .int .i64 q3, .int .i64 q4, .int .i64 pk, .int .i64 sl, .int .u64 hd, .int .i64 tr, .slice A5 fr.length c5, .int .i64 0]) from by rw [putL_eq]; exact Below.putL (by omega) _ _ 0 B0)
  replace bo := (show Blk (w1.setCells (w.heap.size + 1) 0 [.slice A1 r.length c1, .slice A2 ks.length c2, .int .i64 s, .int .i64 t, .int .i64 f, .int .i64 l, .int .i64 p, .int .i64 2, .int .u64 g, .slice A3 hz.length c3, .slice A4 td.length c4, .int .i64 q0, .int .i64 q1, .int .i64 q2, .int .i64 q3, .int .i64 q4, .int .i64 pk, .int .i64 sl, .int .u64 hd, .int .i64 tr, .slice A5 fr.length c5, .int .i64 0]) (w.heap.size + 1) 51 #[.slice A1 r.length c1, .slice A2 ks.length c2, .int .i64 s, .int .i64 t, .int .i64 f, .int .i64 l, .int .i64 p, .int .i64 2, .int .u64 g, .slice A3 hz.length c3, .slice A4 td.length c4, .int .i64 q0, .int .i64 q1, .int .i64 q2, .int .i64 q3, .int .i64 q4, .int .i64 pk, .int .i64 sl, .int .u64 hd, .int .i64 tr, .slice A5 fr.length c5, .int .i64 0] from by rw [putL_eq]; have h9 := Blk.putL [.slice A1 r.length c1, .slice A2 ks.length c2, .int .i64 s, .int .i64 t, .int .i64 f, .int .i64 l, .int .i64 p, .int .i64 2, .int .u64 g, .slice A3 hz.length c3, .slice A4 td.length c4, .int .i64 q0, .int .i64 q1, .int .i64 q2, .int .i64 q3, .int .i64 q4, .int .i64 pk, .int .i64 sl, .int .u64 hd, .int .i64 tr, .slice A5 fr.length c5, .int .i64 0] _ _ 0 bo; simpa only [setL, List.setIfInBounds_toArray, List.set_cons_zero, List.set_cons_succ] using h9)
  clear bs
  generalize w1.setCells (w.heap.size + 1) 0 [.slice A1 r.length c1, .slice A2 ks.length c2, .int .i64 s, .int .i64 t, .int .i64 f, .int .i64 l, .int .i64 p, .int .i64 2, .int .u64 g, .slice A3 hz.length c3, .slice A4 td.length c4, .int .i64 q0, .int .i64 q1, .int .i64 q2, .int .i64 q3, .int .i64 q4, .int .i64 pk, .int .i64 sl, .int .u64 hd, .int .i64 tr, .slice A5 fr.length c5, .int .i64 0] = w12 at *
  have hres : (loadVar 51 ⟨w.heap.size + 1, 0, none⟩).run Tryd.prog w12 = .ok (.agg #[.slice A1 r.length c1, .slice A2 ks.length c2, .int .i64 s, .int .i64 t, .int .i64 f, .int .i64 l, .int .i64 p, .int .i64 2, .int .u64 g, .slice A3 hz.length c3, .slice A4 td.length c4, .int .i64 q0, .int .i64 q1, .int .i64 q2, .int .i64 q3, .int .i64 q4, .int .i64 pk, .int .i64 sl, .int .u64 hd, .int .i64 tr, .slice A5 fr.length c5, .int .i64 0]) w12 := run_loadVar_mid w12 _ 0 _ [.slice A1 r.length c1, .slice A2 ks.length c2, .int .i64 s, .int .i64 t, .int .i64 f, .int .i64 l, .int .i64 p, .int .i64 2, .int .u64 g, .slice A3 hz.length c3, .slice A4 td.length c4, .int .i64 q0, .int .i64 q1, .int .i64 q2, .int .i64 q3, .int .i64 q4, .int .i64 pk, .int .i64 sl, .int .u64 hd, .int .i64 tr, .slice A5 fr.length c5, .int .i64 0] _ bo.range Tryd.underlying51 rfl (by kernel_rfl)
  refine bodyPost_ret (v := .agg #[.slice A1 r.length c1, .slice A2 ks.length c2, .int .i64 s, .int .i64 t, .int .i64 f, .int .i64 l, .int .i64 p, .int .i64 2, .int .u64 g, .slice A3 hz.length c3, .slice A4 td.length c4, .int .i64 q0, .int .i64 q1, .int .i64 q2, .int .i64 q3, .int .i64 q4, .int .i64 pk, .int .i64 sl, .int .u64 hd, .int .i64 tr, .slice A5 fr.length c5, .int .i64 0]) (by simp [results, Tryd.results20, Act.put, asAddr, hres]) rfl ⟨⟨_, rfl, _, _, _, _, _, _, _, _, _, _, rfl, t1, t2, t3, t4, t5⟩, B0⟩
set_option linter.unusedSimpArgs false in
set_option maxRecDepth 100000 in
set_option maxHeartbeats 4000000 in
theorem stook_1n (s t f l p ep : Int) (r : List (Int × Int)) (hz : List Int) (td : List (Int × Bool)) (q0 q1 q2 q3 q4 pk sl hd tr : Int) (fr : List Int) (ju : Int) (g : Int) (v : Value) (w : World) (hv : SwV w s t f l p 1 ep r [] hz td q0 q1 q2 q3 q4 pk sl hd tr fr ju v) (h1 : r.length ≤ 1000) (hw : ∀ x ∈ r, W64 x.2) (hg : W64 g) (hr : (r.any fun x => ripeB x.2 g) = false) :
    Calls Tryd.prog 20 #[v, .int .u64 g] w fun e w' => (∃ v', e = .returned v' ∧ SwV w' s t f l p 0 g r [] hz td q0 q1 q2 q3 q4 pk sl hd tr fr 0 v') ∧ Below w.heap.size w w' := by
  obtain ⟨A1, c1, A2, c2, A3, c3, A4, c4, A5, c5, rfl, t1, t2, t3, t4, t5⟩ := hv
  simp only [List.length_nil] at t2 ⊢
  have HR := hide hr
  clear hr
  have CF := hide (fun w2 (h : Tr w2 31 2 (.slice A1 r.length c1) r.length (rec2 r)) => containsr_any A1 r.length c1 r 44 #[.agg #[.slice A1 r.length c1, .slice A2 0 c2, .int .i64 s, .int .i64 t, .int .i64 f, .int .i64 l, .int .i64 p, .int .i64 2, .int .u64 g, .slice A3 hz.length c3, .slice A4 td.length c4, .int .i64 q0, .int .i64 q1, .int .i64 q2, .int .i64 q3, .int .i64 q4, .int .i64 pk, .int .i64 sl, .int .u64 hd, .int .i64 tr, .slice A5 fr.length c5, .int .i64 0]] #[] (fun x => ripeB x.2 g) w2 rfl h1 h.reads (fun args w' => run_enter Tryd.func44 (by decide) (by simp [Tryd.f44]) args w') (fun x hx w' _ => sripe_any _ _ _ _ _ _ _ _ _ _ _ _ _ _ _ _ _ _ _ _ _ g x.1 x.2 w' (hw x hx) hg))
  clear hw hg
  have B0 := ((Below.refl w.heap.size w).alloc (Nat.le_refl _) (.cells #[.slice A1 r.length c1, .slice A2 0 c2, .int .i64 s, .int .i64 t, .int .i64 f, .int .i64 l, .int .i64 p, .int .i64 2, .int .u64 g, .slice A3 hz.length c3, .slice A4 td.length c4, .int .i64 q0, .int .i64 q1, .int .i64 q2, .int .i64 q3, .int .i64 q4, .int .i64 pk, .int .i64 sl, .int .u64 hd, .int .i64 tr, .slice A5 fr.length c5, .int .i64 0] 51)).alloc (by simp only [World.size_alloc]; omega) (.cells #[.slice none 0 0, .slice none 0 0, .int .i64 0, .int .i64 0, .int .i64 0, .int .i64 0, .int .i64 0, .int .i64 0, .int .u64 0, .slice none 0 0, .slice none 0 0, .int .i64 0, .int .i64 0, .int .i64 0, .int .i64 0, .int .i64 0, .int .i64 0, .int .i64 0, .int .u64 0, .int .i64 0, .slice none 0 0, .int .i64 0] 51)
  have bs := (Blk.new w 51 #[.slice A1 r.length c1, .slice A2 0 c2, .int .i64 s, .int .i64 t, .int .i64 f, .int .i64 l, .int .i64 p, .int .i64 2, .int .u64 g, .slice A3 hz.length c3, .slice A4 td.length c4, .int .i64 q0, .int .i64 q1, .int .i64 q2, .int .i64 q3, .int .i64 q4, .int .i64 pk, .int .i64 sl, .int .u64 hd, .int .i64 tr, .slice A5 fr.length c5, .int .i64 0]).alloc (.cells #[.slice none 0 0, .slice none 0 0, .int .i64 0, .int .i64 0, .int .i64 0, .int .i64 0, .int .i64 0, .int .i64 0, .int .u64 0, .slice none 0 0, .slice none 0 0, .int .i64 0, .int .i64 0, .int .i64 0, .int .i64 0, .int .i64 0, .int .i64 0, .int .i64 0, .int .u64 0, .int .i64 0, .slice none 0 0, .int .i64 0] 51)
  have bo := Blk.new (w.alloc (.cells #[.slice A1 r.length c1, .slice A2 0 c2, .int .i64 s, .int .i64 t, .int .i64 f, .int .i64 l, .int .i64 p, .int .i64 2, .int .u64 g, .slice A3 hz.length c3, .slice A4 td.length c4, .int .i64 q0, .int .i64 q1, .int .i64 q2, .int .i64 q3, .int .i64 q4, .int .i64 pk, .int .i64 sl, .int .u64 hd, .int .i64 tr, .slice A5 fr.length c5, .int .i64 0] 51)) 51 #[.slice none 0 0, .slice none 0 0, .int .i64 0, .int .i64 0, .int .i64 0, .int .i64 0, .int .i64 0, .int .i64 0, .int .u64 0, .slice none 0 0, .slice none 0 0, .int .i64 0, .int .i64 0, .int .i64 0, .int .i64 0, .int .i64 0, .int .i64 0, .int .i64 0, .int .u64 0, .int .i64 0, .slice none 0 0, .int .i64 0]
  simp only [World.size_alloc] at bo
  replace t1 := (t1.alloc (.cells #[.slice A1 r.length c1, .slice A2 0 c2, .int .i64 s, .int .i64 t, .int .i64 f, .int .i64 l, .int .i64 p, .int .i64 2, .int .u64 g, .slice A3 hz.length c3, .slice A4 td.length c4, .int .i64 q0, .int .i64 q1, .int .i64 q2, .int .i64 q3, .int .i64 q4, .int .i64 pk, .int .i64 sl, .int .u64 hd, .int .i64 tr, .slice A5 fr.length c5, .int .i64 0] 51)).alloc (.cells #[.slice none 0 0, .slice none 0 0, .int .i64 0, .int .i64 0, .int .i64 0, .int .i64 0, .int .i64 0, .int .i64 0, .int .u64 0, .slice none 0 0, .slice none 0 0, .int .i64 0, .int .i64 0, .int .i64 0, .int .i64 0, .int .i64 0, .int .i64 0, .int .i64 0, .int .u64 0, .int .i64 0, .slice none 0 0, .int .i64 0] 51)
  replace t2 := (t2.alloc (.cells #[.slice A1 r.length c1, .slice A2 0 c2, .int .i64 s, .int .i64 t, .int .i64 f, .int .i64 l, .int .i64 p, .int .i64 2, .int .u64 g, .slice A3 hz.length c3, .slice A4 td.length c4, .int .i64 q0, .int .i64 q1, .int .i64 q2, .int .i64 q3, .int .i64 q4, .int .i64 pk, .int .i64 sl, .int .u64 hd, .int .i64 tr, .slice A5 fr.length c5, .int .i64 0] 51)).alloc (.cells #[.slice none 0 0, .slice none 0 0, .int .i64 0, .int .i64 0, .int .i64 0, .int .i64 0, .int .i64 0, .int .i64 0, .int .u64 0, .slice none 0 0, .slice none 0 0, .int .i64 0, .int .i64 0, .int .i64 0, .int .i64 0, .int .i64 0, .int .i64 0, .int .i64 0, .int .u64 0, .int .i64 0, .slice none 0 0, .int .i64 0] 51)
  replace t3 := (t3.alloc (.cells #[.slice A1 r.length c1, .slice A2 0 c2, .int .i64 s, .int .i64 t, .int .i64 f, .int .i64 l, .int .i64 p, .int .i64 2, .int .u64 g, .slice A3 hz.length c3, .slice A4 td.length c4, .int .i64 q0, .int .i64 q1, .int .i64 q2, .int .i64 q3, .int .i64 q4, .int .i64 pk, .int .i64 sl, .int .u64 hd, .int .i64 tr, .slice A5 fr.length c5, .int .i64 0] 51)).alloc (.cells #[.slice none 0 0, .slice none 0 0, .int .i64 0, .int .i64 0, .int .i64 0, .int .i64 0, .int .i64 0, .int .i64 0, .int .u64 0, .slice none 0 0, .slice none 0 0, .int .i64 0, .int .i64 0, .int .i64 0, .int .i64 0, .int .i64 0, .int .i64 0, .int .i64 0, .int .u64 0, .int .i64 0, .slice none 0 0, .int .i64 0] 51)
  replace t4 := (t4.alloc (.cells #[.slice A1 r.length c1, .slice A2 0 c2, .int .i64 s, .int .i64 t, .int .i64 f, .int .i64 l, .int .i64 p, .int .i64 2, .int .u64 g, .slice A3 hz.length c3, .slice A4 td.length c4, .int .i64 q0, .int .i64 q1, .int .i64 q2, .int .i64 q3, .int .i64 q4, .int .i64 pk, .int .i64 sl, .int .u64 hd, .int .i64 tr, .slice A5 fr.length c5, .int .i64 0] 51)).alloc (.cells #[.slice none 0 0, .slice none 0 0, .int .i64 0, .int .i64 0, .int .i64 0, .int .i64 0, .int .i64 0, .int .i64 0, .int .u64 0, .slice none 0 0, .slice none 0 0, .int .i64 0, .int .i64 0, .int .i64 0, .int .i64 0, .int .i64 0, .int .i64 0, .int .i64 0, .int .u64 0, .int .i64 0, .slice none 0 0, .int .i64 0] 51)
  replace t5 := (t5.alloc (.cells #[.slice A1 r.length c1, .slice A2 0 c2, .int .i64 s, .int .i64 t, .int .i64 f, .int .i64 l, .int .i64 p, .int .i64 2, .int .u64 g, .slice A3 hz.length c3, .slice A4 td.length c4, .int .i64 q0, .int .i64 q1, .int .i64 q2, .int .i64 q3, .int .i64 q4, .int .i64 pk, .int .i64 sl, .int .u64 hd, .int .i64 tr, .slice A5 fr.length c5, .int .i64 0] 51)).alloc (.cells #[.slice none 0 0, .slice none 0 0, .int .i64 0, .int .i64 0, .int .i64 0, .int .i64 0, .int .i64 0, .int .i64 0, .int .u64 0, .slice none 0 0, .slice none 0 0, .int .i64 0, .int .i64 0, .int .i64 0, .int .i64 0, .int .i64 0, .int .i64 0, .int .i64 0, .int .u64 0, .int .i64 0, .slice none 0 0, .int .i64 0] 51)
  go_enter Tryd.func20, Tryd.ntmps20
  go_wp2_with (first | (refine wpList_load_mid rfl 51 (.tmp 2) rfl w.heap.size 0 (by rfl) [.slice A1 r.length c1, .slice A2 0 c2, .int .i64 s, .int .i64 t, .int .i64 f, .int .i64 l, .int .i64 p, .int .i64 2, .int .u64 g, .slice A3 hz.length c3, .slice A4 td.length c4, .int .i64 q0, .int .i64 q1, .int .i64 q2, .int .i64 q3, .int .i64 q4, .int .i64 pk, .int .i64 sl, .int .u64 hd, .int .i64 tr, .slice A5 fr.length c5, .int .i64 0] _ bs.range Tryd.underlying51 rfl (by kernel_rfl) ?_))
  generalize ((w.alloc (.cells #[.slice A1 r.length c1, .slice A2 0 c2, .int .i64 s, .int .i64 t, .int .i64 f, .int .i64 l, .int .i64 p, .int .i64 2, .int .u64 g, .slice A3 hz.length c3, .slice A4 td.length c4, .int .i64 q0, .int .i64 q1, .int .i64 q2, .int .i64 q3, .int .i64 q4, .int .i64 pk, .int .i64 sl, .int .u64 hd, .int .i64 tr, .slice A5 fr.length c5, .int .i64 0] 51)).alloc (.cells #[.slice none 0 0, .slice none 0 0, .int .i64 0, .int .i64 0, .int .i64 0, .int .i64 0, .int .i64 0, .int .i64 0, .int .u64 0, .slice none 0 0, .slice none 0 0, .int .i64 0, .int .i64 0, .int .i64 0, .int .i64 0, .int .i64 0, .int .i64 0, .int .i64 0, .int .u64 0, .int .i64 0, .slice none 0 0, .int .i64 0] 51)) = w0 at *
  refine (CF.out _ t1).mono ?_
  rintro e w1 ⟨rfl, hb⟩
  replace t1 := t1.below (Nat.le_refl _) hb
  replace t2 := t2.below (Nat.le_refl _) hb
  replace t3 := t3.below (Nat.le_refl _) hb
  replace t4 := t4.below (Nat.le_refl _) hb
  replace t5 := t5.below (Nat.le_refl _) hb
  replace bs := bs.below hb bs.lt
  replace bo := bo.below hb bo.lt
  replace B0 := B0.trans (hb.mono B0.size)
  clear hb
  have ms := fun i => bs.cell i
  have zs := fun i => bs.frozen i
  rw [HR.out]
  replace t1 := t1.set_ bs (by decide) 7 (.int .i64 0)
  replace t2 := t2.set_ bs (by decide) 7 (.int .i64 0)
  replace t3 := t3.set_ bs (by decide) 7 (.int .i64 0)
  replace t4 := t4.set_ bs (by decide) 7 (.int .i64 0)
  replace t5 := t5.set_ bs (by decide) 7 (.int .i64 0)
  replace bo := bo.far (p := ⟨w.heap.size, 7, none⟩) (by show w.heap.size + 1 ≠ w.heap.size; omega) (.int .i64 0)
  replace B0 := B0.setCell (p := ⟨w.heap.size, 7, none⟩) (Nat.le_refl _) (.int .i64 0)
  replace bs := bs.set_ 7 (.int .i64 0)
  simp only [List.setIfInBounds_toArray, List.set_cons_zero, List.set_cons_succ] at bs
  go_wp2_with (first | (refine wpList_load_mid rfl 51 (.tmp 2) rfl w.heap.size 0 (by rfl) [.slice A1 r.length c1, .slice A2 0 c2, .int .i64 s, .int .i64 t, .int .i64 f, .int .i64 l, .int .i64 p, .int .i64 0, .int .u64 g, .slice A3 hz.length c3, .slice A4 td.length c4, .int .i64 q0, .int .i64 q1, .int .i64 q2, .int .i64 q3, .int .i64 q4, .int .i64 pk, .int .i64 sl, .int .u64 hd, .int .i64 tr, .slice A5 fr.length c5, .int .i64 0] _ bs.range Tryd.underlying51 rfl (by kernel_rfl) ?_) | (refine wpList_store_mid rfl 51 (.tmp 4) (.tmp 72) rfl (w.heap.size + 1) 0 #[.slice A1 r.length c1, .slice A2 0 c2, .int .i64 s, .int .i64 t, .int .i64 f, .int .i64 l, .int .i64 p, .int .i64 0, .int .u64 g, .slice A3 hz.length c3, .slice A4 td.length c4, .int .i64 q0, .int .i64 q1, .int .i64 q2, .int .i64 q3, .int .i64 q4, .int .i64 pk, .int .i64 sl, .int .u64 hd, .int .i64 tr, .slice A5 fr.length c5, .int .i64 0] (by rfl) (by rfl) (bo.there rfl) (by kernel_rfl) (by kernel_rfl) ?_))
  replace t1 := (show Tr ((w1.setCell ⟨w.heap.size, 7, none⟩ (.int .i64 0)).setCells (w.heap.size + 1) 0 [.slice A1 r.length c1, .slice A2 0 c2, .int .i64 s, .int .i64 t, .int .i64 f, .int .i64 l, .int .i64 p, .int .i64 0, .int .u64 g, .slice A3 hz.length c3, .slice A4 td.length c4, .int .i64 q0, .int .i64 q1, .int .i64 q2, .int .i64 q3, .int .i64 q4, .int .i64 pk, .int .i64 sl, .int .u64 hd, .int .i64 tr, .slice A5 fr.length c5, .int .i64 0]) _ _ _ _ _ from by rw [putL_eq]; exact Tr.putL (by decide) _ 0 bo t1)
  replace t2 := (show Tr ((w1.setCell ⟨w.heap.size, 7, none⟩ (.int .i64 0)).setCells (w.heap.size + 1) 0 [.slice A1 r.length c1, .slice A2 0 c2, .int .i64 s, .int .i64 t, .int .i64 f, .int .i64 l, .int .i64 p, .int .i64 0, .int .u64 g, .slice A3 hz.length c3, .slice A4 td.length c4, .int .i64 q0, .int .i64 q1, .int .i64 q2, .int .i64 q3, .int .i64 q4, .int .i64 pk, .int .i64 sl, .int .u64 hd, .int .i64 tr, .slice A5 fr.length c5, .int .i64 0]) _ _ _ _ _ from by rw [putL_eq]; exact Tr.putL (by decide) _ 0 bo t2)
  replace t3 := (show Tr ((w1.setCell ⟨w.heap.size, 7, none⟩ (.int .i64 0)).setCells (w.heap.size + 1) 0 [.slice A1 r.length c1, .slice A2 0 c2, .int .i64 s, .int .i64 t, .int .i64 f, .int .i64 l, .int .i64 p, .int .i64 0, .int .u64 g, .slice A3 hz.length c3, .slice A4 td.length c4, .int .i64 q0, .int .i64 q1, .int .i64 q2, .int .i64 q3, .int .i64 q4, .int .i64 pk, .int .i64 sl, .int .u64 hd, .int .i64 tr, .slice A5 fr.length c5, .int .i64 0]) _ _ _ _ _ from by rw [putL_eq]; exact Tr.putL (by decide) _ 0 bo t3)
  replace t4 := (show Tr ((w1.setCell ⟨w.heap.size, 7, none⟩ (.int .i64 0)).setCells (w.heap.size + 1) 0 [.slice A1 r.length c1, .slice A2 0 c2, .int .i64 s, .int .i64 t, .int .i64 f, .int .i64 l, .int .i64 p, .int .i64 0, .int .u64 g, .slice A3 hz.length c3, .slice A4 td.length c4, .int .i64 q0, .int .i64 q1, .int .i64 q2, .int .i64 q3, .int .i64 q4, .int .i64 pk, .int .i64 sl, .int .u64 hd, .int .i64 tr, .slice A5 fr.length c5, .int .i64 0]) _ _ _ _ _ from by rw [putL_eq]; exact Tr.putL (by decide) _ 0 bo t4)
  replace t5 := (show Tr ((w1.setCell ⟨w.heap.size, 7, none⟩ (.int .i64 0)).setCells (w.heap.size + 1) 0 [.slice A1 r.length c1, .slice A2 0 c2, .int .i64 s, .int .i64 t, .int .i64 f, .int .i64 l, .int .i64 p, .int .i64 0, .int .u64 g, .slice A3 hz.length c3, .slice A4 td.length c4, .int .i64 q0, .int .i64 q1, .int .i64 q2, .int .i64 q3, .int .i64 q4, .int .i64 pk, .int .i64 sl, .int .u64 hd, .int .i64 tr, .slice A5 fr.length c5, .int .i64 0]) _ _ _ _ _ from by rw [putL_eq]; exact Tr.putL (by decide) _ 0 bo t5)
  replace B0 := (show Below w.heap.size w ((w1.setCell ⟨w.heap.size, 7, none⟩ (.int .i64 0)).setCells (w.heap.size + 1) 0 [.slice A1 r.length c1, .slice A2 0 c2, .int .i64 s, .int .i64 t, .int .i64 f, .int .i64 l, .int .i64 p, .int .i64 0, .int .u64 g, .slice A3 hz.length c3, .slice A4 td.length c4, .int .i64 q0, .int .i64 q1, .int .i64 q2, .int .i64 q3, .int .i64 q4, .int .i64 pk, .int .i64 sl, .int .u64 hd, .int .i64 tr, .slice A5 fr.length c5, .int .i64 0]) from by rw [putL_eq]; exact Below.putL (by omega) _ _ 0 B0)
  replace bo := (show Blk ((w1.setCell ⟨w.heap.size, 7, none⟩ (.int .i64 0)).setCells (w.heap.size + 1) 0 [.slice A1 r.length c1, .slice A2 0 c2, .int .i64 s, .int .i64 t, .int .i64 f, .int .i64 l, .int .i64 p, .int .i64 0, .int .u64 g, .slice A3 hz.length c3, .slice A4 td.length c4, .int .i64 q0, .int .i64 q1, .int .i64 q2, .int .i64 q3, .int .i64 q4, .int .i64 pk, .int .i64 sl, .int .u64 hd, .int .i64 tr, .slice A5 fr.length c5, .int .i64 0]) (w.heap.size + 1) 51 #[.slice A1 r.length c1, .slice A2 0 c2, .int .i64 s, .int .i64 t, .int .i64 f, .int .i64 l, .int .i64 p, .int .i64 0, .int .u64 g, .slice A3 hz.length c3, .slice A4 td.length c4, .int .i64 q0, .int .i64 q1, .int .i64 q2, .int .i64 q3, .int .i64 q4, .int .i64 pk, .int .i64 sl, .int .u64 hd, .int .i64 tr, .slice A5 fr.length c5, .int .i64 0] from by rw [putL_eq]; have h9 := Blk.putL [.slice A1 r.length c1, .slice A2 0 c2, .int .i64 s, .int .i64 t, .int .i64 f, .int .i64 l, .int .i64 p, .int .i64 0, .int .u64 g, .slice A3 hz.length c3, .slice A4 td.length c4, .int .i64 q0, .int .i64 q1, .int .i64 q2, .int .i64 q3, .int .i64 q4, .int .i64 pk, .int .i64 sl, .int .u64 hd, .int .i64 tr, .slice A5 fr.length c5, .int .i64 0] _ _ 0 bo; simpa only [setL, List.setIfInBounds_toArray, List.set_cons_zero, List.set_cons_succ] using h9)
  clear bs
  generalize (w1.setCell ⟨w.heap.size, 7, none⟩ (.int .i64 0)).setCells (w.heap.size + 1) 0 [.slice A1 r.length c1, .slice A2 0 c2, .int .i64 s, .int .i64 t, .int .i64 f, .int .i64 l, .int .i64 p, .int .i64 0, .int .u64 g, .slice A3 hz.length c3, .slice A4 td.length c4, .int .i64 q0, .int .i64 q1, .int .i64 q2, .int .i64 q3, .int .i64 q4, .int .i64 pk, .int .i64 sl, .int .u64 hd, .int .i64 tr, .slice A5 fr.length c5, .int .i64 0] = w12 at *
  have hres : (loadVar 51 ⟨w.heap.size + 1, 0, none⟩).run Tryd.prog w12 = .ok (.agg #[.slice A1 r.length c1, .slice A2 0 c2, .int .i64 s, .int .i64 t, .int .i64 f, .int .i64 l, .int .i64 p, .int .i64 0, .int .u64 g, .slice A3 hz.length c3, .slice A4 td.length c4, .int .i64 q0, .int .i64 q1, .int .i64 q2, .int .i64 q3, .int .i64 q4, .int .i64 pk, .int .i64 sl, .int .u64 hd, .int .i64 tr, .slice A5 fr.length c5, .int .i64 0]) w12 := run_loadVar_mid w12 _ 0 _ [.slice A1 r.length c1, .slice A2 0 c2, .int .i64 s, .int .i64 t, .int .i64 f, .int .i64 l, .int .i64 p, .int .i64 0, .int .u64 g, .slice A3 hz.length c3, .slice A4 td.length c4, .int .i64 q0, .int .i64 q1, .int .i64 q2, .int .i64 q3, .int .i64 q4, .int .i64 pk, .int .i64 sl, .int .u64 hd, .int .i64 tr, .slice A5 fr.length c5, .int .i64 0] _ bo.range Tryd.underlying51 rfl (by kernel_rfl)
  refine bodyPost_ret (v := .agg #[.slice A1 r.length c1, .slice A2 0 c2, .int .i64 s, .int .i64 t, .int .i64 f, .int .i64 l, .int .i64 p, .int .i64 0, .int .u64 g, .slice A3 hz.length c3, .slice A4 td.length c4, .int .i64 q0, .int .i64 q1, .int .i64 q2, .int .i64 q3, .int .i64 q4, .int .i64 pk, .int .i64 sl, .int .u64 hd, .int .i64 tr, .slice A5 fr.length c5, .int .i64 0]) (by simp [results, Tryd.results20, Act.put, asAddr, hres]) rfl ⟨⟨_, rfl, _, _, _, _, _, _, _, _, _, _, rfl, t1, t2, t3, t4, t5⟩, B0⟩
end Go.Proofs.YtokcbipmocpllaaDoor

