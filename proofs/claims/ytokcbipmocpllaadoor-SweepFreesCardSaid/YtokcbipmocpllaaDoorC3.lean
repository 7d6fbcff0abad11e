/-
  Package sweep: a handle goes from its list.
-/
import Derived.Test.YtokcbipmocpllaaDoorC2
import Derived.Deep.RegionHeld3
import Derived.Deep.RegionWith
import Derived.Laws.StructEq
import Derived.WalkKit
namespace Go.Proofs.YtokcbipmocpllaaDoor
open Go.RowKit

/-- Pairs of a word and a truth value, as cells. -/
def ones (l : List (Int × Bool)) : List Value := l.flatMap fun x => [.int .u64 x.1, .bool x.2]
theorem ones_len (l : List (Int × Bool)) : (ones l).length = l.length * 2 := by unfold ones; induction l <;> simp_all [List.flatMap_cons]; try omega
/-- v is a sweep of these parts, whose lists lie in this world. -/
def SwV [Inhabited GhT] (w : World) (s t f l p k ep : Int) (r : List (Int × Int)) (ks hz : List Int) (td : List (Int × Bool)) (q0 q1 q2 q3 q4 pk sl hd tr : Int) (fr : List Int) (ju : Int) (v : Value) : Prop :=
  ∃ A1 c1 A2 c2 A3 c3 A4 c4 A5 c5, v = .agg #[.slice A1 r.length c1, .slice A2 ks.length c2, .int .i64 s, .int .i64 t, .int .i64 f, .int .i64 l, .int .i64 p, .int .i64 k, .int .u64 ep, .slice A3 hz.length c3, .slice A4 td.length c4, .int .i64 q0, .int .i64 q1, .int .i64 q2, .int .i64 q3, .int .i64 q4, .int .i64 pk, .int .i64 sl, .int .u64 hd, .int .i64 tr, .slice A5 fr.length c5, .int .i64 ju] ∧ Tr w 31 2 (.slice A1 r.length c1) r.length (rec2 r) ∧ Tr w 29 1 (.slice A2 ks.length c2) ks.length (ints .u64 ks) ∧ Tr w 29 1 (.slice A3 hz.length c3) hz.length (ints .u64 hz) ∧ Tr w 82 2 (.slice A4 td.length c4) td.length (ones td) ∧ Tr w 29 1 (.slice A5 fr.length c5) fr.length (ints .u64 fr)
theorem SwV.below [Inhabited GhT] {w w' : World} {s t f l p k ep : Int} {r : List (Int × Int)} {ks hz : List Int} {td : List (Int × Bool)} {q0 q1 q2 q3 q4 pk sl hd tr : Int} {fr : List Int} {ju : Int} {v : Value} {B : Nat} (h : SwV w s t f l p k ep r ks hz td q0 q1 q2 q3 q4 pk sl hd tr fr ju v) (hB : w.heap.size ≤ B) (hb : Below B w w') : SwV w' s t f l p k ep r ks hz td q0 q1 q2 q3 q4 pk sl hd tr fr ju v := by
  obtain ⟨A1, c1, A2, c2, A3, c3, A4, c4, A5, c5, rfl, t1, t2, t3, t4, t5⟩ := h
  exact ⟨A1, c1, A2, c2, A3, c3, A4, c4, A5, c5, rfl, t1.below hB hb, t2.below hB hb, t3.below hB hb, t4.below hB hb, t5.below hB hb⟩
theorem Tr.holds [Inhabited GhT] {w : World} {e : TypeId} {s n : Nat} {A : Option Addr} {c : Nat} {xs : List Value} (h : Tr w e s (.slice A n c) n xs) : ∀ b, A = some b → ∀ (j : Nat) u, xs[j]? = some u → w.cell? (b.add j) = some u := by
  intro b hb j u hj
  have hr := h.reads
  have hl := hr.1
  have h0 : 0 < n := by
    rcases Nat.eq_zero_or_pos n with h0 | h0
    · subst h0
      have : xs = [] := List.eq_nil_of_length_eq_zero (by simpa using hl)
      subst this
      simp at hj
    · exact h0
  obtain ⟨ad, e1, _, hc⟩ := hr.2 h0
  rw [hb] at e1
  injection e1 with e1
  subst e1
  exact hc j u hj

set_option maxHeartbeats 400000 in
theorem clipu_any (A : Option Addr) (n c : Nat) (w : World) (hn : n ≤ c) (_hc : c ≤ 9223372036854775807) :
    Calls Tryd.prog 45 #[.slice A n c] w fun e w' => e = .returned (.slice A n n) ∧ w = w' := by
  have h1 : (n : Int) ≤ (c : Int) := by omega
  go_enter Tryd.func45, Tryd.ntmps45
  go_wp2_with fail
  go_ret
  exact ⟨rfl, rfl⟩
set_option linter.unusedSimpArgs false in
set_option maxRecDepth 100000 in
set_option maxHeartbeats 4000000 in
theorem sgone_k [Inhabited GhT] (s t f l p k ep : Int) (r : List (Int × Int)) (ks hz : List Int) (td : List (Int × Bool)) (q0 q1 q2 q3 q4 pk sl hd tr : Int) (fr : List Int) (ju : Int) (h : Int) (v : Value) (w : World) (hv : SwV w s t f l p k ep r ks hz td q0 q1 q2 q3 q4 pk sl hd tr fr ju v) (h1 : r.length ≤ 1000) (h2 : ks.length ≤ 1000) (h5 : fr.length ≤ 1000) :
    Calls Tryd.prog 50 #[v, .agg #[.int .u64 h, .bool true]] w fun e w' => (∃ v', e = .returned v' ∧ SwV w' s t f l p k ep r (ks.eraseP fun x => x == h) hz td q0 q1 q2 q3 q4 pk sl hd tr (fr ++ [h]) ju v') ∧ Below w.heap.size w w' := by
  obtain ⟨A1, c1, A2, c2, A3, c3, A4, c4, A5, c5, rfl, t1, t2, t3, t4, t5⟩ := hv
  obtain ⟨i0, hi0, hz0, hs0, hb0⟩ := info_parts infoU64
  have B0 := (((Below.refl w.heap.size w).alloc (Nat.le_refl _) (.cells #[.slice A1 r.length c1, .slice A2 ks.length c2, .int .i64 s, .int .i64 t, .int .i64 f, .int .i64 l, .int .i64 p, .int .i64 k, .int .u64 ep, .slice A3 hz.length c3, .slice A4 td.length c4, .int .i64 q0, .int .i64 q1, .int .i64 q2, .int .i64 q3, .int .i64 q4, .int .i64 pk, .int .i64 sl, .int .u64 hd, .int .i64 tr, .slice A5 fr.length c5, .int .i64 ju] 51)).alloc (by simp only [World.size_alloc]; omega) (.cells #[.int .u64 h, .bool true] 82)).alloc (by simp only [World.size_alloc]; omega) (.cells #[.slice none 0 0, .slice none 0 0, .int .i64 0, .int .i64 0, .int .i64 0, .int .i64 0, .int .i64 0, .int .i64 0, .int .u64 0, .slice none 0 0, .slice none 0 0, .int .i64 0, .int .i64 0, .int .i64 0, .int .i64 0, .int .i64 0, .int .i64 0, .int .i64 0, .int .u64 0, .int .i64 0, .slice none 0 0, .int .i64 0] 51)
  have bs := ((Blk.new w 51 #[.slice A1 r.length c1, .slice A2 ks.length c2, .int .i64 s, .int .i64 t, .int .i64 f, .int .i64 l, .int .i64 p, .int .i64 k, .int .u64 ep, .slice A3 hz.length c3, .slice A4 td.length c4, .int .i64 q0, .int .i64 q1, .int .i64 q2, .int .i64 q3, .int .i64 q4, .int .i64 pk, .int .i64 sl, .int .u64 hd, .int .i64 tr, .slice A5 fr.length c5, .int .i64 ju]).alloc (.cells #[.int .u64 h, .bool true] 82)).alloc (.cells #[.slice none 0 0, .slice none 0 0, .int .i64 0, .int .i64 0, .int .i64 0, .int .i64 0, .int .i64 0, .int .i64 0, .int .u64 0, .slice none 0 0, .slice none 0 0, .int .i64 0, .int .i64 0, .int .i64 0, .int .i64 0, .int .i64 0, .int .i64 0, .int .i64 0, .int .u64 0, .int .i64 0, .slice none 0 0, .int .i64 0] 51)
  have bx := (Blk.new (w.alloc (.cells #[.slice A1 r.length c1, .slice A2 ks.length c2, .int .i64 s, .int .i64 t, .int .i64 f, .int .i64 l, .int .i64 p, .int .i64 k, .int .u64 ep, .slice A3 hz.length c3, .slice A4 td.length c4, .int .i64 q0, .int .i64 q1, .int .i64 q2, .int .i64 q3, .int .i64 q4, .int .i64 pk, .int .i64 sl, .int .u64 hd, .int .i64 tr, .slice A5 fr.length c5, .int .i64 ju] 51)) 82 #[.int .u64 h, .bool true]).alloc (.cells #[.slice none 0 0, .slice none 0 0, .int .i64 0, .int .i64 0, .int .i64 0, .int .i64 0, .int .i64 0, .int .i64 0, .int .u64 0, .slice none 0 0, .slice none 0 0, .int .i64 0, .int .i64 0, .int .i64 0, .int .i64 0, .int .i64 0, .int .i64 0, .int .i64 0, .int .u64 0, .int .i64 0, .slice none 0 0, .int .i64 0] 51)
  have bo := Blk.new ((w.alloc (.cells #[.slice A1 r.length c1, .slice A2 ks.length c2, .int .i64 s, .int .i64 t, .int .i64 f, .int .i64 l, .int .i64 p, .int .i64 k, .int .u64 ep, .slice A3 hz.length c3, .slice A4 td.length c4, .int .i64 q0, .int .i64 q1, .int .i64 q2, .int .i64 q3, .int .i64 q4, .int .i64 pk, .int .i64 sl, .int .u64 hd, .int .i64 tr, .slice A5 fr.length c5, .int .i64 ju] 51)).alloc (.cells #[.int .u64 h, .bool true] 82)) 51 #[.slice none 0 0, .slice none 0 0, .int .i64 0, .int .i64 0, .int .i64 0, .int .i64 0, .int .i64 0, .int .i64 0, .int .u64 0, .slice none 0 0, .slice none 0 0, .int .i64 0, .int .i64 0, .int .i64 0, .int .i64 0, .int .i64 0, .int .i64 0, .int .i64 0, .int .u64 0, .int .i64 0, .slice none 0 0, .int .i64 0]
  simp only [World.size_alloc] at bo bx
  replace t1 := ((t1.alloc (.cells #[.slice A1 r.length c1, .slice A2 ks.length c2, .int .i64 s, .int .i64 t, .int .i64 f, .int .i64 l, .int .i64 p, .int .i64 k, .int .u64 ep, .slice A3 hz.length c3, .slice A4 td.length c4, .int .i64 q0, .int .i64 q1, .int .i64 q2, .int .i64 q3, .int .i64 q4, .int .i64 pk, .int .i64 sl, .int .u64 hd, .int .i64 tr, .slice A5 fr.length c5, .int .i64 ju] 51)).alloc (.cells #[.int .u64 h, .bool true] 82)).alloc (.cells #[.slice none 0 0, .slice none 0 0, .int .i64 0, .int .i64 0, .int .i64 0, .int .i64 0, .int .i64 0, .int .i64 0, .int .u64 0, .slice none 0 0, .slice none 0 0, .int .i64 0, .int .i64 0, .int .i64 0, .int .i64 0, .int .i64 0, .int .i64 0, .int .i64 0, .int .u64 0, .int .i64 0, .slice none 0 0, .int .i64 0] 51)
  replace t2 := ((t2.alloc (.cells #[.slice A1 r.length c1, .slice A2 ks.length c2, .int .i64 s, .int .i64 t, .int .i64 f, .int .i64 l, .int .i64 p, .int .i64 k, .int .u64 ep, .slice A3 hz.length c3, .slice A4 td.length c4, .int .i64 q0, .int .i64 q1, .int .i64 q2, .int .i64 q3, .int .i64 q4, .int .i64 pk, .int .i64 sl, .int .u64 hd, .int .i64 tr, .slice A5 fr.length c5, .int .i64 ju] 51)).alloc (.cells #[.int .u64 h, .bool true] 82)).alloc (.cells #[.slice none 0 0, .slice none 0 0, .int .i64 0, .int .i64 0, .int .i64 0, .int .i64 0, .int .i64 0, .int .i64 0, .int .u64 0, .slice none 0 0, .slice none 0 0, .int .i64 0, .int .i64 0, .int .i64 0, .int .i64 0, .int .i64 0, .int .i64 0, .int .i64 0, .int .u64 0, .int .i64 0, .slice none 0 0, .int .i64 0] 51)
  replace t3 := ((t3.alloc (.cells #[.slice A1 r.length c1, .slice A2 ks.length c2, .int .i64 s, .int .i64 t, .int .i64 f, .int .i64 l, .int .i64 p, .int .i64 k, .int .u64 ep, .slice A3 hz.length c3, .slice A4 td.length c4, .int .i64 q0, .int .i64 q1, .int .i64 q2, .int .i64 q3, .int .i64 q4, .int .i64 pk, .int .i64 sl, .int .u64 hd, .int .i64 tr, .slice A5 fr.length c5, .int .i64 ju] 51)).alloc (.cells #[.int .u64 h, .bool true] 82)).alloc (.cells #[.slice none 0 0, .slice none 0 0, .int .i64 0, .int .i64 0, .int .i64 0, .int .i64 0, .int .i64 0, .int .i64 0, .int .u64 0, .slice none 0 0, .slice none 0 0, .int .i64 0, .int .i64 0, .int .i64 0, .int .i64 0, .int .i64 0, .int .i64 0, .int .i64 0, .int .u64 0, .int .i64 0, .slice none 0 0, .int .i64 0] 51)
  replace t4 := ((t4.alloc (.cells #[.slice A1 r.length c1, .slice A2 ks.length c2, .int .i64 s, .int .i64 t, .int .i64 f, .int .i64 l, .int .i64 p, .int .i64 k, .int .u64 ep, .slice A3 hz.length c3, .slice A4 td.length c4, .int .i64 q0, .int .i64 q1, .int .i64 q2, .int .i64 q3, .int .i64 q4, .int .i64 pk, .int .i64 sl, .int .u64 hd, .int .i64 tr, .slice A5 fr.length c5, .int .i64 ju] 51)).alloc (.cells #[.int .u64 h, .bool true] 82)).alloc (.cells #[.slice none 0 0, .slice none 0 0, .int .i64 0, .int .i64 0, .int .i64 0, .int .i64 0, .int .i64 0, .int .i64 0, .int .u64 0, .slice none 0 0, .slice none 0 0, .int .i64 0, .int .i64 0, .int .i64 0, .int .i64 0, .int .i64 0, .int .i64 0, .int .i64 0, .int .u64 0, .int .i64 0, .slice none 0 0, .int .i64 0] 51)
  replace t5 := ((t5.alloc (.cells #[.slice A1 r.length c1, .slice A2 ks.length c2, .int .i64 s, .int .i64 t, .int .i64 f, .int .i64 l, .int .i64 p, .int .i64 k, .int .u64 ep, .slice A3 hz.length c3, .slice A4 td.length c4, .int .i64 q0, .int .i64 q1, .int .i64 q2, .int .i64 q3, .int .i64 q4, .int .i64 pk, .int .i64 sl, .int .u64 hd, .int .i64 tr, .slice A5 fr.length c5, .int .i64 ju] 51)).alloc (.cells #[.int .u64 h, .bool true] 82)).alloc (.cells #[.slice none 0 0, .slice none 0 0, .int .i64 0, .int .i64 0, .int .i64 0, .int .i64 0, .int .i64 0, .int .i64 0, .int .u64 0, .slice none 0 0, .slice none 0 0, .int .i64 0, .int .i64 0, .int .i64 0, .int .i64 0, .int .i64 0, .int .i64 0, .int .i64 0, .int .u64 0, .int .i64 0, .slice none 0 0, .int .i64 0] 51)
  have H1 := hide h1
  have H2 := hide h2
  have H5 := hide h5
  clear h1 h2 h5
  go_enter Tryd.func50, Tryd.ntmps50
  go_wp2_with fail
  generalize ((w.alloc (.cells #[.slice A1 r.length c1, .slice A2 ks.length c2, .int .i64 s, .int .i64 t, .int .i64 f, .int .i64 l, .int .i64 p, .int .i64 k, .int .u64 ep, .slice A3 hz.length c3, .slice A4 td.length c4, .int .i64 q0, .int .i64 q1, .int .i64 q2, .int .i64 q3, .int .i64 q4, .int .i64 pk, .int .i64 sl, .int .u64 hd, .int .i64 tr, .slice A5 fr.length c5, .int .i64 ju] 51)).alloc (.cells #[.int .u64 h, .bool true] 82)).alloc (.cells #[.slice none 0 0, .slice none 0 0, .int .i64 0, .int .i64 0, .int .i64 0, .int .i64 0, .int .i64 0, .int .i64 0, .int .u64 0, .slice none 0 0, .slice none 0 0, .int .i64 0, .int .i64 0, .int .i64 0, .int .i64 0, .int .i64 0, .int .i64 0, .int .i64 0, .int .u64 0, .int .i64 0, .slice none 0 0, .int .i64 0] 51) = w0 at *
  have mx := fun i => bx.cell i
  have ms := fun i => bs.cell i
  go_wp2_with fail
  refine (withoutU_any _ ks 72 #[] #[.pointer (some ⟨w.heap.size + 1, 0, none⟩)] (fun x => x == h) w0 H2.out t2 (fun args w' => run_enter Tryd.func72 (by decide) (by simp [Tryd.f72]) args w') (fun x _ w' hb => gone1_any x h _ w' _ (bx.below hb bx.lt))).mono ?_
  rintro e w1 ⟨⟨u, rfl, o2⟩, hb⟩
  replace t1 := t1.below (Nat.le_refl _) hb
  replace t3 := t3.below (Nat.le_refl _) hb
  replace t4 := t4.below (Nat.le_refl _) hb
  replace t5 := t5.below (Nat.le_refl _) hb
  obtain ⟨A6, c6, rfl⟩ := o2.val
  replace bs := bs.below hb bs.lt
  replace bx := bx.below hb bx.lt
  replace bo := bo.below hb bo.lt
  replace B0 := B0.trans (hb.mono B0.size)
  clear hb mx ms
  have mx := fun i => bx.cell i
  have ms := fun i => bs.cell i
  have zs := fun i => bs.frozen i
  go_wp2_with fail
  replace o2 := o2.set_ bs (by decide) 1 (.slice A6 (ks.eraseP fun x => x == h).length c6)
  replace t1 := t1.set_ bs (by decide) 1 (.slice A6 (ks.eraseP fun x => x == h).length c6)
  replace t3 := t3.set_ bs (by decide) 1 (.slice A6 (ks.eraseP fun x => x == h).length c6)
  replace t4 := t4.set_ bs (by decide) 1 (.slice A6 (ks.eraseP fun x => x == h).length c6)
  replace t5 := t5.set_ bs (by decide) 1 (.slice A6 (ks.eraseP fun x => x == h).length c6)
  replace bx := bx.far (p := ⟨w.heap.size, 1, none⟩) (by show w.heap.size + 1 ≠ w.heap.size; omega) (.slice A6 (ks.eraseP fun x => x == h).length c6)
  replace bo := bo.far (p := ⟨w.heap.size, 1, none⟩) (by show w.heap.size + 1 + 1 ≠ w.heap.size; omega) (.slice A6 (ks.eraseP fun x => x == h).length c6)
  replace B0 := B0.setCell (p := ⟨w.heap.size, 1, none⟩) (Nat.le_refl _) (.slice A6 (ks.eraseP fun x => x == h).length c6)
  replace bs := bs.set_ 1 (.slice A6 (ks.eraseP fun x => x == h).length c6)
  simp only [List.setIfInBounds_toArray, List.set_cons_zero, List.set_cons_succ] at bs
  clear mx ms zs
  generalize w1.setCell ⟨w.heap.size, 1, none⟩ (.slice A6 (ks.eraseP fun x => x == h).length c6) = w2 at *
  clear t2
  have t2 := o2
  clear o2
  refine wp_region_heldZ [8] (fun w' => w'.cell? ⟨w.heap.size, 20, none⟩ = some (.slice A5 fr.length c5) ∧ w'.cell? ⟨w.heap.size + 1, 0, none⟩ = some (.int .u64 h)) (by kernel_rfl) (by exact ⟨bs.cell 20, bx.cell 0⟩) (fun hHeld => ?_)
  replace t1 := t1.drew
  replace t2 := t2.drew
  replace t3 := t3.drew
  replace t4 := t4.drew
  replace t5 := t5.drew
  replace bs := bs.drew
  replace bx := bx.drew
  replace bo := bo.drew
  replace B0 := B0.drew
  generalize w2.drew = wd at *
  refine' wpAnyZ_takeA (i := 0) (v := ?_) (opAt rfl) (by kernel_rfl) (by kernel_rfl) (by kernel_rfl) (by kernel_rfl) (fun _ _ _ h => h) (by assumption) (by rfl) (fun w hSw => ?_) ?_
  rotate_left
  · (try dsimp only at hSw); go_simp; (try with_reducible rfl)
  try simp only [Act.put, List.setIfInBounds_toArray, List.set_cons_zero, List.set_cons_succ]
  refine' wpAnyZ_takeA (i := 1) (v := ?_) (opAt rfl) (by kernel_rfl) (by kernel_rfl) (by kernel_rfl) (by kernel_rfl) (fun _ _ _ h => h) (by assumption) (by rfl) (fun w hSw => ?_) ?_
  rotate_left
  · (try dsimp only at hSw); go_simp; (try with_reducible rfl)
  try simp only [Act.put, List.setIfInBounds_toArray, List.set_cons_zero, List.set_cons_succ]
  refine' wpAnyZ_takeA (i := 3) (v := ?_) (opAt rfl) (by kernel_rfl) (by kernel_rfl) (by kernel_rfl) (by kernel_rfl) (fun _ _ _ h => h) (by assumption) (by rfl) (fun w hSw => ?_) ?_
  rotate_left
  · (try dsimp only at hSw); go_simp; (try with_reducible rfl)
  try simp only [Act.put, List.setIfInBounds_toArray, List.set_cons_zero, List.set_cons_succ]
  refine' wpAnyZ_takeA (i := 4) (v := ?_) (opAt rfl) (by kernel_rfl) (by kernel_rfl) (by kernel_rfl) (by kernel_rfl) (fun _ _ _ h => h) (by assumption) (by rfl) (fun w hSw => ?_) ?_
  rotate_left
  · (try dsimp only at hSw); go_simp; (try with_reducible rfl)
  try simp only [Act.put, List.setIfInBounds_toArray, List.set_cons_zero, List.set_cons_succ]
  refine wpAnyZ_ready (rs := [2, 5]) (by kernel_rfl) (by simp) ?_
  refine AllReadyZ.cons (opAt rfl) (fun K hK => ?_) ?_
  · skip
    go_simp
    refine (clipu_any A5 fr.length c5 _ t5.cap.1 t5.cap.2.1).mono ?_
    rintro e w' ⟨rfl, rfl⟩
    try go_wp2_with fail
    refine hK.out _ _ (by exact ⟨bs.cell 20, bx.cell 0⟩) (fun hHeld => ?_)
    clear hK K
    try simp only [Act.put, List.setIfInBounds_toArray, List.set_cons_zero, List.set_cons_succ]
    refine wpAnyZ_ready (rs := [5]) (by kernel_rfl) (by simp) ?_
    refine AllReadyZ.cons (opAt rfl) (fun K hK => ?_) ?_
    · skip
      go_simp
      have bl := Blk.new wd 29 #[.int .u64 h]
      replace t1 := t1.alloc (.cells #[.int .u64 h] 29)
      replace t2 := t2.alloc (.cells #[.int .u64 h] 29)
      replace t3 := t3.alloc (.cells #[.int .u64 h] 29)
      replace t4 := t4.alloc (.cells #[.int .u64 h] 29)
      replace t5 := t5.alloc (.cells #[.int .u64 h] 29)
      replace bs := bs.alloc (.cells #[.int .u64 h] 29)
      replace bx := bx.alloc (.cells #[.int .u64 h] 29)
      replace bo := bo.alloc (.cells #[.int .u64 h] 29)
      replace B0 := B0.alloc B0.size (.cells #[.int .u64 h] 29)
      generalize wd.heap.size = g5 at *
      generalize wd.alloc (.cells #[.int .u64 h] 29) = w3 at *
      refine hK.out _ _ (by exact ⟨bs.cell 20, bx.cell 0⟩) (fun hHeld => ?_)
      clear hK K
      try simp only [Act.put, List.setIfInBounds_toArray, List.set_cons_zero, List.set_cons_succ]
      refine wpAnyZ_ready (rs := [6]) (by kernel_rfl) (by simp) ?_
      refine AllReadyZ.cons (opAt rfl) (fun K hK => ?_) ?_
      · skip
        refine step_append_grows (by rfl) (.tmp 23) (.tmp 26) _ (by rfl) 29 i0 _ 1 8 Tryd.underlying23 hi0 hz0 hs0 hb0 rfl (by decide) A5 fr.length fr.length (ints .u64 fr) (by rfl) (fun h => ⟨(t5.cap.2.2 h).1, (t5.cap.2.2 h).1⟩) (by rw [ints_len, Nat.mul_one]) t5.holds ⟨g5, 0, none⟩ 1 1 [.int .u64 h] (by rfl) rfl (fun j u hj => by rw [Addr.add_lit]; have := bl.cell j; simpa [this] using hj) (fun u hu => by simp only [List.mem_cons, List.not_mem_nil, or_false] at hu; subst hu; rfl) (by omega) (by unfold maxLen; have := H5.out; omega) (by have := H5.out; omega) ?_
        intro v5 w4 o5 hg
        have HG5 := hide t1.gh
        replace t1 := t1.grown_none hg
        replace t2 := t2.grown_none hg
        replace t3 := t3.grown_none hg
        replace t4 := t4.grown_none hg
        replace bs := bs.grown hg (by simp)
        replace bx := bx.grown hg (by simp)
        replace bo := bo.grown hg (by simp)
        replace B0 := B0.grown hg B0.size (fun _ h => by cases h)
        clear t5
        obtain ⟨m5, HM5⟩ : ∃ m, Hid (m = (fr ++ [h]).length) := ⟨_, hide rfl⟩
        have t5 : Tr w4 29 1 v5 m5 (ints .u64 (fr ++ [h])) := by rw [HM5.out, ints_append, List.length_append]; exact Tr.of_own o5 HG5.out hg.size
        obtain ⟨A7, c7, rfl⟩ := t5.val
        clear o5 hg bl
        refine hK.out _ _ (by exact ⟨bs.cell 20, bx.cell 0⟩) (fun hHeld => ?_)
        clear hK K
        try simp only [Act.put, List.setIfInBounds_toArray, List.set_cons_zero, List.set_cons_succ]
        refine' wpAnyZ_takeA (i := 7) (v := ?_) (opAt rfl) (by kernel_rfl) (by kernel_rfl) (by kernel_rfl) (by kernel_rfl) (fun _ _ _ h => h) (by assumption) (by rfl) (fun w hSw => ?_) ?_
        rotate_left
        · (try dsimp only at hSw); go_simp; (try with_reducible rfl)
        try simp only [Act.put, List.setIfInBounds_toArray, List.set_cons_zero, List.set_cons_succ]
        refine wpAnyZ_ready (rs := [8]) (by kernel_rfl) (by simp) ?_
        refine AllReadyZ.last (opAt rfl) (by kernel_rfl) (fun K hK => ?_) ?_
        · skip
          have zs := fun i => bs.frozen i
          have ms := fun i => bs.cell i
          go_simp
          refine hK.out _ _ ?_
          clear hK K
          try simp only [Act.put, List.setIfInBounds_toArray, List.set_cons_zero, List.set_cons_succ]
          refine wpAnyZ_done (by kernel_rfl) ?_ _
          replace t1 := t1.set_ bs (by decide) 20 (.slice A7 m5 c7)
          replace t2 := t2.set_ bs (by decide) 20 (.slice A7 m5 c7)
          replace t3 := t3.set_ bs (by decide) 20 (.slice A7 m5 c7)
          replace t4 := t4.set_ bs (by decide) 20 (.slice A7 m5 c7)
          replace t5 := t5.set_ bs (by decide) 20 (.slice A7 m5 c7)
          replace bo := bo.far (p := ⟨w.heap.size, 20, none⟩) (by show w.heap.size + 1 + 1 ≠ w.heap.size; omega) (.slice A7 m5 c7)
          replace B0 := B0.setCell (p := ⟨w.heap.size, 20, none⟩) (Nat.le_refl _) (.slice A7 m5 c7)
          replace bs := bs.set_ 20 (.slice A7 m5 c7)
          simp only [List.setIfInBounds_toArray, List.set_cons_zero, List.set_cons_succ] at bs
          clear bx zs ms hHeld
          generalize w4.setCell ⟨w.heap.size, 20, none⟩ (.slice A7 m5 c7) = w5 at *
          go_wp2_with (first | (refine wpList_load_mid rfl 51 (.tmp 2) rfl w.heap.size 0 (by rfl) [.slice A1 r.length c1, .slice A6 (ks.eraseP fun x => x == h).length c6, .int .i64 s, .int .i64 t, .int .i64 f, .int .i64 l, .int .i64 p, .int .i64 k, .int .u64 ep, .slice A3 hz.length c3, .slice A4 td.length c4, .int .i64 q0, .int .i64 q1, .int .i64 q2, .int .i64 q3, .int .i64 q4, .int .i64 pk, .int .i64 sl, .int .u64 hd, .int .i64 tr, .slice A7 m5 c7, .int .i64 ju] _ bs.range Tryd.underlying51 rfl (by kernel_rfl) ?_) | (refine wpList_store_mid rfl 51 (.tmp 4) (.tmp 29) rfl (w.heap.size + 1 + 1) 0 #[.slice A1 r.length c1, .slice A6 (ks.eraseP fun x => x == h).length c6, .int .i64 s, .int .i64 t, .int .i64 f, .int .i64 l, .int .i64 p, .int .i64 k, .int .u64 ep, .slice A3 hz.length c3, .slice A4 td.length c4, .int .i64 q0, .int .i64 q1, .int .i64 q2, .int .i64 q3, .int .i64 q4, .int .i64 pk, .int .i64 sl, .int .u64 hd, .int .i64 tr, .slice A7 m5 c7, .int .i64 ju] (by rfl) (by rfl) (bo.there rfl) (by kernel_rfl) (by kernel_rfl) ?_))
          replace t1 := (show Tr (w5.setCells (w.heap.size + 1 + 1) 0 [.slice A1 r.length c1, .slice A6 (ks.eraseP fun x => x == h).length c6, .int .i64 s, .int .i64 t, .int .i64 f, .int .i64 l, .int .i64 p, .int .i64 k, .int .u64 ep, .slice A3 hz.length c3, .slice A4 td.length c4, .int .i64 q0, .int .i64 q1, .int .i64 q2, .int .i64 q3, .int .i64 q4, .int .i64 pk, .int .i64 sl, .int .u64 hd, .int .i64 tr, .slice A7 m5 c7, .int .i64 ju]) _ _ _ _ _ from by rw [putL_eq]; exact Tr.putL (by decide) _ 0 bo t1)
          replace t2 := (show Tr (w5.setCells (w.heap.size + 1 + 1) 0 [.slice A1 r.length c1, .slice A6 (ks.eraseP fun x => x == h).length c6, .int .i64 s, .int .i64 t, .int .i64 f, .int .i64 l, .int .i64 p, .int .i64 k, .int .u64 ep, .slice A3 hz.length c3, .slice A4 td.length c4, .int .i64 q0, .int .i64 q1, .int .i64 q2, .int .i64 q3, .int .i64 q4, .int .i64 pk, .int .i64 sl, .int .u64 hd, .int .i64 tr, .slice A7 m5 c7, .int .i64 ju]) _ _ _ _ _ from by rw [putL_eq]; exact Tr.putL (by decide) _ 0 bo t2)
          replace t3 := (show Tr (w5.setCells (w.heap.size + 1 + 1) 0 [.slice A1 r.length c1, .slice A6 (ks.eraseP fun x => x == h).length c6, .int .i64 s, .int .i64 t, .int .i64 f, .int .i64 l, .int .i64 p, .int .i64 k, .int .u64 ep, .slice A3 hz.length c3, .slice A4 td.length c4, .int .i64 q0, .int .i64 q1, .int .i64 q2, .int .i64 q3, .int .i64 q4, .int .i64 pk, .int .i64 sl, .int .u64 hd, .int .i64 tr, .slice A7 m5 c7, .int .i64 ju]) _ _ _ _ _ from by rw [putL_eq]; exact Tr.putL (by decide) _ 0 bo t3)
          replace t4 := (show Tr (w5.setCells (w.heap.size + 1 + 1) 0 [.slice A1 r.length c1, .slice A6 (ks.eraseP fun x => x == h).length c6, .int .i64 s, .int .i64 t, .int .i64 f, .int .i64 l, .int .i64 p, .int .i64 k, .int .u64 ep, .slice A3 hz.length c3, .slice A4 td.length c4, .int .i64 q0, .int .i64 q1, .int .i64 q2, .int .i64 q3, .int .i64 q4, .int .i64 pk, .int .i64 sl, .int .u64 hd, .int .i64 tr, .slice A7 m5 c7, .int .i64 ju]) _ _ _ _ _ from by rw [putL_eq]; exact Tr.putL (by decide) _ 0 bo t4)
          replace t5 := (show Tr (w5.setCells (w.heap.size + 1 + 1) 0 [.slice A1 r.length c1, .slice A6 (ks.eraseP fun x => x == h).length c6, .int .i64 s, .int .i64 t, .int .i64 f, .int .i64 l, .int .i64 p, .int .i64 k, .int .u64 ep, .slice A3 hz.length c3, .slice A4 td.length c4, .int .i64 q0, .int .i64 q1, .int .i64 q2, .int .i64 q3, .int .i64 q4, .int .i64 pk, .int .i64 sl, .int .u64 hd, .int .i64 tr, .slice A7 m5 c7, .int .i64 ju]) _ _ _ _ _ from by rw [putL_eq]; exact Tr.putL (by decide) _ 0 bo t5)
          replace B0 := (show Below w.heap.size w (w5.setCells (w.heap.size + 1 + 1) 0 [.slice A1 r.length c1, .slice A6 (ks.eraseP fun x => x == h).length c6, .int .i64 s, .int .i64 t, .int .i64 f, .int .i64 l, .int .i64 p, .int .i64 k, .int .u64 ep, .slice A3 hz.length c3, .slice A4 td.length c4, .int .i64 q0, .int .i64 q1, .int .i64 q2, .int .i64 q3, .int .i64 q4, .int .i64 pk, .int .i64 sl, .int .u64 hd, .int .i64 tr, .slice A7 m5 c7, .int .i64 ju]) from by rw [putL_eq]; exact Below.putL (by omega) _ _ 0 B0)
          replace bo := (show Blk (w5.setCells (w.heap.size + 1 + 1) 0 [.slice A1 r.length c1, .slice A6 (ks.eraseP fun x => x == h).length c6, .int .i64 s, .int .i64 t, .int .i64 f, .int .i64 l, .int .i64 p, .int .i64 k, .int .u64 ep, .slice A3 hz.length c3, .slice A4 td.length c4, .int .i64 q0, .int .i64 q1, .int .i64 q2, .int .i64 q3, .int .i64 q4, .int .i64 pk, .int .i64 sl, .int .u64 hd, .int .i64 tr, .slice A7 m5 c7, .int .i64 ju]) (w.heap.size + 1 + 1) 51 #[.slice A1 r.length c1, .slice A6 (ks.eraseP fun x => x == h).length c6, .int .i64 s, .int .i64 t, .int .i64 f, .int .i64 l, .int .i64 p, .int .i64 k, .int .u64 ep, .slice A3 hz.length c3, .slice A4 td.length c4, .int .i64 q0, .int .i64 q1, .int .i64 q2, .int .i64 q3, .int .i64 q4, .int .i64 pk, .int .i64 sl, .int .u64 hd, .int .i64 tr, .slice A7 m5 c7, .int .i64 ju] from by rw [putL_eq]; have h9 := Blk.putL [.slice A1 r.length c1, .slice A6 (ks.eraseP fun x => x == h).length c6, .int .i64 s, .int .i64 t, .int .i64 f, .int .i64 l, .int .i64 p, .int .i64 k, .int .u64 ep, .slice A3 hz.length c3, .slice A4 td.length c4, .int .i64 q0, .int .i64 q1, .int .i64 q2, .int .i64 q3, .int .i64 q4, .int .i64 pk, .int .i64 sl, .int .u64 hd, .int .i64 tr, .slice A7 m5 c7, .int .i64 ju] _ _ 0 bo; simpa only [setL, List.setIfInBounds_toArray, List.set_cons_zero, List.set_cons_succ] using h9)
          clear bs
          generalize w5.setCells (w.heap.size + 1 + 1) 0 [.slice A1 r.length c1, .slice A6 (ks.eraseP fun x => x == h).length c6, .int .i64 s, .int .i64 t, .int .i64 f, .int .i64 l, .int .i64 p, .int .i64 k, .int .u64 ep, .slice A3 hz.length c3, .slice A4 td.length c4, .int .i64 q0, .int .i64 q1, .int .i64 q2, .int .i64 q3, .int .i64 q4, .int .i64 pk, .int .i64 sl, .int .u64 hd, .int .i64 tr, .slice A7 m5 c7, .int .i64 ju] = w12 at *
          have hres : (loadVar 51 ⟨w.heap.size + 1 + 1, 0, none⟩).run Tryd.prog w12 = .ok (.agg #[.slice A1 r.length c1, .slice A6 (ks.eraseP fun x => x == h).length c6, .int .i64 s, .int .i64 t, .int .i64 f, .int .i64 l, .int .i64 p, .int .i64 k, .int .u64 ep, .slice A3 hz.length c3, .slice A4 td.length c4, .int .i64 q0, .int .i64 q1, .int .i64 q2, .int .i64 q3, .int .i64 q4, .int .i64 pk, .int .i64 sl, .int .u64 hd, .int .i64 tr, .slice A7 m5 c7, .int .i64 ju]) w12 := run_loadVar_mid w12 _ 0 _ [.slice A1 r.length c1, .slice A6 (ks.eraseP fun x => x == h).length c6, .int .i64 s, .int .i64 t, .int .i64 f, .int .i64 l, .int .i64 p, .int .i64 k, .int .u64 ep, .slice A3 hz.length c3, .slice A4 td.length c4, .int .i64 q0, .int .i64 q1, .int .i64 q2, .int .i64 q3, .int .i64 q4, .int .i64 pk, .int .i64 sl, .int .u64 hd, .int .i64 tr, .slice A7 m5 c7, .int .i64 ju] _ bo.range Tryd.underlying51 rfl (by kernel_rfl)
          refine bodyPost_ret (v := .agg #[.slice A1 r.length c1, .slice A6 (ks.eraseP fun x => x == h).length c6, .int .i64 s, .int .i64 t, .int .i64 f, .int .i64 l, .int .i64 p, .int .i64 k, .int .u64 ep, .slice A3 hz.length c3, .slice A4 td.length c4, .int .i64 q0, .int .i64 q1, .int .i64 q2, .int .i64 q3, .int .i64 q4, .int .i64 pk, .int .i64 sl, .int .u64 hd, .int .i64 tr, .slice A7 m5 c7, .int .i64 ju]) (by simp [results, Tryd.results50, Act.put, asAddr, hres]) rfl (by have hm := HM5.out; subst hm; exact ⟨⟨_, rfl, _, _, _, _, _, _, _, _, _, _, rfl, t1, t2, t3, t4, t5⟩, B0⟩)
        exact AllReadyZ.nil
      exact AllReadyZ.nil
    exact AllReadyZ.nil
  refine AllReadyZ.cons (opAt rfl) (fun K hK => ?_) ?_
  · skip
    go_simp
    have bl := Blk.new wd 29 #[.int .u64 h]
    replace t1 := t1.alloc (.cells #[.int .u64 h] 29)
    replace t2 := t2.alloc (.cells #[.int .u64 h] 29)
    replace t3 := t3.alloc (.cells #[.int .u64 h] 29)
    replace t4 := t4.alloc (.cells #[.int .u64 h] 29)
    replace t5 := t5.alloc (.cells #[.int .u64 h] 29)
    replace bs := bs.alloc (.cells #[.int .u64 h] 29)
    replace bx := bx.alloc (.cells #[.int .u64 h] 29)
    replace bo := bo.alloc (.cells #[.int .u64 h] 29)
    replace B0 := B0.alloc B0.size (.cells #[.int .u64 h] 29)
    generalize wd.heap.size = g5 at *
    generalize wd.alloc (.cells #[.int .u64 h] 29) = w3 at *
    refine hK.out _ _ (by exact ⟨bs.cell 20, bx.cell 0⟩) (fun hHeld => ?_)
    clear hK K
    try simp only [Act.put, List.setIfInBounds_toArray, List.set_cons_zero, List.set_cons_succ]
    refine wpAnyZ_ready (rs := [2]) (by kernel_rfl) (by simp) ?_
    refine AllReadyZ.cons (opAt rfl) (fun K hK => ?_) ?_
    · skip
      go_simp
      refine (clipu_any A5 fr.length c5 _ t5.cap.1 t5.cap.2.1).mono ?_
      rintro e w' ⟨rfl, rfl⟩
      try go_wp2_with fail
      refine hK.out _ _ (by exact ⟨bs.cell 20, bx.cell 0⟩) (fun hHeld => ?_)
      clear hK K
      try simp only [Act.put, List.setIfInBounds_toArray, List.set_cons_zero, List.set_cons_succ]
      refine wpAnyZ_ready (rs := [6]) (by kernel_rfl) (by simp) ?_
      refine AllReadyZ.cons (opAt rfl) (fun K hK => ?_) ?_
      · skip
        refine step_append_grows (by rfl) (.tmp 23) (.tmp 26) _ (by rfl) 29 i0 _ 1 8 Tryd.underlying23 hi0 hz0 hs0 hb0 rfl (by decide) A5 fr.length fr.length (ints .u64 fr) (by rfl) (fun h => ⟨(t5.cap.2.2 h).1, (t5.cap.2.2 h).1⟩) (by rw [ints_len, Nat.mul_one]) t5.holds ⟨g5, 0, none⟩ 1 1 [.int .u64 h] (by rfl) rfl (fun j u hj => by rw [Addr.add_lit]; have := bl.cell j; simpa [this] using hj) (fun u hu => by simp only [List.mem_cons, List.not_mem_nil, or_false] at hu; subst hu; rfl) (by omega) (by unfold maxLen; have := H5.out; omega) (by have := H5.out; omega) ?_
        intro v5 w4 o5 hg
        have HG5 := hide t1.gh
        replace t1 := t1.grown_none hg
        replace t2 := t2.grown_none hg
        replace t3 := t3.grown_none hg
        replace t4 := t4.grown_none hg
        replace bs := bs.grown hg (by simp)
        replace bx := bx.grown hg (by simp)
        replace bo := bo.grown hg (by simp)
        replace B0 := B0.grown hg B0.size (fun _ h => by cases h)
        clear t5
        obtain ⟨m5, HM5⟩ : ∃ m, Hid (m = (fr ++ [h]).length) := ⟨_, hide rfl⟩
        have t5 : Tr w4 29 1 v5 m5 (ints .u64 (fr ++ [h])) := by rw [HM5.out, ints_append, List.length_append]; exact Tr.of_own o5 HG5.out hg.size
        obtain ⟨A7, c7, rfl⟩ := t5.val
        clear o5 hg bl
        refine hK.out _ _ (by exact ⟨bs.cell 20, bx.cell 0⟩) (fun hHeld => ?_)
        clear hK K
        try simp only [Act.put, List.setIfInBounds_toArray, List.set_cons_zero, List.set_cons_succ]
        refine' wpAnyZ_takeA (i := 7) (v := ?_) (opAt rfl) (by kernel_rfl) (by kernel_rfl) (by kernel_rfl) (by kernel_rfl) (fun _ _ _ h => h) (by assumption) (by rfl) (fun w hSw => ?_) ?_
        rotate_left
        · (try dsimp only at hSw); go_simp; (try with_reducible rfl)
        try simp only [Act.put, List.setIfInBounds_toArray, List.set_cons_zero, List.set_cons_succ]
        refine wpAnyZ_ready (rs := [8]) (by kernel_rfl) (by simp) ?_
        refine AllReadyZ.last (opAt rfl) (by kernel_rfl) (fun K hK => ?_) ?_
        · skip
          have zs := fun i => bs.frozen i
          have ms := fun i => bs.cell i
          go_simp
          refine hK.out _ _ ?_
          clear hK K
          try simp only [Act.put, List.setIfInBounds_toArray, List.set_cons_zero, List.set_cons_succ]
          refine wpAnyZ_done (by kernel_rfl) ?_ _
          replace t1 := t1.set_ bs (by decide) 20 (.slice A7 m5 c7)
          replace t2 := t2.set_ bs (by decide) 20 (.slice A7 m5 c7)
          replace t3 := t3.set_ bs (by decide) 20 (.slice A7 m5 c7)
          replace t4 := t4.set_ bs (by decide) 20 (.slice A7 m5 c7)
          replace t5 := t5.set_ bs (by decide) 20 (.slice A7 m5 c7)
          replace bo := bo.far (p := ⟨w.heap.size, 20, none⟩) (by show w.heap.size + 1 + 1 ≠ w.heap.size; omega) (.slice A7 m5 c7)
          replace B0 := B0.setCell (p := ⟨w.heap.size, 20, none⟩) (Nat.le_refl _) (.slice A7 m5 c7)
          replace bs := bs.set_ 20 (.slice A7 m5 c7)
          simp only [List.setIfInBounds_toArray, List.set_cons_zero, List.set_cons_succ] at bs
          clear bx zs ms hHeld
          generalize w4.setCell ⟨w.heap.size, 20, none⟩ (.slice A7 m5 c7) = w5 at *
          go_wp2_with (first | (refine wpList_load_mid rfl 51 (.tmp 2) rfl w.heap.size 0 (by rfl) [.slice A1 r.length c1, .slice A6 (ks.eraseP fun x => x == h).length c6, .int .i64 s, .int .i64 t, .int .i64 f, .int .i64 l, .int .i64 p, .int .i64 k, .int .u64 ep, .slice A3 hz.length c3, .slice A4 td.length c4, .int .i64 q0, .int .i64 q1, .int .i64 q2, .int .i64 q3, .int .i64 q4, .int .i64 pk, .int .i64 sl, .int .u64 hd, .int .i64 tr, .slice A7 m5 c7, .int .i64 ju] _ bs.range Tryd.underlying51 rfl (by kernel_rfl) ?_) | (refine wpList_store_mid rfl 51 (.tmp 4) (.tmp 29) rfl (w.heap.size + 1 + 1) 0 #[.slice A1 r.length c1, .slice A6 (ks.eraseP fun x => x == h).length c6, .int .i64 s, .int .i64 t, .int .i64 f, .int .i64 l, .int .i64 p, .int .i64 k, .int .u64 ep, .slice A3 hz.length c3, .slice A4 td.length c4, .int .i64 q0, .int .i64 q1, .int .i64 q2, .int .i64 q3, .int .i64 q4, .int .i64 pk, .int .i64 sl, .int .u64 hd, .int .i64 tr, .slice A7 m5 c7, .int .i64 ju] (by rfl) (by rfl) (bo.there rfl) (by kernel_rfl) (by kernel_rfl) ?_))
          replace t1 := (show Tr (w5.setCells (w.heap.size + 1 + 1) 0 [.slice A1 r.length c1, .slice A6 (ks.eraseP fun x => x == h).length c6, .int .i64 s, .int .i64 t, .int .i64 f, .int .i64 l, .int .i64 p, .int .i64 k, .int .u64 ep, .slice A3 hz.length c3, .slice A4 td.length c4, .int .i64 q0, .int .i64 q1, .int .i64 q2, .int .i64 q3, .int .i64 q4, .int .i64 pk, .int .i64 sl, .int .u64 hd, .int .i64 tr, .slice A7 m5 c7, .int .i64 ju]) _ _ _ _ _ from by rw [putL_eq]; exact Tr.putL (by decide) _ 0 bo t1)
          replace t2 := (show Tr (w5.setCells (w.heap.size + 1 + 1) 0 [.slice A1 r.length c1, .slice A6 (ks.eraseP fun x => x == h).length c6, .int .i64 s, .int .i64 t, .int .i64 f, .int .i64 l, .int .i64 p, .int .i64 k, .int .u64 ep, .slice A3 hz.length c3, .slice A4 td.length c4, .int .i64 q0, .int .i64 q1, .int .i64 q2, .int .i64 q3, .int .i64 q4, .int .i64 pk, .int .i64 sl, .int .u64 hd, .int .i64 tr, .slice A7 m5 c7, .int .i64 ju]) _ _ _ _ _ from by rw [putL_eq]; exact Tr.putL (by decide) _ 0 bo t2)
          replace t3 := (show Tr (w5.setCells (w.heap.size + 1 + 1) 0 [.slice A1 r.length c1, .slice A6 (ks.eraseP fun x => x == h).length c6, .int .i64 s, .int .i64 t, .int .i64 f, .int .i64 l, .int .i64 p, .int .i64 k, .int .u64 ep, .slice A3 hz.length c3, .slice A4 td.length c4, .int .i64 q0, .int .i64 q1, .int .i64 q2, .int .i64 q3, .int .i64 q4, .int .i64 pk, .int .i64 sl, .int .u64 hd, .int .i64 tr, .slice A7 m5 c7, .int .i64 ju]) _ _ _ _ _ from by rw [putL_eq]; exact Tr.putL (by decide) _ 0 bo t3)
          replace t4 := (show Tr (w5.setCells (w.heap.size + 1 + 1) 0 [.slice A1 r.length c1, .slice A6 (ks.eraseP fun x => x == h).length c6, .int .i64 s, .int .i64 t, .int .i64 f, .int .i64 l, .int .i64 p, .int .i64 k, .int .u64 ep, .slice A3 hz.length c3, .slice A4 td.length c4, .int .i64 q0, .int .i64 q1, .int .i64 q2, .int .i64 q3, .int .i64 q4, .int .i64 pk, .int .i64 sl, .int .u64 hd, .int .i64 tr, .slice A7 m5 c7, .int .i64 ju]) _ _ _ _ _ from by rw [putL_eq]; exact Tr.putL (by decide) _ 0 bo t4)
          replace t5 := (show Tr (w5.setCells (w.heap.size + 1 + 1) 0 [.slice A1 r.length c1, .slice A6 (ks.eraseP fun x => x == h).length c6, .int .i64 s, .int .i64 t, .int .i64 f, .int .i64 l, .int .i64 p, .int .i64 k, .int .u64 ep, .slice A3 hz.length c3, .slice A4 td.length c4, .int .i64 q0, .int .i64 q1, .int .i64 q2, .int .i64 q3, .int .i64 q4, .int .i64 pk, .int .i64 sl, .int .u64 hd, .int .i64 tr, .slice A7 m5 c7, .int .i64 ju]) _ _ _ _ _ from by rw [putL_eq]; exact Tr.putL (by decide) _ 0 bo t5)
          replace B0 := (show Below w.heap.size w (w5.setCells (w.heap.size + 1 + 1) 0 [.slice A1 r.length c1, .slice A6 (ks.eraseP fun x => x == h).length c6, .int .i64 s, .int .i64 t, .int .i64 f, .int .i64 l, .int .i64 p, .int .i64 k, .int .u64 ep, .slice A3 hz.length c3, .slice A4 td.length c4, .int .i64 q0, .int .i64 q1, .int .i64 q2, .int .i64 q3, .int .i64 q4, .int .i64 pk, .int .i64 sl, .int .u64 hd, .int .i64 tr, .slice A7 m5 c7, .int .i64 ju]) from by rw [putL_eq]; exact Below.putL (by omega) _ _ 0 B0)
          replace bo := (show Blk (w5.setCells (w.heap.size + 1 + 1) 0 [.slice A1 r.length c1, .slice A6 (ks.eraseP fun x => x == h).length c6, .int .i64 s, .int .i64 t, .int .i64 f, .int .i64 l, .int .i64 p, .int .i64 k, .int .u64 ep, .slice A3 hz.length c3, .slice A4 td.length c4, .int .i64 q0, .int .i64 q1, .int .i64 q2, .int .i64 q3, .int .i64 q4, .int .i64 pk, .int .i64 sl, .int .u64 hd, .int .i64 tr, .slice A7 m5 c7, .int .i64 ju]) (w.heap.size + 1 + 1) 51 #[.slice A1 r.length c1, .slice A6 (ks.eraseP fun x => x == h).length c6, .int .i64 s, .int .i64 t, .int .i64 f, .int .i64 l, .int .i64 p, .int .i64 k, .int .u64 ep, .slice A3 hz.length c3, .slice A4 td.length c4, .int .i64 q0, .int .i64 q1, .int .i64 q2, .int .i64 q3, .int .i64 q4, .int .i64 pk, .int .i64 sl, .int .u64 hd, .int .i64 tr, .slice A7 m5 c7, .int .i64 ju] from by rw [putL_eq]; have h9 := Blk.putL [.slice A1 r.length c1, .slice A6 (ks.eraseP fun x => x == h).length c6, .int .i64 s, .int .i64 t, .int .i64 f, .int .i64 l, .int .i64 p, .int .i64 k, .int .u64 ep, .slice A3 hz.length c3, .slice A4 td.length c4, .int .i64 q0, .int .i64 q1, .int .i64 q2, .int .i64 q3, .int .i64 q4, .int .i64 pk, .int .i64 sl, .int .u64 hd, .int .i64 tr, .slice A7 m5 c7, .int .i64 ju] _ _ 0 bo; simpa only [setL, List.setIfInBounds_toArray, List.set_cons_zero, List.set_cons_succ] using h9)
          clear bs
          generalize w5.setCells (w.heap.size + 1 + 1) 0 [.slice A1 r.length c1, .slice A6 (ks.eraseP fun x => x == h).length c6, .int .i64 s, .int .i64 t, .int .i64 f, .int .i64 l, .int .i64 p, .int .i64 k, .int .u64 ep, .slice A3 hz.length c3, .slice A4 td.length c4, .int .i64 q0, .int .i64 q1, .int .i64 q2, .int .i64 q3, .int .i64 q4, .int .i64 pk, .int .i64 sl, .int .u64 hd, .int .i64 tr, .slice A7 m5 c7, .int .i64 ju] = w12 at *
          have hres : (loadVar 51 ⟨w.heap.size + 1 + 1, 0, none⟩).run Tryd.prog w12 = .ok (.agg #[.slice A1 r.length c1, .slice A6 (ks.eraseP fun x => x == h).length c6, .int .i64 s, .int .i64 t, .int .i64 f, .int .i64 l, .int .i64 p, .int .i64 k, .int .u64 ep, .slice A3 hz.length c3, .slice A4 td.length c4, .int .i64 q0, .int .i64 q1, .int .i64 q2, .int .i64 q3, .int .i64 q4, .int .i64 pk, .int .i64 sl, .int .u64 hd, .int .i64 tr, .slice A7 m5 c7, .int .i64 ju]) w12 := run_loadVar_mid w12 _ 0 _ [.slice A1 r.length c1, .slice A6 (ks.eraseP fun x => x == h).length c6, .int .i64 s, .int .i64 t, .int .i64 f, .int .i64 l, .int .i64 p, .int .i64 k, .int .u64 ep, .slice A3 hz.length c3, .slice A4 td.length c4, .int .i64 q0, .int .i64 q1, .int .i64 q2, .int .i64 q3, .int .i64 q4, .int .i64 pk, .int .i64 sl, .int .u64 hd, .int .i64 tr, .slice A7 m5 c7, .int .i64 ju] _ bo.range Tryd.underlying51 rfl (by kernel_rfl)
          refine bodyPost_ret (v := .agg #[.slice A1 r.length c1, .slice A6 (ks.eraseP fun x => x == h).length c6, .int .i64 s, .int .i64 t, .int .i64 f, .int .i64 l, .int .i64 p, .int .i64 k, .int .u64 ep, .slice A3 hz.length c3, .slice A4 td.length c4, .int .i64 q0, .int .i64 q1, .int .i64 q2, .int .i64 q3, .int .i64 q4, .int .i64 pk, .int .i64 sl, .int .u64 hd, .int .i64 tr, .slice A7 m5 c7, .int .i64 ju]) (by simp [results, Tryd.results50, Act.put, asAddr, hres]) rfl (by have hm := HM5.out; subst hm; exact ⟨⟨_, rfl, _, _, _, _, _, _, _, _, _, _, rfl, t1, t2, t3, t4, t5⟩, B0⟩)
        exact AllReadyZ.nil
      exact AllReadyZ.nil
    exact AllReadyZ.nil
  exact AllReadyZ.nil
set_option linter.unusedSimpArgs false in
set_option maxRecDepth 100000 in
set_option maxHeartbeats 4000000 in
theorem sgone_l [Inhabited GhT] (s t f l p k ep : Int) (r : List (Int × Int)) (ks hz : List Int) (td : List (Int × Bool)) (q0 q1 q2 q3 q4 pk sl hd tr : Int) (fr : List Int) (ju : Int) (h : Int) (v : Value) (w : World) (hv : SwV w s t f l p k ep r ks hz td q0 q1 q2 q3 q4 pk sl hd tr fr ju v) (h1 : r.length ≤ 1000) (h2 : ks.length ≤ 1000) (h5 : fr.length ≤ 1000) (hw : ∀ x ∈ r, W64 x.2) (hp : W64 ep) :
    Calls Tryd.prog 50 #[v, .agg #[.int .u64 h, .bool false]] w fun e w' => (∃ v', e = .returned v' ∧ SwV w' s t f l p k ep (r.eraseP fun x => x.1 == h && ripeB x.2 ep) ks hz td q0 q1 q2 q3 q4 pk sl hd tr (fr ++ [h]) ju v') ∧ Below w.heap.size w w' := by
  obtain ⟨A1, c1, A2, c2, A3, c3, A4, c4, A5, c5, rfl, t1, t2, t3, t4, t5⟩ := hv
  obtain ⟨i0, hi0, hz0, hs0, hb0⟩ := info_parts infoU64
  have B0 := (((Below.refl w.heap.size w).alloc (Nat.le_refl _) (.cells #[.slice A1 r.length c1, .slice A2 ks.length c2, .int .i64 s, .int .i64 t, .int .i64 f, .int .i64 l, .int .i64 p, .int .i64 k, .int .u64 ep, .slice A3 hz.length c3, .slice A4 td.length c4, .int .i64 q0, .int .i64 q1, .int .i64 q2, .int .i64 q3, .int .i64 q4, .int .i64 pk, .int .i64 sl, .int .u64 hd, .int .i64 tr, .slice A5 fr.length c5, .int .i64 ju] 51)).alloc (by simp only [World.size_alloc]; omega) (.cells #[.int .u64 h, .bool false] 82)).alloc (by simp only [World.size_alloc]; omega) (.cells #[.slice none 0 0, .slice none 0 0, .int .i64 0, .int .i64 0, .int .i64 0, .int .i64 0, .int .i64 0, .int .i64 0, .int .u64 0, .slice none 0 0, .slice none 0 0, .int .i64 0, .int .i64 0, .int .i64 0, .int .i64 0, .int .i64 0, .int .i64 0, .int .i64 0, .int .u64 0, .int .i64 0, .slice none 0 0, .int .i64 0] 51)
  have bs := ((Blk.new w 51 #[.slice A1 r.length c1, .slice A2 ks.length c2, .int .i64 s, .int .i64 t, .int .i64 f, .int .i64 l, .int .i64 p, .int .i64 k, .int .u64 ep, .slice A3 hz.length c3, .slice A4 td.length c4, .int .i64 q0, .int .i64 q1, .int .i64 q2, .int .i64 q3, .int .i64 q4, .int .i64 pk, .int .i64 sl, .int .u64 hd, .int .i64 tr, .slice A5 fr.length c5, .int .i64 ju]).alloc (.cells #[.int .u64 h, .bool false] 82)).alloc (.cells #[.slice none 0 0, .slice none 0 0, .int .i64 0, .int .i64 0, .int .i64 0, .int .i64 0, .int .i64 0, .int .i64 0, .int .u64 0, .slice none 0 0, .slice none 0 0, .int .i64 0, .int .i64 0, .int .i64 0, .int .i64 0, .int .i64 0, .int .i64 0, .int .i64 0, .int .u64 0, .int .i64 0, .slice none 0 0, .int .i64 0] 51)
  have bx := (Blk.new (w.alloc (.cells #[.slice A1 r.length c1, .slice A2 ks.length c2, .int .i64 s, .int .i64 t, .int .i64 f, .int .i64 l, .int .i64 p, .int .i64 k, .int .u64 ep, .slice A3 hz.length c3, .slice A4 td.length c4, .int .i64 q0, .int .i64 q1, .int .i64 q2, .int .i64 q3, .int .i64 q4, .int .i64 pk, .int .i64 sl, .int .u64 hd, .int .i64 tr, .slice A5 fr.length c5, .int .i64 ju] 51)) 82 #[.int .u64 h, .bool false]).alloc (.cells #[.slice none 0 0, .slice none 0 0, .int .i64 0, .int .i64 0, .int .i64 0, .int .i64 0, .int .i64 0, .int .i64 0, .int .u64 0, .slice none 0 0, .slice none 0 0, .int .i64 0, .int .i64 0, .int .i64 0, .int .i64 0, .int .i64 0, .int .i64 0, .int .i64 0, .int .u64 0, .int .i64 0, .slice none 0 0, .int .i64 0] 51)
  have bo := Blk.new ((w.alloc (.cells #[.slice A1 r.length c1, .slice A2 ks.length c2, .int .i64 s, .int .i64 t, .int .i64 f, .int .i64 l, .int .i64 p, .int .i64 k, .int .u64 ep, .slice A3 hz.length c3, .slice A4 td.length c4, .int .i64 q0, .int .i64 q1, .int .i64 q2, .int .i64 q3, .int .i64 q4, .int .i64 pk, .int .i64 sl, .int .u64 hd, .int .i64 tr, .slice A5 fr.length c5, .int .i64 ju] 51)).alloc (.cells #[.int .u64 h, .bool false] 82)) 51 #[.slice none 0 0, .slice none 0 0, .int .i64 0, .int .i64 0, .int .i64 0, .int .i64 0, .int .i64 0, .int .i64 0, .int .u64 0, .slice none 0 0, .slice none 0 0, .int .i64 0, .int .i64 0, .int .i64 0, .int .i64 0, .int .i64 0, .int .i64 0, .int .i64 0, .int .u64 0, .int .i64 0, .slice none 0 0, .int .i64 0]
  simp only [World.size_alloc] at bo bx
  replace t1 := ((t1.alloc (.cells #[.slice A1 r.length c1, .slice A2 ks.length c2, .int .i64 s, .int .i64 t, .int .i64 f, .int .i64 l, .int .i64 p, .int .i64 k, .int .u64 ep, .slice A3 hz.length c3, .slice A4 td.length c4, .int .i64 q0, .int .i64 q1, .int .i64 q2, .int .i64 q3, .int .i64 q4, .int .i64 pk, .int .i64 sl, .int .u64 hd, .int .i64 tr, .slice A5 fr.length c5, .int .i64 ju] 51)).alloc (.cells #[.int .u64 h, .bool false] 82)).alloc (.cells #[.slice none 0 0, .slice none 0 0, .int .i64 0, .int .i64 0, .int .i64 0, .int .i64 0, .int .i64 0, .int .i64 0, .int .u64 0, .slice none 0 0, .slice none 0 0, .int .i64 0, .int .i64 0, .int .i64 0, .int .i64 0, .int .i64 0, .int .i64 0, .int .i64 0, .int .u64 0, .int .i64 0, .slice none 0 0, .int .i64 0] 51)
  replace t2 := ((t2.alloc (.cells #[.slice A1 r.length c1, .slice A2 ks.length c2, .int .i64 s, .int .i64 t, .int .i64 f, .int .i64 l, .int .i64 p, .int .i64 k, .int .u64 ep, .slice A3 hz.length c3, .slice A4 td.length c4, .int .i64 q0, .int .i64 q1, .int .i64 q2, .int .i64 q3, .int .i64 q4, .int .i64 pk, .int .i64 sl, .int .u64 hd, .int .i64 tr, .slice A5 fr.length c5, .int .i64 ju] 51)).alloc (.cells #[.int .u64 h, .bool false] 82)).alloc (.cells #[.slice none 0 0, .slice none 0 0, .int .i64 0, .int .i64 0, .int .i64 0, .int .i64 0, .int .i64 0, .int .i64 0, .int .u64 0, .slice none 0 0, .slice none 0 0, .int .i64 0, .int .i64 0, .int .i64 0, .int .i64 0, .int .i64 0, .int .i64 0, .int .i64 0, .int .u64 0, .int .i64 0, .slice none 0 0, .int .i64 0] 51)
  replace t3 := ((t3.alloc (.cells #[.slice A1 r.length c1, .slice A2 ks.length c2, .int .i64 s, .int .i64 t, .int .i64 f, .int .i64 l, .int .i64 p, .int .i64 k, .int .u64 ep, .slice A3 hz.length c3, .slice A4 td.length c4, .int .i64 q0, .int .i64 q1, .int .i64 q2, .int .i64 q3, .int .i64 q4, .int .i64 pk, .int .i64 sl, .int .u64 hd, .int .i64 tr, .slice A5 fr.length c5, .int .i64 ju] 51)).alloc (.cells #[.int .u64 h, .bool false] 82)).alloc (.cells #[.slice none 0 0, .slice none 0 0, .int .i64 0, .int .i64 0, .int .i64 0, .int .i64 0, .int .i64 0, .int .i64 0, .int .u64 0, .slice none 0 0, .slice none 0 0, .int .i64 0, .int .i64 0, .int .i64 0, .int .i64 0, .int .i64 0, .int .i64 0, .int .i64 0, .int .u64 0, .int .i64 0, .slice none 0 0, .int .i64 0] 51)
  replace t4 := ((t4.alloc (.cells #[.slice A1 r.length c1, .slice A2 ks.length c2, .int .i64 s, .int .i64 t, .int .i64 f, .int .i64 l, .int .i64 p, .int .i64 k, .int .u64 ep, .slice A3 hz.length c3, .slice A4 td.length c4, .int .i64 q0, .int .i64 q1, .int .i64 q2, .int .i64 q3, .int .i64 q4, .int .i64 pk, .int .i64 sl, .int .u64 hd, .int .i64 tr, .slice A5 fr.length c5, .int .i64 ju] 51)).alloc (.cells #[.int .u64 h, .bool false] 82)).alloc (.cells #[.slice none 0 0, .slice none 0 0, .int .i64 0, .int .i64 0, .int .i64 0, .int .i64 0, .int .i64 0, .int .i64 0, .int .u64 0, .slice none 0 0, .slice none 0 0, .int .i64 0, .int .i64 0, .int .i64 0, .int .i64 0, .int .i64 0, .int .i64 0, .int .i64 0, .int .u64 0, .int .i64 0, .slice none 0 0, .int .i64 0] 51)
  replace t5 := ((t5.alloc (.cells #[.slice A1 r.length c1, .slice A2 ks.length c2, .int .i64 s, .int .i64 t, .int .i64 f, .int .i64 l, .int .i64 p, .int .i64 k, .int .u64 ep, .slice A3 hz.length c3, .slice A4 td.length c4, .int .i64 q0, .int .i64 q1, .int .i64 q2, .int .i64 q3, .int .i64 q4, .int .i64 pk, .int .i64 sl, .int .u64 hd, .int .i64 tr, .slice A5 fr.length c5, .int .i64 ju] 51)).alloc (.cells #[.int .u64 h, .bool false] 82)).alloc (.cells #[.slice none 0 0, .slice none 0 0, .int .i64 0, .int .i64 0, .int .i64 0, .int .i64 0, .int .i64 0, .int .i64 0, .int .u64 0, .slice none 0 0, .slice none 0 0, .int .i64 0, .int .i64 0, .int .i64 0, .int .i64 0, .int .i64 0, .int .i64 0, .int .i64 0, .int .u64 0, .int .i64 0, .slice none 0 0, .int .i64 0] 51)
  have H1 := hide h1
  have H2 := hide h2
  have H5 := hide h5
  have HW := hide hw
  have HP := hide hp
  clear h1 h2 h5 hw hp
  go_enter Tryd.func50, Tryd.ntmps50
  go_wp2_with fail
  generalize ((w.alloc (.cells #[.slice A1 r.length c1, .slice A2 ks.length c2, .int .i64 s, .int .i64 t, .int .i64 f, .int .i64 l, .int .i64 p, .int .i64 k, .int .u64 ep, .slice A3 hz.length c3, .slice A4 td.length c4, .int .i64 q0, .int .i64 q1, .int .i64 q2, .int .i64 q3, .int .i64 q4, .int .i64 pk, .int .i64 sl, .int .u64 hd, .int .i64 tr, .slice A5 fr.length c5, .int .i64 ju] 51)).alloc (.cells #[.int .u64 h, .bool false] 82)).alloc (.cells #[.slice none 0 0, .slice none 0 0, .int .i64 0, .int .i64 0, .int .i64 0, .int .i64 0, .int .i64 0, .int .i64 0, .int .u64 0, .slice none 0 0, .slice none 0 0, .int .i64 0, .int .i64 0, .int .i64 0, .int .i64 0, .int .i64 0, .int .i64 0, .int .i64 0, .int .u64 0, .int .i64 0, .slice none 0 0, .int .i64 0] 51) = w0 at *
  have mx := fun i => bx.cell i
  have ms := fun i => bs.cell i
  go_wp2_with fail
  refine (withoutR_any _ r 73 #[] #[.pointer (some ⟨w.heap.size + 1, 0, none⟩), .pointer (some ⟨w.heap.size, 0, none⟩)] (fun x => x.1 == h && ripeB x.2 ep) w0 H1.out t1 (fun args w' => run_enter Tryd.func73 (by decide) (by simp [Tryd.f73]) args w') (fun x hx w' hb => gone2_any (.slice A1 r.length c1) (.slice A2 ks.length c2) (.int .i64 s) (.int .i64 t) (.int .i64 f) (.int .i64 l) (.int .i64 p) (.int .i64 k) (.slice A3 hz.length c3) (.slice A4 td.length c4) (.int .i64 q0) (.int .i64 q1) (.int .i64 q2) (.int .i64 q3) (.int .i64 q4) (.int .i64 pk) (.int .i64 sl) (.int .u64 hd) (.int .i64 tr) (.slice A5 fr.length c5) (.int .i64 ju) ep x.1 x.2 h _ w' _ _ (HW.out x hx) HP.out (bx.below hb bx.lt) (bs.below hb bs.lt))).mono ?_
  rintro e w1 ⟨⟨u, rfl, o2⟩, hb⟩
  replace t2 := t2.below (Nat.le_refl _) hb
  replace t3 := t3.below (Nat.le_refl _) hb
  replace t4 := t4.below (Nat.le_refl _) hb
  replace t5 := t5.below (Nat.le_refl _) hb
  obtain ⟨A6, c6, rfl⟩ := o2.val
  replace bs := bs.below hb bs.lt
  replace bx := bx.below hb bx.lt
  replace bo := bo.below hb bo.lt
  replace B0 := B0.trans (hb.mono B0.size)
  clear hb mx ms
  have mx := fun i => bx.cell i
  have ms := fun i => bs.cell i
  have zs := fun i => bs.frozen i
  go_wp2_with fail
  replace o2 := o2.set_ bs (by decide) 0 (.slice A6 (r.eraseP fun x => x.1 == h && ripeB x.2 ep).length c6)
  replace t2 := t2.set_ bs (by decide) 0 (.slice A6 (r.eraseP fun x => x.1 == h && ripeB x.2 ep).length c6)
  replace t3 := t3.set_ bs (by decide) 0 (.slice A6 (r.eraseP fun x => x.1 == h && ripeB x.2 ep).length c6)
  replace t4 := t4.set_ bs (by decide) 0 (.slice A6 (r.eraseP fun x => x.1 == h && ripeB x.2 ep).length c6)
  replace t5 := t5.set_ bs (by decide) 0 (.slice A6 (r.eraseP fun x => x.1 == h && ripeB x.2 ep).length c6)
  replace bx := bx.far (p := ⟨w.heap.size, 0, none⟩) (by show w.heap.size + 1 ≠ w.heap.size; omega) (.slice A6 (r.eraseP fun x => x.1 == h && ripeB x.2 ep).length c6)
  replace bo := bo.far (p := ⟨w.heap.size, 0, none⟩) (by show w.heap.size + 1 + 1 ≠ w.heap.size; omega) (.slice A6 (r.eraseP fun x => x.1 == h && ripeB x.2 ep).length c6)
  replace B0 := B0.setCell (p := ⟨w.heap.size, 0, none⟩) (Nat.le_refl _) (.slice A6 (r.eraseP fun x => x.1 == h && ripeB x.2 ep).length c6)
  replace bs := bs.set_ 0 (.slice A6 (r.eraseP fun x => x.1 == h && ripeB x.2 ep).length c6)
  simp only [List.setIfInBounds_toArray, List.set_cons_zero, List.set_cons_succ] at bs
  clear mx ms zs
  generalize w1.setCell ⟨w.heap.size, 0, none⟩ (.slice A6 (r.eraseP fun x => x.1 == h && ripeB x.2 ep).length c6) = w2 at *
  clear t1
  have t1 := o2
  clear o2
  refine wp_region_heldZ [8] (fun w' => w'.cell? ⟨w.heap.size, 20, none⟩ = some (.slice A5 fr.length c5) ∧ w'.cell? ⟨w.heap.size + 1, 0, none⟩ = some (.int .u64 h)) (by kernel_rfl) (by exact ⟨bs.cell 20, bx.cell 0⟩) (fun hHeld => ?_)
  replace t1 := t1.drew
  replace t2 := t2.drew
  replace t3 := t3.drew
  replace t4 := t4.drew
  replace t5 := t5.drew
  replace bs := bs.drew
  replace bx := bx.drew
  replace bo := bo.drew
  replace B0 := B0.drew
  generalize w2.drew = wd at *
  refine' wpAnyZ_takeA (i := 0) (v := ?_) (opAt rfl) (by kernel_rfl) (by kernel_rfl) (by kernel_rfl) (by kernel_rfl) (fun _ _ _ h => h) (by assumption) (by rfl) (fun w hSw => ?_) ?_
  rotate_left
  · (try dsimp only at hSw); go_simp; (try with_reducible rfl)
  try simp only [Act.put, List.setIfInBounds_toArray, List.set_cons_zero, List.set_cons_succ]
  refine' wpAnyZ_takeA (i := 1) (v := ?_) (opAt rfl) (by kernel_rfl) (by kernel_rfl) (by kernel_rfl) (by kernel_rfl) (fun _ _ _ h => h) (by assumption) (by rfl) (fun w hSw => ?_) ?_
  rotate_left
  · (try dsimp only at hSw); go_simp; (try with_reducible rfl)
  try simp only [Act.put, List.setIfInBounds_toArray, List.set_cons_zero, List.set_cons_succ]
  refine' wpAnyZ_takeA (i := 3) (v := ?_) (opAt rfl) (by kernel_rfl) (by kernel_rfl) (by kernel_rfl) (by kernel_rfl) (fun _ _ _ h => h) (by assumption) (by rfl) (fun w hSw => ?_) ?_
  rotate_left
  · (try dsimp only at hSw); go_simp; (try with_reducible rfl)
  try simp only [Act.put, List.setIfInBounds_toArray, List.set_cons_zero, List.set_cons_succ]
  refine' wpAnyZ_takeA (i := 4) (v := ?_) (opAt rfl) (by kernel_rfl) (by kernel_rfl) (by kernel_rfl) (by kernel_rfl) (fun _ _ _ h => h) (by assumption) (by rfl) (fun w hSw => ?_) ?_
  rotate_left
  · (try dsimp only at hSw); go_simp; (try with_reducible rfl)
  try simp only [Act.put, List.setIfInBounds_toArray, List.set_cons_zero, List.set_cons_succ]
  refine wpAnyZ_ready (rs := [2, 5]) (by kernel_rfl) (by simp) ?_
  refine AllReadyZ.cons (opAt rfl) (fun K hK => ?_) ?_
  · skip
    go_simp
    refine (clipu_any A5 fr.length c5 _ t5.cap.1 t5.cap.2.1).mono ?_
    rintro e w' ⟨rfl, rfl⟩
    try go_wp2_with fail
    refine hK.out _ _ (by exact ⟨bs.cell 20, bx.cell 0⟩) (fun hHeld => ?_)
    clear hK K
    try simp only [Act.put, List.setIfInBounds_toArray, List.set_cons_zero, List.set_cons_succ]
    refine wpAnyZ_ready (rs := [5]) (by kernel_rfl) (by simp) ?_
    refine AllReadyZ.cons (opAt rfl) (fun K hK => ?_) ?_
    · skip
      go_simp
      have bl := Blk.new wd 29 #[.int .u64 h]
      replace t1 := t1.alloc (.cells #[.int .u64 h] 29)
      replace t2 := t2.alloc (.cells #[.int .u64 h] 29)
      replace t3 := t3.alloc (.cells #[.int .u64 h] 29)
      replace t4 := t4.alloc (.cells #[.int .u64 h] 29)
      replace t5 := t5.alloc (.cells #[.int .u64 h] 29)
      replace bs := bs.alloc (.cells #[.int .u64 h] 29)
      replace bx := bx.alloc (.cells #[.int .u64 h] 29)
      replace bo := bo.alloc (.cells #[.int .u64 h] 29)
      replace B0 := B0.alloc B0.size (.cells #[.int .u64 h] 29)
      generalize wd.heap.size = g5 at *
      generalize wd.alloc (.cells #[.int .u64 h] 29) = w3 at *
      refine hK.out _ _ (by exact ⟨bs.cell 20, bx.cell 0⟩) (fun hHeld => ?_)
      clear hK K
      try simp only [Act.put, List.setIfInBounds_toArray, List.set_cons_zero, List.set_cons_succ]
      refine wpAnyZ_ready (rs := [6]) (by kernel_rfl) (by simp) ?_
      refine AllReadyZ.cons (opAt rfl) (fun K hK => ?_) ?_
      · skip
        refine step_append_grows (by rfl) (.tmp 23) (.tmp 26) _ (by rfl) 29 i0 _ 1 8 Tryd.underlying23 hi0 hz0 hs0 hb0 rfl (by decide) A5 fr.length fr.length (ints .u64 fr) (by rfl) (fun h => ⟨(t5.cap.2.2 h).1, (t5.cap.2.2 h).1⟩) (by rw [ints_len, Nat.mul_one]) t5.holds ⟨g5, 0, none⟩ 1 1 [.int .u64 h] (by rfl) rfl (fun j u hj => by rw [Addr.add_lit]; have := bl.cell j; simpa [this] using hj) (fun u hu => by simp only [List.mem_cons, List.not_mem_nil, or_false] at hu; subst hu; rfl) (by omega) (by unfold maxLen; have := H5.out; omega) (by have := H5.out; omega) ?_
        intro v5 w4 o5 hg
        have HG5 := hide t1.gh
        replace t1 := t1.grown_none hg
        replace t2 := t2.grown_none hg
        replace t3 := t3.grown_none hg
        replace t4 := t4.grown_none hg
        replace bs := bs.grown hg (by simp)
        replace bx := bx.grown hg (by simp)
        replace bo := bo.grown hg (by simp)
        replace B0 := B0.grown hg B0.size (fun _ h => by cases h)
        clear t5
        obtain ⟨m5, HM5⟩ : ∃ m, Hid (m = (fr ++ [h]).length) := ⟨_, hide rfl⟩
        have t5 : Tr w4 29 1 v5 m5 (ints .u64 (fr ++ [h])) := by rw [HM5.out, ints_append, List.length_append]; exact Tr.of_own o5 HG5.out hg.size
        obtain ⟨A7, c7, rfl⟩ := t5.val
        clear o5 hg bl
        refine hK.out _ _ (by exact ⟨bs.cell 20, bx.cell 0⟩) (fun hHeld => ?_)
        clear hK K
        try simp only [Act.put, List.setIfInBounds_toArray, List.set_cons_zero, List.set_cons_succ]
        refine' wpAnyZ_takeA (i := 7) (v := ?_) (opAt rfl) (by kernel_rfl) (by kernel_rfl) (by kernel_rfl) (by kernel_rfl) (fun _ _ _ h => h) (by assumption) (by rfl) (fun w hSw => ?_) ?_
        rotate_left
        · (try dsimp only at hSw); go_simp; (try with_reducible rfl)
        try simp only [Act.put, List.setIfInBounds_toArray, List.set_cons_zero, List.set_cons_succ]
        refine wpAnyZ_ready (rs := [8]) (by kernel_rfl) (by simp) ?_
        refine AllReadyZ.last (opAt rfl) (by kernel_rfl) (fun K hK => ?_) ?_
        · skip
          have zs := fun i => bs.frozen i
          have ms := fun i => bs.cell i
          go_simp
          refine hK.out _ _ ?_
          clear hK K
          try simp only [Act.put, List.setIfInBounds_toArray, List.set_cons_zero, List.set_cons_succ]
          refine wpAnyZ_done (by kernel_rfl) ?_ _
          replace t1 := t1.set_ bs (by decide) 20 (.slice A7 m5 c7)
          replace t2 := t2.set_ bs (by decide) 20 (.slice A7 m5 c7)
          replace t3 := t3.set_ bs (by decide) 20 (.slice A7 m5 c7)
          replace t4 := t4.set_ bs (by decide) 20 (.slice A7 m5 c7)
          replace t5 := t5.set_ bs (by decide) 20 (.slice A7 m5 c7)
          replace bo := bo.far (p := ⟨w.heap.size, 20, none⟩) (by show w.heap.size + 1 + 1 ≠ w.heap.size; omega) (.slice A7 m5 c7)
          replace B0 := B0.setCell (p := ⟨w.heap.size, 20, none⟩) (Nat.le_refl _) (.slice A7 m5 c7)
          replace bs := bs.set_ 20 (.slice A7 m5 c7)
          simp only [List.setIfInBounds_toArray, List.set_cons_zero, List.set_cons_succ] at bs
          clear bx zs ms hHeld
          generalize w4.setCell ⟨w.heap.size, 20, none⟩ (.slice A7 m5 c7) = w5 at *
          go_wp2_with (first | (refine wpList_load_mid rfl 51 (.tmp 2) rfl w.heap.size 0 (by rfl) [.slice A6 (r.eraseP fun x => x.1 == h && ripeB x.2 ep).length c6, .slice A2 ks.length c2, .int .i64 s, .int .i64 t, .int .i64 f, .int .i64 l, .int .i64 p, .int .i64 k, .int .u64 ep, .slice A3 hz.length c3, .slice A4 td.length c4, .int .i64 q0, .int .i64 q1, .int .i64 q2, .int .i64 q3, .int .i64 q4, .int .i64 pk, .int .i64 sl, .int .u64 hd, .int .i64 tr, .slice A7 m5 c7, .int .i64 ju] _ bs.range Tryd.underlying51 rfl (by kernel_rfl) ?_) | (refine wpList_store_mid rfl 51 (.tmp 4) (.tmp 29) rfl (w.heap.size + 1 + 1) 0 #[.slice A6 (r.eraseP fun x => x.1 == h && ripeB x.2 ep).length c6, .slice A2 ks.length c2, .int .i64 s, .int .i64 t, .int .i64 f, .int .i64 l, .int .i64 p, .int .i64 k, .int .u64 ep, .slice A3 hz.length c3, .slice A4 td.length c4, .int .i64 q0, .int .i64 q1, .int .i64 q2, .int .i64 q3, .int .i64 q4, .int .i64 pk, .int .i64 sl, .int .u64 hd, .int .i64 tr, .slice A7 m5 c7, .int .i64 ju] (by rfl) (by rfl) (bo.there rfl) (by kernel_rfl) (by kernel_rfl) ?_))
          replace t1 := (show Tr (w5.setCells (w.heap.size + 1 + 1) 0 [.slice A6 (r.eraseP fun x => x.1 == h && ripeB x.2 ep).length c6, .slice A2 ks.length c2, .int .i64 s, .int .i64 t, .int .i64 f, .int .i64 l, .int .i64 p, .int .i64 k, .int .u64 ep, .slice A3 hz.length c3, .slice A4 td.length c4, .int .i64 q0, .int .i64 q1, .int .i64 q2, .int .i64 q3, .int .i64 q4, .int .i64 pk, .int .i64 sl, .int .u64 hd, .int .i64 tr, .slice A7 m5 c7, .int .i64 ju]) _ _ _ _ _ from by rw [putL_eq]; exact Tr.putL (by decide) _ 0 bo t1)
          replace t2 := (show Tr (w5.setCells (w.heap.size + 1 + 1) 0 [.slice A6 (r.eraseP fun x => x.1 == h && ripeB x.2 ep).length c6, .slice A2 ks.length c2, .int .i64 s, .int .i64 t, .int .i64 f, .int .i64 l, .int .i64 p, .int .i64 k, .int .u64 ep, .slice A3 hz.length c3, .slice A4 td.length c4, .int .i64 q0, .int .i64 q1, .int .i64 q2, .int .i64 q3, .int .i64 q4, .int .i64 pk, .int .i64 sl, .int .u64 hd, .int .i64 tr, .slice A7 m5 c7, .int .i64 ju]) _ _ _ _ _ from by rw [putL_eq]; exact Tr.putL (by decide) _ 0 bo t2)
          replace t3 := (show Tr (w5.setCells (w.heap.size + 1 + 1) 0 [.slice A6 (r.eraseP fun x => x.1 == h && ripeB x.2 ep).length c6, .slice A2 ks.length c2, .int .i64 s, .int .i64 t, .int .i64 f, .int .i64 l, .int .i64 p, .int .i64 k, .int .u64 ep, .slice A3 hz.length c3, .slice A4 td.length c4, .int .i64 q0, .int .i64 q1, .int .i64 q2, .int .i64 q3, .int .i64 q4, .int .i64 pk, .int .i64 sl, .int .u64 hd, .int .i64 tr, .slice A7 m5 c7, .int .i64 ju]) _ _ _ _ _ from by rw [putL_eq]; exact Tr.putL (by decide) _ 0 bo t3)
          replace t4 := (show Tr (w5.setCells (w.heap.size + 1 + 1) 0 [.slice A6 (r.eraseP fun x => x.1 == h && ripeB x.2 ep).length c6, .slice A2 ks.length c2, .int .i64 s, .int .i64 t, .int .i64 f, .int .i64 l, .int .i64 p, .int .i64 k, .int .u64 ep, .slice A3 hz.length c3, .slice A4 td.length c4, .int .i64 q0, .int .i64 q1, .int .i64 q2, .int .i64 q3, .int .i64 q4, .int .i64 pk, .int .i64 sl, .int .u64 hd, .int .i64 tr, .slice A7 m5 c7, .int .i64 ju]) _ _ _ _ _ from by rw [putL_eq]; exact Tr.putL (by decide) _ 0 bo t4)
          replace t5 := (show Tr (w5.setCells (w.heap.size + 1 + 1) 0 [.slice A6 (r.eraseP fun x => x.1 == h && ripeB x.2 ep).length c6, .slice A2 ks.length c2, .int .i64 s, .int .i64 t, .int .i64 f, .int .i64 l, .int .i64 p, .int .i64 k, .int .u64 ep, .slice A3 hz.length c3, .slice A4 td.length c4, .int .i64 q0, .int .i64 q1, .int .i64 q2, .int .i64 q3, .int .i64 q4, .int .i64 pk, .int .i64 sl, .int .u64 hd, .int .i64 tr, .slice A7 m5 c7, .int .i64 ju]) _ _ _ _ _ from by rw [putL_eq]; exact Tr.putL (by decide) _ 0 bo t5)
          replace B0 := (show Below w.heap.size w (w5.setCells (w.heap.size + 1 + 1) 0 [.slice A6 (r.eraseP fun x => x.1 == h && ripeB x.2 ep).length c6, .slice A2 ks.length c2, .int .i64 s, .int .i64 t, .int .i64 f, .int .i64 l, .int .i64 p, .int .i64 k, .int .u64 ep, .slice A3 hz.length c3, .slice A4 td.length c4, .int .i64 q0, .int .i64 q1, .int .i64 q2, .int .i64 q3, .int .i64 q4, .int .i64 pk, .int .i64 sl, .int .u64 hd, .int .i64 tr, .slice A7 m5 c7, .int .i64 ju]) from by rw [putL_eq]; exact Below.putL (by omega) _ _ 0 B0)
          replace bo := (show Blk (w5.setCells (w.heap.size + 1 + 1) 0 [.slice A6 (r.eraseP fun x => x.1 == h && ripeB x.2 ep).length c6, .slice A2 ks.length c2, .int .i64 s, .int .i64 t, .int .i64 f, .int .i64 l, .int .i64 p, .int .i64 k, .int .u64 ep, .slice A3 hz.length c3, .slice A4 td.length c4, .int .i64 q0, .int .i64 q1, .int .i64 q2, .int .i64 q3, .int .i64 q4, .int .i64 pk, .int .i64 sl, .int .u64 hd, .int .i64 tr, .slice A7 m5 c7, .int .i64 ju]) (w.heap.size + 1 + 1) 51 #[.slice A6 (r.eraseP fun x => x.1 == h && ripeB x.2 ep).length c6, .slice A2 ks.length c2, .int .i64 s, .int .i64 t, .int .i64 f, .int .i64 l, .int .i64 p, .int .i64 k, .int .u64 ep, .slice A3 hz.length c3, .slice A4 td.length c4, .int .i64 q0, .int .i64 q1, .int .i64 q2, .int .i64 q3, .int .i64 q4, .int .i64 pk, .int .i64 sl, .int .u64 hd, .int .i64 tr, .slice A7 m5 c7, .int .i64 ju] from by rw [putL_eq]; have h9 := Blk.putL [.slice A6 (r.eraseP fun x => x.1 == h && ripeB x.2 ep).length c6, .slice A2 ks.length c2, .int .i64 s, .int .i64 t, .int .i64 f, .int .i64 l, .int .i64 p, .int .i64 k, .int .u64 ep, .slice A3 hz.length c3, .slice A4 td.length c4, .int .i64 q0, .int .i64 q1, .int .i64 q2, .int .i64 q3, .int .i64 q4, .int .i64 pk, .int .i64 sl, .int .u64 hd, .int .i64 tr, .slice A7 m5 c7, .int .i64 ju] _ _ 0 bo; simpa only [setL, List.setIfInBounds_toArray, List.set_cons_zero, List.set_cons_succ] using h9)
          clear bs
          generalize w5.setCells (w.heap.size + 1 + 1) 0 [.slice A6 (r.eraseP fun x => x.1 == h && ripeB x.2 ep).length c6, .slice A2 ks.length c2, .int .i64 s, .int .i64 t, .int .i64 f, .int .i64 l, .int .i64 p, .int .i64 k, .int .u64 ep, .slice A3 hz.length c3, .slice A4 td.length c4, .int .i64 q0, .int .i64 q1, .int .i64 q2, .int .i64 q3, .int .i64 q4, .int .i64 pk, .int .i64 sl, .int .u64 hd, .int .i64 tr, .slice A7 m5 c7, .int .i64 ju] = w12 at *
          have hres : (loadVar 51 ⟨w.heap.size + 1 + 1, 0, none⟩).run Tryd.prog w12 = .ok (.agg #[.slice A6 (r.eraseP fun x => x.1 == h && ripeB x.2 ep).length c6, .slice A2 ks.length c2, .int .i64 s, .int .i64 t, .int .i64 f, .int .i64 l, .int .i64 p, .int .i64 k, .int .u64 ep, .slice A3 hz.length c3, .slice A4 td.length c4, .int .i64 q0, .int .i64 q1, .int .i64 q2, .int .i64 q3, .int .i64 q4, .int .i64 pk, .int .i64 sl, .int .u64 hd, .int .i64 tr, .slice A7 m5 c7, .int .i64 ju]) w12 := run_loadVar_mid w12 _ 0 _ [.slice A6 (r.eraseP fun x => x.1 == h && ripeB x.2 ep).length c6, .slice A2 ks.length c2, .int .i64 s, .int .i64 t, .int .i64 f, .int .i64 l, .int .i64 p, .int .i64 k, .int .u64 ep, .slice A3 hz.length c3, .slice A4 td.length c4, .int .i64 q0, .int .i64 q1, .int .i64 q2, .int .i64 q3, .int .i64 q4, .int .i64 pk, .int .i64 sl, .int .u64 hd, .int .i64 tr, .slice A7 m5 c7, .int .i64 ju] _ bo.range Tryd.underlying51 rfl (by kernel_rfl)
          refine bodyPost_ret (v := .agg #[.slice A6 (r.eraseP fun x => x.1 == h && ripeB x.2 ep).length c6, .slice A2 ks.length c2, .int .i64 s, .int .i64 t, .int .i64 f, .int .i64 l, .int .i64 p, .int .i64 k, .int .u64 ep, .slice A3 hz.length c3, .slice A4 td.length c4, .int .i64 q0, .int .i64 q1, .int .i64 q2, .int .i64 q3, .int .i64 q4, .int .i64 pk, .int .i64 sl, .int .u64 hd, .int .i64 tr, .slice A7 m5 c7, .int .i64 ju]) (by simp [results, Tryd.results50, Act.put, asAddr, hres]) rfl (by have hm := HM5.out; subst hm; exact ⟨⟨_, rfl, _, _, _, _, _, _, _, _, _, _, rfl, t1, t2, t3, t4, t5⟩, B0⟩)
        exact AllReadyZ.nil
      exact AllReadyZ.nil
    exact AllReadyZ.nil
  refine AllReadyZ.cons (opAt rfl) (fun K hK => ?_) ?_
  · skip
    go_simp
    have bl := Blk.new wd 29 #[.int .u64 h]
    replace t1 := t1.alloc (.cells #[.int .u64 h] 29)
    replace t2 := t2.alloc (.cells #[.int .u64 h] 29)
    replace t3 := t3.alloc (.cells #[.int .u64 h] 29)
    replace t4 := t4.alloc (.cells #[.int .u64 h] 29)
    replace t5 := t5.alloc (.cells #[.int .u64 h] 29)
    replace bs := bs.alloc (.cells #[.int .u64 h] 29)
    replace bx := bx.alloc (.cells #[.int .u64 h] 29)
    replace bo := bo.alloc (.cells #[.int .u64 h] 29)
    replace B0 := B0.alloc B0.size (.cells #[.int .u64 h] 29)
    generalize wd.heap.size = g5 at *
    generalize wd.alloc (.cells #[.int .u64 h] 29) = w3 at *
    refine hK.out _ _ (by exact ⟨bs.cell 20, bx.cell 0⟩) (fun hHeld => ?_)
    clear hK K
    try simp only [Act.put, List.setIfInBounds_toArray, List.set_cons_zero, List.set_cons_succ]
    refine wpAnyZ_ready (rs := [2]) (by kernel_rfl) (by simp) ?_
    refine AllReadyZ.cons (opAt rfl) (fun K hK => ?_) ?_
    · skip
      go_simp
      refine (clipu_any A5 fr.length c5 _ t5.cap.1 t5.cap.2.1).mono ?_
      rintro e w' ⟨rfl, rfl⟩
      try go_wp2_with fail
      refine hK.out _ _ (by exact ⟨bs.cell 20, bx.cell 0⟩) (fun hHeld => ?_)
      clear hK K
      try simp only [Act.put, List.setIfInBounds_toArray, List.set_cons_zero, List.set_cons_succ]
      refine wpAnyZ_ready (rs := [6]) (by kernel_rfl) (by simp) ?_
      refine AllReadyZ.cons (opAt rfl) (fun K hK => ?_) ?_
      · skip
        refine step_append_grows (by rfl) (.tmp 23) (.tmp 26) _ (by rfl) 29 i0 _ 1 8 Tryd.underlying23 hi0 hz0 hs0 hb0 rfl (by decide) A5 fr.length fr.length (ints .u64 fr) (by rfl) (fun h => ⟨(t5.cap.2.2 h).1, (t5.cap.2.2 h).1⟩) (by rw [ints_len, Nat.mul_one]) t5.holds ⟨g5, 0, none⟩ 1 1 [.int .u64 h] (by rfl) rfl (fun j u hj => by rw [Addr.add_lit]; have := bl.cell j; simpa [this] using hj) (fun u hu => by simp only [List.mem_cons, List.not_mem_nil, or_false] at hu; subst hu; rfl) (by omega) (by unfold maxLen; have := H5.out; omega) (by have := H5.out; omega) ?_
        intro v5 w4 o5 hg
        have HG5 := hide t1.gh
        replace t1 := t1.grown_none hg
        replace t2 := t2.grown_none hg
        replace t3 := t3.grown_none hg
        replace t4 := t4.grown_none hg
        replace bs := bs.grown hg (by simp)
        replace bx := bx.grown hg (by simp)
        replace bo := bo.grown hg (by simp)
        replace B0 := B0.grown hg B0.size (fun _ h => by cases h)
        clear t5
        obtain ⟨m5, HM5⟩ : ∃ m, Hid (m = (fr ++ [h]).length) := ⟨_, hide rfl⟩
        have t5 : Tr w4 29 1 v5 m5 (ints .u64 (fr ++ [h])) := by rw [HM5.out, ints_append, List.length_append]; exact Tr.of_own o5 HG5.out hg.size
        obtain ⟨A7, c7, rfl⟩ := t5.val
        clear o5 hg bl
        refine hK.out _ _ (by exact ⟨bs.cell 20, bx.cell 0⟩) (fun hHeld => ?_)
        clear hK K
        try simp only [Act.put, List.setIfInBounds_toArray, List.set_cons_zero, List.set_cons_succ]
        refine' wpAnyZ_takeA (i := 7) (v := ?_) (opAt rfl) (by kernel_rfl) (by kernel_rfl) (by kernel_rfl) (by kernel_rfl) (fun _ _ _ h => h) (by assumption) (by rfl) (fun w hSw => ?_) ?_
        rotate_left
        · (try dsimp only at hSw); go_simp; (try with_reducible rfl)
        try simp only [Act.put, List.setIfInBounds_toArray, List.set_cons_zero, List.set_cons_succ]
        refine wpAnyZ_ready (rs := [8]) (by kernel_rfl) (by simp) ?_
        refine AllReadyZ.last (opAt rfl) (by kernel_rfl) (fun K hK => ?_) ?_
        · skip
          have zs := fun i => bs.frozen i
          have ms := fun i => bs.cell i
          go_simp
          refine hK.out _ _ ?_
          clear hK K
          try simp only [Act.put, List.setIfInBounds_toArray, List.set_cons_zero, List.set_cons_succ]
          refine wpAnyZ_done (by kernel_rfl) ?_ _
          replace t1 := t1.set_ bs (by decide) 20 (.slice A7 m5 c7)
          replace t2 := t2.set_ bs (by decide) 20 (.slice A7 m5 c7)
          replace t3 := t3.set_ bs (by decide) 20 (.slice A7 m5 c7)
          replace t4 := t4.set_ bs (by decide) 20 (.slice A7 m5 c7)
          replace t5 := t5.set_ bs (by decide) 20 (.slice A7 m5 c7)
          replace bo := bo.far (p := ⟨w.heap.size, 20, none⟩) (by show w.heap.size + 1 + 1 ≠ w.heap.size; omega) (.slice A7 m5 c7)
          replace B0 := B0.setCell (p := ⟨w.heap.size, 20, none⟩) (Nat.le_refl _) (.slice A7 m5 c7)
          replace bs := bs.set_ 20 (.slice A7 m5 c7)
          simp only [List.setIfInBounds_toArray, List.set_cons_zero, List.set_cons_succ] at bs
          clear bx zs ms hHeld
          generalize w4.setCell ⟨w.heap.size, 20, none⟩ (.slice A7 m5 c7) = w5 at *
          go_wp2_with (first | (refine wpList_load_mid rfl 51 (.tmp 2) rfl w.heap.size 0 (by rfl) [.slice A6 (r.eraseP fun x => x.1 == h && ripeB x.2 ep).length c6, .slice A2 ks.length c2, .int .i64 s, .int .i64 t, .int .i64 f, .int .i64 l, .int .i64 p, .int .i64 k, .int .u64 ep, .slice A3 hz.length c3, .slice A4 td.length c4, .int .i64 q0, .int .i64 q1, .int .i64 q2, .int .i64 q3, .int .i64 q4, .int .i64 pk, .int .i64 sl, .int .u64 hd, .int .i64 tr, .slice A7 m5 c7, .int .i64 ju] _ bs.range Tryd.underlying51 rfl (by kernel_rfl) ?_) | (refine wpList_store_mid rfl 51 (.tmp 4) (.tmp 29) rfl (w.heap.size + 1 + 1) 0 #[.slice A6 (r.eraseP fun x => x.1 == h && ripeB x.2 ep).length c6, .slice A2 ks.length c2, .int .i64 s, .int .i64 t, .int .i64 f, .int .i64 l, .int .i64 p, .int .i64 k, .int .u64 ep, .slice A3 hz.length c3, .slice A4 td.length c4, .int .i64 q0, .int .i64 q1, .int .i64 q2, .int .i64 q3, .int .i64 q4, .int .i64 pk, .int .i64 sl, .int .u64 hd, .int .i64 tr, .slice A7 m5 c7, .int .i64 ju] (by rfl) (by rfl) (bo.there rfl) (by kernel_rfl) (by kernel_rfl) ?_))
          replace t1 := (show Tr (w5.setCells (w.heap.size + 1 + 1) 0 [.slice A6 (r.eraseP fun x => x.1 == h && ripeB x.2 ep).length c6, .slice A2 ks.length c2, .int .i64 s, .int .i64 t, .int .i64 f, .int .i64 l, .int .i64 p, .int .i64 k, .int .u64 ep, .slice A3 hz.length c3, .slice A4 td.length c4, .int .i64 q0, .int .i64 q1, .int .i64 q2, .int .i64 q3, .int .i64 q4, .int .i64 pk, .int .i64 sl, .int .u64 hd, .int .i64 tr, .slice A7 m5 c7, .int .i64 ju]) _ _ _ _ _ from by rw [putL_eq]; exact Tr.putL (by decide) _ 0 bo t1)
          replace t2 := (show Tr (w5.setCells (w.heap.size + 1 + 1) 0 [.slice A6 (r.eraseP fun x => x.1 == h && ripeB x.2 ep).length c6, .slice A2 ks.length c2, .int .i64 s, .int .i64 t, .int .i64 f, .int .i64 l, .int .i64 p, .int .i64 k, .int .u64 ep, .slice A3 hz.length c3, .slice A4 td.length c4, .int .i64 q0, .int .i64 q1, .int .i64 q2, .int .i64 q3, .int .i64 q4, .int .i64 pk, .int .i64 sl, .int .u64 hd, .int .i64 tr, .slice A7 m5 c7, .int .i64 ju]) _ _ _ _ _ from by rw [putL_eq]; exact Tr.putL (by decide) _ 0 bo t2)
          replace t3 := (show Tr (w5.setCells (w.heap.size + 1 + 1) 0 [.slice A6 (r.eraseP fun x => x.1 == h && ripeB x.2 ep).length c6, .slice A2 ks.length c2, .int .i64 s, .int .i64 t, .int .i64 f, .int .i64 l, .int .i64 p, .int .i64 k, .int .u64 ep, .slice A3 hz.length c3, .slice A4 td.length c4, .int .i64 q0, .int .i64 q1, .int .i64 q2, .int .i64 q3, .int .i64 q4, .int .i64 pk, .int .i64 sl, .int .u64 hd, .int .i64 tr, .slice A7 m5 c7, .int .i64 ju]) _ _ _ _ _ from by rw [putL_eq]; exact Tr.putL (by decide) _ 0 bo t3)
          replace t4 := (show Tr (w5.setCells (w.heap.size + 1 + 1) 0 [.slice A6 (r.eraseP fun x => x.1 == h && ripeB x.2 ep).length c6, .slice A2 ks.length c2, .int .i64 s, .int .i64 t, .int .i64 f, .int .i64 l, .int .i64 p, .int .i64 k, .int .u64 ep, .slice A3 hz.length c3, .slice A4 td.length c4, .int .i64 q0, .int .i64 q1, .int .i64 q2, .int .i64 q3, .int .i64 q4, .int .i64 pk, .int .i64 sl, .int .u64 hd, .int .i64 tr, .slice A7 m5 c7, .int .i64 ju]) _ _ _ _ _ from by rw [putL_eq]; exact Tr.putL (by decide) _ 0 bo t4)
          replace t5 := (show Tr (w5.setCells (w.heap.size + 1 + 1) 0 [.slice A6 (r.eraseP fun x => x.1 == h && ripeB x.2 ep).length c6, .slice A2 ks.length c2, .int .i64 s, .int .i64 t, .int .i64 f, .int .i64 l, .int .i64 p, .int .i64 k, .int .u64 ep, .slice A3 hz.length c3, .slice A4 td.length c4, .int .i64 q0, .int .i64 q1, .int .i64 q2, .int .i64 q3, .int .i64 q4, .int .i64 pk, .int .i64 sl, .int .u64 hd, .int .i64 tr, .slice A7 m5 c7, .int .i64 ju]) _ _ _ _ _ from by rw [putL_eq]; exact Tr.putL (by decide) _ 0 bo t5)
          replace B0 := (show Below w.heap.size w (w5.setCells (w.heap.size + 1 + 1) 0 [.slice A6 (r.eraseP fun x => x.1 == h && ripeB x.2 ep).length c6, .slice A2 ks.length c2, .int .i64 s, .int .i64 t, .int .i64 f, .int .i64 l, .int .i64 p, .int .i64 k, .int .u64 ep, .slice A3 hz.length c3, .slice A4 td.length c4, .int .i64 q0, .int .i64 q1, .int .i64 q2, .int .i64 q3, .int .i64 q4, .int .i64 pk, .int .i64 sl, .int .u64 hd, .int .i64 tr, .slice A7 m5 c7, .int .i64 ju]) from by rw [putL_eq]; exact Below.putL (by omega) _ _ 0 B0)
          replace bo := (show Blk (w5.setCells (w.heap.size + 1 + 1) 0 [.slice A6 (r.eraseP fun x => x.1 == h && ripeB x.2 ep).length c6, .slice A2 ks.length c2, .int .i64 s, .int .i64 t, .int .i64 f, .int .i64 l, .int .i64 p, .int .i64 k, .int .u64 ep, .slice A3 hz.length c3, .slice A4 td.length c4, .int .i64 q0, .int .i64 q1, .int .i64 q2, .int .i64 q3, .int .i64 q4, .int .i64 pk, .int .i64 sl, .int .u64 hd, .int .i64 tr, .slice A7 m5 c7, .int .i64 ju]) (w.heap.size + 1 + 1) 51 #[.slice A6 (r.eraseP fun x => x.1 == h && ripeB x.2 ep).length c6, .slice A2 ks.length c2, .int .i64 s, .int .i64 t, .int .i64 f, .int .i64 l, .int .i64 p, .int .i64 k, .int .u64 ep, .slice A3 hz.length c3, .slice A4 td.length c4, .int .i64 q0, .int .i64 q1, .int .i64 q2, .int .i64 q3, .int .i64 q4, .int .i64 pk, .int .i64 sl, .int .u64 hd, .int .i64 tr, .slice A7 m5 c7, .int .i64 ju] from by rw [putL_eq]; have h9 := Blk.putL [.slice A6 (r.eraseP fun x => x.1 == h && ripeB x.2 ep).length c6, .slice A2 ks.length c2, .int .i64 s, .int .i64 t, .int .i64 f, .int .i64 l, .int .i64 p, .int .i64 k, .int .u64 ep, .slice A3 hz.length c3, .slice A4 td.length c4, .int .i64 q0, .int .i64 q1, .int .i64 q2, .int .i64 q3, .int .i64 q4, .int .i64 pk, .int .i64 sl, .int .u64 hd, .int .i64 tr, .slice A7 m5 c7, .int .i64 ju] _ _ 0 bo; simpa only [setL, List.setIfInBounds_toArray, List.set_cons_zero, List.set_cons_succ] using h9)
          clear bs
          generalize w5.setCells (w.heap.size + 1 + 1) 0 [.slice A6 (r.eraseP fun x => x.1 == h && ripeB x.2 ep).length c6, .slice A2 ks.length c2, .int .i64 s, .int .i64 t, .int .i64 f, .int .i64 l, .int .i64 p, .int .i64 k, .int .u64 ep, .slice A3 hz.length c3, .slice A4 td.length c4, .int .i64 q0, .int .i64 q1, .int .i64 q2, .int .i64 q3, .int .i64 q4, .int .i64 pk, .int .i64 sl, .int .u64 hd, .int .i64 tr, .slice A7 m5 c7, .int .i64 ju] = w12 at *
          have hres : (loadVar 51 ⟨w.heap.size + 1 + 1, 0, none⟩).run Tryd.prog w12 = .ok (.agg #[.slice A6 (r.eraseP fun x => x.1 == h && ripeB x.2 ep).length c6, .slice A2 ks.length c2, .int .i64 s, .int .i64 t, .int .i64 f, .int .i64 l, .int .i64 p, .int .i64 k, .int .u64 ep, .slice A3 hz.length c3, .slice A4 td.length c4, .int .i64 q0, .int .i64 q1, .int .i64 q2, .int .i64 q3, .int .i64 q4, .int .i64 pk, .int .i64 sl, .int .u64 hd, .int .i64 tr, .slice A7 m5 c7, .int .i64 ju]) w12 := run_loadVar_mid w12 _ 0 _ [.slice A6 (r.eraseP fun x => x.1 == h && ripeB x.2 ep).length c6, .slice A2 ks.length c2, .int .i64 s, .int .i64 t, .int .i64 f, .int .i64 l, .int .i64 p, .int .i64 k, .int .u64 ep, .slice A3 hz.length c3, .slice A4 td.length c4, .int .i64 q0, .int .i64 q1, .int .i64 q2, .int .i64 q3, .int .i64 q4, .int .i64 pk, .int .i64 sl, .int .u64 hd, .int .i64 tr, .slice A7 m5 c7, .int .i64 ju] _ bo.range Tryd.underlying51 rfl (by kernel_rfl)
          refine bodyPost_ret (v := .agg #[.slice A6 (r.eraseP fun x => x.1 == h && ripeB x.2 ep).length c6, .slice A2 ks.length c2, .int .i64 s, .int .i64 t, .int .i64 f, .int .i64 l, .int .i64 p, .int .i64 k, .int .u64 ep, .slice A3 hz.length c3, .slice A4 td.length c4, .int .i64 q0, .int .i64 q1, .int .i64 q2, .int .i64 q3, .int .i64 q4, .int .i64 pk, .int .i64 sl, .int .u64 hd, .int .i64 tr, .slice A7 m5 c7, .int .i64 ju]) (by simp [results, Tryd.results50, Act.put, asAddr, hres]) rfl (by have hm := HM5.out; subst hm; exact ⟨⟨_, rfl, _, _, _, _, _, _, _, _, _, _, rfl, t1, t2, t3, t4, t5⟩, B0⟩)
        exact AllReadyZ.nil
      exact AllReadyZ.nil
    exact AllReadyZ.nil
  exact AllReadyZ.nil
end Go.Proofs.YtokcbipmocpllaaDoor

/-
  A block all of whose cells are stored, one behind the other.
-/
namespace Go.Proofs.YtokcbipmocpllaaDoor
open Go.RowKit

theorem Blk.put4 {w : World} {g : Nat} {T : TypeId} {c0 c1 c2 c3 : Value} (h : Blk w g T #[c0, c1, c2, c3]) (v0 v1 v2 v3 : Value) : Blk ((((w.setCell ⟨g, 0, none⟩ v0).setCell ⟨g, 1, none⟩ v1).setCell ⟨g, 2, none⟩ v2).setCell ⟨g, 3, none⟩ v3) g T #[v0, v1, v2, v3] := by
  have := ((((h.set_ 0 v0).set_ 1 v1).set_ 2 v2).set_ 3 v3)
  simpa only [List.setIfInBounds_toArray, List.set_cons_zero, List.set_cons_succ] using this
theorem Blk.off4 {w : World} {g x : Nat} {T : TypeId} {cur : Array Value} (h : Blk w x T cur) (hne : x ≠ g) (v0 v1 v2 v3 : Value) : Blk ((((w.setCell ⟨g, 0, none⟩ v0).setCell ⟨g, 1, none⟩ v1).setCell ⟨g, 2, none⟩ v2).setCell ⟨g, 3, none⟩ v3) x T cur := ((((h.far (p := ⟨g, 0, none⟩) hne v0).far (p := ⟨g, 1, none⟩) hne v1).far (p := ⟨g, 2, none⟩) hne v2).far (p := ⟨g, 3, none⟩) hne v3)
theorem below_put4 {w w0 : World} {L g : Nat} (h : Below L w0 w) (hg : L ≤ g) (v0 v1 v2 v3 : Value) : Below L w0 ((((w.setCell ⟨g, 0, none⟩ v0).setCell ⟨g, 1, none⟩ v1).setCell ⟨g, 2, none⟩ v2).setCell ⟨g, 3, none⟩ v3) := ((((h.setCell (p := ⟨g, 0, none⟩) hg v0).setCell (p := ⟨g, 1, none⟩) hg v1).setCell (p := ⟨g, 2, none⟩) hg v2).setCell (p := ⟨g, 3, none⟩) hg v3)
theorem Blk.put5 {w : World} {g : Nat} {T : TypeId} {c0 c1 c2 c3 c4 : Value} (h : Blk w g T #[c0, c1, c2, c3, c4]) (v0 v1 v2 v3 v4 : Value) : Blk (((((w.setCell ⟨g, 0, none⟩ v0).setCell ⟨g, 1, none⟩ v1).setCell ⟨g, 2, none⟩ v2).setCell ⟨g, 3, none⟩ v3).setCell ⟨g, 4, none⟩ v4) g T #[v0, v1, v2, v3, v4] := by
  have := (((((h.set_ 0 v0).set_ 1 v1).set_ 2 v2).set_ 3 v3).set_ 4 v4)
  simpa only [List.setIfInBounds_toArray, List.set_cons_zero, List.set_cons_succ] using this
theorem Blk.off5 {w : World} {g x : Nat} {T : TypeId} {cur : Array Value} (h : Blk w x T cur) (hne : x ≠ g) (v0 v1 v2 v3 v4 : Value) : Blk (((((w.setCell ⟨g, 0, none⟩ v0).setCell ⟨g, 1, none⟩ v1).setCell ⟨g, 2, none⟩ v2).setCell ⟨g, 3, none⟩ v3).setCell ⟨g, 4, none⟩ v4) x T cur := (((((h.far (p := ⟨g, 0, none⟩) hne v0).far (p := ⟨g, 1, none⟩) hne v1).far (p := ⟨g, 2, none⟩) hne v2).far (p := ⟨g, 3, none⟩) hne v3).far (p := ⟨g, 4, none⟩) hne v4)
theorem below_put5 {w w0 : World} {L g : Nat} (h : Below L w0 w) (hg : L ≤ g) (v0 v1 v2 v3 v4 : Value) : Below L w0 (((((w.setCell ⟨g, 0, none⟩ v0).setCell ⟨g, 1, none⟩ v1).setCell ⟨g, 2, none⟩ v2).setCell ⟨g, 3, none⟩ v3).setCell ⟨g, 4, none⟩ v4) := (((((h.setCell (p := ⟨g, 0, none⟩) hg v0).setCell (p := ⟨g, 1, none⟩) hg v1).setCell (p := ⟨g, 2, none⟩) hg v2).setCell (p := ⟨g, 3, none⟩) hg v3).setCell (p := ⟨g, 4, none⟩) hg v4)
theorem Blk.put9 {w : World} {g : Nat} {T : TypeId} {c0 c1 c2 c3 c4 c5 c6 c7 c8 : Value} (h : Blk w g T #[c0, c1, c2, c3, c4, c5, c6, c7, c8]) (v0 v1 v2 v3 v4 v5 v6 v7 v8 : Value) : Blk (((((((((w.setCell ⟨g, 0, none⟩ v0).setCell ⟨g, 1, none⟩ v1).setCell ⟨g, 2, none⟩ v2).setCell ⟨g, 3, none⟩ v3).setCell ⟨g, 4, none⟩ v4).setCell ⟨g, 5, none⟩ v5).setCell ⟨g, 6, none⟩ v6).setCell ⟨g, 7, none⟩ v7).setCell ⟨g, 8, none⟩ v8) g T #[v0, v1, v2, v3, v4, v5, v6, v7, v8] := by
  have := (((((((((h.set_ 0 v0).set_ 1 v1).set_ 2 v2).set_ 3 v3).set_ 4 v4).set_ 5 v5).set_ 6 v6).set_ 7 v7).set_ 8 v8)
  simpa only [List.setIfInBounds_toArray, List.set_cons_zero, List.set_cons_succ] using this
theorem Blk.off9 {w : World} {g x : Nat} {T : TypeId} {cur : Array Value} (h : Blk w x T cur) (hne : x ≠ g) (v0 v1 v2 v3 v4 v5 v6 v7 v8 : Value) : Blk (((((((((w.setCell ⟨g, 0, none⟩ v0).setCell ⟨g, 1, none⟩ v1).setCell ⟨g, 2, none⟩ v2).setCell ⟨g, 3, none⟩ v3).setCell ⟨g, 4, none⟩ v4).setCell ⟨g, 5, none⟩ v5).setCell ⟨g, 6, none⟩ v6).setCell ⟨g, 7, none⟩ v7).setCell ⟨g, 8, none⟩ v8) x T cur := (((((((((h.far (p := ⟨g, 0, none⟩) hne v0).far (p := ⟨g, 1, none⟩) hne v1).far (p := ⟨g, 2, none⟩) hne v2).far (p := ⟨g, 3, none⟩) hne v3).far (p := ⟨g, 4, none⟩) hne v4).far (p := ⟨g, 5, none⟩) hne v5).far (p := ⟨g, 6, none⟩) hne v6).far (p := ⟨g, 7, none⟩) hne v7).far (p := ⟨g, 8, none⟩) hne v8)
theorem below_put9 {w w0 : World} {L g : Nat} (h : Below L w0 w) (hg : L ≤ g) (v0 v1 v2 v3 v4 v5 v6 v7 v8 : Value) : Below L w0 (((((((((w.setCell ⟨g, 0, none⟩ v0).setCell ⟨g, 1, none⟩ v1).setCell ⟨g, 2, none⟩ v2).setCell ⟨g, 3, none⟩ v3).setCell ⟨g, 4, none⟩ v4).setCell ⟨g, 5, none⟩ v5).setCell ⟨g, 6, none⟩ v6).setCell ⟨g, 7, none⟩ v7).setCell ⟨g, 8, none⟩ v8) := (((((((((h.setCell (p := ⟨g, 0, none⟩) hg v0).setCell (p := ⟨g, 1, none⟩) hg v1).setCell (p := ⟨g, 2, none⟩) hg v2).setCell (p := ⟨g, 3, none⟩) hg v3).setCell (p := ⟨g, 4, none⟩) hg v4).setCell (p := ⟨g, 5, none⟩) hg v5).setCell (p := ⟨g, 6, none⟩) hg v6).setCell (p := ⟨g, 7, none⟩) hg v7).setCell (p := ⟨g, 8, none⟩) hg v8)
theorem Blk.put10 {w : World} {g : Nat} {T : TypeId} {c0 c1 c2 c3 c4 c5 c6 c7 c8 c9 : Value} (h : Blk w g T #[c0, c1, c2, c3, c4, c5, c6, c7, c8, c9]) (v0 v1 v2 v3 v4 v5 v6 v7 v8 v9 : Value) : Blk ((((((((((w.setCell ⟨g, 0, none⟩ v0).setCell ⟨g, 1, none⟩ v1).setCell ⟨g, 2, none⟩ v2).setCell ⟨g, 3, none⟩ v3).setCell ⟨g, 4, none⟩ v4).setCell ⟨g, 5, none⟩ v5).setCell ⟨g, 6, none⟩ v6).setCell ⟨g, 7, none⟩ v7).setCell ⟨g, 8, none⟩ v8).setCell ⟨g, 9, none⟩ v9) g T #[v0, v1, v2, v3, v4, v5, v6, v7, v8, v9] := by
  have := ((((((((((h.set_ 0 v0).set_ 1 v1).set_ 2 v2).set_ 3 v3).set_ 4 v4).set_ 5 v5).set_ 6 v6).set_ 7 v7).set_ 8 v8).set_ 9 v9)
  simpa only [List.setIfInBounds_toArray, List.set_cons_zero, List.set_cons_succ] using this
theorem Blk.off10 {w : World} {g x : Nat} {T : TypeId} {cur : Array Value} (h : Blk w x T cur) (hne : x ≠ g) (v0 v1 v2 v3 v4 v5 v6 v7 v8 v9 : Value) : Blk ((((((((((w.setCell ⟨g, 0, none⟩ v0).setCell ⟨g, 1, none⟩ v1).setCell ⟨g, 2, none⟩ v2).setCell ⟨g, 3, none⟩ v3).setCell ⟨g, 4, none⟩ v4).setCell ⟨g, 5, none⟩ v5).setCell ⟨g, 6, none⟩ v6).setCell ⟨g, 7, none⟩ v7).setCell ⟨g, 8, none⟩ v8).setCell ⟨g, 9, none⟩ v9) x T cur := ((((((((((h.far (p := ⟨g, 0, none⟩) hne v0).far (p := ⟨g, 1, none⟩) hne v1).far (p := ⟨g, 2, none⟩) hne v2).far (p := ⟨g, 3, none⟩) hne v3).far (p := ⟨g, 4, none⟩) hne v4).far (p := ⟨g, 5, none⟩) hne v5).far (p := ⟨g, 6, none⟩) hne v6).far (p := ⟨g, 7, none⟩) hne v7).far (p := ⟨g, 8, none⟩) hne v8).far (p := ⟨g, 9, none⟩) hne v9)
theorem below_put10 {w w0 : World} {L g : Nat} (h : Below L w0 w) (hg : L ≤ g) (v0 v1 v2 v3 v4 v5 v6 v7 v8 v9 : Value) : Below L w0 ((((((((((w.setCell ⟨g, 0, none⟩ v0).setCell ⟨g, 1, none⟩ v1).setCell ⟨g, 2, none⟩ v2).setCell ⟨g, 3, none⟩ v3).setCell ⟨g, 4, none⟩ v4).setCell ⟨g, 5, none⟩ v5).setCell ⟨g, 6, none⟩ v6).setCell ⟨g, 7, none⟩ v7).setCell ⟨g, 8, none⟩ v8).setCell ⟨g, 9, none⟩ v9) := ((((((((((h.setCell (p := ⟨g, 0, none⟩) hg v0).setCell (p := ⟨g, 1, none⟩) hg v1).setCell (p := ⟨g, 2, none⟩) hg v2).setCell (p := ⟨g, 3, none⟩) hg v3).setCell (p := ⟨g, 4, none⟩) hg v4).setCell (p := ⟨g, 5, none⟩) hg v5).setCell (p := ⟨g, 6, none⟩) hg v6).setCell (p := ⟨g, 7, none⟩) hg v7).setCell (p := ⟨g, 8, none⟩) hg v8).setCell (p := ⟨g, 9, none⟩) hg v9)
theorem Blk.put14 {w : World} {g : Nat} {T : TypeId} {c0 c1 c2 c3 c4 c5 c6 c7 c8 c9 c10 c11 c12 c13 : Value} (h : Blk w g T #[c0, c1, c2, c3, c4, c5, c6, c7, c8, c9, c10, c11, c12, c13]) (v0 v1 v2 v3 v4 v5 v6 v7 v8 v9 v10 v11 v12 v13 : Value) : Blk ((((((((((((((w.setCell ⟨g, 0, none⟩ v0).setCell ⟨g, 1, none⟩ v1).setCell ⟨g, 2, none⟩ v2).setCell ⟨g, 3, none⟩ v3).setCell ⟨g, 4, none⟩ v4).setCell ⟨g, 5, none⟩ v5).setCell ⟨g, 6, none⟩ v6).setCell ⟨g, 7, none⟩ v7).setCell ⟨g, 8, none⟩ v8).setCell ⟨g, 9, none⟩ v9).setCell ⟨g, 10, none⟩ v10).setCell ⟨g, 11, none⟩ v11).setCell ⟨g, 12, none⟩ v12).setCell ⟨g, 13, none⟩ v13) g T #[v0, v1, v2, v3, v4, v5, v6, v7, v8, v9, v10, v11, v12, v13] := by
  have := ((((((((((((((h.set_ 0 v0).set_ 1 v1).set_ 2 v2).set_ 3 v3).set_ 4 v4).set_ 5 v5).set_ 6 v6).set_ 7 v7).set_ 8 v8).set_ 9 v9).set_ 10 v10).set_ 11 v11).set_ 12 v12).set_ 13 v13)
  simpa only [List.setIfInBounds_toArray, List.set_cons_zero, List.set_cons_succ] using this
theorem Blk.off14 {w : World} {g x : Nat} {T : TypeId} {cur : Array Value} (h : Blk w x T cur) (hne : x ≠ g) (v0 v1 v2 v3 v4 v5 v6 v7 v8 v9 v10 v11 v12 v13 : Value) : Blk ((((((((((((((w.setCell ⟨g, 0, none⟩ v0).setCell ⟨g, 1, none⟩ v1).setCell ⟨g, 2, none⟩ v2).setCell ⟨g, 3, none⟩ v3).setCell ⟨g, 4, none⟩ v4).setCell ⟨g, 5, none⟩ v5).setCell ⟨g, 6, none⟩ v6).setCell ⟨g, 7, none⟩ v7).setCell ⟨g, 8, none⟩ v8).setCell ⟨g, 9, none⟩ v9).setCell ⟨g, 10, none⟩ v10).setCell ⟨g, 11, none⟩ v11).setCell ⟨g, 12, none⟩ v12).setCell ⟨g, 13, none⟩ v13) x T cur := ((((((((((((((h.far (p := ⟨g, 0, none⟩) hne v0).far (p := ⟨g, 1, none⟩) hne v1).far (p := ⟨g, 2, none⟩) hne v2).far (p := ⟨g, 3, none⟩) hne v3).far (p := ⟨g, 4, none⟩) hne v4).far (p := ⟨g, 5, none⟩) hne v5).far (p := ⟨g, 6, none⟩) hne v6).far (p := ⟨g, 7, none⟩) hne v7).far (p := ⟨g, 8, none⟩) hne v8).far (p := ⟨g, 9, none⟩) hne v9).far (p := ⟨g, 10, none⟩) hne v10).far (p := ⟨g, 11, none⟩) hne v11).far (p := ⟨g, 12, none⟩) hne v12).far (p := ⟨g, 13, none⟩) hne v13)
theorem below_put14 {w w0 : World} {L g : Nat} (h : Below L w0 w) (hg : L ≤ g) (v0 v1 v2 v3 v4 v5 v6 v7 v8 v9 v10 v11 v12 v13 : Value) : Below L w0 ((((((((((((((w.setCell ⟨g, 0, none⟩ v0).setCell ⟨g, 1, none⟩ v1).setCell ⟨g, 2, none⟩ v2).setCell ⟨g, 3, none⟩ v3).setCell ⟨g, 4, none⟩ v4).setCell ⟨g, 5, none⟩ v5).setCell ⟨g, 6, none⟩ v6).setCell ⟨g, 7, none⟩ v7).setCell ⟨g, 8, none⟩ v8).setCell ⟨g, 9, none⟩ v9).setCell ⟨g, 10, none⟩ v10).setCell ⟨g, 11, none⟩ v11).setCell ⟨g, 12, none⟩ v12).setCell ⟨g, 13, none⟩ v13) := ((((((((((((((h.setCell (p := ⟨g, 0, none⟩) hg v0).setCell (p := ⟨g, 1, none⟩) hg v1).setCell (p := ⟨g, 2, none⟩) hg v2).setCell (p := ⟨g, 3, none⟩) hg v3).setCell (p := ⟨g, 4, none⟩) hg v4).setCell (p := ⟨g, 5, none⟩) hg v5).setCell (p := ⟨g, 6, none⟩) hg v6).setCell (p := ⟨g, 7, none⟩) hg v7).setCell (p := ⟨g, 8, none⟩) hg v8).setCell (p := ⟨g, 9, none⟩) hg v9).setCell (p := ⟨g, 10, none⟩) hg v10).setCell (p := ⟨g, 11, none⟩) hg v11).setCell (p := ⟨g, 12, none⟩) hg v12).setCell (p := ⟨g, 13, none⟩) hg v13)
end Go.Proofs.YtokcbipmocpllaaDoor

/-
  Package hword and its reference.
-/
namespace Go.Proofs.YtokcbipmocpllaaDoor
open Go.RowKit

def hslot (slot : Int) : Int := if slot < 0 ∨ 65535 < slot then 0 else slot
def hmake (tag slot : Int) : Int := tag % 281474976710656 * 65536 + hslot slot
theorem hslot_bound (slot : Int) : 0 ≤ hslot slot ∧ hslot slot ≤ 65535 := by unfold hslot; split <;> omega
theorem hmake_bound (tag slot : Int) : W64 (hmake tag slot) := by
  have := hslot_bound slot
  unfold hmake
  exact ⟨by omega, by omega⟩
theorem hmake_put (tag slot : Int) : fput (hslot slot) 16 48 tag = hmake tag slot := by
  have h := fput_at (hslot slot) tag 16 48 (by omega)
  have b := hslot_bound slot
  unfold hmake
  generalize hslot slot = s at *
  simp at h
  rw [h]
  omega
theorem hget_tag {w : Int} (h : W64 w) : fget w 16 48 = w / 65536 := by
  have h1 := fget_at w 16 48 (by omega)
  obtain ⟨h2, h3⟩ := h
  simp at h1
  rw [h1]
  omega
theorem hget_slot (w : Int) : fget w 0 16 = w % 65536 := by
  have h1 := fget_at w 0 16 (by omega)
  simpa using h1

set_option maxHeartbeats 400000 in
theorem hmake_any (tag slot : Int) (w : World) (ht : W64 tag) (hs : I64 slot) :
    Calls Tryd.prog 100 #[.int .u64 tag, .int .i64 slot] w fun r w' => r = .returned (.int .u64 (hmake tag slot)) ∧ w = w' := by
  have b := hslot_bound slot
  have P := hide (put_any (hslot slot) 16 48 tag w ⟨b.1, by omega⟩ ⟨by omega, by omega⟩ ⟨by omega, by omega⟩ ht)
  rw [hmake_put] at P
  obtain ⟨h0, h1⟩ := hs
  by_cases c0 : slot < 0
  · rw [show hslot slot = 0 from if_pos (.inl c0)] at P
    go_enter Tryd.func100, Tryd.ntmps100
    go_wp2_with fail
    refine P.out.mono ?_
    rintro e w' ⟨rfl, rfl⟩
    go_wp2_with fail
    go_ret
    exact ⟨rfl, rfl⟩
  by_cases c1 : 65535 < slot
  · rw [show hslot slot = 0 from if_pos (.inr c1)] at P
    go_enter Tryd.func100, Tryd.ntmps100
    go_wp2_with fail
    refine P.out.mono ?_
    rintro e w' ⟨rfl, rfl⟩
    go_wp2_with fail
    go_ret
    exact ⟨rfl, rfl⟩
  rw [show hslot slot = slot from if_neg (by omega)] at P
  have c2 : 0 ≤ slot := by omega
  have c3 : slot ≤ 65535 := by omega
  clear c0 c1 b
  go_enter Tryd.func100, Tryd.ntmps100
  go_wp2_with fail
  refine P.out.mono ?_
  rintro e w' ⟨rfl, rfl⟩
  go_wp2_with fail
  go_ret
  exact ⟨rfl, rfl⟩

set_option maxHeartbeats 400000 in
theorem hof_any (x : Int) (w : World) (hx : W64 x) :
    Calls Tryd.prog 96 #[.int .u64 x] w fun r w' => r = .returned (.agg #[.int .u64 (x / 65536), .int .i64 (x % 65536)]) ∧ Below w.heap.size w w' := by
  have T := hide (fun w => get_any x 16 48 w hx ⟨by omega, by omega⟩ ⟨by omega, by omega⟩)
  have Sl := hide (fun w => get_any x 0 16 w hx ⟨by omega, by omega⟩ ⟨by omega, by omega⟩)
  rw [hget_tag hx] at T
  rw [hget_slot] at Sl
  have b1 : 0 ≤ x % 65536 := by omega
  have b2 : x % 65536 < 65536 := by omega
  generalize x % 65536 = s at *
  generalize x / 65536 = t at *
  go_enter Tryd.func96, Tryd.ntmps96
  go_wp2_with fail
  refine (T.out _).mono ?_
  rintro e w' ⟨rfl, rfl⟩
  go_wp2_with fail
  refine (Sl.out _).mono ?_
  rintro e w' ⟨rfl, rfl⟩
  go_wp2_with fail
  refine bodyPost_ret (v := .agg #[.int .u64 t, .int .i64 s]) (by simp [results, Tryd.results96, go_sem]) rfl ⟨rfl, ?_⟩
  exact (Below.refl _ _).alloc (Nat.le_refl _) _

set_option maxHeartbeats 400000 in
theorem htell_slot (x : Int) (w : World) (hx : W64 x) :
    Calls Tryd.prog 83 #[.int .u64 x] w fun r w' => r = .returned (.int .i64 (x % 65536)) ∧ Below w.heap.size w w' := by
  have O := hide (hof_any x w hx)
  generalize x % 65536 = s at *
  generalize x / 65536 = t at *
  have hf : ∀ w : World, (Instr.field 128 (.agg #[.int .u64 t, .int .i64 s]) 1).run Tryd.prog w = .ok (.int .i64 s) w := fun _ => by kernel_rfl
  go_enter Tryd.func83, Tryd.ntmps83
  go_wp2_with fail
  refine O.out.mono ?_
  rintro e w' ⟨rfl, hb⟩
  go_wp2_with fail
  go_ret
  exact ⟨rfl, hb⟩
set_option maxHeartbeats 400000 in
theorem htell_tag (x : Int) (w : World) (hx : W64 x) :
    Calls Tryd.prog 101 #[.int .u64 x] w fun r w' => r = .returned (.int .u64 (x / 65536)) ∧ Below w.heap.size w w' := by
  have O := hide (hof_any x w hx)
  generalize x % 65536 = s at *
  generalize x / 65536 = t at *
  have hf : ∀ w : World, (Instr.field 128 (.agg #[.int .u64 t, .int .i64 s]) 0).run Tryd.prog w = .ok (.int .u64 t) w := fun _ => by kernel_rfl
  go_enter Tryd.func101, Tryd.ntmps101
  go_wp2_with fail
  refine O.out.mono ?_
  rintro e w' ⟨rfl, hb⟩
  go_wp2_with fail
  go_ret
  exact ⟨rfl, hb⟩

def hturn (x slot : Int) : Int := hmake (x / 65536 + 1) slot
theorem hturn_bound (x slot : Int) : W64 (hturn x slot) := hmake_bound _ _
set_option maxHeartbeats 400000 in
theorem hturn_any (x slot : Int) (w : World) (hx : W64 x) (hs : I64 slot) :
    Calls Tryd.prog 95 #[.int .u64 x, .int .i64 slot] w fun r w' => r = .returned (.int .u64 (hturn x slot)) ∧ Below w.heap.size w w' := by
  have O := hide (htell_tag x w hx)
  obtain ⟨h0, h1⟩ := hx
  have M := fun w => hide (hmake_any (x / 65536 + 1) slot w ⟨by omega, by omega⟩ hs)
  have E : Hid (hmake (x / 65536 + 1) slot = hturn x slot) := hide rfl
  have b1 : 0 ≤ x / 65536 := by omega
  have b2 : x / 65536 ≤ 281474976710656 := by omega
  generalize x / 65536 = t at *
  generalize hmake (t + 1) slot = r at *
  go_enter Tryd.func95, Tryd.ntmps95
  go_wp2_with fail
  refine O.out.mono ?_
  rintro e w' ⟨rfl, hb⟩
  go_wp2_with fail
  refine (M _).out.mono ?_
  rintro e w' ⟨rfl, rfl⟩
  go_wp2_with fail
  go_ret
  exact ⟨by rw [← E.out]; rfl, hb⟩

/-! The reference. -/
end Go.Proofs.YtokcbipmocpllaaDoor

/-
  What Pop and Push have in common; a Pop told what it is told.
-/
namespace Go.Proofs.YtokcbipmocpllaaDoor
open Go.RowKit
attribute [local go_sem] past_cell past_cell_add

set_option maxHeartbeats 1000000 in
theorem headAt_any (s t f l p sl hd tr k : Int) (w : World) (hs : 1 ≤ s ∧ s ≤ 1000) (ht : 1 ≤ t ∧ t ≤ 64) (hf : 4 ≤ f ∧ f ≤ 64) :
    Calls Tryd.prog 81 #[.agg #[.int .i64 s, .int .i64 t, .int .i64 f, .int .i64 l, .int .i64 p, .int .i64 k, .int .i64 sl, .int .u64 hd, .int .i64 tr]] w fun e w' => e = .returned (.int .i64 2) ∧ Below w.heap.size w w' := by
  have C := hide (fun w2 => at_any s t f l p 3 0 0 w2 hs ht hf)
  rw [atp_first (k := 3) (by omega), show (3 : Int) - 1 = 2 from rfl] at C
  have bx := Blk.new w 47 #[.int .i64 s, .int .i64 t, .int .i64 f, .int .i64 l, .int .i64 p, .int .i64 k, .int .i64 sl, .int .u64 hd, .int .i64 tr]
  have B0 := (Below.refl w.heap.size w).alloc (Nat.le_refl _) (.cells #[.int .i64 s, .int .i64 t, .int .i64 f, .int .i64 l, .int .i64 p, .int .i64 k, .int .i64 sl, .int .u64 hd, .int .i64 tr] 47)
  go_enter Tryd.func81, Tryd.ntmps81
  go_wp2_with fail
  refine (C.out _).mono ?_
  rintro e w1 ⟨rfl, hb1⟩
  try replace bx := bx.below hb1 bx.lt
  try replace bo := bo.below hb1 bo.lt
  try replace by_ := by_.below hb1 by_.lt
  replace B0 := B0.trans (hb1.mono B0.size)
  clear hb1
  try clear mx lx
  try clear mo lo zo
  try clear my ly zy
  try have mx := fun i => bx.cell i
  try have lx := bx.lt
  try have mo := fun i => bo.cell i
  try have lo := bo.lt
  try have zo := fun i => bo.frozen i
  try have my := fun i => by_.cell i
  try have ly := by_.lt
  try have zy := fun i => by_.frozen i
  go_wp2_with fail
  go_ret
  exact ⟨rfl, B0⟩
set_option maxRecDepth 100000 in
set_option maxHeartbeats 1000000 in
theorem bwithin_t (s t f l p sl hd tr k n : Int) (w : World) (h0 : 1 ≤ n) (h1 : n ≤ s) :
    Calls Tryd.prog 94 #[.agg #[.int .i64 s, .int .i64 t, .int .i64 f, .int .i64 l, .int .i64 p, .int .i64 k, .int .i64 sl, .int .u64 hd, .int .i64 tr], .int .i64 n] w fun e w' => e = .returned (.bool true) ∧ Below w.heap.size w w' := by
  have C := hide (fun w2 => lconfig_any s t f l p w2)
  have hf : ∀ w : World, (Instr.field 36 (.agg #[.int .i64 s, .int .i64 t, .int .i64 f, .int .i64 l, .int .i64 p]) 0).run Tryd.prog w = .ok (.int .i64 s) w := fun _ => by kernel_rfl
  skip
  skip
  have bx := Blk.new w 47 #[.int .i64 s, .int .i64 t, .int .i64 f, .int .i64 l, .int .i64 p, .int .i64 k, .int .i64 sl, .int .u64 hd, .int .i64 tr]
  have B0 := (Below.refl w.heap.size w).alloc (Nat.le_refl _) (.cells #[.int .i64 s, .int .i64 t, .int .i64 f, .int .i64 l, .int .i64 p, .int .i64 k, .int .i64 sl, .int .u64 hd, .int .i64 tr] 47)
  go_enter Tryd.func94, Tryd.ntmps94
  go_wp2_with fail
  refine (C.out _).mono ?_
  rintro e w1 ⟨rfl, hb1⟩
  try replace bx := bx.below hb1 bx.lt
  try replace bo := bo.below hb1 bo.lt
  try replace by_ := by_.below hb1 by_.lt
  replace B0 := B0.trans (hb1.mono B0.size)
  clear hb1
  try clear mx lx
  try clear mo lo zo
  try clear my ly zy
  try have mx := fun i => bx.cell i
  try have lx := bx.lt
  try have mo := fun i => bo.cell i
  try have lo := bo.lt
  try have zo := fun i => bo.frozen i
  try have my := fun i => by_.cell i
  try have ly := by_.lt
  try have zy := fun i => by_.frozen i
  go_wp2_with fail
  go_ret
  exact ⟨by first | rfl | simp [h2], B0⟩
set_option maxRecDepth 100000 in
set_option maxHeartbeats 1000000 in
theorem bwithin_f1 (s t f l p sl hd tr k n : Int) (w : World) (h0 : n < 1) :
    Calls Tryd.prog 94 #[.agg #[.int .i64 s, .int .i64 t, .int .i64 f, .int .i64 l, .int .i64 p, .int .i64 k, .int .i64 sl, .int .u64 hd, .int .i64 tr], .int .i64 n] w fun e w' => e = .returned (.bool false) ∧ Below w.heap.size w w' := by

  skip
  have h2 : ¬ 1 ≤ n := by omega
  have bx := Blk.new w 47 #[.int .i64 s, .int .i64 t, .int .i64 f, .int .i64 l, .int .i64 p, .int .i64 k, .int .i64 sl, .int .u64 hd, .int .i64 tr]
  have B0 := (Below.refl w.heap.size w).alloc (Nat.le_refl _) (.cells #[.int .i64 s, .int .i64 t, .int .i64 f, .int .i64 l, .int .i64 p, .int .i64 k, .int .i64 sl, .int .u64 hd, .int .i64 tr] 47)
  go_enter Tryd.func94, Tryd.ntmps94
  go_wp2_with fail

  go_ret
  exact ⟨by first | rfl | simp [h2], B0⟩
set_option maxRecDepth 100000 in
set_option maxHeartbeats 1000000 in
theorem bwithin_f2 (s t f l p sl hd tr k n : Int) (w : World) (h0 : 1 ≤ n) (h1 : s < n) :
    Calls Tryd.prog 94 #[.agg #[.int .i64 s, .int .i64 t, .int .i64 f, .int .i64 l, .int .i64 p, .int .i64 k, .int .i64 sl, .int .u64 hd, .int .i64 tr], .int .i64 n] w fun e w' => e = .returned (.bool false) ∧ Below w.heap.size w w' := by
  have C := hide (fun w2 => lconfig_any s t f l p w2)
  have hf : ∀ w : World, (Instr.field 36 (.agg #[.int .i64 s, .int .i64 t, .int .i64 f, .int .i64 l, .int .i64 p]) 0).run Tryd.prog w = .ok (.int .i64 s) w := fun _ => by kernel_rfl
  have h2 : ¬ n ≤ s := by omega
  skip
  have bx := Blk.new w 47 #[.int .i64 s, .int .i64 t, .int .i64 f, .int .i64 l, .int .i64 p, .int .i64 k, .int .i64 sl, .int .u64 hd, .int .i64 tr]
  have B0 := (Below.refl w.heap.size w).alloc (Nat.le_refl _) (.cells #[.int .i64 s, .int .i64 t, .int .i64 f, .int .i64 l, .int .i64 p, .int .i64 k, .int .i64 sl, .int .u64 hd, .int .i64 tr] 47)
  go_enter Tryd.func94, Tryd.ntmps94
  go_wp2_with fail
  refine (C.out _).mono ?_
  rintro e w1 ⟨rfl, hb1⟩
  try replace bx := bx.below hb1 bx.lt
  try replace bo := bo.below hb1 bo.lt
  try replace by_ := by_.below hb1 by_.lt
  replace B0 := B0.trans (hb1.mono B0.size)
  clear hb1
  try clear mx lx
  try clear mo lo zo
  try clear my ly zy
  try have mx := fun i => bx.cell i
  try have lx := bx.lt
  try have mo := fun i => bo.cell i
  try have lo := bo.lt
  try have zo := fun i => bo.frozen i
  try have my := fun i => by_.cell i
  try have ly := by_.lt
  try have zy := fun i => by_.frozen i
  go_wp2_with fail
  go_ret
  exact ⟨by first | rfl | simp [h2], B0⟩
set_option maxHeartbeats 1000000 in
theorem sload_any (a : Int) (w : World) :
    Calls Tryd.prog 80 #[.int .i64 a] w fun e w' => e = .returned (.agg #[.int .i64 1, .int .i64 a, .int .u64 0, .int .u64 0]) ∧ Below w.heap.size w w' := by
  go_enter Tryd.func80, Tryd.ntmps80
  go_wp2_with fail
  refine bodyPost_ret (v := .agg #[.int .i64 1, .int .i64 a, .int .u64 0, .int .u64 0]) (by simp [results, Tryd.results80, go_sem]) rfl ⟨rfl, ?_⟩
  repeat (first | exact Below.refl _ _ | exact B0 | (refine Below.setCell ?_ (by first | (show w.heap.size ≤ w.heap.size; omega) | (show w.heap.size ≤ w.heap.size + 1; omega) | (show w.heap.size ≤ w.heap.size + 2; omega) | (show w.heap.size ≤ _; simp)) _) | (refine Below.alloc ?_ (by first | exact Nat.le_refl _ | (simp <;> omega)) _))
set_option maxHeartbeats 2000000 in
theorem swap_any (s t f l p sl hd tr k tt : Int) (w : World) (hs : 1 ≤ s ∧ s ≤ 1000) (ht : 1 ≤ t ∧ t ≤ 64) (hf : 4 ≤ f ∧ f ≤ 64) (hh : W64 hd) (hto : I64 tt) :
    Calls Tryd.prog 79 #[.agg #[.int .i64 s, .int .i64 t, .int .i64 f, .int .i64 l, .int .i64 p, .int .i64 k, .int .i64 sl, .int .u64 hd, .int .i64 tr], .int .i64 tt] w fun e w' => e = .returned (.agg #[.int .i64 3, .int .i64 2, .int .u64 hd, .int .u64 (hturn hd tt)]) ∧ Below w.heap.size w w' := by
  have C := hide (fun w2 => headAt_any s t f l p sl hd tr k w2 hs ht hf)
  have M := hide (fun w2 => hturn_any hd tt w2 hh hto)
  generalize hturn hd tt = y at *
  have bx := Blk.new w 47 #[.int .i64 s, .int .i64 t, .int .i64 f, .int .i64 l, .int .i64 p, .int .i64 k, .int .i64 sl, .int .u64 hd, .int .i64 tr]
  have B0 := (Below.refl w.heap.size w).alloc (Nat.le_refl _) (.cells #[.int .i64 s, .int .i64 t, .int .i64 f, .int .i64 l, .int .i64 p, .int .i64 k, .int .i64 sl, .int .u64 hd, .int .i64 tr] 47)
  have bo := Blk.new (w.alloc (.cells #[.int .i64 s, .int .i64 t, .int .i64 f, .int .i64 l, .int .i64 p, .int .i64 k, .int .i64 sl, .int .u64 hd, .int .i64 tr] 47)) 57 #[.int .i64 0, .int .i64 0, .int .u64 0, .int .u64 0]
  replace B0 := B0.alloc B0.size (.cells #[.int .i64 0, .int .i64 0, .int .u64 0, .int .u64 0] 57)
  replace bx := bx.alloc (.cells #[.int .i64 0, .int .i64 0, .int .u64 0, .int .u64 0] 57)
  rw [World.size_alloc] at bo
  go_enter Tryd.func79, Tryd.ntmps79
  go_wp2_with fail
  generalize (w.alloc (.cells #[.int .i64 s, .int .i64 t, .int .i64 f, .int .i64 l, .int .i64 p, .int .i64 k, .int .i64 sl, .int .u64 hd, .int .i64 tr] 47)).alloc (.cells #[.int .i64 0, .int .i64 0, .int .u64 0, .int .u64 0] 57) = w0 at *
  have bd := bx.drewN 1
  have od := bo.drewN 1
  have Bd := below_drewN B0 1
  try clear mx lx
  try clear mo lo zo
  try clear my ly zy
  try have mx := fun i => bx.cell i
  try have lx := bx.lt
  try have mo := fun i => bo.cell i
  try have lo := bo.lt
  try have zo := fun i => bo.frozen i
  try have my := fun i => by_.cell i
  try have ly := by_.lt
  try have zy := fun i => by_.frozen i
  go_region_held3 (fun w' => w'.cell? ⟨w.heap.size, 0, none⟩ = some (.int .i64 s) ∧ w'.cell? ⟨w.heap.size, 1, none⟩ = some (.int .i64 t) ∧ w'.cell? ⟨w.heap.size, 2, none⟩ = some (.int .i64 f) ∧ w'.cell? ⟨w.heap.size, 3, none⟩ = some (.int .i64 l) ∧ w'.cell? ⟨w.heap.size, 4, none⟩ = some (.int .i64 p) ∧ w'.cell? ⟨w.heap.size, 5, none⟩ = some (.int .i64 k) ∧ w'.cell? ⟨w.heap.size, 6, none⟩ = some (.int .i64 sl) ∧ w'.cell? ⟨w.heap.size, 7, none⟩ = some (.int .u64 hd) ∧ w'.cell? ⟨w.heap.size, 8, none⟩ = some (.int .i64 tr)) (go_keep) ((first | (go_at_call 81; refine (C.out _).mono ?_; rintro e w1 ⟨rfl, hb1⟩; have bd := bd.below hb1 bd.lt; have od := od.below hb1 od.lt; have Bd := Bd.trans (hb1.mono Bd.size); have md := fun i => bd.cell i; have nd := fun i => od.cell i; have zd := fun i => od.frozen i; have ld := bd.lt; have kd := od.lt) | (go_at_call 95; refine (M.out _).mono ?_; rintro e w1 ⟨rfl, hb1⟩; have bd := bd.below hb1 bd.lt; have od := od.below hb1 od.lt; have Bd := Bd.trans (hb1.mono Bd.size); have md := fun i => bd.cell i; have nd := fun i => od.cell i; have zd := fun i => od.frozen i; have ld := bd.lt; have kd := od.lt)))
  all_goals
    go_wp2_with fail
    have b9 := od.put4 (.int .i64 3) (.int .i64 2) (.int .u64 hd) (.int .u64 y)
    have B9 := below_put4 Bd (g := w.heap.size + 1) (by omega) (.int .i64 3) (.int .i64 2) (.int .u64 hd) (.int .u64 y)
    have m9 := fun i => b9.cell i
    refine bodyPost_ret (v := .agg #[.int .i64 3, .int .i64 2, .int .u64 hd, .int .u64 y]) (by simp [results, Tryd.results79, go_sem, m9]) rfl ⟨rfl, B9⟩
set_option maxRecDepth 100000 in
set_option maxHeartbeats 1000000 in
theorem swapped_1 (s t f l p sl hd tr k : Int) (w : World)  :
    Calls Tryd.prog 70 #[.agg #[.int .i64 s, .int .i64 t, .int .i64 f, .int .i64 l, .int .i64 p, .int .i64 k, .int .i64 sl, .int .u64 hd, .int .i64 tr], .int .u64 1] w fun e w' => e = .returned (.agg #[.int .i64 s, .int .i64 t, .int .i64 f, .int .i64 l, .int .i64 p, .int .i64 0, .int .i64 sl, .int .u64 hd, .int .i64 tr]) ∧ Below w.heap.size w w' := by
  go_enter Tryd.func70, Tryd.ntmps70
  go_wp2_with fail
  refine bodyPost_ret (v := .agg #[.int .i64 s, .int .i64 t, .int .i64 f, .int .i64 l, .int .i64 p, .int .i64 0, .int .i64 sl, .int .u64 hd, .int .i64 tr]) (by simp [results, Tryd.results70, go_sem]) rfl ⟨rfl, ?_⟩
  repeat (first | exact Below.refl _ _ | exact B0 | (refine Below.setCell ?_ (by first | (show w.heap.size ≤ w.heap.size; omega) | (show w.heap.size ≤ w.heap.size + 1; omega) | (show w.heap.size ≤ w.heap.size + 2; omega) | (show w.heap.size ≤ _; simp)) _) | (refine Below.alloc ?_ (by first | exact Nat.le_refl _ | (simp <;> omega)) _))
set_option maxRecDepth 100000 in
set_option maxHeartbeats 1000000 in
theorem swapped_n (s t f l p sl hd tr k g : Int) (w : World) (hg : (g == 1) = false) :
    Calls Tryd.prog 70 #[.agg #[.int .i64 s, .int .i64 t, .int .i64 f, .int .i64 l, .int .i64 p, .int .i64 k, .int .i64 sl, .int .u64 hd, .int .i64 tr], .int .u64 g] w fun e w' => e = .returned (.agg #[.int .i64 s, .int .i64 t, .int .i64 f, .int .i64 l, .int .i64 p, .int .i64 1, .int .i64 sl, .int .u64 hd, .int .i64 (wrap64 (tr + 1))]) ∧ Below w.heap.size w w' := by
  go_enter Tryd.func70, Tryd.ntmps70
  go_wp2_with fail
  refine bodyPost_ret (v := .agg #[.int .i64 s, .int .i64 t, .int .i64 f, .int .i64 l, .int .i64 p, .int .i64 1, .int .i64 sl, .int .u64 hd, .int .i64 (wrap64 (tr + 1))]) (by simp [results, Tryd.results70, go_sem]) rfl ⟨rfl, ?_⟩
  repeat (first | exact Below.refl _ _ | exact B0 | (refine Below.setCell ?_ (by first | (show w.heap.size ≤ w.heap.size; omega) | (show w.heap.size ≤ w.heap.size + 1; omega) | (show w.heap.size ≤ w.heap.size + 2; omega) | (show w.heap.size ≤ _; simp)) _) | (refine Below.alloc ?_ (by first | exact Nat.le_refl _ | (simp <;> omega)) _))
end Go.Proofs.YtokcbipmocpllaaDoor

/-
  A Push: what it becomes of what it is told.
-/
namespace Go.Proofs.YtokcbipmocpllaaDoor
open Go.RowKit
attribute [local go_sem] past_cell past_cell_add

set_option maxRecDepth 100000 in
set_option maxHeartbeats 2000000 in
theorem pstook_0 (s t f l p sl hd tr g : Int) (w : World) :
    Calls Tryd.prog 48 #[.agg #[.int .i64 s, .int .i64 t, .int .i64 f, .int .i64 l, .int .i64 p, .int .i64 0, .int .i64 sl, .int .u64 hd, .int .i64 tr], .int .u64 g] w fun e w' => e = .returned (.agg #[.int .i64 s, .int .i64 t, .int .i64 f, .int .i64 l, .int .i64 p, .int .i64 0, .int .i64 sl, .int .u64 hd, .int .i64 tr]) ∧ Below w.heap.size w w' := by
  go_enter Tryd.func48, Tryd.ntmps48
  go_wp2_with fail
  refine bodyPost_ret (v := .agg #[.int .i64 s, .int .i64 t, .int .i64 f, .int .i64 l, .int .i64 p, .int .i64 0, .int .i64 sl, .int .u64 hd, .int .i64 tr]) (by simp [results, Tryd.results48, go_sem]) rfl ⟨rfl, ?_⟩
  repeat (first | exact Below.refl _ _ | exact B0 | (refine Below.setCell ?_ (by first | (show w.heap.size ≤ w.heap.size; omega) | (show w.heap.size ≤ w.heap.size + 1; omega) | (show w.heap.size ≤ w.heap.size + 2; omega) | (show w.heap.size ≤ _; simp)) _) | (refine Below.alloc ?_ (by first | exact Nat.le_refl _ | (simp <;> omega)) _))
set_option maxRecDepth 100000 in
set_option maxHeartbeats 2000000 in
theorem pstook_1 (s t f l p sl hd tr g : Int) (w : World) :
    Calls Tryd.prog 48 #[.agg #[.int .i64 s, .int .i64 t, .int .i64 f, .int .i64 l, .int .i64 p, .int .i64 1, .int .i64 sl, .int .u64 hd, .int .i64 tr], .int .u64 g] w fun e w' => e = .returned (.agg #[.int .i64 s, .int .i64 t, .int .i64 f, .int .i64 l, .int .i64 p, .int .i64 2, .int .i64 sl, .int .u64 g, .int .i64 tr]) ∧ Below w.heap.size w w' := by
  go_enter Tryd.func48, Tryd.ntmps48
  go_wp2_with fail
  refine bodyPost_ret (v := .agg #[.int .i64 s, .int .i64 t, .int .i64 f, .int .i64 l, .int .i64 p, .int .i64 2, .int .i64 sl, .int .u64 g, .int .i64 tr]) (by simp [results, Tryd.results48, go_sem]) rfl ⟨rfl, ?_⟩
  repeat (first | exact Below.refl _ _ | exact B0 | (refine Below.setCell ?_ (by first | (show w.heap.size ≤ w.heap.size; omega) | (show w.heap.size ≤ w.heap.size + 1; omega) | (show w.heap.size ≤ w.heap.size + 2; omega) | (show w.heap.size ≤ _; simp)) _) | (refine Below.alloc ?_ (by first | exact Nat.le_refl _ | (simp <;> omega)) _))
set_option maxRecDepth 100000 in
set_option maxHeartbeats 2000000 in
theorem pstook_2 (s t f l p sl hd tr g : Int) (w : World) :
    Calls Tryd.prog 48 #[.agg #[.int .i64 s, .int .i64 t, .int .i64 f, .int .i64 l, .int .i64 p, .int .i64 2, .int .i64 sl, .int .u64 hd, .int .i64 tr], .int .u64 g] w fun e w' => e = .returned (.agg #[.int .i64 s, .int .i64 t, .int .i64 f, .int .i64 l, .int .i64 p, .int .i64 3, .int .i64 sl, .int .u64 hd, .int .i64 tr]) ∧ Below w.heap.size w w' := by
  go_enter Tryd.func48, Tryd.ntmps48
  go_wp2_with fail
  refine bodyPost_ret (v := .agg #[.int .i64 s, .int .i64 t, .int .i64 f, .int .i64 l, .int .i64 p, .int .i64 3, .int .i64 sl, .int .u64 hd, .int .i64 tr]) (by simp [results, Tryd.results48, go_sem]) rfl ⟨rfl, ?_⟩
  repeat (first | exact Below.refl _ _ | exact B0 | (refine Below.setCell ?_ (by first | (show w.heap.size ≤ w.heap.size; omega) | (show w.heap.size ≤ w.heap.size + 1; omega) | (show w.heap.size ≤ w.heap.size + 2; omega) | (show w.heap.size ≤ _; simp)) _) | (refine Below.alloc ?_ (by first | exact Nat.le_refl _ | (simp <;> omega)) _))
set_option maxRecDepth 100000 in
set_option maxHeartbeats 2000000 in
theorem pstook_3y (s t f l p sl hd tr : Int) (w : World)  :
    Calls Tryd.prog 48 #[.agg #[.int .i64 s, .int .i64 t, .int .i64 f, .int .i64 l, .int .i64 p, .int .i64 3, .int .i64 sl, .int .u64 hd, .int .i64 tr], .int .u64 1] w fun e w' => e = .returned (.agg #[.int .i64 s, .int .i64 t, .int .i64 f, .int .i64 l, .int .i64 p, .int .i64 0, .int .i64 sl, .int .u64 hd, .int .i64 tr]) ∧ Below w.heap.size w w' := by
  have C := hide (fun w2 => swapped_1 s t f l p sl hd tr 3 w2)

  have bx := Blk.new w 49 #[.int .i64 s, .int .i64 t, .int .i64 f, .int .i64 l, .int .i64 p, .int .i64 3, .int .i64 sl, .int .u64 hd, .int .i64 tr]
  have B0 := (Below.refl w.heap.size w).alloc (Nat.le_refl _) (.cells #[.int .i64 s, .int .i64 t, .int .i64 f, .int .i64 l, .int .i64 p, .int .i64 3, .int .i64 sl, .int .u64 hd, .int .i64 tr] 49)
  have bo := Blk.new (w.alloc (.cells #[.int .i64 s, .int .i64 t, .int .i64 f, .int .i64 l, .int .i64 p, .int .i64 3, .int .i64 sl, .int .u64 hd, .int .i64 tr] 49)) 49 #[.int .i64 0, .int .i64 0, .int .i64 0, .int .i64 0, .int .i64 0, .int .i64 0, .int .i64 0, .int .u64 0, .int .i64 0]
  replace B0 := B0.alloc B0.size (.cells #[.int .i64 0, .int .i64 0, .int .i64 0, .int .i64 0, .int .i64 0, .int .i64 0, .int .i64 0, .int .u64 0, .int .i64 0] 49)
  replace bx := bx.alloc (.cells #[.int .i64 0, .int .i64 0, .int .i64 0, .int .i64 0, .int .i64 0, .int .i64 0, .int .i64 0, .int .u64 0, .int .i64 0] 49)
  rw [World.size_alloc] at bo
  go_enter Tryd.func48, Tryd.ntmps48
  go_wp2_with fail
  refine (C.out _).mono ?_
  rintro e w1 ⟨rfl, hb1⟩
  replace bx := bx.below hb1 bx.lt
  replace bo := bo.below hb1 bo.lt
  replace B0 := B0.trans (hb1.mono B0.size)
  clear hb1
  have zx := fun i => bx.frozen i
  try clear mx lx
  try clear mo lo zo
  try clear my ly zy
  try have mx := fun i => bx.cell i
  try have lx := bx.lt
  try have mo := fun i => bo.cell i
  try have lo := bo.lt
  try have zo := fun i => bo.frozen i
  try have my := fun i => by_.cell i
  try have ly := by_.lt
  try have zy := fun i => by_.frozen i
  go_wp2_with fail
  have o9 := (((((((((bo.far (p := ⟨w.heap.size, 0, none⟩) (by show w.heap.size + 1 ≠ w.heap.size; omega) (.int .i64 s)).far (p := ⟨w.heap.size, 1, none⟩) (by show w.heap.size + 1 ≠ w.heap.size; omega) (.int .i64 t)).far (p := ⟨w.heap.size, 2, none⟩) (by show w.heap.size + 1 ≠ w.heap.size; omega) (.int .i64 f)).far (p := ⟨w.heap.size, 3, none⟩) (by show w.heap.size + 1 ≠ w.heap.size; omega) (.int .i64 l)).far (p := ⟨w.heap.size, 4, none⟩) (by show w.heap.size + 1 ≠ w.heap.size; omega) (.int .i64 p)).far (p := ⟨w.heap.size, 5, none⟩) (by show w.heap.size + 1 ≠ w.heap.size; omega) (.int .i64 0)).far (p := ⟨w.heap.size, 6, none⟩) (by show w.heap.size + 1 ≠ w.heap.size; omega) (.int .i64 sl)).far (p := ⟨w.heap.size, 7, none⟩) (by show w.heap.size + 1 ≠ w.heap.size; omega) (.int .u64 hd)).far (p := ⟨w.heap.size, 8, none⟩) (by show w.heap.size + 1 ≠ w.heap.size; omega) (.int .i64 tr))
  have C9 := below_put9 B0 (g := w.heap.size) (Nat.le_refl _) (.int .i64 s) (.int .i64 t) (.int .i64 f) (.int .i64 l) (.int .i64 p) (.int .i64 0) (.int .i64 sl) (.int .u64 hd) (.int .i64 tr)
  have b9 := o9.put9 (.int .i64 s) (.int .i64 t) (.int .i64 f) (.int .i64 l) (.int .i64 p) (.int .i64 0) (.int .i64 sl) (.int .u64 hd) (.int .i64 tr)
  have B9 := below_put9 C9 (g := w.heap.size + 1) (by omega) (.int .i64 s) (.int .i64 t) (.int .i64 f) (.int .i64 l) (.int .i64 p) (.int .i64 0) (.int .i64 sl) (.int .u64 hd) (.int .i64 tr)
  have m9 := fun i => b9.cell i
  refine bodyPost_ret (v := .agg #[.int .i64 s, .int .i64 t, .int .i64 f, .int .i64 l, .int .i64 p, .int .i64 0, .int .i64 sl, .int .u64 hd, .int .i64 tr]) (by simp [results, Tryd.results48, go_sem, m9]) rfl ⟨rfl, B9⟩
set_option maxRecDepth 100000 in
set_option maxHeartbeats 2000000 in
theorem pstook_3n (s t f l p sl hd tr g : Int) (w : World) (hg : (g == 1) = false) :
    Calls Tryd.prog 48 #[.agg #[.int .i64 s, .int .i64 t, .int .i64 f, .int .i64 l, .int .i64 p, .int .i64 3, .int .i64 sl, .int .u64 hd, .int .i64 tr], .int .u64 g] w fun e w' => e = .returned (.agg #[.int .i64 s, .int .i64 t, .int .i64 f, .int .i64 l, .int .i64 p, .int .i64 1, .int .i64 sl, .int .u64 hd, .int .i64 (wrap64 (tr + 1))]) ∧ Below w.heap.size w w' := by
  have C := hide (fun w2 => swapped_n s t f l p sl hd tr 3 g w2 hg)
  generalize wrap64 (tr + 1) = tr2 at *
  have bx := Blk.new w 49 #[.int .i64 s, .int .i64 t, .int .i64 f, .int .i64 l, .int .i64 p, .int .i64 3, .int .i64 sl, .int .u64 hd, .int .i64 tr]
  have B0 := (Below.refl w.heap.size w).alloc (Nat.le_refl _) (.cells #[.int .i64 s, .int .i64 t, .int .i64 f, .int .i64 l, .int .i64 p, .int .i64 3, .int .i64 sl, .int .u64 hd, .int .i64 tr] 49)
  have bo := Blk.new (w.alloc (.cells #[.int .i64 s, .int .i64 t, .int .i64 f, .int .i64 l, .int .i64 p, .int .i64 3, .int .i64 sl, .int .u64 hd, .int .i64 tr] 49)) 49 #[.int .i64 0, .int .i64 0, .int .i64 0, .int .i64 0, .int .i64 0, .int .i64 0, .int .i64 0, .int .u64 0, .int .i64 0]
  replace B0 := B0.alloc B0.size (.cells #[.int .i64 0, .int .i64 0, .int .i64 0, .int .i64 0, .int .i64 0, .int .i64 0, .int .i64 0, .int .u64 0, .int .i64 0] 49)
  replace bx := bx.alloc (.cells #[.int .i64 0, .int .i64 0, .int .i64 0, .int .i64 0, .int .i64 0, .int .i64 0, .int .i64 0, .int .u64 0, .int .i64 0] 49)
  rw [World.size_alloc] at bo
  go_enter Tryd.func48, Tryd.ntmps48
  go_wp2_with fail
  refine (C.out _).mono ?_
  rintro e w1 ⟨rfl, hb1⟩
  replace bx := bx.below hb1 bx.lt
  replace bo := bo.below hb1 bo.lt
  replace B0 := B0.trans (hb1.mono B0.size)
  clear hb1
  have zx := fun i => bx.frozen i
  try clear mx lx
  try clear mo lo zo
  try clear my ly zy
  try have mx := fun i => bx.cell i
  try have lx := bx.lt
  try have mo := fun i => bo.cell i
  try have lo := bo.lt
  try have zo := fun i => bo.frozen i
  try have my := fun i => by_.cell i
  try have ly := by_.lt
  try have zy := fun i => by_.frozen i
  go_wp2_with fail
  have o9 := (((((((((bo.far (p := ⟨w.heap.size, 0, none⟩) (by show w.heap.size + 1 ≠ w.heap.size; omega) (.int .i64 s)).far (p := ⟨w.heap.size, 1, none⟩) (by show w.heap.size + 1 ≠ w.heap.size; omega) (.int .i64 t)).far (p := ⟨w.heap.size, 2, none⟩) (by show w.heap.size + 1 ≠ w.heap.size; omega) (.int .i64 f)).far (p := ⟨w.heap.size, 3, none⟩) (by show w.heap.size + 1 ≠ w.heap.size; omega) (.int .i64 l)).far (p := ⟨w.heap.size, 4, none⟩) (by show w.heap.size + 1 ≠ w.heap.size; omega) (.int .i64 p)).far (p := ⟨w.heap.size, 5, none⟩) (by show w.heap.size + 1 ≠ w.heap.size; omega) (.int .i64 1)).far (p := ⟨w.heap.size, 6, none⟩) (by show w.heap.size + 1 ≠ w.heap.size; omega) (.int .i64 sl)).far (p := ⟨w.heap.size, 7, none⟩) (by show w.heap.size + 1 ≠ w.heap.size; omega) (.int .u64 hd)).far (p := ⟨w.heap.size, 8, none⟩) (by show w.heap.size + 1 ≠ w.heap.size; omega) (.int .i64 tr2))
  have C9 := below_put9 B0 (g := w.heap.size) (Nat.le_refl _) (.int .i64 s) (.int .i64 t) (.int .i64 f) (.int .i64 l) (.int .i64 p) (.int .i64 1) (.int .i64 sl) (.int .u64 hd) (.int .i64 tr2)
  have b9 := o9.put9 (.int .i64 s) (.int .i64 t) (.int .i64 f) (.int .i64 l) (.int .i64 p) (.int .i64 1) (.int .i64 sl) (.int .u64 hd) (.int .i64 tr2)
  have B9 := below_put9 C9 (g := w.heap.size + 1) (by omega) (.int .i64 s) (.int .i64 t) (.int .i64 f) (.int .i64 l) (.int .i64 p) (.int .i64 1) (.int .i64 sl) (.int .u64 hd) (.int .i64 tr2)
  have m9 := fun i => b9.cell i
  refine bodyPost_ret (v := .agg #[.int .i64 s, .int .i64 t, .int .i64 f, .int .i64 l, .int .i64 p, .int .i64 1, .int .i64 sl, .int .u64 hd, .int .i64 tr2]) (by simp [results, Tryd.results48, go_sem, m9]) rfl ⟨rfl, B9⟩
set_option maxRecDepth 100000 in
set_option maxHeartbeats 2000000 in
theorem psdone_0 (s t f l p sl hd tr : Int) (w : World)  :
    Calls Tryd.prog 49 #[.agg #[.int .i64 s, .int .i64 t, .int .i64 f, .int .i64 l, .int .i64 p, .int .i64 0, .int .i64 sl, .int .u64 hd, .int .i64 tr]] w fun e w' => e = .returned (.bool true) ∧ Below w.heap.size w w' := by
  have bx := Blk.new w 49 #[.int .i64 s, .int .i64 t, .int .i64 f, .int .i64 l, .int .i64 p, .int .i64 0, .int .i64 sl, .int .u64 hd, .int .i64 tr]
  have B0 := (Below.refl w.heap.size w).alloc (Nat.le_refl _) (.cells #[.int .i64 s, .int .i64 t, .int .i64 f, .int .i64 l, .int .i64 p, .int .i64 0, .int .i64 sl, .int .u64 hd, .int .i64 tr] 49)
  go_enter Tryd.func49, Tryd.ntmps49
  go_wp2_with fail
  go_ret
  exact ⟨rfl, B0⟩
set_option maxRecDepth 100000 in
set_option maxHeartbeats 2000000 in
theorem pswant_0 (s t f l p sl hd tr : Int) (w : World) :
    Calls Tryd.prog 54 #[.agg #[.int .i64 s, .int .i64 t, .int .i64 f, .int .i64 l, .int .i64 p, .int .i64 0, .int .i64 sl, .int .u64 hd, .int .i64 tr]] w fun e w' => e = .returned (.agg #[.int .i64 0, .int .i64 0, .int .u64 0, .int .u64 0]) ∧ Below w.heap.size w w' := by
  have hmf : ∀ (fn : Fn) (first cap : Array Value) (w : World), (Instr.makeFunc fn first cap).run Tryd.prog w = .ok (.func fn first cap) w := fun _ _ _ _ => rfl
  go_enter Tryd.func54, Tryd.ntmps54
  go_wp2_with fail
  refine bodyPost_ret (v := .agg #[.int .i64 0, .int .i64 0, .int .u64 0, .int .u64 0]) (by simp [results, Tryd.results54, go_sem]) rfl ⟨rfl, ?_⟩
  repeat (first | exact Below.refl _ _ | exact B0 | (refine Below.setCell ?_ (by first | (show w.heap.size ≤ w.heap.size; omega) | (show w.heap.size ≤ w.heap.size + 1; omega) | (show w.heap.size ≤ w.heap.size + 2; omega) | (show w.heap.size ≤ _; simp)) _) | (refine Below.alloc ?_ (by first | exact Nat.le_refl _ | (simp <;> omega)) _))
set_option maxRecDepth 100000 in
set_option maxHeartbeats 2000000 in
theorem psnew_yes (s t f l p n : Int) (w : World) (hs : 1 ≤ s ∧ s ≤ 1000) (ht : 1 ≤ t ∧ t ≤ 64) (hf : 4 ≤ f ∧ f ≤ 64) (h0 : 1 ≤ n) (h1 : n ≤ s) :
    Calls Tryd.prog 74 #[.agg #[.int .i64 s, .int .i64 t, .int .i64 f, .int .i64 l, .int .i64 p], .int .i64 n] w fun e w' => e = .returned (.agg #[.int .i64 s, .int .i64 t, .int .i64 f, .int .i64 l, .int .i64 p, .int .i64 1, .int .i64 n, .int .u64 0, .int .i64 0]) ∧ Below w.heap.size w w' := by
  have C := hide (fun w2 => size_any s t f l p w2 hs ht hf)
  have hz := size_pos hs ht hf
  have q0 : (laySize s t f == 0) = false := by rw [beq_eq_false_iff_ne]; omega
  clear hz
  generalize laySize s t f = q at *
  have D := hide (fun w2 => bwithin_t s t f l p n 0 0 1 n w2 h0 h1)
  have bx := Blk.new w 44 #[.int .i64 s, .int .i64 t, .int .i64 f, .int .i64 l, .int .i64 p]
  have B0 := (Below.refl w.heap.size w).alloc (Nat.le_refl _) (.cells #[.int .i64 s, .int .i64 t, .int .i64 f, .int .i64 l, .int .i64 p] 44)
  have bo := Blk.new (w.alloc (.cells #[.int .i64 s, .int .i64 t, .int .i64 f, .int .i64 l, .int .i64 p] 44)) 49 #[.int .i64 0, .int .i64 0, .int .i64 0, .int .i64 0, .int .i64 0, .int .i64 0, .int .i64 0, .int .u64 0, .int .i64 0]
  replace B0 := B0.alloc B0.size (.cells #[.int .i64 0, .int .i64 0, .int .i64 0, .int .i64 0, .int .i64 0, .int .i64 0, .int .i64 0, .int .u64 0, .int .i64 0] 49)
  replace bx := bx.alloc (.cells #[.int .i64 0, .int .i64 0, .int .i64 0, .int .i64 0, .int .i64 0, .int .i64 0, .int .i64 0, .int .u64 0, .int .i64 0] 49)
  have by_ := Blk.new ((w.alloc (.cells #[.int .i64 s, .int .i64 t, .int .i64 f, .int .i64 l, .int .i64 p] 44)).alloc (.cells #[.int .i64 0, .int .i64 0, .int .i64 0, .int .i64 0, .int .i64 0, .int .i64 0, .int .i64 0, .int .u64 0, .int .i64 0] 49)) 49 #[.int .i64 s, .int .i64 t, .int .i64 f, .int .i64 l, .int .i64 p, .int .i64 1, .int .i64 n, .int .u64 0, .int .i64 0]
  replace B0 := B0.alloc B0.size (.cells #[.int .i64 s, .int .i64 t, .int .i64 f, .int .i64 l, .int .i64 p, .int .i64 1, .int .i64 n, .int .u64 0, .int .i64 0] 49)
  replace bx := bx.alloc (.cells #[.int .i64 s, .int .i64 t, .int .i64 f, .int .i64 l, .int .i64 p, .int .i64 1, .int .i64 n, .int .u64 0, .int .i64 0] 49)
  replace bo := bo.alloc (.cells #[.int .i64 s, .int .i64 t, .int .i64 f, .int .i64 l, .int .i64 p, .int .i64 1, .int .i64 n, .int .u64 0, .int .i64 0] 49)
  rw [World.size_alloc] at bo by_
  rw [World.size_alloc] at by_
  go_enter Tryd.func74, Tryd.ntmps74
  go_wp2_with fail
  refine (C.out _).mono ?_
  rintro e w1 ⟨rfl, hb1⟩
  try replace bx := bx.below hb1 bx.lt
  try replace bo := bo.below hb1 bo.lt
  try replace by_ := by_.below hb1 by_.lt
  replace B0 := B0.trans (hb1.mono B0.size)
  clear hb1
  try clear mx lx
  try clear mo lo zo
  try clear my ly zy
  try have mx := fun i => bx.cell i
  try have lx := bx.lt
  try have mo := fun i => bo.cell i
  try have lo := bo.lt
  try have zo := fun i => bo.frozen i
  try have my := fun i => by_.cell i
  try have ly := by_.lt
  try have zy := fun i => by_.frozen i
  go_wp2_with fail
  refine (D.out _).mono ?_
  rintro e w2 ⟨rfl, hb1⟩
  try replace bx := bx.below hb1 bx.lt
  try replace bo := bo.below hb1 bo.lt
  try replace by_ := by_.below hb1 by_.lt
  replace B0 := B0.trans (hb1.mono B0.size)
  clear hb1
  try clear mx lx
  try clear mo lo zo
  try clear my ly zy
  try have mx := fun i => bx.cell i
  try have lx := bx.lt
  try have mo := fun i => bo.cell i
  try have lo := bo.lt
  try have zo := fun i => bo.frozen i
  try have my := fun i => by_.cell i
  try have ly := by_.lt
  try have zy := fun i => by_.frozen i
  go_wp2_with fail
  have b9 := bo.put9 (.int .i64 s) (.int .i64 t) (.int .i64 f) (.int .i64 l) (.int .i64 p) (.int .i64 1) (.int .i64 n) (.int .u64 0) (.int .i64 0)
  have B9 := below_put9 B0 (g := w.heap.size + 1) (by omega) (.int .i64 s) (.int .i64 t) (.int .i64 f) (.int .i64 l) (.int .i64 p) (.int .i64 1) (.int .i64 n) (.int .u64 0) (.int .i64 0)
  have m9 := fun i => b9.cell i
  refine bodyPost_ret (v := .agg #[.int .i64 s, .int .i64 t, .int .i64 f, .int .i64 l, .int .i64 p, .int .i64 1, .int .i64 n, .int .u64 0, .int .i64 0]) (by simp [results, Tryd.results74, go_sem, m9]) rfl ⟨rfl, by first | exact B9 | exact B9.drew⟩
set_option maxRecDepth 100000 in
set_option maxHeartbeats 2000000 in
theorem psnew_lo (s t f l p n : Int) (w : World) (hs : 1 ≤ s ∧ s ≤ 1000) (ht : 1 ≤ t ∧ t ≤ 64) (hf : 4 ≤ f ∧ f ≤ 64) (h0 : n < 1) :
    Calls Tryd.prog 74 #[.agg #[.int .i64 s, .int .i64 t, .int .i64 f, .int .i64 l, .int .i64 p], .int .i64 n] w fun e w' => e = .returned (.agg #[.int .i64 0, .int .i64 0, .int .i64 0, .int .i64 0, .int .i64 0, .int .i64 0, .int .i64 0, .int .u64 0, .int .i64 0]) ∧ Below w.heap.size w w' := by
  have C := hide (fun w2 => size_any s t f l p w2 hs ht hf)
  have hz := size_pos hs ht hf
  have q0 : (laySize s t f == 0) = false := by rw [beq_eq_false_iff_ne]; omega
  clear hz
  generalize laySize s t f = q at *
  have D := hide (fun w2 => bwithin_f1 s t f l p n 0 0 1 n w2 h0)
  have bx := Blk.new w 44 #[.int .i64 s, .int .i64 t, .int .i64 f, .int .i64 l, .int .i64 p]
  have B0 := (Below.refl w.heap.size w).alloc (Nat.le_refl _) (.cells #[.int .i64 s, .int .i64 t, .int .i64 f, .int .i64 l, .int .i64 p] 44)
  have bo := Blk.new (w.alloc (.cells #[.int .i64 s, .int .i64 t, .int .i64 f, .int .i64 l, .int .i64 p] 44)) 49 #[.int .i64 0, .int .i64 0, .int .i64 0, .int .i64 0, .int .i64 0, .int .i64 0, .int .i64 0, .int .u64 0, .int .i64 0]
  replace B0 := B0.alloc B0.size (.cells #[.int .i64 0, .int .i64 0, .int .i64 0, .int .i64 0, .int .i64 0, .int .i64 0, .int .i64 0, .int .u64 0, .int .i64 0] 49)
  replace bx := bx.alloc (.cells #[.int .i64 0, .int .i64 0, .int .i64 0, .int .i64 0, .int .i64 0, .int .i64 0, .int .i64 0, .int .u64 0, .int .i64 0] 49)
  have by_ := Blk.new ((w.alloc (.cells #[.int .i64 s, .int .i64 t, .int .i64 f, .int .i64 l, .int .i64 p] 44)).alloc (.cells #[.int .i64 0, .int .i64 0, .int .i64 0, .int .i64 0, .int .i64 0, .int .i64 0, .int .i64 0, .int .u64 0, .int .i64 0] 49)) 49 #[.int .i64 s, .int .i64 t, .int .i64 f, .int .i64 l, .int .i64 p, .int .i64 1, .int .i64 n, .int .u64 0, .int .i64 0]
  replace B0 := B0.alloc B0.size (.cells #[.int .i64 s, .int .i64 t, .int .i64 f, .int .i64 l, .int .i64 p, .int .i64 1, .int .i64 n, .int .u64 0, .int .i64 0] 49)
  replace bx := bx.alloc (.cells #[.int .i64 s, .int .i64 t, .int .i64 f, .int .i64 l, .int .i64 p, .int .i64 1, .int .i64 n, .int .u64 0, .int .i64 0] 49)
  replace bo := bo.alloc (.cells #[.int .i64 s, .int .i64 t, .int .i64 f, .int .i64 l, .int .i64 p, .int .i64 1, .int .i64 n, .int .u64 0, .int .i64 0] 49)
  rw [World.size_alloc] at bo by_
  rw [World.size_alloc] at by_
  go_enter Tryd.func74, Tryd.ntmps74
  go_wp2_with fail
  refine (C.out _).mono ?_
  rintro e w1 ⟨rfl, hb1⟩
  try replace bx := bx.below hb1 bx.lt
  try replace bo := bo.below hb1 bo.lt
  try replace by_ := by_.below hb1 by_.lt
  replace B0 := B0.trans (hb1.mono B0.size)
  clear hb1
  try clear mx lx
  try clear mo lo zo
  try clear my ly zy
  try have mx := fun i => bx.cell i
  try have lx := bx.lt
  try have mo := fun i => bo.cell i
  try have lo := bo.lt
  try have zo := fun i => bo.frozen i
  try have my := fun i => by_.cell i
  try have ly := by_.lt
  try have zy := fun i => by_.frozen i
  go_wp2_with fail
  refine (D.out _).mono ?_
  rintro e w2 ⟨rfl, hb1⟩
  try replace bx := bx.below hb1 bx.lt
  try replace bo := bo.below hb1 bo.lt
  try replace by_ := by_.below hb1 by_.lt
  replace B0 := B0.trans (hb1.mono B0.size)
  clear hb1
  try clear mx lx
  try clear mo lo zo
  try clear my ly zy
  try have mx := fun i => bx.cell i
  try have lx := bx.lt
  try have mo := fun i => bo.cell i
  try have lo := bo.lt
  try have zo := fun i => bo.frozen i
  try have my := fun i => by_.cell i
  try have ly := by_.lt
  try have zy := fun i => by_.frozen i
  go_wp2_with fail
  have b9 := bo.put9 (.int .i64 0) (.int .i64 0) (.int .i64 0) (.int .i64 0) (.int .i64 0) (.int .i64 0) (.int .i64 0) (.int .u64 0) (.int .i64 0)
  have B9 := below_put9 B0 (g := w.heap.size + 1) (by omega) (.int .i64 0) (.int .i64 0) (.int .i64 0) (.int .i64 0) (.int .i64 0) (.int .i64 0) (.int .i64 0) (.int .u64 0) (.int .i64 0)
  have m9 := fun i => b9.cell i
  refine bodyPost_ret (v := .agg #[.int .i64 0, .int .i64 0, .int .i64 0, .int .i64 0, .int .i64 0, .int .i64 0, .int .i64 0, .int .u64 0, .int .i64 0]) (by simp [results, Tryd.results74, go_sem, m9]) rfl ⟨rfl, by first | exact B9 | exact B9.drew⟩
set_option maxRecDepth 100000 in
set_option maxHeartbeats 2000000 in
theorem psnew_hi (s t f l p n : Int) (w : World) (hs : 1 ≤ s ∧ s ≤ 1000) (ht : 1 ≤ t ∧ t ≤ 64) (hf : 4 ≤ f ∧ f ≤ 64) (h0 : 1 ≤ n) (h1 : s < n) :
    Calls Tryd.prog 74 #[.agg #[.int .i64 s, .int .i64 t, .int .i64 f, .int .i64 l, .int .i64 p], .int .i64 n] w fun e w' => e = .returned (.agg #[.int .i64 0, .int .i64 0, .int .i64 0, .int .i64 0, .int .i64 0, .int .i64 0, .int .i64 0, .int .u64 0, .int .i64 0]) ∧ Below w.heap.size w w' := by
  have C := hide (fun w2 => size_any s t f l p w2 hs ht hf)
  have hz := size_pos hs ht hf
  have q0 : (laySize s t f == 0) = false := by rw [beq_eq_false_iff_ne]; omega
  clear hz
  generalize laySize s t f = q at *
  have D := hide (fun w2 => bwithin_f2 s t f l p n 0 0 1 n w2 h0 h1)
  have bx := Blk.new w 44 #[.int .i64 s, .int .i64 t, .int .i64 f, .int .i64 l, .int .i64 p]
  have B0 := (Below.refl w.heap.size w).alloc (Nat.le_refl _) (.cells #[.int .i64 s, .int .i64 t, .int .i64 f, .int .i64 l, .int .i64 p] 44)
  have bo := Blk.new (w.alloc (.cells #[.int .i64 s, .int .i64 t, .int .i64 f, .int .i64 l, .int .i64 p] 44)) 49 #[.int .i64 0, .int .i64 0, .int .i64 0, .int .i64 0, .int .i64 0, .int .i64 0, .int .i64 0, .int .u64 0, .int .i64 0]
  replace B0 := B0.alloc B0.size (.cells #[.int .i64 0, .int .i64 0, .int .i64 0, .int .i64 0, .int .i64 0, .int .i64 0, .int .i64 0, .int .u64 0, .int .i64 0] 49)
  replace bx := bx.alloc (.cells #[.int .i64 0, .int .i64 0, .int .i64 0, .int .i64 0, .int .i64 0, .int .i64 0, .int .i64 0, .int .u64 0, .int .i64 0] 49)
  have by_ := Blk.new ((w.alloc (.cells #[.int .i64 s, .int .i64 t, .int .i64 f, .int .i64 l, .int .i64 p] 44)).alloc (.cells #[.int .i64 0, .int .i64 0, .int .i64 0, .int .i64 0, .int .i64 0, .int .i64 0, .int .i64 0, .int .u64 0, .int .i64 0] 49)) 49 #[.int .i64 s, .int .i64 t, .int .i64 f, .int .i64 l, .int .i64 p, .int .i64 1, .int .i64 n, .int .u64 0, .int .i64 0]
  replace B0 := B0.alloc B0.size (.cells #[.int .i64 s, .int .i64 t, .int .i64 f, .int .i64 l, .int .i64 p, .int .i64 1, .int .i64 n, .int .u64 0, .int .i64 0] 49)
  replace bx := bx.alloc (.cells #[.int .i64 s, .int .i64 t, .int .i64 f, .int .i64 l, .int .i64 p, .int .i64 1, .int .i64 n, .int .u64 0, .int .i64 0] 49)
  replace bo := bo.alloc (.cells #[.int .i64 s, .int .i64 t, .int .i64 f, .int .i64 l, .int .i64 p, .int .i64 1, .int .i64 n, .int .u64 0, .int .i64 0] 49)
  rw [World.size_alloc] at bo by_
  rw [World.size_alloc] at by_
  go_enter Tryd.func74, Tryd.ntmps74
  go_wp2_with fail
  refine (C.out _).mono ?_
  rintro e w1 ⟨rfl, hb1⟩
  try replace bx := bx.below hb1 bx.lt
  try replace bo := bo.below hb1 bo.lt
  try replace by_ := by_.below hb1 by_.lt
  replace B0 := B0.trans (hb1.mono B0.size)
  clear hb1
  try clear mx lx
  try clear mo lo zo
  try clear my ly zy
  try have mx := fun i => bx.cell i
  try have lx := bx.lt
  try have mo := fun i => bo.cell i
  try have lo := bo.lt
  try have zo := fun i => bo.frozen i
  try have my := fun i => by_.cell i
  try have ly := by_.lt
  try have zy := fun i => by_.frozen i
  go_wp2_with fail
  refine (D.out _).mono ?_
  rintro e w2 ⟨rfl, hb1⟩
  try replace bx := bx.below hb1 bx.lt
  try replace bo := bo.below hb1 bo.lt
  try replace by_ := by_.below hb1 by_.lt
  replace B0 := B0.trans (hb1.mono B0.size)
  clear hb1
  try clear mx lx
  try clear mo lo zo
  try clear my ly zy
  try have mx := fun i => bx.cell i
  try have lx := bx.lt
  try have mo := fun i => bo.cell i
  try have lo := bo.lt
  try have zo := fun i => bo.frozen i
  try have my := fun i => by_.cell i
  try have ly := by_.lt
  try have zy := fun i => by_.frozen i
  go_wp2_with fail
  have b9 := bo.put9 (.int .i64 0) (.int .i64 0) (.int .i64 0) (.int .i64 0) (.int .i64 0) (.int .i64 0) (.int .i64 0) (.int .u64 0) (.int .i64 0)
  have B9 := below_put9 B0 (g := w.heap.size + 1) (by omega) (.int .i64 0) (.int .i64 0) (.int .i64 0) (.int .i64 0) (.int .i64 0) (.int .i64 0) (.int .i64 0) (.int .u64 0) (.int .i64 0)
  have m9 := fun i => b9.cell i
  refine bodyPost_ret (v := .agg #[.int .i64 0, .int .i64 0, .int .i64 0, .int .i64 0, .int .i64 0, .int .i64 0, .int .i64 0, .int .u64 0, .int .i64 0]) (by simp [results, Tryd.results74, go_sem, m9]) rfl ⟨rfl, by first | exact B9 | exact B9.drew⟩
set_option maxRecDepth 100000 in
set_option maxHeartbeats 2000000 in
theorem psnew_zero (n : Int) (w : World) :
    Calls Tryd.prog 74 #[.agg #[.int .i64 0, .int .i64 0, .int .i64 0, .int .i64 0, .int .i64 0], .int .i64 n] w fun e w' => e = .returned (.agg #[.int .i64 0, .int .i64 0, .int .i64 0, .int .i64 0, .int .i64 0, .int .i64 0, .int .i64 0, .int .u64 0, .int .i64 0]) ∧ Below w.heap.size w w' := by
  have C := hide (fun w2 => size_zero w2)
  have bx := Blk.new w 44 #[.int .i64 0, .int .i64 0, .int .i64 0, .int .i64 0, .int .i64 0]
  have B0 := (Below.refl w.heap.size w).alloc (Nat.le_refl _) (.cells #[.int .i64 0, .int .i64 0, .int .i64 0, .int .i64 0, .int .i64 0] 44)
  have bo := Blk.new (w.alloc (.cells #[.int .i64 0, .int .i64 0, .int .i64 0, .int .i64 0, .int .i64 0] 44)) 49 #[.int .i64 0, .int .i64 0, .int .i64 0, .int .i64 0, .int .i64 0, .int .i64 0, .int .i64 0, .int .u64 0, .int .i64 0]
  replace B0 := B0.alloc B0.size (.cells #[.int .i64 0, .int .i64 0, .int .i64 0, .int .i64 0, .int .i64 0, .int .i64 0, .int .i64 0, .int .u64 0, .int .i64 0] 49)
  replace bx := bx.alloc (.cells #[.int .i64 0, .int .i64 0, .int .i64 0, .int .i64 0, .int .i64 0, .int .i64 0, .int .i64 0, .int .u64 0, .int .i64 0] 49)
  have by_ := Blk.new ((w.alloc (.cells #[.int .i64 0, .int .i64 0, .int .i64 0, .int .i64 0, .int .i64 0] 44)).alloc (.cells #[.int .i64 0, .int .i64 0, .int .i64 0, .int .i64 0, .int .i64 0, .int .i64 0, .int .i64 0, .int .u64 0, .int .i64 0] 49)) 49 #[.int .i64 0, .int .i64 0, .int .i64 0, .int .i64 0, .int .i64 0, .int .i64 1, .int .i64 n, .int .u64 0, .int .i64 0]
  replace B0 := B0.alloc B0.size (.cells #[.int .i64 0, .int .i64 0, .int .i64 0, .int .i64 0, .int .i64 0, .int .i64 1, .int .i64 n, .int .u64 0, .int .i64 0] 49)
  replace bx := bx.alloc (.cells #[.int .i64 0, .int .i64 0, .int .i64 0, .int .i64 0, .int .i64 0, .int .i64 1, .int .i64 n, .int .u64 0, .int .i64 0] 49)
  replace bo := bo.alloc (.cells #[.int .i64 0, .int .i64 0, .int .i64 0, .int .i64 0, .int .i64 0, .int .i64 1, .int .i64 n, .int .u64 0, .int .i64 0] 49)
  rw [World.size_alloc] at bo by_
  rw [World.size_alloc] at by_
  go_enter Tryd.func74, Tryd.ntmps74
  go_wp2_with fail
  refine (C.out _).mono ?_
  rintro e w1 ⟨rfl, hb1⟩
  try replace bx := bx.below hb1 bx.lt
  try replace bo := bo.below hb1 bo.lt
  try replace by_ := by_.below hb1 by_.lt
  replace B0 := B0.trans (hb1.mono B0.size)
  clear hb1
  try clear mx lx
  try clear mo lo zo
  try clear my ly zy
  try have mx := fun i => bx.cell i
  try have lx := bx.lt
  try have mo := fun i => bo.cell i
  try have lo := bo.lt
  try have zo := fun i => bo.frozen i
  try have my := fun i => by_.cell i
  try have ly := by_.lt
  try have zy := fun i => by_.frozen i
  go_wp2_with fail
  have b9 := bo.put9 (.int .i64 0) (.int .i64 0) (.int .i64 0) (.int .i64 0) (.int .i64 0) (.int .i64 0) (.int .i64 0) (.int .u64 0) (.int .i64 0)
  have B9 := below_put9 B0 (g := w.heap.size + 1) (by omega) (.int .i64 0) (.int .i64 0) (.int .i64 0) (.int .i64 0) (.int .i64 0) (.int .i64 0) (.int .i64 0) (.int .u64 0) (.int .i64 0)
  have m9 := fun i => b9.cell i
  refine bodyPost_ret (v := .agg #[.int .i64 0, .int .i64 0, .int .i64 0, .int .i64 0, .int .i64 0, .int .i64 0, .int .i64 0, .int .u64 0, .int .i64 0]) (by simp [results, Tryd.results74, go_sem, m9]) rfl ⟨rfl, by first | exact B9 | exact B9.drew⟩
theorem ps_eql (s t f l p sl hd tr k : Int) (w : World) : (binOp .eql 49 (.agg #[.int .i64 s, .int .i64 t, .int .i64 f, .int .i64 l, .int .i64 p, .int .i64 k, .int .i64 sl, .int .u64 hd, .int .i64 tr]) (.agg #[.int .i64 s, .int .i64 t, .int .i64 f, .int .i64 l, .int .i64 p, .int .i64 k, .int .i64 sl, .int .u64 hd, .int .i64 tr])).run Tryd.prog w = .ok (.bool true) w := by
  have hs : Tryd.prog.stoodInHeld 49 = false := by kernel_rfl
  rw [run_eql_struct, show (10000 : Nat) = 9999 + 1 from rfl, run_equalIn_agg _ _ _ _ _ (by kernel_rfl) hs]
  simp [Program.fieldsOf, Tryd.underlying49, Tryd.underlying47, Tryd.underlying44, Tryd.underlying36, Tryd.underlying3, Tryd.underlying29, Op.eqFields, run_equalIn_int, go_sem]

/-- The step, the slot, the head, the tries. -/
def psTook (x : Int × Int × Int × Int) (g : Int) : Int × Int × Int × Int :=
  if x.1 = 0 then x
  else if x.1 = 1 then (2, x.2.1, g, x.2.2.2)
  else if x.1 = 2 then (3, x.2.1, x.2.2.1, x.2.2.2)
  else if g = 1 then (0, x.2.1, x.2.2.1, x.2.2.2)
  else (1, x.2.1, x.2.2.1, wrap64 (x.2.2.2 + 1))
def PsOk (x : Int × Int × Int × Int) : Prop := x.1 = 0 ∨ x.1 = 1 ∨ x.1 = 2 ∨ x.1 = 3
theorem psTook_ok {x : Int × Int × Int × Int} {g : Int} (h : PsOk x) : PsOk (psTook x g) := by
  unfold psTook
  split
  · exact h
  · split
    · exact .inr (.inr (.inl rfl))
    · split
      · exact .inr (.inr (.inr rfl))
      · split
        · exact .inl rfl
        · exact .inr (.inl rfl)
def psV (s t f l p : Int) (x : Int × Int × Int × Int) : Value := .agg #[.int .i64 s, .int .i64 t, .int .i64 f, .int .i64 l, .int .i64 p, .int .i64 x.1, .int .i64 x.2.1, .int .u64 x.2.2.1, .int .i64 x.2.2.2]
theorem pstook_any (s t f l p g : Int) (x : Int × Int × Int × Int) (w : World) (hx : PsOk x) :
    Calls Tryd.prog 48 #[psV s t f l p x, .int .u64 g] w fun e w' => e = .returned (psV s t f l p (psTook x g)) ∧ Below w.heap.size w w' := by
  obtain ⟨k, sl, hd, tr⟩ := x
  unfold PsOk at hx
  simp only at hx
  rcases hx with rfl | rfl | rfl | rfl
  · exact pstook_0 s t f l p sl hd tr g w
  · exact pstook_1 s t f l p sl hd tr g w
  · exact pstook_2 s t f l p sl hd tr g w
  · by_cases h0 : g = 1
    · subst h0
      exact pstook_3y s t f l p sl hd tr w
    · rw [show psTook (3, sl, hd, tr) g = (1, sl, hd, wrap64 (tr + 1)) by simp [psTook, h0]]
      exact pstook_3n s t f l p sl hd tr g w (by simpa using h0)
end Go.Proofs.YtokcbipmocpllaaDoor

/-
  A Pop told what it is told.
-/
namespace Go.Proofs.YtokcbipmocpllaaDoor
open Go.RowKit
attribute [local go_sem] past_cell past_cell_add

end Go.Proofs.YtokcbipmocpllaaDoor

/-
  A Pop: what it becomes of what it is told, in plain Lean.
-/
namespace Go.Proofs.YtokcbipmocpllaaDoor
open Go.RowKit

/-- The step, the slot, the head, the tries, the link. -/
def PpOk (s : Int) (x : Int × Int × Int × Int × Int) : Prop := (x.1 = 0 ∨ x.1 = 1 ∨ x.1 = 2 ∨ x.1 = 3) ∧ W64 x.2.2.1 ∧ (0 ≤ x.2.2.2.2 ∧ x.2.2.2.2 ≤ 1000) ∧ ((x.1 = 2 ∨ x.1 = 3) → 1 ≤ x.2.1 ∧ x.2.1 ≤ s)
def pTook (s : Int) (x : Int × Int × Int × Int × Int) (g : Int) : Int × Int × Int × Int × Int :=
  if x.1 = 0 then x
  else if x.1 = 1 then (if 1 ≤ g % 65536 ∧ g % 65536 ≤ s then (2, g % 65536, g, x.2.2.2.1, x.2.2.2.2) else (0, 0, g, x.2.2.2.1, x.2.2.2.2))
  else if x.1 = 2 then (3, x.2.1, x.2.2.1, x.2.2.2.1, if g ≤ s then g else 0)
  else if g = 1 then (0, x.2.1, x.2.2.1, x.2.2.2.1, x.2.2.2.2)
  else (1, x.2.1, x.2.2.1, wrap64 (x.2.2.2.1 + 1), x.2.2.2.2)
theorem pTook_ok {s g : Int} {x : Int × Int × Int × Int × Int} (h : PpOk s x) (hg : W64 g) (hs : x.1 = 0 ∨ s ≤ 1000) : PpOk s (pTook s x g) := by
  obtain ⟨h1, h2, h3, h4⟩ := h
  unfold pTook
  split
  · exact ⟨h1, h2, h3, h4⟩
  · next h0 =>
    have hs := hs.resolve_left h0
    split
    · split
      · next h => exact ⟨by simp, hg, h3, fun _ => h⟩
      · exact ⟨by simp, hg, h3, by simp⟩
    · split
      · next h => exact ⟨by simp, h2, by dsimp only; split; exact ⟨hg.1, by omega⟩; omega, fun _ => h4 (.inl h)⟩
      · next h1' h2' =>
        split
        · exact ⟨by simp, h2, h3, by simp⟩
        · exact ⟨by simp, h2, h3, by simp⟩
def pAsk (t f : Int) (x : Int × Int × Int × Int × Int) : Int × Int × Int × Int :=
  if x.1 = 1 then (1, 2, 0, 0)
  else if x.1 = 2 then (1, 3 + 3 * t + x.2.1 * (3 + 2 * f) + 2, 0, 0)
  else if x.1 = 3 then (3, 2, x.2.2.1, hturn x.2.2.1 x.2.2.2.2)
  else (0, 0, 0, 0)
end Go.Proofs.YtokcbipmocpllaaDoor

/-
  What a Pop wants; a Pop that begins; the reference's.
-/
namespace Go.Proofs.YtokcbipmocpllaaDoor
open Go.RowKit
attribute [local go_sem] past_cell past_cell_add

end Go.Proofs.YtokcbipmocpllaaDoor

/-
  The reference's Pop; whatever a Pop's step.
-/
namespace Go.Proofs.YtokcbipmocpllaaDoor
open Go.RowKit
attribute [local go_sem] past_cell past_cell_add

set_option maxRecDepth 100000 in
set_option maxHeartbeats 2000000 in
theorem rnode_any (s t f l p sl : Int) (w : World) (hs : 1 ≤ s ∧ s ≤ 1000) (ht : 1 ≤ t ∧ t ≤ 64) (hf : 4 ≤ f ∧ f ≤ 64) (hsl : 0 ≤ sl ∧ sl ≤ s) :
    Calls Tryd.prog 39 #[.agg #[.int .i64 s, .int .i64 t, .int .i64 f, .int .i64 l, .int .i64 p], .int .i64 sl] w fun e w' => e = .returned (.int .i64 (3 + 3 * t + sl * (3 + 2 * f))) ∧ Below w.heap.size w w' := by
  have b1 : 0 ≤ sl * (3 + 2 * f) := Int.mul_nonneg hsl.1 (by omega)
  have b2 : sl * (3 + 2 * f) ≤ 1000 * 131 := Int.mul_le_mul (by omega) (by omega) (by omega) (by omega)
  have e1 : IntKind.i64.wrap (3 * t) = 3 * t := IntWalk.i64_in _ (by omega)
  have e2 : IntKind.i64.wrap (3 + 3 * t) = 3 + 3 * t := IntWalk.i64_in _ (by omega)
  have e3 : IntKind.i64.wrap (2 * f) = 2 * f := IntWalk.i64_in _ (by omega)
  have e4 : IntKind.i64.wrap (3 + 2 * f) = 3 + 2 * f := IntWalk.i64_in _ (by omega)
  have e5 : IntKind.i64.wrap (sl * (3 + 2 * f)) = sl * (3 + 2 * f) := IntWalk.i64_in _ (by omega)
  have e6 : IntKind.i64.wrap (3 + 3 * t + sl * (3 + 2 * f)) = 3 + 3 * t + sl * (3 + 2 * f) := IntWalk.i64_in _ (by omega)
  have bx := Blk.new w 36 #[.int .i64 s, .int .i64 t, .int .i64 f, .int .i64 l, .int .i64 p]
  have B0 := (Below.refl w.heap.size w).alloc (Nat.le_refl _) (.cells #[.int .i64 s, .int .i64 t, .int .i64 f, .int .i64 l, .int .i64 p] 36)
  go_enter Tryd.func39, Tryd.ntmps39
  go_wp2_with fail
  go_ret
  exact ⟨rfl, B0⟩
set_option maxRecDepth 100000 in
set_option maxHeartbeats 2000000 in
theorem rlnk_any (s t f l p sl : Int) (w : World) (hs : 1 ≤ s ∧ s ≤ 1000) (ht : 1 ≤ t ∧ t ≤ 64) (hf : 4 ≤ f ∧ f ≤ 64) (hsl : 0 ≤ sl ∧ sl ≤ s) :
    Calls Tryd.prog 15 #[.agg #[.int .i64 s, .int .i64 t, .int .i64 f, .int .i64 l, .int .i64 p], .int .i64 sl] w fun e w' => e = .returned (.int .i64 (3 + 3 * t + sl * (3 + 2 * f) + 2)) ∧ Below w.heap.size w w' := by
  have C := hide (fun w2 => rnode_any s t f l p sl w2 hs ht hf hsl)
  have b2 : sl * (3 + 2 * f) ≤ 1000 * 131 := Int.mul_le_mul (by omega) (by omega) (by omega) (by omega)
  have b1 : 0 ≤ sl * (3 + 2 * f) := Int.mul_nonneg hsl.1 (by omega)
  have e7 : IntKind.i64.wrap (3 + 3 * t + sl * (3 + 2 * f) + 2) = 3 + 3 * t + sl * (3 + 2 * f) + 2 := IntWalk.i64_in _ (by omega)
  clear b1 b2
  generalize 3 + 3 * t + sl * (3 + 2 * f) = q at *
  have bx := Blk.new w 36 #[.int .i64 s, .int .i64 t, .int .i64 f, .int .i64 l, .int .i64 p]
  have B0 := (Below.refl w.heap.size w).alloc (Nat.le_refl _) (.cells #[.int .i64 s, .int .i64 t, .int .i64 f, .int .i64 l, .int .i64 p] 36)
  go_enter Tryd.func15, Tryd.ntmps15
  go_wp2_with fail
  refine (C.out _).mono ?_
  rintro e w1 ⟨rfl, hb1⟩
  try replace bx := bx.below hb1 bx.lt
  try replace bo := bo.below hb1 bo.lt
  try replace by_ := by_.below hb1 by_.lt
  replace B0 := B0.trans (hb1.mono B0.size)
  clear hb1
  try clear mx lx
  try clear mo lo zo
  try clear my ly zy
  try have mx := fun i => bx.cell i
  try have lx := bx.lt
  try have mo := fun i => bo.cell i
  try have lo := bo.lt
  try have zo := fun i => bo.frozen i
  try have my := fun i => by_.cell i
  try have ly := by_.lt
  try have zy := fun i => by_.frozen i
  go_wp2_with fail
  go_ret
  exact ⟨rfl, B0⟩
def ppV (s t f l p : Int) (x : Int × Int × Int × Int × Int) : Value := .agg #[.int .i64 s, .int .i64 t, .int .i64 f, .int .i64 l, .int .i64 p, .int .i64 x.1, .int .i64 x.2.1, .int .u64 x.2.2.1, .int .i64 x.2.2.2.1, .int .i64 x.2.2.2.2]
def rppV (x : Int × Int × Int × Int × Int) : Value := .agg #[.int .i64 x.1, .int .u64 x.2.2.1, .int .i64 x.2.1, .int .i64 x.2.2.2.2, .int .i64 x.2.2.2.1]
end Go.Proofs.YtokcbipmocpllaaDoor

/-
  What a Push wants; the reference's Push.
-/
namespace Go.Proofs.YtokcbipmocpllaaDoor
open Go.RowKit
attribute [local go_sem] past_cell past_cell_add

set_option maxRecDepth 100000 in
set_option maxHeartbeats 2000000 in
theorem pswant_1 (s t f l p sl hd tr : Int) (w : World) (hs : 1 ≤ s ∧ s ≤ 1000) (ht : 1 ≤ t ∧ t ≤ 64) (hf : 4 ≤ f ∧ f ≤ 64) :
    Calls Tryd.prog 54 #[.agg #[.int .i64 s, .int .i64 t, .int .i64 f, .int .i64 l, .int .i64 p, .int .i64 1, .int .i64 sl, .int .u64 hd, .int .i64 tr]] w fun e w' => e = .returned (.agg #[.int .i64 1, .int .i64 2, .int .u64 0, .int .u64 0]) ∧ Below w.heap.size w w' := by
  have C := hide (fun w2 => headAt_any s t f l p sl hd tr 1 w2 hs ht hf)
  have D := hide (fun w2 => sload_any 2 w2)
  have hmf : ∀ (fn : Fn) (first cap : Array Value) (w : World), (Instr.makeFunc fn first cap).run Tryd.prog w = .ok (.func fn first cap) w := fun _ _ _ _ => rfl
  have bx := Blk.new w 49 #[.int .i64 s, .int .i64 t, .int .i64 f, .int .i64 l, .int .i64 p, .int .i64 1, .int .i64 sl, .int .u64 hd, .int .i64 tr]
  have B0 := (Below.refl w.heap.size w).alloc (Nat.le_refl _) (.cells #[.int .i64 s, .int .i64 t, .int .i64 f, .int .i64 l, .int .i64 p, .int .i64 1, .int .i64 sl, .int .u64 hd, .int .i64 tr] 49)
  have bo := Blk.new (w.alloc (.cells #[.int .i64 s, .int .i64 t, .int .i64 f, .int .i64 l, .int .i64 p, .int .i64 1, .int .i64 sl, .int .u64 hd, .int .i64 tr] 49)) 57 #[.int .i64 0, .int .i64 0, .int .u64 0, .int .u64 0]
  replace B0 := B0.alloc B0.size (.cells #[.int .i64 0, .int .i64 0, .int .u64 0, .int .u64 0] 57)
  replace bx := bx.alloc (.cells #[.int .i64 0, .int .i64 0, .int .u64 0, .int .u64 0] 57)
  rw [World.size_alloc] at bo
  go_enter Tryd.func54, Tryd.ntmps54
  go_wp2_with fail
  refine (C.out _).mono ?_
  rintro e w1 ⟨rfl, hb1⟩
  try replace bx := bx.below hb1 bx.lt
  try replace bo := bo.below hb1 bo.lt
  try replace by_ := by_.below hb1 by_.lt
  replace B0 := B0.trans (hb1.mono B0.size)
  clear hb1
  try clear mx lx
  try clear mo lo zo
  try clear my ly zy
  try have mx := fun i => bx.cell i
  try have lx := bx.lt
  try have mo := fun i => bo.cell i
  try have lo := bo.lt
  try have zo := fun i => bo.frozen i
  try have my := fun i => by_.cell i
  try have ly := by_.lt
  try have zy := fun i => by_.frozen i
  go_wp2_with fail
  refine (D.out _).mono ?_
  rintro e w2 ⟨rfl, hb1⟩
  try replace bx := bx.below hb1 bx.lt
  try replace bo := bo.below hb1 bo.lt
  try replace by_ := by_.below hb1 by_.lt
  replace B0 := B0.trans (hb1.mono B0.size)
  clear hb1
  try clear mx lx
  try clear mo lo zo
  try clear my ly zy
  try have mx := fun i => bx.cell i
  try have lx := bx.lt
  try have mo := fun i => bo.cell i
  try have lo := bo.lt
  try have zo := fun i => bo.frozen i
  try have my := fun i => by_.cell i
  try have ly := by_.lt
  try have zy := fun i => by_.frozen i
  go_wp2_with fail
  have b9 := bo.put4 (.int .i64 1) (.int .i64 2) (.int .u64 0) (.int .u64 0)
  have B9 := below_put4 B0 (g := w.heap.size + 1) (by omega) (.int .i64 1) (.int .i64 2) (.int .u64 0) (.int .u64 0)
  have m9 := fun i => b9.cell i
  refine bodyPost_ret (v := .agg #[.int .i64 1, .int .i64 2, .int .u64 0, .int .u64 0]) (by simp [results, Tryd.results54, go_sem, m9]) rfl ⟨rfl, by first | exact B9 | exact B9.drew⟩
set_option maxRecDepth 100000 in
set_option maxHeartbeats 2000000 in
theorem pswant_3 (s t f l p sl hd tr : Int) (w : World) (hs : 1 ≤ s ∧ s ≤ 1000) (ht : 1 ≤ t ∧ t ≤ 64) (hf : 4 ≤ f ∧ f ≤ 64) (hh : W64 hd) (hsl : 1 ≤ sl ∧ sl ≤ s) :
    Calls Tryd.prog 54 #[.agg #[.int .i64 s, .int .i64 t, .int .i64 f, .int .i64 l, .int .i64 p, .int .i64 3, .int .i64 sl, .int .u64 hd, .int .i64 tr]] w fun e w' => e = .returned (.agg #[.int .i64 3, .int .i64 2, .int .u64 hd, .int .u64 (hturn hd sl)]) ∧ Below w.heap.size w w' := by
  have C := hide (fun w2 => swap_any s t f l p sl hd tr 3 sl w2 hs ht hf hh ⟨by omega, by omega⟩)
  generalize hturn hd sl = y at *
  have hmf : ∀ (fn : Fn) (first cap : Array Value) (w : World), (Instr.makeFunc fn first cap).run Tryd.prog w = .ok (.func fn first cap) w := fun _ _ _ _ => rfl
  have bx := Blk.new w 49 #[.int .i64 s, .int .i64 t, .int .i64 f, .int .i64 l, .int .i64 p, .int .i64 3, .int .i64 sl, .int .u64 hd, .int .i64 tr]
  have B0 := (Below.refl w.heap.size w).alloc (Nat.le_refl _) (.cells #[.int .i64 s, .int .i64 t, .int .i64 f, .int .i64 l, .int .i64 p, .int .i64 3, .int .i64 sl, .int .u64 hd, .int .i64 tr] 49)
  have bo := Blk.new (w.alloc (.cells #[.int .i64 s, .int .i64 t, .int .i64 f, .int .i64 l, .int .i64 p, .int .i64 3, .int .i64 sl, .int .u64 hd, .int .i64 tr] 49)) 57 #[.int .i64 0, .int .i64 0, .int .u64 0, .int .u64 0]
  replace B0 := B0.alloc B0.size (.cells #[.int .i64 0, .int .i64 0, .int .u64 0, .int .u64 0] 57)
  replace bx := bx.alloc (.cells #[.int .i64 0, .int .i64 0, .int .u64 0, .int .u64 0] 57)
  rw [World.size_alloc] at bo
  go_enter Tryd.func54, Tryd.ntmps54
  go_wp2_with fail
  refine (C.out _).mono ?_
  rintro e w1 ⟨rfl, hb1⟩
  try replace bx := bx.below hb1 bx.lt
  try replace bo := bo.below hb1 bo.lt
  try replace by_ := by_.below hb1 by_.lt
  replace B0 := B0.trans (hb1.mono B0.size)
  clear hb1
  try clear mx lx
  try clear mo lo zo
  try clear my ly zy
  try have mx := fun i => bx.cell i
  try have lx := bx.lt
  try have mo := fun i => bo.cell i
  try have lo := bo.lt
  try have zo := fun i => bo.frozen i
  try have my := fun i => by_.cell i
  try have ly := by_.lt
  try have zy := fun i => by_.frozen i
  go_wp2_with fail
  have b9 := bo.put4 (.int .i64 3) (.int .i64 2) (.int .u64 hd) (.int .u64 y)
  have B9 := below_put4 B0 (g := w.heap.size + 1) (by omega) (.int .i64 3) (.int .i64 2) (.int .u64 hd) (.int .u64 y)
  have m9 := fun i => b9.cell i
  refine bodyPost_ret (v := .agg #[.int .i64 3, .int .i64 2, .int .u64 hd, .int .u64 y]) (by simp [results, Tryd.results54, go_sem, m9]) rfl ⟨rfl, by first | exact B9 | exact B9.drew⟩
set_option maxRecDepth 100000 in
set_option maxHeartbeats 2000000 in
theorem pswant_2 (s t f l p sl hd tr : Int) (w : World) (hs : 1 ≤ s ∧ s ≤ 1000) (ht : 1 ≤ t ∧ t ≤ 64) (hf : 4 ≤ f ∧ f ≤ 64) (hh : W64 hd) (hsl : 1 ≤ sl ∧ sl ≤ s) :
    Calls Tryd.prog 54 #[.agg #[.int .i64 s, .int .i64 t, .int .i64 f, .int .i64 l, .int .i64 p, .int .i64 2, .int .i64 sl, .int .u64 hd, .int .i64 tr]] w fun e w' => e = .returned (.agg #[.int .i64 2, .int .i64 (3 + 3 * t + sl * (3 + 2 * f) + 2), .int .u64 0, .int .u64 (hd % 65536)]) ∧ Below w.heap.size w w' := by
  have C := hide (fun w2 => llnk_any s t f l p sl w2 hs ht hf)
  rw [atp8 (by omega)] at C
  have M := hide (fun w2 => htell_slot hd w2 hh)
  have e1 : IntKind.u64.wrap (hd % 65536) = hd % 65536 := IntWalk.u64_in _ (by omega)
  generalize hd % 65536 = y at *
  generalize 3 + 3 * t + sl * (3 + 2 * f) + 2 = q at *
  have hmf : ∀ (fn : Fn) (first cap : Array Value) (w : World), (Instr.makeFunc fn first cap).run Tryd.prog w = .ok (.func fn first cap) w := fun _ _ _ _ => rfl
  have bx := Blk.new w 49 #[.int .i64 s, .int .i64 t, .int .i64 f, .int .i64 l, .int .i64 p, .int .i64 2, .int .i64 sl, .int .u64 hd, .int .i64 tr]
  have B0 := (Below.refl w.heap.size w).alloc (Nat.le_refl _) (.cells #[.int .i64 s, .int .i64 t, .int .i64 f, .int .i64 l, .int .i64 p, .int .i64 2, .int .i64 sl, .int .u64 hd, .int .i64 tr] 49)
  have bo := Blk.new (w.alloc (.cells #[.int .i64 s, .int .i64 t, .int .i64 f, .int .i64 l, .int .i64 p, .int .i64 2, .int .i64 sl, .int .u64 hd, .int .i64 tr] 49)) 57 #[.int .i64 0, .int .i64 0, .int .u64 0, .int .u64 0]
  replace B0 := B0.alloc B0.size (.cells #[.int .i64 0, .int .i64 0, .int .u64 0, .int .u64 0] 57)
  replace bx := bx.alloc (.cells #[.int .i64 0, .int .i64 0, .int .u64 0, .int .u64 0] 57)
  rw [World.size_alloc] at bo
  go_enter Tryd.func54, Tryd.ntmps54
  go_wp2_with fail
  generalize (w.alloc (.cells #[.int .i64 s, .int .i64 t, .int .i64 f, .int .i64 l, .int .i64 p, .int .i64 2, .int .i64 sl, .int .u64 hd, .int .i64 tr] 49)).alloc (.cells #[.int .i64 0, .int .i64 0, .int .u64 0, .int .u64 0] 57) = w0 at *
  have bd := bx.drewN 1
  have od := bo.drewN 1
  have Bd := below_drewN B0 1
  try clear mx lx
  try clear mo lo zo
  try clear my ly zy
  try have mx := fun i => bx.cell i
  try have lx := bx.lt
  try have mo := fun i => bo.cell i
  try have lo := bo.lt
  try have zo := fun i => bo.frozen i
  try have my := fun i => by_.cell i
  try have ly := by_.lt
  try have zy := fun i => by_.frozen i
  go_region_held3 (fun w' => w'.cell? ⟨w.heap.size, 0, none⟩ = some (.int .i64 s) ∧ w'.cell? ⟨w.heap.size, 1, none⟩ = some (.int .i64 t) ∧ w'.cell? ⟨w.heap.size, 2, none⟩ = some (.int .i64 f) ∧ w'.cell? ⟨w.heap.size, 3, none⟩ = some (.int .i64 l) ∧ w'.cell? ⟨w.heap.size, 4, none⟩ = some (.int .i64 p) ∧ w'.cell? ⟨w.heap.size, 5, none⟩ = some (.int .i64 2) ∧ w'.cell? ⟨w.heap.size, 6, none⟩ = some (.int .i64 sl) ∧ w'.cell? ⟨w.heap.size, 7, none⟩ = some (.int .u64 hd) ∧ w'.cell? ⟨w.heap.size, 8, none⟩ = some (.int .i64 tr)) (go_keep) ((first | (go_at_call 82; refine (C.out _).mono ?_; rintro e w1 ⟨rfl, hb1⟩; have bd := bd.below hb1 bd.lt; have od := od.below hb1 od.lt; have Bd := Bd.trans (hb1.mono Bd.size); have md := fun i => bd.cell i; have nd := fun i => od.cell i; have zd := fun i => od.frozen i; have ld := bd.lt; have kd := od.lt) | (go_at_call 83; refine (M.out _).mono ?_; rintro e w1 ⟨rfl, hb1⟩; have bd := bd.below hb1 bd.lt; have od := od.below hb1 od.lt; have Bd := Bd.trans (hb1.mono Bd.size); have md := fun i => bd.cell i; have nd := fun i => od.cell i; have zd := fun i => od.frozen i; have ld := bd.lt; have kd := od.lt)))
  all_goals
    go_wp2_with fail
    have b9 := od.put4 (.int .i64 2) (.int .i64 q) (.int .u64 0) (.int .u64 y)
    have B9 := below_put4 Bd (g := w.heap.size + 1) (by omega) (.int .i64 2) (.int .i64 q) (.int .u64 0) (.int .u64 y)
    have m9 := fun i => b9.cell i
    refine bodyPost_ret (v := .agg #[.int .i64 2, .int .i64 q, .int .u64 0, .int .u64 y]) (by simp [results, Tryd.results54, go_sem, m9]) rfl ⟨rfl, B9⟩
set_option maxRecDepth 100000 in
set_option maxHeartbeats 2000000 in
theorem psdone_1 (s t f l p sl hd tr k : Int) (w : World) (hk : (k == 0) = false) :
    Calls Tryd.prog 49 #[.agg #[.int .i64 s, .int .i64 t, .int .i64 f, .int .i64 l, .int .i64 p, .int .i64 k, .int .i64 sl, .int .u64 hd, .int .i64 tr]] w fun e w' => e = .returned (.bool false) ∧ Below w.heap.size w w' := by
  have bx := Blk.new w 49 #[.int .i64 s, .int .i64 t, .int .i64 f, .int .i64 l, .int .i64 p, .int .i64 k, .int .i64 sl, .int .u64 hd, .int .i64 tr]
  have B0 := (Below.refl w.heap.size w).alloc (Nat.le_refl _) (.cells #[.int .i64 s, .int .i64 t, .int .i64 f, .int .i64 l, .int .i64 p, .int .i64 k, .int .i64 sl, .int .u64 hd, .int .i64 tr] 49)
  go_enter Tryd.func49, Tryd.ntmps49
  go_wp2_with fail
  go_ret
  exact ⟨rfl, B0⟩
def rsV (x : Int × Int × Int × Int) : Value := .agg #[.int .i64 x.1, .int .u64 x.2.2.1, .int .i64 x.2.1, .int .i64 x.2.2.2]
def psAsk (t f : Int) (x : Int × Int × Int × Int) : Int × Int × Int × Int :=
  if x.1 = 1 then (1, 2, 0, 0)
  else if x.1 = 2 then (2, 3 + 3 * t + x.2.1 * (3 + 2 * f) + 2, 0, x.2.2.1 % 65536)
  else if x.1 = 3 then (3, 2, x.2.2.1, hturn x.2.2.1 x.2.1)
  else (0, 0, 0, 0)
/-- Where it has not come, its slot is one of the layout's. -/
def PsIn (s : Int) (x : Int × Int × Int × Int) : Prop := PsOk x ∧ W64 x.2.2.1 ∧ (x.1 = 0 ∨ (1 ≤ x.2.1 ∧ x.2.1 ≤ s))
theorem psTook_in {s g : Int} {x : Int × Int × Int × Int} (h : PsIn s x) (hg : W64 g) : PsIn s (psTook x g) := by
  obtain ⟨h1, h2, h3⟩ := h
  refine ⟨psTook_ok h1, ?_, ?_⟩
  · unfold psTook
    split
    · exact h2
    · split
      · exact hg
      · split
        · exact h2
        · split <;> exact h2
  · unfold psTook
    split
    · exact h3
    · next h0 =>
      have h3 := h3.resolve_left h0
      split
      · exact .inr h3
      · split
        · exact .inr h3
        · split <;> exact .inr h3
theorem pswant_any (s t f l p : Int) (x : Int × Int × Int × Int) (w : World) (hx : PsIn s x) (h : x.1 = 0 ∨ ((1 ≤ s ∧ s ≤ 1000) ∧ (1 ≤ t ∧ t ≤ 64) ∧ (4 ≤ f ∧ f ≤ 64))) :
    Calls Tryd.prog 54 #[psV s t f l p x] w fun e w' => e = .returned (.agg #[.int .i64 (psAsk t f x).1, .int .i64 (psAsk t f x).2.1, .int .u64 (psAsk t f x).2.2.1, .int .u64 (psAsk t f x).2.2.2]) ∧ Below w.heap.size w w' := by
  obtain ⟨k, sl, hd, tr⟩ := x
  obtain ⟨hk, h1, h2⟩ := hx
  unfold PsOk at hk
  simp only at hk h1 h2 h
  rcases hk with rfl | rfl | rfl | rfl
  · exact pswant_0 s t f l p sl hd tr w
  all_goals
    obtain ⟨hs, ht, hf⟩ := h.resolve_left (by decide)
    have h2 := h2.resolve_left (by decide)
  · exact pswant_1 s t f l p sl hd tr w hs ht hf
  · exact pswant_2 s t f l p sl hd tr w hs ht hf h1 h2
  · exact pswant_3 s t f l p sl hd tr w hs ht hf h1 h2
end Go.Proofs.YtokcbipmocpllaaDoor

