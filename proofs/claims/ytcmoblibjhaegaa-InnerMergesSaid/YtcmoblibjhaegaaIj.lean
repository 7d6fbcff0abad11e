/-
  The document's inner nodes: Join.
-/
import Derived.Test.YtcmoblibjhaegaaIu
namespace Go.Proofs.Ytcmoblibjhaegaa
open Go.RowKit

/-- The walk stands still here. -/
structure Stopped (p : Prop) : Prop where
  out : p
theorem cell_set {w : World} {g : Nat} {t : TypeId} {a b c d : Value} (h : Blk w g t #[a, b, c, d]) : ∀ i, w.cell? ⟨g, i, none⟩ = #[a, b, c, d][i]? := fun i => h.cell i
set_option maxRecDepth 100000 in
set_option maxHeartbeats 4000000 in
theorem rjoinI_any (v v' : Value) (b b' : Bool) (ks vs ks' vs' : List Int) (l l' key link : Int) (w : World) (hl1 : ks.length ≤ 1000) (hl2 : vs.length ≤ 1000) (hl3 : ks'.length ≤ 1000) (hl4 : vs'.length ≤ 1000) (hv1 : 1 ≤ vs.length) (hv2 : 1 ≤ vs'.length) (h : Nd w w.heap.size v b ks vs l) (h' : Nd w w.heap.size v' b' ks' vs' l') :
    Calls Try.prog 26 #[v, .int .u64 key, v', .int .u64 link] w fun e w' => (∃ u, e = .returned u ∧ NdO w' w.heap.size u true (ks ++ key :: ks') (vs ++ vs') link) ∧ Below w.heap.size w w' := by
  obtain ⟨i0, hi0, hz0, hs0, hb0⟩ := info_parts infoU
  obtain ⟨k0, u0, rfl, hk0, hu0⟩ := h
  obtain ⟨k0', u0', rfl, hk0', hu0'⟩ := h'
  obtain ⟨A, c, rfl, _, _, r1⟩ := hk0
  obtain ⟨A', c', rfl, _, _, r2⟩ := hu0
  obtain ⟨E, f, rfl, _, _, r3⟩ := hk0'
  obtain ⟨E', f', rfl, _, _, r4⟩ := hu0'
  have Rks := hide r1
  have Rvs := hide r2
  have Rksp := hide r3
  have Rvsp := hide r4
  obtain ⟨x1, hx1⟩ : ∃ x, x = ks ++ [key] := ⟨_, rfl⟩
  obtain ⟨x2, hx2⟩ : ∃ x, x = x1 ++ ks' := ⟨_, rfl⟩
  obtain ⟨y1, hy1⟩ : ∃ y, y = vs ++ vs' := ⟨_, rfl⟩
  obtain ⟨x0, hx0⟩ : ∃ x, x = [] ++ ks := ⟨_, rfl⟩
  obtain ⟨y0, hy0⟩ : ∃ y, y = [] ++ vs := ⟨_, rfl⟩
  have HX0 := hide hx0
  have HY0 := hide hy0
  have HX1 := hide (show x1 = x0 ++ [key] by rw [hx1, hx0]; rfl)
  have HX2 := hide hx2
  have HY1 := hide (show y1 = y0 ++ vs' by rw [hy1, hy0]; rfl)
  have HXX := hide (show x2 = ks ++ key :: ks' by rw [hx2, hx1]; simp)
  have HYY := hide hy1
  have HLEN := hide (show ks.length ≤ 1000 ∧ vs.length ≤ 1000 ∧ ks'.length ≤ 1000 ∧ vs'.length ≤ 1000 ∧ x0.length = ks.length ∧ y0.length = vs.length ∧ x1.length = ks.length + 1 by rw [hx0, hy0, hx1]; simp; omega)
  have q1 : (0 : Int) < (vs.length : Int) := by omega
  have q2 : (0 : Int) < (vs'.length : Int) := by omega
  clear r1 r2 r3 r4 hx0 hx1 hx2 hy0 hy1 hl1 hl2 hl3 hl4 hv1 hv2
  have bx := (((Blk.new w 27 #[.bool b, .slice A ks.length c, .slice A' vs.length c', .int .u64 l]).alloc (.cells #[.bool b', .slice E ks'.length f, .slice E' vs'.length f', .int .u64 l'] 27)).alloc (.cells #[.bool false, .slice none 0 0, .slice none 0 0, .int .u64 0] 27)).alloc (.cells #[.bool true, .slice none 0 0, .slice none 0 0, .int .u64 link] 27)
  have by_ := ((Blk.new (w.alloc (.cells #[.bool b, .slice A ks.length c, .slice A' vs.length c', .int .u64 l] 27)) 27 #[.bool b', .slice E ks'.length f, .slice E' vs'.length f', .int .u64 l']).alloc (.cells #[.bool false, .slice none 0 0, .slice none 0 0, .int .u64 0] 27)).alloc (.cells #[.bool true, .slice none 0 0, .slice none 0 0, .int .u64 link] 27)
  have br := (Blk.new ((w.alloc (.cells #[.bool b, .slice A ks.length c, .slice A' vs.length c', .int .u64 l] 27)).alloc (.cells #[.bool b', .slice E ks'.length f, .slice E' vs'.length f', .int .u64 l'] 27)) 27 #[.bool false, .slice none 0 0, .slice none 0 0, .int .u64 0]).alloc (.cells #[.bool true, .slice none 0 0, .slice none 0 0, .int .u64 link] 27)
  have bo := Blk.new (((w.alloc (.cells #[.bool b, .slice A ks.length c, .slice A' vs.length c', .int .u64 l] 27)).alloc (.cells #[.bool b', .slice E ks'.length f, .slice E' vs'.length f', .int .u64 l'] 27)).alloc (.cells #[.bool false, .slice none 0 0, .slice none 0 0, .int .u64 0] 27)) 27 #[.bool true, .slice none 0 0, .slice none 0 0, .int .u64 link]
  have hb := ((((Below.refl w.heap.size w).alloc (Nat.le_refl _) (.cells #[.bool b, .slice A ks.length c, .slice A' vs.length c', .int .u64 l] 27)).alloc (by simp only [World.size_alloc]; omega) (.cells #[.bool b', .slice E ks'.length f, .slice E' vs'.length f', .int .u64 l'] 27)).alloc (by simp only [World.size_alloc]; omega) (.cells #[.bool false, .slice none 0 0, .slice none 0 0, .int .u64 0] 27)).alloc (by simp only [World.size_alloc]; omega) (.cells #[.bool true, .slice none 0 0, .slice none 0 0, .int .u64 link] 27)
  simp only [World.size_alloc] at by_ br bo
  have mo := fun i => bo.cell i
  have mx := fun i => bx.cell i
  have my := fun i => by_.cell i
  go_enter Try.func26, Try.ntmps26
  go_wp2_with (at_builtin; refine Stopped.out ?_)
  clear mo mx my
  generalize (((w.alloc (.cells #[.bool b, .slice A ks.length c, .slice A' vs.length c', .int .u64 l] 27)).alloc (.cells #[.bool b', .slice E ks'.length f, .slice E' vs'.length f', .int .u64 l'] 27)).alloc (.cells #[.bool false, .slice none 0 0, .slice none 0 0, .int .u64 0] 27)).alloc (.cells #[.bool true, .slice none 0 0, .slice none 0 0, .int .u64 link] 27) = w0x at *
  have HX := hide (show w.heap.size ≠ w.heap.size + 1 + 1 + 1 by omega)
  have HY := hide (show w.heap.size + 1 ≠ w.heap.size + 1 + 1 + 1 by omega)
  have HR := hide (show w.heap.size + 1 + 1 ≠ w.heap.size + 1 + 1 + 1 by omega)
  have HG := hide (show w.heap.size ≤ w.heap.size + 1 + 1 + 1 by omega)
  have HGR := hide (show w.heap.size ≤ w.heap.size + 1 + 1 by omega)
  have h1 : w0x.ownsRow w.heap.size 22 1 (.slice none 0 0) ([] : List Int).length (ints .u64 []) := World.ownsRow_nil _ _ _ _
  have h2 : w0x.ownsRow w.heap.size 22 1 (.slice none 0 0) ([] : List Int).length (ints .u64 []) := World.ownsRow_nil _ _ _ _
  have ha : Apart (.slice none 0 0) (.slice none 0 0) := Apart.nil _
  refine ⟨?_⟩
  refine wpList_append_any _ rfl (.tmp 13) (.tmp 15) _ rfl w.heap.size 22 i0 _ 1 8 Try.underlying25 hi0 hz0 hs0 hb0 rfl (by decide) _ ([] : List Int).length _ rfl h2 w.heap.size A' vs.length c' (ints .u64 vs) rfl (Rvs.out.below hb) (ints_one _) (by unfold maxLen; have := HLEN.out; (try simp only [List.length_nil]); omega) (by have := HLEN.out; (try simp only [List.length_nil]); omega) hb.size ?_
  intro v9 w9 hown hg hat
  replace bx := bx.grown hg (own_blk_ne h2 bx (by decide)).symm
  replace by_ := by_.grown hg (own_blk_ne h2 by_ (by decide)).symm
  replace br := br.grown hg (own_blk_ne h2 br (by decide)).symm
  replace bo := bo.grown hg (own_blk_ne h2 bo (by decide)).symm
  replace hb := below_appended hb h2 hg (Nat.le_refl _) hb.size
  obtain ⟨ho', ha'⟩ := push_row (v' := v9) h1 ha hg hat
  have o9 : Own w9 w.heap.size v9 y0 := Own.of (by rw [HY0.out, ints_append]; exact hown)
  clear h2 h1 ha hown hg hat
  obtain ⟨B1, k1, rfl⟩ := o9.val
  have zo := fun i => bo.frozen i
  have mo := fun i => bo.cell i
  replace o9 := own_set_blk o9 bo (by decide) 2 (.slice B1 y0.length k1)
  replace ho' := own_set_blk ho' bo (by decide) 2 (.slice B1 y0.length k1)
  replace bx := bx.far (p := ⟨w.heap.size + 1 + 1 + 1, 2, none⟩) HX.out (.slice B1 y0.length k1)
  replace by_ := by_.far (p := ⟨w.heap.size + 1 + 1 + 1, 2, none⟩) HY.out (.slice B1 y0.length k1)
  replace br := br.far (p := ⟨w.heap.size + 1 + 1 + 1, 2, none⟩) HR.out (.slice B1 y0.length k1)
  replace hb := hb.setCell (p := ⟨w.heap.size + 1 + 1 + 1, 2, none⟩) HG.out (.slice B1 y0.length k1)
  replace bo := bo.setV (.slice B1 y0.length k1)
  have mo2 := fun i => bo.cell i
  have mx := fun i => bx.cell i
  have my := fun i => by_.cell i
  go_wp2_with (at_builtin; refine Stopped.out ?_)
  clear zo mo mo2 mx my
  generalize w9.setCell ⟨w.heap.size + 1 + 1 + 1, 2, none⟩ (.slice B1 y0.length k1) = w1x at *
  have h2 := o9
  have h1 := ho'
  have ha := ha'
  clear o9 ho' ha'
  refine ⟨?_⟩
  refine wpList_append_any _ rfl (.tmp 19) (.tmp 21) _ rfl w.heap.size 22 i0 _ 1 8 Try.underlying25 hi0 hz0 hs0 hb0 rfl (by decide) _ y0.length _ rfl h2 w.heap.size E' vs'.length f' (ints .u64 vs') rfl (Rvsp.out.below hb) (ints_one _) (by unfold maxLen; have := HLEN.out; (try simp only [List.length_nil]); omega) (by have := HLEN.out; (try simp only [List.length_nil]); omega) hb.size ?_
  intro v9 w9 hown hg hat
  replace bx := bx.grown hg (own_blk_ne h2 bx (by decide)).symm
  replace by_ := by_.grown hg (own_blk_ne h2 by_ (by decide)).symm
  replace br := br.grown hg (own_blk_ne h2 br (by decide)).symm
  replace bo := bo.grown hg (own_blk_ne h2 bo (by decide)).symm
  replace hb := below_appended hb h2 hg (Nat.le_refl _) hb.size
  obtain ⟨ho', ha'⟩ := push_row (v' := v9) h1 ha hg hat
  have o9 : Own w9 w.heap.size v9 y1 := Own.of (by rw [HY1.out, ints_append]; exact hown)
  clear h2 h1 ha hown hg hat
  obtain ⟨B2, k2, rfl⟩ := o9.val
  have zo := fun i => bo.frozen i
  have mo := fun i => bo.cell i
  replace o9 := own_set_blk o9 bo (by decide) 2 (.slice B2 y1.length k2)
  replace ho' := own_set_blk ho' bo (by decide) 2 (.slice B2 y1.length k2)
  replace bx := bx.far (p := ⟨w.heap.size + 1 + 1 + 1, 2, none⟩) HX.out (.slice B2 y1.length k2)
  replace by_ := by_.far (p := ⟨w.heap.size + 1 + 1 + 1, 2, none⟩) HY.out (.slice B2 y1.length k2)
  replace br := br.far (p := ⟨w.heap.size + 1 + 1 + 1, 2, none⟩) HR.out (.slice B2 y1.length k2)
  replace hb := hb.setCell (p := ⟨w.heap.size + 1 + 1 + 1, 2, none⟩) HG.out (.slice B2 y1.length k2)
  replace bo := bo.setV (.slice B2 y1.length k2)
  have mo2 := fun i => bo.cell i
  have mx := fun i => bx.cell i
  have my := fun i => by_.cell i
  go_wp2_with (at_builtin; refine Stopped.out ?_)
  clear zo mo mo2 mx my
  generalize w9.setCell ⟨w.heap.size + 1 + 1 + 1, 2, none⟩ (.slice B2 y1.length k2) = w2x at *
  have h2 := o9
  have h1 := ho'
  have ha := ha'.symm
  clear o9 ho' ha'
  refine ⟨?_⟩
  refine wpList_append_any _ rfl (.tmp 25) (.tmp 27) _ rfl w.heap.size 22 i0 _ 1 8 Try.underlying25 hi0 hz0 hs0 hb0 rfl (by decide) _ ([] : List Int).length _ rfl h1 w.heap.size A ks.length c (ints .u64 ks) rfl (Rks.out.below hb) (ints_one _) (by unfold maxLen; have := HLEN.out; (try simp only [List.length_nil]); omega) (by have := HLEN.out; (try simp only [List.length_nil]); omega) hb.size ?_
  intro v9 w9 hown hg hat
  replace bx := bx.grown hg (own_blk_ne h1 bx (by decide)).symm
  replace by_ := by_.grown hg (own_blk_ne h1 by_ (by decide)).symm
  replace br := br.grown hg (own_blk_ne h1 br (by decide)).symm
  replace bo := bo.grown hg (own_blk_ne h1 bo (by decide)).symm
  replace hb := below_appended hb h1 hg (Nat.le_refl _) hb.size
  obtain ⟨ho', ha'⟩ := push_row (v' := v9) h2 ha hg hat
  have o9 : Own w9 w.heap.size v9 x0 := Own.of (by rw [HX0.out, ints_append]; exact hown)
  clear h1 h2 ha hown hg hat
  obtain ⟨B3, k3, rfl⟩ := o9.val
  have zo := fun i => bo.frozen i
  have mo := fun i => bo.cell i
  replace o9 := own_set_blk o9 bo (by decide) 1 (.slice B3 x0.length k3)
  replace ho' := own_set_blk ho' bo (by decide) 1 (.slice B3 x0.length k3)
  replace bx := bx.far (p := ⟨w.heap.size + 1 + 1 + 1, 1, none⟩) HX.out (.slice B3 x0.length k3)
  replace by_ := by_.far (p := ⟨w.heap.size + 1 + 1 + 1, 1, none⟩) HY.out (.slice B3 x0.length k3)
  replace br := br.far (p := ⟨w.heap.size + 1 + 1 + 1, 1, none⟩) HR.out (.slice B3 x0.length k3)
  replace hb := hb.setCell (p := ⟨w.heap.size + 1 + 1 + 1, 1, none⟩) HG.out (.slice B3 x0.length k3)
  replace bo := bo.setK (.slice B3 x0.length k3)
  have mo2 := fun i => bo.cell i
  have mx := fun i => bx.cell i
  have my := fun i => by_.cell i
  go_wp2_with (at_builtin; refine Stopped.out ?_)
  have hsz9 := (size_set w9 ⟨w.heap.size + 1 + 1 + 1, 1, none⟩ (.slice B3 x0.length k3)).symm
  clear zo mo mo2 mx my
  generalize w9.setCell ⟨w.heap.size + 1 + 1 + 1, 1, none⟩ (.slice B3 x0.length k3) = w3x at *
  have h1 := o9
  have h2 := ho'
  have ha := ha'
  clear o9 ho' ha'
  rw [hsz9]
  clear hsz9
  replace bx := bx.alloc (.cells #[.int .u64 key] 22)
  replace by_ := by_.alloc (.cells #[.int .u64 key] 22)
  replace br := br.alloc (.cells #[.int .u64 key] 22)
  replace bo := bo.alloc (.cells #[.int .u64 key] 22)
  replace h1 := h1.alloc (.cells #[.int .u64 key] 22)
  replace h2 := h2.alloc (.cells #[.int .u64 key] 22)
  replace hb := hb.alloc hb.size (.cells #[.int .u64 key] 22)
  have bk := Blk.new w3x 22 #[.int .u64 key]
  generalize w3x.alloc (.cells #[.int .u64 key] 22) = w4x at *
  generalize w3x.heap.size = gk at *
  refine ⟨?_⟩
  refine wpList_append_any _ rfl (.tmp 41) (.tmp 43) _ rfl w.heap.size 22 i0 _ 1 8 Try.underlying25 hi0 hz0 hs0 hb0 rfl (by decide) _ x0.length _ rfl h1 (gk + 1) (some ⟨gk, 0, none⟩) 1 1 (ints .u64 [key]) rfl (Reads.blk bk 1 1 rfl) (ints_one _) (by unfold maxLen; have := HLEN.out; omega) (by have := HLEN.out; omega) hb.size ?_
  intro v9 w9 hown hg hat
  clear bk
  replace bx := bx.grown hg (own_blk_ne h1 bx (by decide)).symm
  replace by_ := by_.grown hg (own_blk_ne h1 by_ (by decide)).symm
  replace br := br.grown hg (own_blk_ne h1 br (by decide)).symm
  replace bo := bo.grown hg (own_blk_ne h1 bo (by decide)).symm
  replace hb := below_appended hb h1 hg (Nat.le_refl _) hb.size
  obtain ⟨ho', ha'⟩ := push_row (v' := v9) h2 ha hg hat
  have o9 : Own w9 w.heap.size v9 x1 := Own.of (by rw [HX1.out, ints_append]; exact hown)
  clear h1 h2 ha hown hg hat
  obtain ⟨B4, k4, rfl⟩ := o9.val
  have zo := fun i => bo.frozen i
  have mo := fun i => bo.cell i
  replace o9 := own_set_blk o9 bo (by decide) 1 (.slice B4 x1.length k4)
  replace ho' := own_set_blk ho' bo (by decide) 1 (.slice B4 x1.length k4)
  replace bx := bx.far (p := ⟨w.heap.size + 1 + 1 + 1, 1, none⟩) HX.out (.slice B4 x1.length k4)
  replace by_ := by_.far (p := ⟨w.heap.size + 1 + 1 + 1, 1, none⟩) HY.out (.slice B4 x1.length k4)
  replace br := br.far (p := ⟨w.heap.size + 1 + 1 + 1, 1, none⟩) HR.out (.slice B4 x1.length k4)
  replace hb := hb.setCell (p := ⟨w.heap.size + 1 + 1 + 1, 1, none⟩) HG.out (.slice B4 x1.length k4)
  replace bo := bo.setK (.slice B4 x1.length k4)
  have mo2 := fun i => bo.cell i
  have mx := fun i => bx.cell i
  have my := fun i => by_.cell i
  go_wp2_with (at_builtin; refine Stopped.out ?_)
  clear zo mo mo2 mx my
  generalize w9.setCell ⟨w.heap.size + 1 + 1 + 1, 1, none⟩ (.slice B4 x1.length k4) = w5x at *
  have h1 := o9
  have h2 := ho'
  have ha := ha'
  clear o9 ho' ha'
  refine ⟨?_⟩
  refine wpList_append_any _ rfl (.tmp 47) (.tmp 49) _ rfl w.heap.size 22 i0 _ 1 8 Try.underlying25 hi0 hz0 hs0 hb0 rfl (by decide) _ x1.length _ rfl h1 w.heap.size E ks'.length f (ints .u64 ks') rfl (Rksp.out.below hb) (ints_one _) (by unfold maxLen; have := HLEN.out; (try simp only [List.length_nil]); omega) (by have := HLEN.out; (try simp only [List.length_nil]); omega) hb.size ?_
  intro v9 w9 hown hg hat
  replace bx := bx.grown hg (own_blk_ne h1 bx (by decide)).symm
  replace by_ := by_.grown hg (own_blk_ne h1 by_ (by decide)).symm
  replace br := br.grown hg (own_blk_ne h1 br (by decide)).symm
  replace bo := bo.grown hg (own_blk_ne h1 bo (by decide)).symm
  replace hb := below_appended hb h1 hg (Nat.le_refl _) hb.size
  obtain ⟨ho', ha'⟩ := push_row (v' := v9) h2 ha hg hat
  have o9 : Own w9 w.heap.size v9 x2 := Own.of (by rw [HX2.out, ints_append]; exact hown)
  clear h1 h2 ha hown hg hat
  obtain ⟨B5, k5, rfl⟩ := o9.val
  have zo := fun i => bo.frozen i
  have mo := fun i => bo.cell i
  replace o9 := own_set_blk o9 bo (by decide) 1 (.slice B5 x2.length k5)
  replace ho' := own_set_blk ho' bo (by decide) 1 (.slice B5 x2.length k5)
  replace bx := bx.far (p := ⟨w.heap.size + 1 + 1 + 1, 1, none⟩) HX.out (.slice B5 x2.length k5)
  replace by_ := by_.far (p := ⟨w.heap.size + 1 + 1 + 1, 1, none⟩) HY.out (.slice B5 x2.length k5)
  replace br := br.far (p := ⟨w.heap.size + 1 + 1 + 1, 1, none⟩) HR.out (.slice B5 x2.length k5)
  replace hb := hb.setCell (p := ⟨w.heap.size + 1 + 1 + 1, 1, none⟩) HG.out (.slice B5 x2.length k5)
  replace bo := bo.setK (.slice B5 x2.length k5)
  have mo2 := fun i => bo.cell i
  have mx := fun i => bx.cell i
  have my := fun i => by_.cell i
  have zr := fun i => br.frozen i
  have mr := fun i => br.cell i
  go_wp2_with fail
  clear zo mo mo2 mx my
  generalize w9.setCell ⟨w.heap.size + 1 + 1 + 1, 1, none⟩ (.slice B5 x2.length k5) = w6x at *
  have h1 := o9
  have h2 := ho'
  have ha := ha'
  clear o9 ho' ha'
  have N0 : NdO w6x w.heap.size (.agg #[.bool true, .slice B5 x2.length k5, .slice B2 y1.length k2, .int .u64 link]) true x2 y1 link := ⟨_, _, rfl, h1, h2⟩
  have N9 := N0.setN br (.bool true) (.slice B5 x2.length k5) (.slice B2 y1.length k2) (.int .u64 link)
  have b9 := br.setN (.bool true) (.slice B5 x2.length k5) (.slice B2 y1.length k2) (.int .u64 link)
  have B9 := below_setN hb (g := w.heap.size + 1 + 1) HGR.out (.bool true) (.slice B5 x2.length k5) (.slice B2 y1.length k2) (.int .u64 link)
  have m9 := fun i => b9.cell i
  refine bodyPost_ret (v := .agg #[.bool true, .slice B5 x2.length k5, .slice B2 y1.length k2, .int .u64 link]) (by simp [results, Try.results26, go_sem, m9]) rfl ⟨⟨_, rfl, ?_⟩, B9⟩
  rw [← HXX.out, ← HYY.out]
  exact N9
end Go.Proofs.Ytcmoblibjhaegaa
