/-
  Package leaf: cut, joined, fit.
-/
import Derived.Test.YtogpdgogcjljfaaLeafB
import Derived.Deep.RegionHeld3
namespace Go.Proofs.Ytogpdgogcjljfaa
open Go.RowKit

/-- A node's value whose lists lie in blocks from lo on. -/
def NdO (w : World) (lo : Nat) (v : Value) (b : Bool) (ks vs : List Int) (l : Int) : Prop := ∃ k u, v = .agg #[.bool b, k, u, .int .u64 l] ∧ Own w lo k ks ∧ Own w lo u vs
theorem NdO.below {w w' : World} {lo : Nat} {v : Value} {b : Bool} {ks vs : List Int} {l : Int} (h : NdO w lo v b ks vs l) (hb : Below w.heap.size w w') : NdO w' lo v b ks vs l := by
  obtain ⟨k, u, h1, h2, h3⟩ := h
  exact ⟨k, u, h1, h2.below hb, h3.below hb⟩
theorem NdO.mono {w : World} {lo lo' : Nat} {v : Value} {b : Bool} {ks vs : List Int} {l : Int} (h : NdO w lo v b ks vs l) (hl : lo' ≤ lo) : NdO w lo' v b ks vs l := by
  obtain ⟨k, u, h1, h2, h3⟩ := h
  exact ⟨k, u, h1, h2.mono hl, h3.mono hl⟩
theorem NdO.nd {w : World} {lo : Nat} {v : Value} {b : Bool} {ks vs : List Int} {l : Int} (h : NdO w lo v b ks vs l) : Nd w w.heap.size v b ks vs l := by
  obtain ⟨k, u, h1, h2, h3⟩ := h
  exact ⟨k, u, h1, h2.sl, h3.sl⟩
theorem NdO.far {w : World} {lo : Nat} {v : Value} {b : Bool} {ks vs : List Int} {l : Int} (h : NdO w lo v b ks vs l) {p : Addr} (hp : p.block < lo) (q : Value) : NdO (w.setCell p q) lo v b ks vs l := by
  obtain ⟨k, u, h1, h2, h3⟩ := h
  exact ⟨k, u, h1, h2.far hp q, h3.far hp q⟩
theorem NdO.val {w : World} {lo : Nat} {v : Value} {b : Bool} {ks vs : List Int} {l : Int} (h : NdO w lo v b ks vs l) : ∃ A c A' c', v = .agg #[.bool b, .slice A ks.length c, .slice A' vs.length c', .int .u64 l] := by
  obtain ⟨k, u, h1, h2, h3⟩ := h
  obtain ⟨A, c, rfl⟩ := h2.val
  obtain ⟨A', c', rfl⟩ := h3.val
  exact ⟨A, c, A', c', h1⟩

theorem Blk.far4 {w : World} {g : Nat} {t : TypeId} {cs : Array Value} (h : Blk w g t cs) {g' : Nat} (hg : g ≠ g') (a b c d : Value) : Blk ((((w.setCell ⟨g', 0, none⟩ a).setCell ⟨g', 1, none⟩ b).setCell ⟨g', 2, none⟩ c).setCell ⟨g', 3, none⟩ d) g t cs :=
  (((h.far (p := ⟨g', 0, none⟩) hg a).far (p := ⟨g', 1, none⟩) hg b).far (p := ⟨g', 2, none⟩) hg c).far (p := ⟨g', 3, none⟩) hg d

set_option maxHeartbeats 2000000 in
theorem cut_any (v : Value) (b : Bool) (ks vs : List Int) (l link : Int) (x y : Nat) (w : World) (hxy : x ≤ y) (hk : y ≤ ks.length) (hv : y ≤ vs.length) (hl : ks.length ≤ 1000) (hl' : vs.length ≤ 1000) (h : Nd w w.heap.size v b ks vs l) :
    Calls Try.prog 27 #[v, .int .i64 x, .int .i64 y, .int .u64 link] w fun e w' => (∃ u, e = .returned u ∧ NdO w' w.heap.size u false (cutL ks x y) (cutL vs x y) link) ∧ Below w.heap.size w w' := by
  obtain ⟨k, u, rfl, hk1, hu1⟩ := h
  have P1 := hide (fun w2 (hB : Below w.heap.size w w2) => part_any k ks x y w2 hxy hk (by omega) ((hk1.below hB).more hB.size))
  have P2 := hide (fun w2 (hB : Below w.heap.size w w2) => part_any u vs x y w2 hxy hv (by omega) ((hu1.below hB).more hB.size))
  generalize cutL ks x y = y1 at *
  generalize cutL vs x y = y2 at *
  obtain ⟨A, c, rfl, _⟩ := hk1
  obtain ⟨A', c', rfl, _⟩ := hu1
  have bx := (Blk.new w 27 #[.bool b, .slice A ks.length c, .slice A' vs.length c', .int .u64 l]).alloc (.cells #[.bool false, .slice none 0 0, .slice none 0 0, .int .u64 0] 27)
  have bo := Blk.new (w.alloc (.cells #[.bool b, .slice A ks.length c, .slice A' vs.length c', .int .u64 l] 27)) 27 #[.bool false, .slice none 0 0, .slice none 0 0, .int .u64 0]
  have B0 := ((Below.refl w.heap.size w).alloc (Nat.le_refl _) (.cells #[.bool b, .slice A ks.length c, .slice A' vs.length c', .int .u64 l] 27)).alloc (by simp only [World.size_alloc]; omega) (.cells #[.bool false, .slice none 0 0, .slice none 0 0, .int .u64 0] 27)
  go_enter Try.func27, Try.ntmps27
  go_wp2_with fail
  simp only [World.size_alloc] at bo
  generalize (w.alloc (.cells #[.bool b, .slice A ks.length c, .slice A' vs.length c', .int .u64 l] 27)).alloc (.cells #[.bool false, .slice none 0 0, .slice none 0 0, .int .u64 0] 27) = w0 at *
  replace bx := bx.drew
  replace bo := bo.drew
  have hb := B0.drew
  clear B0
  have mbo := fun i => bo.cell i
  have zbo := fun i => bo.frozen i
  have q1 : ∀ w2, Blk w2 w.heap.size 27 #[.bool b, .slice A ks.length c, .slice A' vs.length c', .int .u64 l] → w2.cell? ⟨w.heap.size, 1, none⟩ = some (.slice A ks.length c) := fun _ h => h.cell 1
  have q2 : ∀ w2, Blk w2 w.heap.size 27 #[.bool b, .slice A ks.length c, .slice A' vs.length c', .int .u64 l] → w2.cell? ⟨w.heap.size, 2, none⟩ = some (.slice A' vs.length c') := fun _ h => h.cell 2
  replace q1 := hide q1
  replace q2 := hide q2
  go_region_held3 (fun w' => w'.cell? ⟨w.heap.size, 1, none⟩ = some (.slice A ks.length c) ∧ w'.cell? ⟨w.heap.size, 2, none⟩ = some (.slice A' vs.length c')) (first | with_reducible exact ⟨q1.out _ bx, q2.out _ bx⟩ | with_reducible exact ⟨q1.out _ (bx.far4 (Nat.ne_of_lt (Nat.lt_succ_self _)) _ _ _ _), q2.out _ (bx.far4 (Nat.ne_of_lt (Nat.lt_succ_self _)) _ _ _ _)⟩) ((first | ((with_reducible refine (P1.out _ hb).mono ?_); rintro e w1 ⟨⟨u1, rfl, r1⟩, hb1⟩; replace r1 := r1.mono bo.lt; (first | replace bx := bx.below hb1 bx.lt | replace bx := bx.drew.below hb1 bx.drew.lt); (first | replace bo := bo.below hb1 bo.lt | replace bo := bo.drew.below hb1 bo.drew.lt); (try replace r2 := r2.below hb1); (first | replace hb := hb.trans (hb1.mono hb.size) | replace hb := hb.drew.trans (hb1.mono hb.drew.size)); clear hb1; clear mbo zbo; have mbo := fun i => bo.cell i; have zbo := fun i => bo.frozen i; obtain ⟨A1, d1, rfl⟩ := r1.val) | ((with_reducible refine (P2.out _ hb).mono ?_); rintro e w2 ⟨⟨u2, rfl, r2⟩, hb2⟩; replace r2 := r2.mono bo.lt; (first | replace bx := bx.below hb2 bx.lt | replace bx := bx.drew.below hb2 bx.drew.lt); (first | replace bo := bo.below hb2 bo.lt | replace bo := bo.drew.below hb2 bo.drew.lt); (try replace r1 := r1.below hb2); (first | replace hb := hb.trans (hb2.mono hb.size) | replace hb := hb.drew.trans (hb2.mono hb.drew.size)); clear hb2; clear mbo zbo; have mbo := fun i => bo.cell i; have zbo := fun i => bo.frozen i; obtain ⟨A2, d2, rfl⟩ := r2.val)))
  all_goals
    have b9 := (((bo.set_ 0 (.bool false)).set_ 1 (.slice A1 y1.length d1)).set_ 2 (.slice A2 y2.length d2)).set_ 3 (.int .u64 link)
    simp only [List.setIfInBounds_toArray, List.set_cons_zero, List.set_cons_succ] at b9
    have B9 := (((hb.setCell (p := ⟨w.heap.size + 1, 0, none⟩) (by show w.heap.size ≤ w.heap.size + 1; omega) (.bool false)).setCell (p := ⟨w.heap.size + 1, 1, none⟩) (by show w.heap.size ≤ w.heap.size + 1; omega) (.slice A1 y1.length d1)).setCell (p := ⟨w.heap.size + 1, 2, none⟩) (by show w.heap.size ≤ w.heap.size + 1; omega) (.slice A2 y2.length d2)).setCell (p := ⟨w.heap.size + 1, 3, none⟩) (by show w.heap.size ≤ w.heap.size + 1; omega) (.int .u64 link)
    have r1' := (((r1.far (p := ⟨w.heap.size + 1, 0, none⟩) (by show w.heap.size + 1 < _; omega) (.bool false)).far (p := ⟨w.heap.size + 1, 1, none⟩) (by show w.heap.size + 1 < _; omega) (.slice A1 y1.length d1)).far (p := ⟨w.heap.size + 1, 2, none⟩) (by show w.heap.size + 1 < _; omega) (.slice A2 y2.length d2)).far (p := ⟨w.heap.size + 1, 3, none⟩) (by show w.heap.size + 1 < _; omega) (.int .u64 link)
    have r2' := (((r2.far (p := ⟨w.heap.size + 1, 0, none⟩) (by show w.heap.size + 1 < _; omega) (.bool false)).far (p := ⟨w.heap.size + 1, 1, none⟩) (by show w.heap.size + 1 < _; omega) (.slice A1 y1.length d1)).far (p := ⟨w.heap.size + 1, 2, none⟩) (by show w.heap.size + 1 < _; omega) (.slice A2 y2.length d2)).far (p := ⟨w.heap.size + 1, 3, none⟩) (by show w.heap.size + 1 < _; omega) (.int .u64 link)
    have c9 := fun i => b9.cell i
    clear mbo zbo
    go_wp2_with fail
    refine bodyPost_ret (v := .agg #[.bool false, .slice A1 y1.length d1, .slice A2 y2.length d2, .int .u64 link]) (by simp [results, Try.results27, go_sem, c9]) rfl ⟨⟨_, rfl, _, _, rfl, r1'.mono (by omega), r2'.mono (by omega)⟩, B9⟩
end Go.Proofs.Ytogpdgogcjljfaa
