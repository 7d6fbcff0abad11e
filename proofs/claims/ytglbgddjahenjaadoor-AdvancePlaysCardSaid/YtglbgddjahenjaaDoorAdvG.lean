/-
  An epoch that goes on, beside the document's.
-/
import Derived.Test.YtglbgddjahenjaaDoorAdvK
import Derived.Test.YtglbgddjahenjaaDoorLayH
import Derived.Deep.RegionHeld3
import Derived.Deep.RegionWith
namespace Go.Proofs.YtglbgddjahenjaaDoor
open Go.RowKit
attribute [local go_sem] past_cell past_cell_add

theorem cells5 {w : World} {g : Nat} {T : TypeId} {c0 c1 c2 c3 c4 : Value} (h : Blk w g T #[c0, c1, c2, c3, c4]) : w.cell? ⟨g, 0, none⟩ = some c0 ∧ w.cell? ⟨g, 1, none⟩ = some c1 ∧ w.cell? ⟨g, 2, none⟩ = some c2 ∧ w.cell? ⟨g, 3, none⟩ = some c3 ∧ w.cell? ⟨g, 4, none⟩ = some c4 := ⟨h.cell 0, h.cell 1, h.cell 2, h.cell 3, h.cell 4⟩
theorem cells8 {w : World} {g : Nat} {T : TypeId} {c0 c1 c2 c3 c4 c5 c6 c7 : Value} (h : Blk w g T #[c0, c1, c2, c3, c4, c5, c6, c7]) : w.cell? ⟨g, 0, none⟩ = some c0 ∧ w.cell? ⟨g, 1, none⟩ = some c1 ∧ w.cell? ⟨g, 2, none⟩ = some c2 ∧ w.cell? ⟨g, 3, none⟩ = some c3 ∧ w.cell? ⟨g, 4, none⟩ = some c4 ∧ w.cell? ⟨g, 5, none⟩ = some c5 ∧ w.cell? ⟨g, 6, none⟩ = some c6 ∧ w.cell? ⟨g, 7, none⟩ = some c7 := ⟨h.cell 0, h.cell 1, h.cell 2, h.cell 3, h.cell 4, h.cell 5, h.cell 6, h.cell 7⟩
theorem cells13 {w : World} {g : Nat} {T : TypeId} {c0 c1 c2 c3 c4 c5 c6 c7 c8 c9 c10 c11 c12 : Value} (h : Blk w g T #[c0, c1, c2, c3, c4, c5, c6, c7, c8, c9, c10, c11, c12]) : w.cell? ⟨g, 0, none⟩ = some c0 ∧ w.cell? ⟨g, 1, none⟩ = some c1 ∧ w.cell? ⟨g, 2, none⟩ = some c2 ∧ w.cell? ⟨g, 3, none⟩ = some c3 ∧ w.cell? ⟨g, 4, none⟩ = some c4 ∧ w.cell? ⟨g, 5, none⟩ = some c5 ∧ w.cell? ⟨g, 6, none⟩ = some c6 ∧ w.cell? ⟨g, 7, none⟩ = some c7 ∧ w.cell? ⟨g, 8, none⟩ = some c8 ∧ w.cell? ⟨g, 9, none⟩ = some c9 ∧ w.cell? ⟨g, 10, none⟩ = some c10 ∧ w.cell? ⟨g, 11, none⟩ = some c11 ∧ w.cell? ⟨g, 12, none⟩ = some c12 := ⟨h.cell 0, h.cell 1, h.cell 2, h.cell 3, h.cell 4, h.cell 5, h.cell 6, h.cell 7, h.cell 8, h.cell 9, h.cell 10, h.cell 11, h.cell 12⟩
theorem own_put13 {w : World} {B g : Nat} {e : TypeId} {s n : Nat} {xs : List Value} {v : Value} (r : w.ownsRow B e s v n xs) (hg : g < B) (v0 v1 v2 v3 v4 v5 v6 v7 v8 v9 v10 v11 v12 : Value) : (((((((((((((w.setCell ⟨g, 0, none⟩ v0).setCell ⟨g, 1, none⟩ v1).setCell ⟨g, 2, none⟩ v2).setCell ⟨g, 3, none⟩ v3).setCell ⟨g, 4, none⟩ v4).setCell ⟨g, 5, none⟩ v5).setCell ⟨g, 6, none⟩ v6).setCell ⟨g, 7, none⟩ v7).setCell ⟨g, 8, none⟩ v8).setCell ⟨g, 9, none⟩ v9).setCell ⟨g, 10, none⟩ v10).setCell ⟨g, 11, none⟩ v11).setCell ⟨g, 12, none⟩ v12).ownsRow B e s v n xs := (own_setCell_far (own_setCell_far (own_setCell_far (own_setCell_far (own_setCell_far (own_setCell_far (own_setCell_far (own_setCell_far (own_setCell_far (own_setCell_far (own_setCell_far (own_setCell_far (own_setCell_far r (p := ⟨g, 0, none⟩) hg v0) (p := ⟨g, 1, none⟩) hg v1) (p := ⟨g, 2, none⟩) hg v2) (p := ⟨g, 3, none⟩) hg v3) (p := ⟨g, 4, none⟩) hg v4) (p := ⟨g, 5, none⟩) hg v5) (p := ⟨g, 6, none⟩) hg v6) (p := ⟨g, 7, none⟩) hg v7) (p := ⟨g, 8, none⟩) hg v8) (p := ⟨g, 9, none⟩) hg v9) (p := ⟨g, 10, none⟩) hg v10) (p := ⟨g, 11, none⟩) hg v11) (p := ⟨g, 12, none⟩) hg v12)
theorem took_both (s t f l p s' t' f' l' p' own' g : Int) (x : Av) (Y : Prop) (hx : AvOk own' t' Y x) (hY : Y → s' = s ∧ t' = t ∧ f' = f ∧ l' = l ∧ p' = p) (hp' : I64 p') (hg : W64 g) :
    ∃ x2, (∀ w2, Calls Tryd.prog 8 #[avV s' t' f' l' p' own' x, .int .u64 g] w2 fun e w' => e = .returned (avV s' t' f' l' p' own' x2) ∧ Below w2.heap.size w2 w') ∧
      (∀ A c base w2, base ≤ w2.heap.size → w2.ownsRow base 3 1 (.slice A (evL x.ev 64).length c) (evL x.ev 64).length (ints .i64 (evL x.ev 64)) → Calls Tryd.prog 17 #[.agg #[.int .i64 s, .int .i64 t, .int .i64 f, .int .i64 l, .int .i64 p], raV own' x A c, .int .u64 g] w2 fun e w' => RaTook own' x2 base e w' ∧ Below w2.heap.size w2 w') ∧ AvOk own' t' Y x2 := by
  by_cases h0 : x.k = 0
  · refine ⟨x, fun w2 => ?_, fun A c base w2 hb hr => ?_, hx⟩
    · have := atook_any s' t' f' l' p' own' g x Y w2 hx hp' hg
      rwa [aTook_zero h0] at this
    · obtain ⟨k, oc, ep, th, wd, ev, ju⟩ := x
      simp only at h0
      subst h0
      exact (artook_0 s t f l p own' (rO ⟨0, oc, ep, th, wd, ev, ju⟩) ep th wd (ju - 1) g A _ c w2).mono fun e w' ⟨h2, hb⟩ => ⟨RaTook.same hr h2 hb, hb⟩
  · have hz := hx.2.2.2.2.2.2.1.resolve_left h0
    obtain ⟨rfl, rfl, rfl, rfl, rfl⟩ := hY hz.1
    exact ⟨aTook own' t' p' x g, fun w2 => atook_any s' t' f' l' p' own' g x Y w2 hx hp' hg, fun A c base w2 hb hr => artook_any s' t' f' l' p' own' g x Y A c base w2 hb hx hp' hg hr, aTook_ok hx hg⟩
theorem want_both (s t f l p s' t' f' l' p' own' : Int) (x : Av) (Y : Prop) (hx : AvOk own' t' Y x) (hY : Y → s' = s ∧ t' = t ∧ f' = f ∧ l' = l ∧ p' = p) (hY2 : Y → (1 ≤ s' ∧ s' ≤ 1000) ∧ (4 ≤ f' ∧ f' ≤ 64)) :
    ∃ a1 a2 a3 a4 : Int, (∀ w2, Calls Tryd.prog 10 #[avV s' t' f' l' p' own' x] w2 fun e w' => e = .returned (.agg #[.int .i64 a1, .int .i64 a2, .int .u64 a3, .int .u64 a4]) ∧ Below w2.heap.size w2 w') ∧
      (∀ A c w2, Calls Tryd.prog 13 #[.agg #[.int .i64 s, .int .i64 t, .int .i64 f, .int .i64 l, .int .i64 p], raV own' x A c] w2 fun e w' => e = .returned (.agg #[.int .i64 a1, .int .i64 a2, .int .u64 a3, .int .u64 a4]) ∧ Below w2.heap.size w2 w') := by
  by_cases h0 : x.k = 0
  · obtain ⟨k, oc, ep, th, wd, ev, ju⟩ := x
    simp only at h0
    subst h0
    exact ⟨0, 0, 0, 0, fun w2 => awant_0 s' t' f' l' p' own' oc ep th wd (ev : Int) ju w2, fun A c w2 => arwant_0 s t f l p own' _ ep th wd _ A _ c w2⟩
  · have hz := hx.2.2.2.2.2.2.1.resolve_left h0
    obtain ⟨rfl, rfl, rfl, rfl, rfl⟩ := hY hz.1
    exact ⟨(aAsk x).1, (aAsk x).2.1, (aAsk x).2.2.1, (aAsk x).2.2.2, fun w2 => awant_any s' t' f' l' p' own' x Y w2 hx hY2, fun A c w2 => arwant_any s' t' f' l' p' own' x Y A c w2 hx⟩
theorem done_any (s' t' f' l' p' own' : Int) (x : Av) : ∃ (o : Int) (b : Bool), (∀ w2, Calls Tryd.prog 9 #[avV s' t' f' l' p' own' x] w2 fun e w' => e = .returned (.tuple #[.int .i64 o, .bool b]) ∧ Below w2.heap.size w2 w') ∧ ((x.k = 0 ∧ b = true ∧ o = rO x) ∨ ((x.k == 0) = false ∧ b = false ∧ o = 0)) := by
  refine ⟨_, _, fun w2 => adone_any s' t' f' l' p' own' x w2, ?_⟩
  by_cases h : x.k = 0
  · exact .inl ⟨h, by simpa using h, by rw [if_pos h]⟩
  · exact .inr ⟨by simpa using h, by simpa using h, by rw [if_neg h]⟩
end Go.Proofs.YtglbgddjahenjaaDoor
