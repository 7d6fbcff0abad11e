/-
  A node that grows word by word: what an append to one of its lists leaves of the rest.
-/
import Derived.Test.YtcmoblibjhaegaaLeafD
import Derived.Test.YtcmoblibjhaegaaHeldB
namespace Go.Proofs.Ytcmoblibjhaegaa
open Go.RowKit

theorem own_old {w : World} {B : Nat} {e : TypeId} {s n g : Nat} {xs : List Value} {v : Value} (h : w.ownsRow B e s v n xs) (hg : w.heap.size ≤ g) : some g ≠ v.ownBlock := fun e' => by
  have := (h.lt g e'.symm).2
  omega
/-- What an append to the row v leaves of another row, and of a block. -/
theorem push_row {w w' : World} {lo : Nat} {e : TypeId} {s m : Nat} {ys : List Value} {v u v' : Value} (h2 : w.ownsRow lo e s u m ys) (ha : Apart v u) (hgr : w.grownBy w' v.ownBlock) (hat : v'.ownBlock = v.ownBlock ∨ v'.ownBlock = some w.heap.size) :
    w'.ownsRow lo e s u m ys ∧ Apart v' u := ⟨own_kept h2 hgr ha, ha.grown h2 hat⟩
theorem Nd.of_rows {w : World} {lo : Nat} {b : Bool} {l : Int} {A1 A2 : Option Addr} {c1 c2 : Nat} {ks vs : List Int} (h1 : w.ownsRow lo 22 1 (.slice A1 ks.length c1) ks.length (ints .u64 ks)) (h2 : w.ownsRow lo 22 1 (.slice A2 vs.length c2) vs.length (ints .u64 vs)) :
    NdO w lo (.agg #[.bool b, .slice A1 ks.length c1, .slice A2 vs.length c2, .int .u64 l]) b ks vs l := ⟨_, _, rfl, h1, h2⟩
theorem cellsN {w : World} {g : Nat} {T : TypeId} {c0 c1 c2 c3 : Value} (h : Blk w g T #[c0, c1, c2, c3]) : w.cell? ⟨g, 0, none⟩ = some c0 ∧ w.cell? ⟨g, 1, none⟩ = some c1 ∧ w.cell? ⟨g, 2, none⟩ = some c2 ∧ w.cell? ⟨g, 3, none⟩ = some c3 := ⟨h.cell 0, h.cell 1, h.cell 2, h.cell 3⟩
theorem cellsP {w : World} {g : Nat} {T : TypeId} {c0 c1 : Value} (h : Blk w g T #[c0, c1]) : w.cell? ⟨g, 0, none⟩ = some c0 ∧ w.cell? ⟨g, 1, none⟩ = some c1 := ⟨h.cell 0, h.cell 1⟩
theorem Blk.setK {w : World} {g : Nat} {t : TypeId} {a b c d : Value} (h : Blk w g t #[a, b, c, d]) (x : Value) : Blk (w.setCell ⟨g, 1, none⟩ x) g t #[a, x, c, d] := by
  have b9 := h.set_ 1 x
  simpa only [List.setIfInBounds_toArray, List.set_cons_zero, List.set_cons_succ] using b9
theorem Blk.setV {w : World} {g : Nat} {t : TypeId} {a b c d : Value} (h : Blk w g t #[a, b, c, d]) (x : Value) : Blk (w.setCell ⟨g, 2, none⟩ x) g t #[a, b, x, d] := by
  have b9 := h.set_ 2 x
  simpa only [List.setIfInBounds_toArray, List.set_cons_zero, List.set_cons_succ] using b9
theorem Blk.setN {w : World} {g : Nat} {t : TypeId} {a b c d : Value} (h : Blk w g t #[a, b, c, d]) (x y z u : Value) : Blk ((((w.setCell ⟨g, 0, none⟩ x).setCell ⟨g, 1, none⟩ y).setCell ⟨g, 2, none⟩ z).setCell ⟨g, 3, none⟩ u) g t #[x, y, z, u] := by
  have b9 := (((h.set_ 0 x).set_ 1 y).set_ 2 z).set_ 3 u
  simpa only [List.setIfInBounds_toArray, List.set_cons_zero, List.set_cons_succ] using b9
theorem below_setN {B : Nat} {a w : World} (h : Below B a w) {g : Nat} (hg : B ≤ g) (x y z u : Value) : Below B a ((((w.setCell ⟨g, 0, none⟩ x).setCell ⟨g, 1, none⟩ y).setCell ⟨g, 2, none⟩ z).setCell ⟨g, 3, none⟩ u) :=
  (((h.setCell (p := ⟨g, 0, none⟩) hg x).setCell (p := ⟨g, 1, none⟩) hg y).setCell (p := ⟨g, 2, none⟩) hg z).setCell (p := ⟨g, 3, none⟩) hg u
theorem NdO.farN {w : World} {lo : Nat} {v : Value} {b : Bool} {ks vs : List Int} {l : Int} (h : NdO w lo v b ks vs l) {g : Nat} (hg : g < lo) (x y z u : Value) : NdO ((((w.setCell ⟨g, 0, none⟩ x).setCell ⟨g, 1, none⟩ y).setCell ⟨g, 2, none⟩ z).setCell ⟨g, 3, none⟩ u) lo v b ks vs l :=
  (((h.far (p := ⟨g, 0, none⟩) hg x).far (p := ⟨g, 1, none⟩) hg y).far (p := ⟨g, 2, none⟩) hg z).far (p := ⟨g, 3, none⟩) hg u
theorem own_farN {w : World} {B g : Nat} {e : TypeId} {s n : Nat} {xs : List Value} {v : Value} (h : w.ownsRow B e s v n xs) (hg : g < B) (x y z u : Value) : ((((w.setCell ⟨g, 0, none⟩ x).setCell ⟨g, 1, none⟩ y).setCell ⟨g, 2, none⟩ z).setCell ⟨g, 3, none⟩ u).ownsRow B e s v n xs :=
  own_setCell_far (own_setCell_far (own_setCell_far (own_setCell_far h (p := ⟨g, 0, none⟩) hg x) (p := ⟨g, 1, none⟩) hg y) (p := ⟨g, 2, none⟩) hg z) (p := ⟨g, 3, none⟩) hg u
/-- The keys, the values of pairs. -/
def fstL (l : List (Int × Int)) : List Int := l.map Prod.fst
def sndL (l : List (Int × Int)) : List Int := l.map Prod.snd
theorem fstL_len (l : List (Int × Int)) : (fstL l).length = l.length := by simp [fstL]
theorem sndL_len (l : List (Int × Int)) : (sndL l).length = l.length := by simp [sndL]
theorem fstL_take (l : List (Int × Int)) (k : Nat) (h : k < l.length) : fstL (l.take (k + 1)) = fstL (l.take k) ++ [l[k].1] := by unfold fstL; rw [take_snoc' l k h, List.map_append]; rfl
theorem sndL_take (l : List (Int × Int)) (k : Nat) (h : k < l.length) : sndL (l.take (k + 1)) = sndL (l.take k) ++ [l[k].2] := by unfold sndL; rw [take_snoc' l k h, List.map_append]; rfl
theorem right_pairs (l : List (Int × Int)) : rightB false (fstL l) (sndL l) = riseB (fstL l) := by
  unfold rightB
  simp [fstL_len, sndL_len]
end Go.Proofs.Ytcmoblibjhaegaa
