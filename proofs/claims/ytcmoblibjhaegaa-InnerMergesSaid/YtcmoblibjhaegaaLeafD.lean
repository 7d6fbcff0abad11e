/-
  Package leaf: joined, fit.
-/
import Derived.Test.YtcmoblibjhaegaaLeafC
namespace Go.Proofs.Ytcmoblibjhaegaa
open Go.RowKit

theorem Own.alloc {w : World} {lo : Nat} {v : Value} {xs : List Int} (h : Own w lo v xs) (o : Obj) : Own (w.alloc o) lo v xs := h.below ((Below.refl _ _).alloc (Nat.le_refl _) o)
theorem reads2 {w : World} {g B : Nat} {x y : Value} (h0 : w.cell? ⟨g, 0, none⟩ = some x) (h1 : w.cell? ⟨g, 1, none⟩ = some y) (hg : g < B) : Reads w B 1 (some ⟨g, 0, none⟩) 2 [x, y] := by
  refine ⟨rfl, fun _ => ⟨_, rfl, hg, fun j u hu => ?_⟩⟩
  rw [Addr.add_lit]
  match j, hu with
  | 0, hu => simpa [h0] using hu
  | 1, hu => simpa [h1] using hu
  | j + 2, hu => simp at hu

set_option maxHeartbeats 400000 in
theorem concat2 (v1 v2 : Value) (x1 x2 : List Int) (w : World) (hl : x1.length + x2.length ≤ 4000) (h1 : Sl w w.heap.size v1 x1) (h2 : Sl w w.heap.size v2 x2) (g : Nat) (W : World) (hB : Below w.heap.size w W)
    (hc1 : W.cell? ⟨g, 0, none⟩ = some v1) (hc2 : W.cell? ⟨g, 1, none⟩ = some v2) (hg : g < W.heap.size) :
    Calls Try.prog 44 #[.slice (some ⟨g, 0, none⟩) 2 2] W fun e w' => (∃ u, e = .returned u ∧ Own w' W.heap.size u (x1 ++ x2)) ∧ Below W.heap.size W w' := by
  have := concat_any [(v1, x1), (v2, x2)] (some ⟨g, 0, none⟩) 2 2 W rfl (by omega) (reads2 hc1 hc2 hg) (by
    intro p hp
    simp only [List.mem_cons, List.not_mem_nil, or_false] at hp
    rcases hp with rfl | rfl
    · exact (h1.below hB).more hB.size
    · exact (h2.below hB).more hB.size) (by simp; omega)
  simpa using this

end Go.Proofs.Ytcmoblibjhaegaa
