/-
  Package leaf: cut, joined, fit.
-/
import Derived.Test.YtcmoblibjhaegaaLeafB
import Derived.Deep.RegionHeld3
namespace Go.Proofs.Ytcmoblibjhaegaa
open Go.RowKit

/-- A node's value whose lists lie in blocks from lo on. -/
def NdO (w : World) (lo : Nat) (v : Value) (b : Bool) (ks vs : List Int) (l : Int) : Prop := ∃ k u, v = .agg #[.bool b, k, u, .int .u64 l] ∧ Own w lo k ks ∧ Own w lo u vs
theorem NdO.below {w w' : World} {lo : Nat} {v : Value} {b : Bool} {ks vs : List Int} {l : Int} (h : NdO w lo v b ks vs l) (hb : Below w.heap.size w w') : NdO w' lo v b ks vs l := by
  obtain ⟨k, u, h1, h2, h3⟩ := h
  exact ⟨k, u, h1, h2.below hb, h3.below hb⟩
theorem NdO.mono {w : World} {lo lo' : Nat} {v : Value} {b : Bool} {ks vs : List Int} {l : Int} (h : NdO w lo v b ks vs l) (hl : lo' ≤ lo) : NdO w lo' v b ks vs l := by
  obtain ⟨k, u, h1, h2, h3⟩ := h
  exact ⟨k, u, h1, h2.mono hl, h3.mono hl⟩
theorem NdO.nd {w : World} {lo : Nat} {v : Value} {b : Bool} {ks vs : List Int} {l : Int} (h : NdO w lo v b ks vs l) : Nd w w.heap.size v b ks vs l := by
  obtain ⟨k, u, h1, h2, h3⟩ := h
  exact ⟨k, u, h1, h2.sl, h3.sl⟩
theorem NdO.far {w : World} {lo : Nat} {v : Value} {b : Bool} {ks vs : List Int} {l : Int} (h : NdO w lo v b ks vs l) {p : Addr} (hp : p.block < lo) (q : Value) : NdO (w.setCell p q) lo v b ks vs l := by
  obtain ⟨k, u, h1, h2, h3⟩ := h
  exact ⟨k, u, h1, h2.far hp q, h3.far hp q⟩
theorem NdO.val {w : World} {lo : Nat} {v : Value} {b : Bool} {ks vs : List Int} {l : Int} (h : NdO w lo v b ks vs l) : ∃ A c A' c', v = .agg #[.bool b, .slice A ks.length c, .slice A' vs.length c', .int .u64 l] := by
  obtain ⟨k, u, h1, h2, h3⟩ := h
  obtain ⟨A, c, rfl⟩ := h2.val
  obtain ⟨A', c', rfl⟩ := h3.val
  exact ⟨A, c, A', c', h1⟩

theorem Blk.far4 {w : World} {g : Nat} {t : TypeId} {cs : Array Value} (h : Blk w g t cs) {g' : Nat} (hg : g ≠ g') (a b c d : Value) : Blk ((((w.setCell ⟨g', 0, none⟩ a).setCell ⟨g', 1, none⟩ b).setCell ⟨g', 2, none⟩ c).setCell ⟨g', 3, none⟩ d) g t cs :=
  (((h.far (p := ⟨g', 0, none⟩) hg a).far (p := ⟨g', 1, none⟩) hg b).far (p := ⟨g', 2, none⟩) hg c).far (p := ⟨g', 3, none⟩) hg d

end Go.Proofs.Ytcmoblibjhaegaa
