/-
  Package inner: what closures leave of the memory, and tried over a closure.
-/
import Derived.Test.YtcmoblibjhaegaaIn
namespace Go.Proofs.Ytcmoblibjhaegaa
open Go.RowKit

theorem infoU : (Try.prog.info? 22).map (fun i => (i.zero, i.size, i.bytes)) = some (some (.int .u64 0), 1, 8) := by kernel_rfl
theorem size_set (w : World) (p : Addr) (v : Value) : (w.setCell p v).heap.size = w.heap.size := by simp
theorem own_set_blk {w : World} {B g : Nat} {e T : TypeId} {s n : Nat} {xs : List Value} {v : Value} {cs : Array Value} (h : w.ownsRow B e s v n xs) (hb : Blk w g T cs) (hne : e ≠ T) (f : Nat) (u : Value) : (w.setCell ⟨g, f, none⟩ u).ownsRow B e s v n xs :=
  h.kept (row := some g) ⟨rfl, rfl, rfl, by rw [size_set]; exact Nat.le_refl _, fun k _ hk => Below.heap_setCell _ _ _ k (fun e' => hk (by rw [e']))⟩ (.inr (own_blk_ne h hb hne))
theorem own_setN_blk {w : World} {B g : Nat} {e T : TypeId} {s n : Nat} {xs : List Value} {v : Value} {c0 c1 c2 c3 : Value} (h : w.ownsRow B e s v n xs) (hb : Blk w g T #[c0, c1, c2, c3]) (hne : e ≠ T) (x y z u : Value) : ((((w.setCell ⟨g, 0, none⟩ x).setCell ⟨g, 1, none⟩ y).setCell ⟨g, 2, none⟩ z).setCell ⟨g, 3, none⟩ u).ownsRow B e s v n xs :=
  own_set_blk (own_set_blk (own_set_blk (own_set_blk h hb hne 0 x) (hb.set_ 0 x) hne 1 y) ((hb.set_ 0 x).set_ 1 y) hne 2 z) (((hb.set_ 0 x).set_ 1 y).set_ 2 z) hne 3 u
theorem NdO.setN {w : World} {lo g : Nat} {v : Value} {b : Bool} {ks vs : List Int} {l : Int} {c0 c1 c2 c3 : Value} (h : NdO w lo v b ks vs l) (hb : Blk w g 27 #[c0, c1, c2, c3]) (x y z u : Value) : NdO ((((w.setCell ⟨g, 0, none⟩ x).setCell ⟨g, 1, none⟩ y).setCell ⟨g, 2, none⟩ z).setCell ⟨g, 3, none⟩ u) lo v b ks vs l := by
  obtain ⟨k, u', e, h1, h2⟩ := h
  exact ⟨k, u', e, own_setN_blk h1 hb (by decide) x y z u, own_setN_blk h2 hb (by decide) x y z u⟩
theorem Blk.set1 {w : World} {g : Nat} {t : TypeId} {a : Value} (h : Blk w g t #[a]) (x : Value) : Blk (w.setCell ⟨g, 0, none⟩ x) g t #[x] := by
  have b9 := h.set_ 0 x
  simpa only [List.setIfInBounds_toArray, List.set_cons_zero, List.set_cons_succ] using b9
theorem Blk.offN {w : World} {g : Nat} {t : TypeId} {cs : Array Value} (h : Blk w g t cs) {g' : Nat} (hg : g ≠ g') (a b c d : Value) : Blk ((((w.setCell ⟨g', 0, none⟩ a).setCell ⟨g', 1, none⟩ b).setCell ⟨g', 2, none⟩ c).setCell ⟨g', 3, none⟩ d) g t cs :=
  (((h.far (p := ⟨g', 0, none⟩) hg a).far (p := ⟨g', 1, none⟩) hg b).far (p := ⟨g', 2, none⟩) hg c).far (p := ⟨g', 3, none⟩) hg d
theorem Part.setN {os : List Nat} {w w' : World} (h : Part os w w') {g : Nat} (hg : g ∈ os) (a b c d : Value) : Part os w ((((w'.setCell ⟨g, 0, none⟩ a).setCell ⟨g, 1, none⟩ b).setCell ⟨g, 2, none⟩ c).setCell ⟨g, 3, none⟩ d) :=
  (((h.set_ hg 0 a).set_ hg 1 b).set_ hg 2 c).set_ hg 3 d
theorem own_part {os : List Nat} {w w' : World} {B : Nat} {e : TypeId} {s n : Nat} {xs : List Value} {v : Value} (h : w.ownsRow B e s v n xs) (hp : Part os w w') (ho : ∀ o ∈ os, ∃ t cs, Blk w o t cs ∧ e ≠ t) : w'.ownsRow B e s v n xs := by
  refine ⟨h.1, ?_⟩
  rcases h.2 with h2 | ⟨g, cap, cur, hv, hB, hh, h3⟩
  · exact .inl h2
  · refine .inr ⟨g, cap, cur, hv, hB, (hp.block g (by
      rcases Nat.lt_or_ge g w.heap.size with hl | hl
      · exact hl
      · rw [Array.getElem?_eq_none hl] at hh
        cases hh) (fun hg => ?_)).trans hh, h3⟩
    obtain ⟨t, cs, hb, hne⟩ := ho g hg
    exact Blk.ne_ (t := e) hh hb hne rfl
theorem Part.below0 {w w' : World} (h : Part [] w w') : Below w.heap.size w w' := ⟨h.os_, h.tape, h.output, h.size, fun k hk => h.block k hk (by simp)⟩
theorem Part.below_trans {os : List Nat} {B : Nat} {w0 w w' : World} (hb : Below B w0 w) (h : Part os w w') (ho : ∀ o ∈ os, B ≤ o) (hB : B ≤ w0.heap.size) : Below B w0 w' :=
  Below.part hb h ho (Nat.le_trans hB hb.size)

theorem tried_part (K : Nat) (caps : Array Value) (os : List Nat) (R : World → Prop) (w : World) (hf : ∀ w, (callFunc K caps).run Try.prog w = .ok (.enter K caps) w) (ho : ∀ o ∈ os, o < w.heap.size)
    (hR : ∀ w' b, Blk w' w.heap.size 4 #[.bool false] → R w' → R (w'.setCell ⟨w.heap.size, 0, none⟩ b))
    (hK : ∀ w1, Below w.heap.size w w1 → w.heap.size < w1.heap.size → Calls Try.prog K caps w1 fun e w' => e = .returned (.tuple #[]) ∧ Part os w1 w' ∧ R w') :
    Calls Try.prog 28 #[.func (.func K) #[] caps] w fun e w' => e = .returned (.bool true) ∧ Part os w w' ∧ R w' := by
  have bb := Blk.new w 4 #[.bool false]
  have hb := (Below.refl w.heap.size w).alloc (Nat.le_refl _) (.cells #[.bool false] 4)
  refine tried_ok K caps w (fun w' => Part os w w' ∧ R w') hf ((hK _ hb bb.lt).mono ?_)
  rintro e w' ⟨rfl, hp, hr⟩
  have bb' := hp.blk bb (fun h => absurd (ho _ h) (by omega))
  refine ⟨rfl, bb', ⟨hp.os_.trans hb.os, hp.tape.trans hb.tape, hp.output.trans hb.output, ?_, fun k hk hko => ?_⟩, hR w' _ bb' hr⟩
  · rw [size_set]
    exact Nat.le_trans hb.size hp.size
  · exact (Below.heap_setCell w' ⟨w.heap.size, 0, none⟩ _ k (by intro e; simp at e; omega)).trans ((hp.block k (by have := hb.size; omega) hko).trans (hb.block k hk))
theorem tried_wrong (K : Nat) (caps : Array Value) (w : World) (hf : ∀ w, (callFunc K caps).run Try.prog w = .ok (.enter K caps) w)
    (hK : ∀ w1, Below w.heap.size w w1 → Calls Try.prog K caps w1 fun e w' => e = .panicked wrongP ∧ Below w1.heap.size w1 w') :
    Calls Try.prog 28 #[.func (.func K) #[] caps] w fun e w' => e = .returned (.bool false) ∧ Below w.heap.size w w' := by
  have bb := Blk.new w 4 #[.bool false]
  have hb := (Below.refl w.heap.size w).alloc (Nat.le_refl _) (.cells #[.bool false] 4)
  refine tried_no K caps w (fun w' => Below w.heap.size w w') hf ((hK _ hb).mono ?_)
  rintro e w' ⟨rfl, hp⟩
  have h2 := hb.trans (hp.mono hb.size)
  exact ⟨rfl, bb.below hp bb.lt, (h2.alloc h2.size (.cells #[] 57)).setCell (p := ⟨w.heap.size, 0, none⟩) (Nat.le_refl _) (.bool false)⟩
end Go.Proofs.Ytcmoblibjhaegaa
