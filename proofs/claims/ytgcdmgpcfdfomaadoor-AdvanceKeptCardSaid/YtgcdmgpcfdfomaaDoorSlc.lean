/-
  Slices of words: Clone, part.
-/
import Derived.Test.YtgcdmgpcfdfomaaDoorMem
import Derived.Test.YtgcdmgpcfdfomaaDoorPlain
import Derived.Test.YtgcdmgpcfdfomaaDoorWords
import Derived.Deep.LoopGhost
import Derived.Deep.RegionWith
import Derived.Lib.SliceRun
import Derived.Lib.AppendZeros
namespace Go.Proofs.YtgcdmgpcfdfomaaDoor
open Go.RowKit

theorem infoU64 : (Tryd.prog.info? 29).map (fun i => (i.zero, i.size, i.bytes)) = some (some (.int .u64 0), 1, 8) := by kernel_rfl

/-- v is a slice that reads as these words, its array below block B. -/
def Sl (w : World) (B : Nat) (v : Value) (xs : List Int) : Prop := ∃ A c, v = .slice A xs.length c ∧ xs.length ≤ c ∧ c ≤ 9223372036854775807 ∧ Reads w B 1 A xs.length (ints .u64 xs)
theorem Sl.below {w w' : World} {B : Nat} {v : Value} {xs : List Int} (h : Sl w B v xs) (hb : Below B w w') : Sl w' B v xs := by
  obtain ⟨A, c, h1, h2, h3, h4⟩ := h
  exact ⟨A, c, h1, h2, h3, h4.below hb⟩
theorem Sl.more {w : World} {B B' : Nat} {v : Value} {xs : List Int} (h : Sl w B v xs) (hB : B ≤ B') : Sl w B' v xs := by
  obtain ⟨A, c, h1, h2, h3, h4⟩ := h
  exact ⟨A, c, h1, h2, h3, h4.more hB⟩
theorem ints_one {κ : IntKind} (l : List Int) : ∀ u ∈ ints κ l, u.oneCell' = true := by
  intro u hu
  unfold ints at hu
  obtain ⟨x, _, rfl⟩ := List.mem_map.1 hu
  rfl
theorem Sl.nil (w : World) (B : Nat) : Sl w B (.slice none 0 0) [] := ⟨none, 0, rfl, Nat.le_refl _, by omega, Reads.none_⟩

theorem Sl.of_own {w : World} {B n : Nat} {e : TypeId} {xs : List Int} {v : Value} (h : w.ownsRow B e 1 v n (ints .u64 xs)) : Sl w w.heap.size v xs := by
  have hn : xs.length = n := by have := h.1; rw [ints_len] at this; omega
  subst hn
  rcases h.2 with ⟨rfl, h0⟩ | ⟨g, cap, cur, rfl, _, _, hc, hm, _⟩
  · have : xs = [] := List.eq_nil_of_length_eq_zero h0
    subst this
    exact Sl.nil _ _
  · exact ⟨_, _, rfl, hc, by unfold maxLen at hm; omega, Reads.of_own h⟩

/-- v is a slice of these words, its array in a block from lo on, at its head. -/
def Own (w : World) (lo : Nat) (v : Value) (xs : List Int) : Prop := w.ownsRow lo 29 1 v xs.length (ints .u64 xs)
theorem Own.nil (w : World) (lo : Nat) : Own w lo (.slice none 0 0) [] := World.ownsRow_nil _ _ _ _
theorem Own.of {w : World} {lo n : Nat} {v : Value} {xs : List Int} (h : w.ownsRow lo 29 1 v n (ints .u64 xs)) : Own w lo v xs := by
  have hn : xs.length = n := by have := h.1; rw [ints_len] at this; omega
  unfold Own
  rw [hn]
  exact h
theorem Own.below {w w' : World} {lo : Nat} {v : Value} {xs : List Int} (h : Own w lo v xs) (hb : Below w.heap.size w w') : Own w' lo v xs := own_below h hb
theorem Own.mono {w : World} {lo lo' : Nat} {v : Value} {xs : List Int} (h : Own w lo v xs) (hl : lo' ≤ lo) : Own w lo' v xs := own_mono h hl
theorem Own.far {w : World} {lo : Nat} {v : Value} {xs : List Int} (h : Own w lo v xs) {p : Addr} (hp : p.block < lo) (u : Value) : Own (w.setCell p u) lo v xs := own_setCell_far h hp u
theorem Own.sl {w : World} {lo : Nat} {v : Value} {xs : List Int} (h : Own w lo v xs) : Sl w w.heap.size v xs := Sl.of_own h
theorem Own.drew {w : World} {lo : Nat} {v : Value} {xs : List Int} (h : Own w lo v xs) : Own w.drew lo v xs := h
theorem Own.val {w : World} {lo : Nat} {v : Value} {xs : List Int} (h : Own w lo v xs) : ∃ A c, v = .slice A xs.length c := by
  obtain ⟨A, c, h1, _⟩ := h.sl
  exact ⟨A, c, h1⟩

theorem reads_prefix' {w : World} {B n m : Nat} {A : Option Addr} {l : List Int} {κ : IntKind} (h : Reads w B 1 A n (ints κ l)) (hm : m ≤ n) : Reads w B 1 A m (ints κ (l.take m)) := by
  have hl := h.lenWord
  refine ⟨by rw [ints_len, List.length_take]; omega, fun h0 => ?_⟩
  obtain ⟨ad, e, hb, hc⟩ := h.2 (by omega)
  refine ⟨ad, e, hb, fun j u hu => hc j u ?_⟩
  unfold ints at *
  rw [List.map_take, List.getElem?_take] at hu
  split at hu
  · exact hu
  · cases hu
/-- l[from:to:to], cloned. -/
def cutL (l : List Int) (a b : Nat) : List Int := (l.take b).drop a
theorem cutL_len (l : List Int) (a b : Nat) (h : b ≤ l.length) : (cutL l a b).length = b - a := by unfold cutL; simp; omega
theorem reads_window {w : World} {B n a b : Nat} {A : Option Addr} {l : List Int} {κ : IntKind} (h : Reads w B 1 A n (ints κ l)) (hab : a < b) (hb : b ≤ n) : Reads w B 1 (A.map (·.add a)) (b - a) (ints κ (cutL l a b)) := by
  have h1 := (reads_prefix' h hb).cut (k := a) (cap := b) (by omega) (Nat.le_refl _)
  rw [if_neg (by omega), Nat.mul_one] at h1
  have e : (ints κ (l.take b)).drop a = ints κ (cutL l a b) := by unfold ints cutL; rw [List.map_drop]
  rw [← e]
  exact h1
end Go.Proofs.YtgcdmgpcfdfomaaDoor
