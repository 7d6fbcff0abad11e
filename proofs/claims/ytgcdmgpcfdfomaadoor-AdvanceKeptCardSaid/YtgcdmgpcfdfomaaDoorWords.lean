/-
  Readings of words and of pairs of words, asked at an index.
-/
import Derived.Test.YtgcdmgpcfdfomaaDoorMem
import Derived.Test.YtgcdmgpcfdfomaaDoorPlain
namespace Go.Proofs.YtgcdmgpcfdfomaaDoor
open Go.RowKit

theorem Reads.word {w : World} {B n k : Nat} {A : Option Addr} {κ : IntKind} {l : List Int} (h : Reads w B 1 A n (ints κ l)) (hk : k < n) :
    ∃ a, A = some a ∧ ∃ hl : k < l.length, w.cell? (a.add k) = some (.int κ l[k]) := by
  have hl : k < l.length := by
    have := h.1
    rw [ints_len, Nat.mul_one] at this
    omega
  obtain ⟨a, ha, _, x, _⟩ := h.row hk
  have x1 := x (by omega)
  rw [Nat.mul_one] at x1
  exact ⟨a, ha, hl, x1.trans (ints_get l k hl)⟩

theorem Reads.pair {w : World} {B n k : Nat} {A : Option Addr} {l : List (Int × Int)} (h : Reads w B 2 A n (rec2 l)) (hk : k < n) :
    ∃ a, A = some a ∧ ∃ hl : k < l.length, w.cell? (a.add (k * 2)) = some (.int .u64 l[k].1) ∧ w.cell? ⟨(a.add (k * 2)).block, (a.add (k * 2)).off + 1, none⟩ = some (.int .u64 l[k].2) := by
  have hl : k < l.length := by
    have := h.1
    rw [rec2_len] at this
    omega
  obtain ⟨a, ha, _, x, y⟩ := h.row hk
  obtain ⟨y1, y2⟩ := rec2_get l k hl
  exact ⟨a, ha, hl, (x (by omega)).trans y1, (y 1 (by omega) (by omega)).trans y2⟩

theorem Reads.lenWord {w : World} {B n : Nat} {A : Option Addr} {κ : IntKind} {l : List Int} (h : Reads w B 1 A n (ints κ l)) : l.length = n := by
  have := h.1
  rw [ints_len, Nat.mul_one] at this
  exact this
theorem Reads.lenPair {w : World} {B n : Nat} {A : Option Addr} {l : List (Int × Int)} (h : Reads w B 2 A n (rec2 l)) : l.length = n := by
  have := h.1
  rw [rec2_len] at this
  omega
theorem filter_len_take {α : Type} (p : α → Bool) (l : List α) (k : Nat) : ((l.take k).filter p).length ≤ k := by
  have h1 := List.length_filter_le p (l.take k)
  have h2 : (l.take k).length ≤ k := List.length_take_le _ _
  omega
theorem filter_snoc_yes {α : Type} {p : α → Bool} {l : List α} {x : α} (h : p x = true) : (l ++ [x]).filter p = l.filter p ++ [x] := by simp [List.filter_append, h]
theorem filter_snoc_no {α : Type} {p : α → Bool} {l : List α} {x : α} (h : p x = false) : (l ++ [x]).filter p = l.filter p := by simp [List.filter_append, h]
end Go.Proofs.YtgcdmgpcfdfomaaDoor
