/-
  memory.Words, Write, Copy; the example of chapter 9.
-/
import Derived.Test.YtgcdmgpcfdfomaaDoorMemoD
namespace Go.Proofs.YtgcdmgpcfdfomaaDoor
open Go.RowKit
attribute [local go_sem] past_cell past_cell_add

/-- Some words of a memory. -/
def cutW (ws : List Int) (a b : Int) : List Int := (ws.take (min b ws.length).toNat).drop (max a 0).toNat
theorem cutW_none {ws : List Int} {a b : Int} (h : min b ws.length ≤ max a 0) : cutW ws a b = [] := by
  unfold cutW
  apply List.eq_nil_of_length_eq_zero
  simp only [List.length_drop, List.length_take]
  omega
theorem reads_words {w : World} {gw : Nat} {ws : List Int} (h : Blk w gw 29 (ints .u64 ws).toArray) : Reads w w.heap.size 1 (some ⟨gw, 0, none⟩) ws.length (ints .u64 ws) := by
  have := Reads.blk h ws.length 1 (by simp [ints])
  exact this.more h.lt
theorem reads_cutw {w : World} {B N x y : Nat} {A : Option Addr} {l : List Int} (h : Reads w B 1 A N (ints .u64 l)) (hxy : x < y) (hy : y ≤ N) : Reads w B 1 (A.map (·.add x)) (y - x) (ints .u64 ((l.take y).drop x)) := by
  have hl := h.lenWord
  refine ⟨by rw [ints_len]; simp; omega, fun _ => ?_⟩
  obtain ⟨ad, rfl, hb, hc⟩ := h.2 (by omega)
  refine ⟨ad.add x, rfl, by rw [block_of_add]; exact hb, fun j u hu => ?_⟩
  rw [add_of_add]
  refine hc (x + j) u ?_
  unfold ints at *
  rw [List.map_drop, List.map_take, List.getElem?_drop, List.getElem?_take] at hu
  split at hu
  · exact hu
  · cases hu
/-- Writes as cells. -/
def recW (l : List (Int × Int)) : List Value := l.flatMap fun r => [.int .i64 r.1, .int .u64 r.2]
theorem recW_len (l : List (Int × Int)) : (recW l).length = l.length * 2 := by
  induction l with
  | nil => rfl
  | cons r l ih =>
    have : (recW (r :: l)) = .int .i64 r.1 :: .int .u64 r.2 :: recW l := rfl
    rw [this]
    simp only [List.length_cons, ih]
    omega
theorem recW_get (l : List (Int × Int)) : ∀ (k : Nat) (h : k < l.length), (recW l)[k * 2]? = some (.int .i64 l[k].1) ∧ (recW l)[k * 2 + 1]? = some (.int .u64 l[k].2) := by
  induction l with
  | nil => intro k h; simp at h
  | cons r l ih =>
    intro k h
    cases k with
    | zero => simp [recW]
    | succ k =>
      have := ih k (by simpa using h)
      have e1 : (k + 1) * 2 = k * 2 + 2 := by omega
      have e2 : (k + 1) * 2 + 1 = k * 2 + 1 + 2 := by omega
      simpa [recW, e1, e2] using this
theorem Reads.wri {w : World} {B n k : Nat} {A : Option Addr} {l : List (Int × Int)} (h : Reads w B 2 A n (recW l)) (hk : k < n) :
    ∃ a, A = some a ∧ a.block < B ∧ ∃ hl : k < l.length, w.cell? (a.add (k * 2)) = some (.int .i64 l[k].1) ∧ w.cell? ⟨(a.add (k * 2)).block, (a.add (k * 2)).off + 1, none⟩ = some (.int .u64 l[k].2) := by
  have hl : k < l.length := by
    have := h.1
    rw [recW_len] at this
    omega
  obtain ⟨a, ha, hb, x, y⟩ := h.row hk
  obtain ⟨y1, y2⟩ := recW_get l k hl
  exact ⟨a, ha, hb, hl, (x (by omega)).trans y1, (y 1 (by omega) (by omega)).trans y2⟩
theorem Reads.lenWri {w : World} {B n : Nat} {A : Option Addr} {l : List (Int × Int)} (h : Reads w B 2 A n (recW l)) : l.length = n := by
  have := h.1
  rw [recW_len] at this
  omega
def WrNo (w : World) (n : Nat) (i : Value) (wr : World) : Prop := ∃ k : Nat, i = .int .i64 k ∧ k ≤ n ∧ Below w.heap.size w wr
end Go.Proofs.YtgcdmgpcfdfomaaDoor
