/-
  memory.All; the example of chapter 9.
-/
import Derived.Test.YtgcdmgpcfdfomaaDoorMemoC
import Derived.Deep.LoopGhost
namespace Go.Proofs.YtgcdmgpcfdfomaaDoor
open Go.RowKit
attribute [local go_sem] past_cell past_cell_add

/-- Accesses as cells. -/
def rec4 (l : List (Int × Int × Int × Int)) : List Value := l.flatMap fun r => [.int .i64 r.1, .int .i64 r.2.1, .int .u64 r.2.2.1, .int .u64 r.2.2.2]
theorem rec4_len (l : List (Int × Int × Int × Int)) : (rec4 l).length = l.length * 4 := by
  induction l with
  | nil => rfl
  | cons r l ih =>
    have : (rec4 (r :: l)) = .int .i64 r.1 :: .int .i64 r.2.1 :: .int .u64 r.2.2.1 :: .int .u64 r.2.2.2 :: rec4 l := rfl
    rw [this]
    simp only [List.length_cons, ih]
    omega
theorem rec4_get (l : List (Int × Int × Int × Int)) : ∀ (k : Nat) (h : k < l.length), (rec4 l)[k * 4]? = some (.int .i64 l[k].1) ∧ (rec4 l)[k * 4 + 1]? = some (.int .i64 l[k].2.1) ∧ (rec4 l)[k * 4 + 2]? = some (.int .u64 l[k].2.2.1) ∧ (rec4 l)[k * 4 + 3]? = some (.int .u64 l[k].2.2.2) := by
  induction l with
  | nil => intro k h; simp at h
  | cons r l ih =>
    intro k h
    cases k with
    | zero => simp [rec4]
    | succ k =>
      have := ih k (by simpa using h)
      have e1 : (k + 1) * 4 = k * 4 + 4 := by omega
      have e2 : (k + 1) * 4 + 1 = k * 4 + 1 + 4 := by omega
      have e3 : (k + 1) * 4 + 2 = k * 4 + 2 + 4 := by omega
      have e4 : (k + 1) * 4 + 3 = k * 4 + 3 + 4 := by omega
      simpa [rec4, e1, e2, e3, e4] using this
theorem Reads.ask {w : World} {B n k : Nat} {A : Option Addr} {l : List (Int × Int × Int × Int)} (h : Reads w B 4 A n (rec4 l)) (hk : k < n) :
    ∃ a, A = some a ∧ a.block < B ∧ ∃ hl : k < l.length, w.cell? (a.add (k * 4)) = some (.int .i64 l[k].1) ∧ w.cell? ⟨(a.add (k * 4)).block, (a.add (k * 4)).off + 1, none⟩ = some (.int .i64 l[k].2.1) ∧
      w.cell? ⟨(a.add (k * 4)).block, (a.add (k * 4)).off + 2, none⟩ = some (.int .u64 l[k].2.2.1) ∧ w.cell? ⟨(a.add (k * 4)).block, (a.add (k * 4)).off + 3, none⟩ = some (.int .u64 l[k].2.2.2) := by
  have hl : k < l.length := by
    have := h.1
    rw [rec4_len] at this
    omega
  obtain ⟨a, ha, hb, x, y⟩ := h.row hk
  obtain ⟨y0, y1, y2, y3⟩ := rec4_get l k hl
  exact ⟨a, ha, hb, hl, (x (by omega)).trans y0, (y 1 (by omega) (by omega)).trans y1, (y 2 (by omega) (by omega)).trans y2, (y 3 (by omega) (by omega)).trans y3⟩
theorem Reads.lenAsk {w : World} {B n : Nat} {A : Option Addr} {l : List (Int × Int × Int × Int)} (h : Reads w B 4 A n (rec4 l)) : l.length = n := by
  have := h.1
  rw [rec4_len] at this
  omega
theorem Reads.grownG {w w' : World} {B s n g : Nat} {A : Option Addr} {xs : List Value} (h : Reads w B s A n xs) (hg : w.grownBy w' (some g)) (hB : B ≤ w.heap.size) (hne : ∀ ad, A = some ad → ad.block ≠ g) : Reads w' B s A n xs := by
  refine ⟨h.1, fun hn => ?_⟩
  obtain ⟨ad, rfl, hb, hc⟩ := h.2 hn
  refine ⟨ad, rfl, hb, fun j u hu => ?_⟩
  rw [World.cell?_of_block (w := w) (hg.block _ (by rw [block_of_add]; omega) (by rw [block_of_add]; intro e; exact hne ad rfl (by injection e)))]
  exact hc j u hu

/-- What some accesses tell, and what they leave. -/
def mAll (ws : List Int) (l : List (Int × Int × Int × Int)) : Nat → List Int × List Int
  | 0 => ([], ws)
  | k + 1 => let s := mAll ws l k; let r := l.getD k (0, 0, 0, 0); let x := mDo s.2 r.1 r.2.1 r.2.2.1 r.2.2.2; (s.1 ++ [x.1], x.2)
theorem mAll_len (ws : List Int) (l : List (Int × Int × Int × Int)) : ∀ k, (mAll ws l k).1.length = k
  | 0 => rfl
  | k + 1 => by
    show ((mAll ws l k).1 ++ _).length = _
    rw [List.length_append, mAll_len ws l k]
    rfl
theorem own_ne_row {w : World} {base g s n : Nat} {e : TypeId} {v : Value} {xs : List Value} (h : w.ownsRow base e s v n xs) (hg : g < base) : v.ownBlock = none ∨ v.ownBlock ≠ some g := by
  cases hv : v.ownBlock with
  | none => exact .inl rfl
  | some k =>
    right
    have := (h.lt k hv).1
    intro e
    injection e with e
    omega
theorem own_ne_row' {w : World} {base g s n : Nat} {e : TypeId} {v : Value} {xs : List Value} (h : w.ownsRow base e s v n xs) (hg : g < base) : some g ≠ v.ownBlock := by
  rcases own_ne_row h hg with hv | hv
  · rw [hv]
    simp
  · exact fun e => hv e.symm
theorem grown_own {w w1 w2 : World} {base g s n : Nat} {e : TypeId} {v : Value} {xs : List Value} (h : w.grownBy w1 (some g)) (ho : w1.ownsRow base e s v n xs) (hb : w.heap.size ≤ base) (hg : w1.grownBy w2 v.ownBlock) : w.grownBy w2 (some g) :=
  ⟨hg.os.trans h.os, hg.tape.trans h.tape, hg.output.trans h.output, Nat.le_trans h.size hg.size, fun k hk hr => (hg.block k (Nat.lt_of_lt_of_le hk h.size) (own_ne_row' ho (by omega))).trans (h.block k hk hr)⟩
end Go.Proofs.YtgcdmgpcfdfomaaDoor
