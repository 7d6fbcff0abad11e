/-
  Package memory: has, Word, put, Do; gleaningref09.Do.
-/
import Derived.Test.YtgcdmgpcfdfomaaDoorLayG
import Derived.Test.YtgcdmgpcfdfomaaDoorWords
namespace Go.Proofs.YtgcdmgpcfdfomaaDoor
open Go.RowKit
attribute [local go_sem] past_cell past_cell_add

/-- A memory's words: of which slice, and how many. -/
def WordsAt (w : World) (gm : Nat) (A : Option Addr) (N : Nat) : Prop := w.cell? ⟨gm, 5, none⟩ = some (.slice A N N)
/-- There is no such word. -/
def NoWord (w : World) (m : Value) (a : Int) : Prop := m = .pointer none ∨ ∃ gm A N, m = .pointer (some ⟨gm, 0, none⟩) ∧ WordsAt w gm A N ∧ (a < 0 ∨ (0 ≤ a ∧ (N : Int) ≤ a))

theorem NoWord.below {w w' : World} {m : Value} {a : Int} (h : NoWord w m a) (hb : Below w.heap.size w w') : NoWord w' m a := by
  rcases h with rfl | ⟨gm, A, N, rfl, hc, h⟩
  · exact .inl rfl
  · exact .inr ⟨gm, A, N, rfl, keepCell hb hc, h⟩

/-- What an access does to words, and tells. -/
def wGet (l : List Int) (a : Int) : Int := if 0 ≤ a ∧ a < l.length then l.getD a.toNat 0 else 0
def wPut (l : List Int) (a x : Int) : List Int := if 0 ≤ a ∧ a < l.length then l.set a.toNat x else l
def mDo (l : List Int) (k a o n : Int) : Int × List Int :=
  if k = 1 then (wGet l a, l) else if k = 2 then (0, wPut l a n) else if k = 3 ∧ 0 ≤ a ∧ a < l.length ∧ wGet l a = o then (1, wPut l a n) else (0, l)
theorem wPut_len (l : List Int) (a x : Int) : (wPut l a x).length = l.length := by unfold wPut; split <;> simp
theorem mDo_len (l : List Int) (k a o n : Int) : (mDo l k a o n).2.length = l.length := by
  unfold mDo
  repeat' split
  all_goals simp [wPut_len]

def AllW64 (l : List Int) : Prop := ∀ x ∈ l, W64 x
theorem wPut_w64 {l : List Int} {a x : Int} (h : AllW64 l) (hx : W64 x) : AllW64 (wPut l a x) := by
  unfold wPut
  split
  · intro y hy
    rcases List.mem_or_eq_of_mem_set hy with hy | rfl
    · exact h y hy
    · exact hx
  · exact h
theorem mDo_w64 {l : List Int} {k a o n : Int} (h : AllW64 l) (hn : W64 n) : AllW64 (mDo l k a o n).2 := by
  unfold mDo
  repeat' split
  · exact h
  · exact wPut_w64 h hn
  · exact wPut_w64 h hn
  · exact h

section
variable {w w' : World} {gm gw : Nat} {s t f l p : Int} {ws : List Int}
theorem grown_below (hb : Below w.heap.size w w') (row : Option Nat) : w.grownBy w' row := ⟨hb.os, hb.tape, hb.output, hb.size, fun k hk _ => hb.block k hk⟩
theorem grown_set (w : World) (g j : Nat) (v : Value) : w.grownBy (w.setCell ⟨g, j, none⟩ v) (some g) :=
  ⟨rfl, rfl, rfl, by simp, fun k _ hk => Below.heap_setCell w ⟨g, j, none⟩ v k (fun e => hk (by rw [e]))⟩
end
theorem wGet_at {l : List Int} {j : Nat} (h : j < l.length) : wGet l j = l.getD j 0 := by
  unfold wGet
  rw [if_pos ⟨by omega, by omega⟩, Int.toNat_natCast]
theorem wPut_at {l : List Int} {j : Nat} {x : Int} (h : j < l.length) : wPut l j x = l.set j x := by
  unfold wPut
  rw [if_pos ⟨by omega, by omega⟩, Int.toNat_natCast]

theorem grown_trans {w w1 w2 : World} {row : Option Nat} (h1 : w.grownBy w1 row) (h2 : w1.grownBy w2 row) : w.grownBy w2 row :=
  ⟨h2.os.trans h1.os, h2.tape.trans h1.tape, h2.output.trans h1.output, Nat.le_trans h1.size h2.size, fun k hk hr => (h2.block k (Nat.lt_of_lt_of_le hk h1.size) hr).trans (h1.block k hk hr)⟩
theorem below_grown {B : Nat} {w0 w w' : World} {g : Nat} (hb : Below B w0 w) (hg : w.grownBy w' (some g)) (hB : B ≤ g) (hs : B ≤ w.heap.size) : Below B w0 w' :=
  ⟨hg.os.trans hb.os, hg.tape.trans hb.tape, hg.output.trans hb.output, Nat.le_trans hb.size hg.size, fun k hk => (hg.block k (Nat.lt_of_lt_of_le hk hs) (fun e => by injection e with e; omega)).trans (hb.block k hk)⟩
theorem below_drewN' {w w1 : World} (hb : Below w.heap.size w w1) (n : Nat) : Below w.heap.size w (w1.drewN n) := below_drewN hb n
end Go.Proofs.YtgcdmgpcfdfomaaDoor
