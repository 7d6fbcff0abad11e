/-
  Plain lists: what walks over slices want of them.
-/
import Derived.Test.YtgcdmgpcfdfomaaDoorRows
import Derived.WalkKit
namespace Go.Proofs.YtgcdmgpcfdfomaaDoor
open Go.RowKit

theorem take_snoc' {α} (l : List α) (k : Nat) (h : k < l.length) : l.take (k + 1) = l.take k ++ [l[k]] := by
  rw [List.take_succ_eq_append_getElem h]

/-- Words as cells. -/
def ints (κ : IntKind) (l : List Int) : List Value := l.map (Value.int κ)
theorem ints_len {κ : IntKind} (l : List Int) : (ints κ l).length = l.length := by simp [ints]
theorem ints_get {κ : IntKind} (l : List Int) (k : Nat) (h : k < l.length) : (ints κ l)[k]? = some (.int κ l[k]) := by simp [ints, h]
theorem ints_append {κ : IntKind} (l m : List Int) : ints κ (l ++ m) = ints κ l ++ ints κ m := by simp [ints]

/-- Pairs of words as cells. -/
def rec2 (l : List (Int × Int)) : List Value := l.flatMap fun r => [.int .u64 r.1, .int .u64 r.2]
theorem rec2_append (l m : List (Int × Int)) : rec2 (l ++ m) = rec2 l ++ rec2 m := by simp [rec2]
theorem rec2_len (l : List (Int × Int)) : (rec2 l).length = l.length * 2 := by
  induction l with
  | nil => rfl
  | cons r l ih =>
    have : (rec2 (r :: l)) = .int .u64 r.1 :: .int .u64 r.2 :: rec2 l := rfl
    rw [this]
    simp only [List.length_cons, ih]
    omega
theorem rec2_get (l : List (Int × Int)) : ∀ (k : Nat) (h : k < l.length), (rec2 l)[k * 2]? = some (.int .u64 l[k].1) ∧ (rec2 l)[k * 2 + 1]? = some (.int .u64 l[k].2) := by
  induction l with
  | nil => intro k h; simp at h
  | cons r l ih =>
    intro k h
    cases k with
    | zero => simp [rec2]
    | succ k =>
      have := ih k (by simpa using h)
      have e1 : (k + 1) * 2 = k * 2 + 2 := by omega
      have e2 : (k + 1) * 2 + 1 = k * 2 + 1 + 2 := by omega
      simpa [rec2, e1, e2] using this

/-- Bounds of a word. -/
def W64 (x : Int) : Prop := 0 ≤ x ∧ x ≤ 18446744073709551615
def I64 (x : Int) : Prop := -9223372036854775808 ≤ x ∧ x ≤ 9223372036854775807
theorem W64.of_wf {x : Int} (h : (Lit.int .u64 x).wf = true) : W64 x := by
  simp [Lit.wf, IntKind.min, IntKind.max, IntKind.signed, IntKind.bits] at h
  exact ⟨by omega, by omega⟩
theorem I64.of_wf {x : Int} (h : (Lit.int .i64 x).wf = true) : I64 x := by
  simp [Lit.wf, IntKind.min, IntKind.max, IntKind.signed, IntKind.bits] at h
  exact ⟨by omega, by omega⟩

end Go.Proofs.YtgcdmgpcfdfomaaDoor
