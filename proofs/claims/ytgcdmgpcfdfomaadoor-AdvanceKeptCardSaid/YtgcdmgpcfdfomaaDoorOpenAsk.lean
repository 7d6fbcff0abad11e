/-
  Readings of accesses and of writes: by value, and in slices.
-/
import Derived.Test.YtgcdmgpcfdfomaaDoorOpen
import Derived.Test.YtgcdmgpcfdfomaaDoorMemoE
namespace Go.Proofs.YtgcdmgpcfdfomaaDoor
open Go.ChangeShapes Go.WideShapes Go.ChangeAt Go.RowKit Go.Deep

section
variable {H : Type} {enc : TypeId × Value → H} {w : World} {spare : Nat → Bool} {held : Bool} {base : Nat}
set_option maxRecDepth 100000 in
/-- An access by value. -/
theorem open_ask {b0 : Nat} {v : Value} {d : DataW H} {ps : List MemPlace} (hv : Value.okWide Tryd.prog w .any b0 34 v) (h : DataW.Trod enc Tryd.prog w base spare held 34 v d ps) :
    ∃ k a o n, v = .agg #[.int .i64 k, .int .i64 a, .int .u64 o, .int .u64 n] ∧ I64 k ∧ I64 a ∧ W64 o ∧ W64 n := by
  obtain ⟨xs, rfl, hxl, hf⟩ := open_flat Tryd.underlying34 (by kernel_rfl) (by kernel_rfl) hv h
  match xs, hxl with
  | [x0, x1, x2, x3], _ =>
    obtain ⟨y0, n0, z0, e0, g0, _⟩ := hf 0 _ rfl
    obtain ⟨y1, n1, z1, e1, g1, _⟩ := hf 1 _ rfl
    obtain ⟨y2, n2, z2, e2, g2, _⟩ := hf 2 _ rfl
    obtain ⟨y3, n3, z3, e3, g3, _⟩ := hf 3 _ rfl
    obtain ⟨k, h0', _, w0⟩ := DataW.trod_int Tryd.underlying3 g0
    obtain ⟨a, h1', _, w1⟩ := DataW.trod_int Tryd.underlying3 g1
    obtain ⟨o, h2', _, w2⟩ := DataW.trod_int Tryd.underlying29 g2
    obtain ⟨n, h3', _, w3⟩ := DataW.trod_int Tryd.underlying29 g3
    simp at e0 e1 e2 e3 h0' h1' h2' h3'
    exact ⟨k, a, o, n, by rw [e0, e1, e2, e3, h0', h1', h2', h3'], I64.of_wf w0, I64.of_wf w1, W64.of_wf w2, W64.of_wf w3⟩

theorem fld {P : Program} {fs : Array Field} {e : TypeId} {fuel : Nat} {cs : List Value} {y : DataW H × List MemPlace} (he : P.underlying e = some (.struct fs)) (hone : oneCellFields P fs = true) (hl : cs.length = fs.size)
    (hy : DataW.trod enc P w base spare held fuel e cs = some y) (j : Nat) (f : Field) (hj : fs[j]? = some f) : ∃ x n z, cs[j]? = some x ∧ DataW.trod enc P w base spare held n f.type [x] = some z := by
  obtain ⟨ys, m, hn', hy', hlen, hyl, hf⟩ := DataW.trod_struct he hy
  obtain ⟨ho, hk⟩ := hone_of hone j f hj
  have hjl : j < fs.size := (Array.getElem?_eq_some_iff.1 hj).1
  have h1 := hf j f hj
  rw [ho, hk] at h1
  have hone' : (cs.drop j).take 1 = [cs[j]'(by omega)] := by
    rw [List.drop_eq_getElem_cons (by omega)]
    rfl
  rw [hone'] at h1
  have hys : ys[j]? = some (ys[j]'(by omega)) := List.getElem?_eq_getElem (by omega)
  exact ⟨cs[j]'(by omega), m, ys[j]'(by omega), List.getElem?_eq_getElem (by omega), h1.trans hys⟩
set_option maxRecDepth 100000 in
/-- A slice of writes. -/
theorem open_wris {B b0 : Nat} {v : Value} {d : DataW H} {ps : List MemPlace}
    (hv : Value.okWide Tryd.prog w .any b0 24 v) (h : DataW.Trod enc Tryd.prog w base spare held 24 v d ps) (hlt : ∀ p ∈ ps, p.block < B) (hsp : ∀ a, spare a = true) :
    ∃ A len cap l, v = .slice A len cap ∧ len ≤ cap ∧ cap ≤ maxLen ∧ l.length = len ∧ Reads w B 2 A len (recW l) := by
  obtain ⟨A, len, cap, rows, hv, h1, h2, h3, h4, h5⟩ := open_rows (s := 2) Tryd.underlying24 (by kernel_rfl) (by omega) hv h hlt hsp (fun cs => cs.length = 2 → ∃ a n, cs = [.int .i64 a, .int .u64 n]) (fun n cs' z hy _ hl => by
    match cs', hl with
    | [x0, x1], _ =>
      obtain ⟨y0, n0, z0, e0, g0⟩ := fld Tryd.underlying32 (by kernel_rfl) rfl hy 0 _ rfl
      obtain ⟨y1, n1, z1, e1, g1⟩ := fld Tryd.underlying32 (by kernel_rfl) rfl hy 1 _ rfl
      obtain ⟨a, h1', _, w1⟩ := DataW.trod_int Tryd.underlying3 g0
      obtain ⟨o, h2', _, w2⟩ := DataW.trod_int Tryd.underlying29 g1
      simp at e0 e1 h1' h2'
      exact ⟨a, o, by rw [e0, e1, h1', h2']⟩)
  have key : ∀ rows : List (List Value), (∀ r ∈ rows, r.length = 2 ∧ (r.length = 2 → ∃ a n, r = [Value.int .i64 a, .int .u64 n])) → ∃ l : List (Int × Int), l.length = rows.length ∧ recW l = rows.flatten := by
    intro rows
    induction rows with
    | nil => intro _; exact ⟨[], rfl, rfl⟩
    | cons r rows ih =>
      intro h
      obtain ⟨l, e1, e2⟩ := ih (fun r hr => h r (by simp [hr]))
      obtain ⟨h1, h2⟩ := h r (by simp)
      obtain ⟨k, a, rfl⟩ := h2 h1
      exact ⟨(k, a) :: l, by simp [e1], by simp [← e2, recW]⟩
  obtain ⟨l, e1, e2⟩ := key rows h5
  exact ⟨A, len, cap, l, hv, h1, h2, by omega, by rw [e2]; exact h4⟩
end
end Go.Proofs.YtgcdmgpcfdfomaaDoor
