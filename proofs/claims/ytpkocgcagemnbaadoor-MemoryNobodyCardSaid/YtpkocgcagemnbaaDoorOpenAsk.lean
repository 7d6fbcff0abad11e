/-
  Readings of accesses and of writes: by value, and in slices.
-/
import Derived.Test.YtpkocgcagemnbaaDoorOpen
import Derived.Test.YtpkocgcagemnbaaDoorMemoE
namespace Go.Proofs.YtpkocgcagemnbaaDoor
open Go.ChangeShapes Go.WideShapes Go.ChangeAt Go.RowKit Go.Deep

section
variable {H : Type} {enc : TypeId × Value → H} {w : World} {spare : Nat → Bool} {held : Bool} {base : Nat}
set_option maxRecDepth 100000 in
/-- An access by value. -/
theorem open_ask {b0 : Nat} {v : Value} {d : DataW H} {ps : List MemPlace} (hv : Value.okWide Tryd.prog w .any b0 46 v) (h : DataW.Trod enc Tryd.prog w base spare held 46 v d ps) :
    ∃ k a o n, v = .agg #[.int .i64 k, .int .i64 a, .int .u64 o, .int .u64 n] ∧ I64 k ∧ I64 a ∧ W64 o ∧ W64 n := by
  obtain ⟨xs, rfl, hxl, hf⟩ := open_flat Tryd.underlying46 (by kernel_rfl) (by kernel_rfl) hv h
  match xs, hxl with
  | [x0, x1, x2, x3], _ =>
    obtain ⟨y0, n0, z0, e0, g0, _⟩ := hf 0 _ rfl
    obtain ⟨y1, n1, z1, e1, g1, _⟩ := hf 1 _ rfl
    obtain ⟨y2, n2, z2, e2, g2, _⟩ := hf 2 _ rfl
    obtain ⟨y3, n3, z3, e3, g3, _⟩ := hf 3 _ rfl
    obtain ⟨k, h0', _, w0⟩ := DataW.trod_int Tryd.underlying3 g0
    obtain ⟨a, h1', _, w1⟩ := DataW.trod_int Tryd.underlying3 g1
    obtain ⟨o, h2', _, w2⟩ := DataW.trod_int Tryd.underlying43 g2
    obtain ⟨n, h3', _, w3⟩ := DataW.trod_int Tryd.underlying43 g3
    simp at e0 e1 e2 e3 h0' h1' h2' h3'
    exact ⟨k, a, o, n, by rw [e0, e1, e2, e3, h0', h1', h2', h3'], I64.of_wf w0, I64.of_wf w1, W64.of_wf w2, W64.of_wf w3⟩

theorem fld {P : Program} {fs : Array Field} {e : TypeId} {fuel : Nat} {cs : List Value} {y : DataW H × List MemPlace} (he : P.underlying e = some (.struct fs)) (hone : oneCellFields P fs = true) (hl : cs.length = fs.size)
    (hy : DataW.trod enc P w base spare held fuel e cs = some y) (j : Nat) (f : Field) (hj : fs[j]? = some f) : ∃ x n z, cs[j]? = some x ∧ DataW.trod enc P w base spare held n f.type [x] = some z := by
  obtain ⟨ys, m, hn', hy', hlen, hyl, hf⟩ := DataW.trod_struct he hy
  obtain ⟨ho, hk⟩ := hone_of hone j f hj
  have hjl : j < fs.size := (Array.getElem?_eq_some_iff.1 hj).1
  have h1 := hf j f hj
  rw [ho, hk] at h1
  have hone' : (cs.drop j).take 1 = [cs[j]'(by omega)] := by
    rw [List.drop_eq_getElem_cons (by omega)]
    rfl
  rw [hone'] at h1
  have hys : ys[j]? = some (ys[j]'(by omega)) := List.getElem?_eq_getElem (by omega)
  exact ⟨cs[j]'(by omega), m, ys[j]'(by omega), List.getElem?_eq_getElem (by omega), h1.trans hys⟩
end
end Go.Proofs.YtpkocgcagemnbaaDoor
