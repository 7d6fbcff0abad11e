/-
  Arguments opened: a slice, of whatever element type, reads as a list of rows of cells; words, pairs of words.
-/
import Derived.Test.YtgcdmgpcfdfomaaDoorMem
import Derived.Test.YtgcdmgpcfdfomaaDoorPlain
import Derived.ProofKit
import Derived.Deep.Slices
import Derived.Deep.Fields
namespace Go.Proofs.YtgcdmgpcfdfomaaDoor
open Go.ChangeShapes Go.WideShapes Go.ChangeAt Go.RowKit Go.Deep

section
variable {H : Type} {enc : TypeId × Value → H} {P : Program} {w : World} {base : Nat} {spare : Nat → Bool} {held : Bool}

theorem flatten_get {s : Nat} : ∀ {rows : List (List Value)}, (∀ r ∈ rows, r.length = s) → ∀ (i j : Nat), j < s → (h : i < rows.length) → rows.flatten[i * s + j]? = (rows[i])[j]?
  | [], _, _, _, _, h => by simp at h
  | r :: rows, hr, i, j, hj, h => by
    have h0 : r.length = s := hr r (by simp)
    cases i with
    | zero => simp [List.getElem?_append_left (show j < r.length by omega)]
    | succ i =>
      have e : (i + 1) * s + j = i * s + j + s := by rw [Nat.add_mul]; omega
      rw [List.flatten_cons, List.getElem?_append_right (by omega), h0, e, Nat.add_sub_cancel]
      exact flatten_get (fun x hx => hr x (by simp [hx])) i j hj (by simpa using h)

theorem flatten_len {s : Nat} : ∀ {rows : List (List Value)}, (∀ r ∈ rows, r.length = s) → rows.flatten.length = rows.length * s
  | [], _ => by simp
  | r :: rows, hr => by
    rw [List.flatten_cons, List.length_append, hr r (by simp), flatten_len (fun x hx => hr x (by simp [hx]))]
    simp only [List.length_cons, Nat.add_mul]
    omega

/-- A reading by the rows: row i of s cells stands at 'a.add (i * s)'. -/
theorem reads_of_rows {B s n : Nat} {a : Addr} {rows : List (List Value)} (hb : 0 < n → a.block < B) (hl : rows.length = n) (hs : ∀ r ∈ rows, r.length = s)
    (hc : ∀ i (h : i < n), ∀ j, j < s → w.cell? ((a.add (i * s)).add j) = (rows[i]'(by omega))[j]?) : Reads w B s (some a) n rows.flatten := by
  refine ⟨by rw [flatten_len hs, hl], fun hn => ⟨a, rfl, hb hn, fun j u hu => ?_⟩⟩
  have hlt : j < n * s := by
    have h0 := (List.getElem?_eq_some_iff.1 hu).1
    rw [flatten_len hs, hl] at h0
    exact h0
  have hs0 : 0 < s := by
    rcases Nat.eq_zero_or_pos s with h | h
    · subst h; simp at hlt
    · exact h
  have hi : j / s < n := by rw [Nat.div_lt_iff_lt_mul hs0]; exact hlt
  have hm : j % s < s := Nat.mod_lt _ hs0
  have e : j / s * s + j % s = j := by rw [Nat.mul_comm]; exact Nat.div_add_mod j s
  have h1 := hc (j / s) hi (j % s) hm
  rw [add_of_add, e] at h1
  rw [h1, ← flatten_get hs (j / s) (j % s) hm (by omega), e]
  exact hu

/-- A slice argument: its rows. 'E': what the element's reading says of its cells. -/
theorem open_rows {t e : TypeId} {s B b0 : Nat} {v : Value} {d : DataW H} {ps : List MemPlace} (ht : P.underlying t = some (.slice e)) (hs : P.cellsOf e = s) (hs0 : 0 < s)
    (hv : Value.okWide P w .any b0 t v) (h : DataW.Trod enc P w base spare held t v d ps) (hlt : ∀ p ∈ ps, p.block < B) (hsp : ∀ a, spare a = true)
    (E : List Value → Prop) (hE : ∀ n cs' y, DataW.trod enc P w base spare held n e cs' = some y → (∀ p ∈ y.2, p.block < B) → E cs') :
    ∃ (A : Option Addr) (len cap : Nat) (rows : List (List Value)), v = .slice A len cap ∧ len ≤ cap ∧ cap ≤ maxLen ∧ rows.length = len ∧ Reads w B s A len rows.flatten ∧ ∀ r ∈ rows, r.length = s ∧ E r := by
  obtain ⟨A, len, cap, rfl⟩ := okWide_slice ht hv
  obtain ⟨fuel, hf⟩ := h
  rcases open_slice ht hf with ⟨hcs, _⟩ | ⟨a, len', cap', m, n, D, Pl, hcs, hba, hl, hm, hmm, hx, hi⟩
  · simp [Value.cells] at hcs
    obtain ⟨rfl, rfl, rfl⟩ := hcs
    exact ⟨none, 0, 0, [], rfl, Nat.le_refl _, Nat.zero_le _, rfl, Reads.none_, fun r hr => by cases hr⟩
  · simp [Value.cells] at hcs
    obtain ⟨rfl, rfl, rfl⟩ := hcs
    rw [hsp a.block, if_pos rfl] at hmm
    subst hmm
    simp only [Prod.mk.injEq] at hx
    rw [hs] at hx hi
    have hget : ∀ i, i < len → ∃ cs', (cs'.length = s ∧ ∀ j, j < s → w.cell? ((a.add (i * s)).add j) = cs'[j]?) ∧ E cs' := fun i h => by
      obtain ⟨cs', hc, htr⟩ := hi i (by omega)
      obtain ⟨_, h1, h2⟩ := World.cells?_some hc
      refine ⟨cs', ⟨h1, h2⟩, hE n cs' _ htr (fun p hp => hlt p ?_)⟩
      rw [hx.2, List.mem_append, List.mem_flatMap]
      exact .inr ⟨i, by simp; omega, hp⟩
    have hch : ∃ rows : List (List Value), rows.length = len ∧ ∀ i (h : i < rows.length), (rows[i].length = s ∧ ∀ j, j < s → w.cell? ((a.add (i * s)).add j) = rows[i][j]?) ∧ E rows[i] := by
      refine ⟨List.ofFn fun i : Fin len => (hget i.1 i.2).choose, by simp, fun i h => ?_⟩
      simp only [List.length_ofFn] at h
      simp only [List.getElem_ofFn]
      exact (hget i h).choose_spec
    obtain ⟨rows, hrl, hrows⟩ := hch
    have hall : ∀ r ∈ rows, r.length = s ∧ E r := fun r hr => by
      obtain ⟨i, hi, rfl⟩ := List.getElem_of_mem hr
      exact ⟨(hrows i hi).1.1, (hrows i hi).2⟩
    refine ⟨some a, len, _, rows, rfl, hl, hm, hrl, reads_of_rows (fun hn => ?_) hrl (fun r hr => (hall r hr).1) (fun i h j hj => (hrows i (by omega)).1.2 j hj), hall⟩
    refine hlt (.cell a.block (a.off + 0)) ?_
    rw [hx.2, List.mem_append]
    left
    unfold MemPlace.row
    rw [List.mem_map]
    refine ⟨0, ?_, rfl⟩
    rw [List.mem_range]
    exact Nat.mul_pos (by omega) hs0

/-- A slice of integers. -/
theorem open_words {t e : TypeId} {κ : IntKind} {B b0 : Nat} {v : Value} {d : DataW H} {ps : List MemPlace} (ht : P.underlying t = some (.slice e)) (he : P.underlying e = some (.int κ)) (hs : P.cellsOf e = 1)
    (hv : Value.okWide P w .any b0 t v) (h : DataW.Trod enc P w base spare held t v d ps) (hlt : ∀ p ∈ ps, p.block < B) (hsp : ∀ a, spare a = true) :
    ∃ A len cap l, v = .slice A len cap ∧ len ≤ cap ∧ cap ≤ maxLen ∧ l.length = len ∧ Reads w B 1 A len (ints κ l) ∧ ∀ x ∈ l, (Lit.int κ x).wf = true := by
  obtain ⟨A, len, cap, rows, hv, h1, h2, h3, h4, h5⟩ := open_rows ht hs (by omega) hv h hlt hsp (fun cs => ∃ x, cs = [.int κ x] ∧ (Lit.int κ x).wf = true) (fun n cs' y hy _ => by
    obtain ⟨x, h1, _, h3⟩ := DataW.trod_int he hy
    exact ⟨x, h1, h3⟩)
  have key : ∀ rows : List (List Value), (∀ r ∈ rows, r.length = 1 ∧ ∃ x, r = [Value.int κ x] ∧ (Lit.int κ x).wf = true) → ∃ l : List Int, l.length = rows.length ∧ ints κ l = rows.flatten ∧ ∀ x ∈ l, (Lit.int κ x).wf = true := by
    intro rows
    induction rows with
    | nil => intro _; exact ⟨[], rfl, rfl, by simp⟩
    | cons r rows ih =>
      intro h
      obtain ⟨l, e1, e2, e3⟩ := ih (fun r hr => h r (by simp [hr]))
      obtain ⟨x, rfl, hx⟩ := (h r (by simp)).2
      refine ⟨x :: l, by simp [e1], by simp [← e2, ints], fun y hy => ?_⟩
      rcases List.mem_cons.1 hy with rfl | hy
      · exact hx
      · exact e3 y hy
  obtain ⟨l, e1, e2, e3⟩ := key rows h5
  exact ⟨A, len, cap, l, hv, h1, h2, by omega, by rw [e2]; exact h4, e3⟩

/-- A slice of structs of two words. -/
theorem open_pairs {t e : TypeId} {f0 f1 : Field} {B b0 : Nat} {v : Value} {d : DataW H} {ps : List MemPlace} (ht : P.underlying t = some (.slice e)) (he : P.underlying e = some (.struct #[f0, f1]))
    (hone : oneCellFields P #[f0, f1] = true) (hf0 : P.underlying f0.type = some (.int .u64)) (hf1 : P.underlying f1.type = some (.int .u64)) (hs : P.cellsOf e = 2)
    (hv : Value.okWide P w .any b0 t v) (h : DataW.Trod enc P w base spare held t v d ps) (hlt : ∀ p ∈ ps, p.block < B) (hsp : ∀ a, spare a = true) :
    ∃ A len cap l, v = .slice A len cap ∧ len ≤ cap ∧ cap ≤ maxLen ∧ l.length = len ∧ Reads w B 2 A len (rec2 l) ∧ ∀ r ∈ l, W64 r.1 ∧ W64 r.2 := by
  obtain ⟨A, len, cap, rows, hv, h1, h2, h3, h4, h5⟩ := open_rows ht hs (by omega) hv h hlt hsp (fun cs => cs.length = 2 → ∃ x y, cs = [.int .u64 x, .int .u64 y] ∧ W64 x ∧ W64 y) (fun n cs' z hy _ hl => by
    obtain ⟨ys, n', hn', hy', hlen, hyl, hf⟩ := DataW.trod_struct he hy
    match cs', hl with
    | [a, b], _ =>
      obtain ⟨o0, k0⟩ := hone_of hone 0 f0 rfl
      obtain ⟨o1, k1⟩ := hone_of hone 1 f1 rfl
      match ys, hyl with
      | [y0, y1], _ =>
        have g0 := hf 0 f0 rfl
        have g1 := hf 1 f1 rfl
        simp [o0, o1, k0, k1] at g0 g1
        obtain ⟨x, hx, _, wx⟩ := DataW.trod_int hf0 g0
        obtain ⟨y, hy, _, wy⟩ := DataW.trod_int hf1 g1
        simp at hx hy
        exact ⟨x, y, by rw [hx, hy], W64.of_wf wx, W64.of_wf wy⟩)
  have key : ∀ rows : List (List Value), (∀ r ∈ rows, r.length = 2 ∧ (r.length = 2 → ∃ x y, r = [Value.int .u64 x, .int .u64 y] ∧ W64 x ∧ W64 y)) → ∃ l : List (Int × Int), l.length = rows.length ∧ rec2 l = rows.flatten ∧ ∀ r ∈ l, W64 r.1 ∧ W64 r.2 := by
    intro rows
    induction rows with
    | nil => intro _; exact ⟨[], rfl, rfl, by simp⟩
    | cons r rows ih =>
      intro h
      obtain ⟨l, e1, e2, e3⟩ := ih (fun r hr => h r (by simp [hr]))
      obtain ⟨h1, h2⟩ := h r (by simp)
      obtain ⟨x, y, rfl, hx, hy⟩ := h2 h1
      refine ⟨(x, y) :: l, by simp [e1], by simp [← e2, rec2], fun z hz => ?_⟩
      rcases List.mem_cons.1 hz with rfl | hz
      · exact ⟨hx, hy⟩
      · exact e3 z hz
  obtain ⟨l, e1, e2, e3⟩ := key rows h5
  exact ⟨A, len, cap, l, hv, h1, h2, by omega, by rw [e2]; exact h4, e3⟩

/-- A struct by value, whatever its one-cell fields: its cells, each with its own reading. -/
theorem open_flat {t : TypeId} {fs : Array Field} {b0 : Nat} {v : Value} {d : DataW H} {ps : List MemPlace} (ht : P.underlying t = some (.struct fs)) (hone : oneCellFields P fs = true) (hC : P.cellsOf t = fs.size)
    (hv : Value.okWide P w .any b0 t v) (h : DataW.Trod enc P w base spare held t v d ps) :
    ∃ l : List Value, v = .agg l.toArray ∧ l.length = fs.size ∧ ∀ (j : Nat) (f : Field), fs[j]? = some f → ∃ x n y, l[j]? = some x ∧ DataW.trod enc P w base spare held n f.type [x] = some y ∧ ∀ p ∈ y.2, p ∈ ps := by
  obtain ⟨cs, rfl, hsz⟩ := okWide_struct ht hv
  obtain ⟨l⟩ := cs
  have hl : l.length = fs.size := by simpa using hsz.trans hC
  obtain ⟨fuel, hf⟩ := h
  obtain ⟨ys, n, _, hx, _, hlen, hg⟩ := DataW.trod_struct ht hf
  simp only [Prod.mk.injEq] at hx
  refine ⟨l, rfl, hl, fun j f hj => ?_⟩
  obtain ⟨ho, hk⟩ := hone_of hone j f hj
  have hjl : j < fs.size := (Array.getElem?_eq_some_iff.1 hj).1
  have h1 := hg j f hj
  rw [ho, hk] at h1
  have hone' : ((Value.agg l.toArray).cells.toList.drop j).take 1 = [l[j]'(by omega)] := by
    show (l.drop j).take 1 = _
    rw [List.drop_eq_getElem_cons (by omega)]
    rfl
  rw [hone'] at h1
  have hys : ys[j]? = some (ys[j]'(by omega)) := List.getElem?_eq_getElem (by omega)
  refine ⟨l[j]'(by omega), n, ys[j]'(by omega), List.getElem?_eq_getElem (by omega), h1.trans hys, fun p hp => ?_⟩
  rw [hx.2, List.mem_flatMap]
  exact ⟨ys[j]'(by omega), List.getElem_mem _, hp⟩

/-- A struct of five ints by value. -/
theorem open_five {t : TypeId} {κ : IntKind} {f0 f1 f2 f3 f4 : Field} {b0 : Nat} {v : Value} {d : DataW H} {ps : List MemPlace} (ht : P.underlying t = some (.struct #[f0, f1, f2, f3, f4])) (hone : oneCellFields P #[f0, f1, f2, f3, f4] = true) (hC : P.cellsOf t = 5)
    (k0 : P.underlying f0.type = some (.int κ)) (k1 : P.underlying f1.type = some (.int κ)) (k2 : P.underlying f2.type = some (.int κ)) (k3 : P.underlying f3.type = some (.int κ)) (k4 : P.underlying f4.type = some (.int κ))
    (hv : Value.okWide P w .any b0 t v) (h : DataW.Trod enc P w base spare held t v d ps) :
    ∃ a0 a1 a2 a3 a4, v = .agg #[.int κ a0, .int κ a1, .int κ a2, .int κ a3, .int κ a4] ∧ (Lit.int κ a0).wf = true ∧ (Lit.int κ a1).wf = true ∧ (Lit.int κ a2).wf = true ∧ (Lit.int κ a3).wf = true ∧ (Lit.int κ a4).wf = true := by
  obtain ⟨l, rfl, hl, hf⟩ := open_flat ht hone hC hv h
  match l, hl with
  | [x0, x1, x2, x3, x4], _ =>
    obtain ⟨y0, n0, z0, e0, g0, _⟩ := hf 0 f0 rfl
    obtain ⟨y1, n1, z1, e1, g1, _⟩ := hf 1 f1 rfl
    obtain ⟨y2, n2, z2, e2, g2, _⟩ := hf 2 f2 rfl
    obtain ⟨y3, n3, z3, e3, g3, _⟩ := hf 3 f3 rfl
    obtain ⟨y4, n4, z4, e4, g4, _⟩ := hf 4 f4 rfl
    obtain ⟨a0, h0, _, w0⟩ := DataW.trod_int k0 g0
    obtain ⟨a1, h1, _, w1⟩ := DataW.trod_int k1 g1
    obtain ⟨a2, h2, _, w2⟩ := DataW.trod_int k2 g2
    obtain ⟨a3, h3, _, w3⟩ := DataW.trod_int k3 g3
    obtain ⟨a4, h4, _, w4⟩ := DataW.trod_int k4 g4
    simp at e0 e1 e2 e3 e4 h0 h1 h2 h3 h4
    exact ⟨a0, a1, a2, a3, a4, by rw [e0, e1, e2, e3, e4, h0, h1, h2, h3, h4], w0, w1, w2, w3, w4⟩
end
end Go.Proofs.YtgcdmgpcfdfomaaDoor
