/-
  Nodes by value, as arguments.
-/
import Derived.Test.YtcmoblibjhaegaaOpen
import Derived.Test.YtcmoblibjhaegaaLeafC
namespace Go.Proofs.Ytcmoblibjhaegaa
open Go.ChangeShapes Go.WideShapes Go.ChangeAt Go.RowKit Go.Deep

section
variable {H : Type} {enc : TypeId × Value → H} {P : Program} {w : World} {spare : Nat → Bool} {held : Bool} {base : Nat}
/-- A slice argument: its rows. 'E': what the element's reading says of its cells. -/
theorem open_rowsF {t e : TypeId} {s B : Nat} {v : Value} {d : DataW H} {ps : List MemPlace} (ht : P.underlying t = some (.slice e)) (hs : P.cellsOf e = s) (hs0 : 0 < s)
    (hv : ∃ A len cap, v = .slice A len cap) (h : DataW.Trod enc P w base spare held t v d ps) (hlt : ∀ p ∈ ps, p.block < B) (hsp : ∀ a, spare a = true)
    (E : List Value → Prop) (hE : ∀ n cs' y, DataW.trod enc P w base spare held n e cs' = some y → (∀ p ∈ y.2, p.block < B) → E cs') :
    ∃ (A : Option Addr) (len cap : Nat) (rows : List (List Value)), v = .slice A len cap ∧ len ≤ cap ∧ cap ≤ maxLen ∧ rows.length = len ∧ Reads w B s A len rows.flatten ∧ ∀ r ∈ rows, r.length = s ∧ E r := by
  obtain ⟨A, len, cap, rfl⟩ := hv
  obtain ⟨fuel, hf⟩ := h
  rcases open_slice ht hf with ⟨hcs, _⟩ | ⟨a, len', cap', m, n, D, Pl, hcs, hba, hl, hm, hmm, hx, hi⟩
  · simp [Value.cells] at hcs
    obtain ⟨rfl, rfl, rfl⟩ := hcs
    exact ⟨none, 0, 0, [], rfl, Nat.le_refl _, Nat.zero_le _, rfl, Reads.none_, fun r hr => by cases hr⟩
  · simp [Value.cells] at hcs
    obtain ⟨rfl, rfl, rfl⟩ := hcs
    rw [hsp a.block, if_pos rfl] at hmm
    subst hmm
    simp only [Prod.mk.injEq] at hx
    rw [hs] at hx hi
    have hget : ∀ i, i < len → ∃ cs', (cs'.length = s ∧ ∀ j, j < s → w.cell? ((a.add (i * s)).add j) = cs'[j]?) ∧ E cs' := fun i h => by
      obtain ⟨cs', hc, htr⟩ := hi i (by omega)
      obtain ⟨_, h1, h2⟩ := World.cells?_some hc
      refine ⟨cs', ⟨h1, h2⟩, hE n cs' _ htr (fun p hp => hlt p ?_)⟩
      rw [hx.2, List.mem_append, List.mem_flatMap]
      exact .inr ⟨i, by simp; omega, hp⟩
    have hch : ∃ rows : List (List Value), rows.length = len ∧ ∀ i (h : i < rows.length), (rows[i].length = s ∧ ∀ j, j < s → w.cell? ((a.add (i * s)).add j) = rows[i][j]?) ∧ E rows[i] := by
      refine ⟨List.ofFn fun i : Fin len => (hget i.1 i.2).choose, by simp, fun i h => ?_⟩
      simp only [List.length_ofFn] at h
      simp only [List.getElem_ofFn]
      exact (hget i h).choose_spec
    obtain ⟨rows, hrl, hrows⟩ := hch
    have hall : ∀ r ∈ rows, r.length = s ∧ E r := fun r hr => by
      obtain ⟨i, hi, rfl⟩ := List.getElem_of_mem hr
      exact ⟨(hrows i hi).1.1, (hrows i hi).2⟩
    refine ⟨some a, len, _, rows, rfl, hl, hm, hrl, reads_of_rows (fun hn => ?_) hrl (fun r hr => (hall r hr).1) (fun i h j hj => (hrows i (by omega)).1.2 j hj), hall⟩
    refine hlt (.cell a.block (a.off + 0)) ?_
    rw [hx.2, List.mem_append]
    left
    unfold MemPlace.row
    rw [List.mem_map]
    refine ⟨0, ?_, rfl⟩
    rw [List.mem_range]
    exact Nat.mul_pos (by omega) hs0

/-- A slice of integers. -/
theorem open_wordsF {t e : TypeId} {κ : IntKind} {B : Nat} {v : Value} {d : DataW H} {ps : List MemPlace} (ht : P.underlying t = some (.slice e)) (he : P.underlying e = some (.int κ)) (hs : P.cellsOf e = 1)
    (hv : ∃ A len cap, v = .slice A len cap) (h : DataW.Trod enc P w base spare held t v d ps) (hlt : ∀ p ∈ ps, p.block < B) (hsp : ∀ a, spare a = true) :
    ∃ A len cap l, v = .slice A len cap ∧ len ≤ cap ∧ cap ≤ maxLen ∧ l.length = len ∧ Reads w B 1 A len (ints κ l) ∧ ∀ x ∈ l, (Lit.int κ x).wf = true := by
  obtain ⟨A, len, cap, rows, hv, h1, h2, h3, h4, h5⟩ := open_rowsF ht hs (by omega) hv h hlt hsp (fun cs => ∃ x, cs = [.int κ x] ∧ (Lit.int κ x).wf = true) (fun n cs' y hy _ => by
    obtain ⟨x, h1, _, h3⟩ := DataW.trod_int he hy
    exact ⟨x, h1, h3⟩)
  have key : ∀ rows : List (List Value), (∀ r ∈ rows, r.length = 1 ∧ ∃ x, r = [Value.int κ x] ∧ (Lit.int κ x).wf = true) → ∃ l : List Int, l.length = rows.length ∧ ints κ l = rows.flatten ∧ ∀ x ∈ l, (Lit.int κ x).wf = true := by
    intro rows
    induction rows with
    | nil => intro _; exact ⟨[], rfl, rfl, by simp⟩
    | cons r rows ih =>
      intro h
      obtain ⟨l, e1, e2, e3⟩ := ih (fun r hr => h r (by simp [hr]))
      obtain ⟨x, rfl, hx⟩ := (h r (by simp)).2
      refine ⟨x :: l, by simp [e1], by simp [← e2, ints], fun y hy => ?_⟩
      rcases List.mem_cons.1 hy with rfl | hy
      · exact hx
      · exact e3 y hy
  obtain ⟨l, e1, e2, e3⟩ := key rows h5
  exact ⟨A, len, cap, l, hv, h1, h2, by omega, by rw [e2]; exact h4, e3⟩

end
section
variable {H : Type} {enc : TypeId × Value → H} {w : World} {spare : Nat → Bool} {held : Bool} {base : Nat}
/-- A slice of words in a struct's field. -/
theorem open_field {B n : Nat} {x : Value} {y : DataW H × List MemPlace} (g : DataW.trod enc Try.prog w base spare held n 25 [x] = some y) (hlt : ∀ p ∈ y.2, p.block < B) (hsp : ∀ a, spare a = true) : ∃ l, Sl w B x l ∧ ∀ z ∈ l, W64 z := by
  have hx : ∃ A len cap, x = .slice A len cap := by
    rcases open_slice Try.underlying25 g with ⟨hcs, _⟩ | ⟨a, len', cap', m, n, D, Pl, hcs, _⟩
    · simp only [List.cons.injEq, and_true] at hcs
      exact ⟨_, _, _, hcs⟩
    · simp only [List.cons.injEq, and_true] at hcs
      exact ⟨_, _, _, hcs⟩
  obtain ⟨A0, l0, c0, rfl⟩ := hx
  obtain ⟨A, len, cap, l, h1, h2, h3, h4, h5, h6⟩ := open_wordsF (v := .slice A0 l0 c0) (d := y.1) (ps := y.2) Try.underlying25 Try.underlying22 (by kernel_rfl) ⟨_, _, _, rfl⟩ ⟨n, by simpa [Value.cells] using g⟩ hlt hsp
  refine ⟨l, ⟨A, cap, by rw [h1, h4], by omega, by unfold maxLen at h3; omega, by rw [h4]; exact h5⟩, fun z hz => W64.of_wf (h6 z hz)⟩
set_option maxRecDepth 100000 in
/-- A node by value. -/
theorem open_node {B b0 : Nat} {v : Value} {d : DataW H} {ps : List MemPlace} (hv : Value.okWide Try.prog w .any b0 27 v) (h : DataW.Trod enc Try.prog w base spare held 27 v d ps) (hlt : ∀ p ∈ ps, p.block < B) (hsp : ∀ a, spare a = true) :
    ∃ b ks vs l, Nd w B v b ks vs l ∧ W64 l ∧ (∀ z ∈ ks, W64 z) ∧ (∀ z ∈ vs, W64 z) := by
  obtain ⟨xs, rfl, hxl, hf⟩ := open_flat Try.underlying27 (by kernel_rfl) (by kernel_rfl) hv h
  match xs, hxl with
  | [x0, x1, x2, x3], _ =>
    obtain ⟨y0, n0, z0, e0, g0, q0⟩ := hf 0 _ rfl
    obtain ⟨y1, n1, z1, e1, g1, q1⟩ := hf 1 _ rfl
    obtain ⟨y2, n2, z2, e2, g2, q2⟩ := hf 2 _ rfl
    obtain ⟨y3, n3, z3, e3, g3, q3⟩ := hf 3 _ rfl
    obtain ⟨b, h0', _⟩ := DataW.trod_bool Try.underlying4 g0
    obtain ⟨ks, hk, wk⟩ := open_field g1 (fun p hp => hlt p (q1 p hp)) hsp
    obtain ⟨vs, hvs, wv⟩ := open_field g2 (fun p hp => hlt p (q2 p hp)) hsp
    obtain ⟨l, h3', _, w3⟩ := DataW.trod_int Try.underlying22 g3
    simp at e0 e1 e2 e3 h0' h3'
    exact ⟨b, ks, vs, l, ⟨y1, y2, by rw [e0, e1, e2, e3, h0', h3'], hk, hvs⟩, W64.of_wf w3, wk, wv⟩
end
end Go.Proofs.Ytcmoblibjhaegaa
