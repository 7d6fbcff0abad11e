/-
  A range over a function whose loop variable is a struct: each round's assignment lays a new block.
-/
import Derived.Test.YthmkhcmgpkngmaaDoorLvb
namespace Go.Proofs.YthmkhcmgpkngmaaDoor
open Go.RowKit Go.Shelf

section
variable {P : Program} {α : Type} {n gf N : Nat} {g : Operand} {ps : Array Tmp} {assign body : Code} {Q : Exit → Act → World → Prop} {a : Act} {w : World} {lb : Array Value} {encs : α → Array Value} {Kp : World → World → Prop} {S : List α → Prop}

/-- What a round's body comes to: it goes on, and keeps its word. -/
def goesOn (B : Nat) (Kp : World → World → Prop) (I : List α → World → Prop) (xs : List α) (W : World) : Exit → Act → World → Prop
  | .normal, _, W' => KeepsFrom B W W' ∧ Kp W W' ∧ I xs W'
  | _, _, _ => False

theorem rangeFunc_laid (h1 : 1 ≤ n) (hg : a.eval g = .func (.func gf) #[] lb) (eg : ∀ args w, (callFunc gf args).run P w = .ok (.enter gf args) w)
    (hseq : SeqStopsK Fence.wide (n - 1) P gf lb encs Kp S (fun _ => True) N w) (hKt : ∀ {A B C : World}, Kp A B → Kp B C → Kp A C) (hKb : ∀ (W : World) (l : Nat) (o o' : Obj), W.heap[l]? = some o → o.isCells = false → Kp W (W.putObj l o'))
    (o : α → Obj) (hKa : ∀ (W : World) (x : α), Kp W (W.alloc (o x))) (hps : ∀ x, (encs x).size = ps.size) (I : List α → World → Prop) (hI : OwnFrom w.heap.size I) (h0 : I [] w) (a₁ : α → Nat → Act)
    (hassign : ∀ (l : Nat) (x : α) (W : World) (K : Act → World → Prop), K (a₁ x W.heap.size) (W.alloc (o x)) →
      assign.wpIn (Fence.wide.inRound l) (n - 1 - 1) P (Exit.then K (fun _ _ _ => False)) { tmps := (ps.zip (encs x)).foldl (fun t (p, v) => t.setIfInBounds p v) a.tmps, defers := [] } W)
    (hbody : ∀ (l : Nat) (pre : List α) (x : α) (b : Nat) (W : World), W.heap[b]? = some (o x) → w.heap.size ≤ b → I pre W → pre.length < N → body.wpIn (Fence.wide.inRound l) (n - 1 - 1) P (goesOn w.heap.size Kp I (pre ++ [x]) W) (a₁ x b) W)
    (hdone : ∀ (D : Nat) (xs : List α) (W : World), w.heap.size ≤ D → S xs → I xs W → W.heap[D]? = some (.deferred (some [])) → Q .normal { a with defers := { target := .collected D, args := #[] } :: a.defers } W) :
    (Code.rangeFunc g ps assign body).wpIn Fence.wide n P Q a w := by
  refine wpIn_rangeFunc fun fn hfn => ?_
  obtain ⟨lp, hlp⟩ : ∃ lp : LoopState → Loop, lp = fun st => { state := st, pending := none, fn, tmps := a.tmps, params := ps, assign, body, defers := w.heap.size } := ⟨_, rfl⟩
  have hD : (w.alloc (.deferred (some []))).heap[w.heap.size]? = some (.deferred (some [])) := World.alloc_heap_new w _
  obtain ⟨w1, hw1⟩ : ∃ w1, (w.alloc (.deferred (some []))).alloc (.loop (lp .ready)) = w1 := ⟨_, rfl⟩
  have e1 : w1.heap[w.heap.size + 1]? = some (.loop (lp .ready)) := by
    have := World.alloc_heap_new (w.alloc (.deferred (some []))) (.loop (lp .ready))
    rw [World.size_alloc] at this
    rw [← hw1]; exact this
  have e2 : w1.heap[w.heap.size]? = some (.deferred (some [])) := by
    rw [← hw1]; exact (Below.heap_alloc _ _ _ (by simp)).trans hD
  have hb1 : Below w.heap.size w w1 := by
    rw [← hw1]; exact ((Below.refl _ w).alloc (Nat.le_refl _) _).alloc (by simp) _
  have i1 : I [] w1 := by rw [← hw1]; exact hI.alloc _ (hI.alloc _ h0)
  refine ⟨w.heap.size + 1, [{ target := .collected w.heap.size, args := #[] }], w1, { target := .fn (.func gf) lb, args := #[.func (.yield (w.heap.size + 1)) #[] #[]] }, w1, gf,
    #[.func (.yield (w.heap.size + 1)) #[] #[]] ++ lb, w1, ?_, ?_, ?_, ?_, fun _ => h1, ?_⟩
  · rw [← hw1, hlp]; exact run_enterLoop_outer _ _ _ _ _
  · simp only [resolve, hg]
    simp [go_sem]
  · intro f' hf'; simp [Target.leads] at hf'; subst hf'; trivial
  · simp [invoke, go_sem, eg]
  -- the function's contract at the rounds' relation
  have walkCells : ∀ {A : World} {row : Option Nat}, (∀ r, row = some r → w1.heap.size ≤ r ∧ ∃ o : Obj, A.heap[r]? = some o ∧ o.isWalk = true) → ∀ r, row = some r → w.heap.size ≤ r ∧ ∃ o : Obj, A.heap[r]? = some o ∧ o.isCells = false := fun hr r e => by
    obtain ⟨h, ob, h2, h3⟩ := hr r e
    exact ⟨Nat.le_trans hb1.size h, ob, h2, Obj.not_cells_of_walk h3⟩
  refine (hseq (w.heap.size + 1) (fun pre W => I pre W ∧ W.heap[w.heap.size + 1]? = some (.loop (lp .ready)) ∧ W.heap[w.heap.size]? = some (.deferred (some []))) (fun _ _ => False) w1 hb1
    (fun pre A B row hs hg' hr => ⟨hI pre A B row hs.1 hg' (walkCells hr), (grownBy_keeps hg' (fun r e => (hr r e).2) hs.2.1 rfl).trans hs.2.1, (grownBy_keeps hg' (fun r e => (hr r e).2) hs.2.2 rfl).trans hs.2.2⟩)
    (fun _ _ _ _ hs _ _ => hs) ?_ ⟨i1, e1, e2⟩).mono ?_
  · rintro pre x W ⟨hi, hl, hd⟩ hlen
    have hlt : w.heap.size + 1 < W.heap.size := (Array.getElem?_eq_some_iff.1 hl).1
    have hy := run_yield (P := P) (args := encs x) hl (by rw [hlp]; exact hps x)
    rw [hlp] at hy
    -- behind the assignment: a new block
    have hl2 : (W.alloc (o x)).heap[w.heap.size + 1]? = some (.loop (lp .ready)) := (Below.heap_alloc W (o x) _ hlt).trans hl
    have hd2 : (W.alloc (o x)).heap[w.heap.size]? = some (.deferred (some [])) := (Below.heap_alloc W (o x) _ (by omega)).trans hd
    have hn2 : (W.alloc (o x)).heap[W.heap.size]? = some (o x) := World.alloc_heap_new W _
    have hbr := run_beginRound (P := P) hl2 (by rw [hlp])
    refine ⟨fn, _, assign, body, hy, roundIn_of_wpIn hfn (hassign _ x W _ ⟨_, hbr, ?_⟩)⟩
    -- the round's own book-keeping
    have hlt2 : w.heap.size + 1 < (W.alloc (o x)).heap.size := by rw [World.size_alloc]; omega
    obtain ⟨X, hX⟩ : ∃ X, (W.alloc (o x)).putObj (w.heap.size + 1) (.loop { lp .ready with state := .busy }) = X := ⟨_, rfl⟩
    have hlX : X.heap[w.heap.size + 1]? = some (.loop { lp .ready with state := .busy }) := by rw [← hX]; exact World.putObj_heap_same hlt2
    have hdX : X.heap[w.heap.size]? = some (.deferred (some [])) := by rw [← hX]; exact (World.putObj_heap_other (by omega)).trans hd2
    have hnX : X.heap[W.heap.size]? = some (o x) := by rw [← hX]; exact (World.putObj_heap_other (by omega)).trans hn2
    have iX : I pre X := by rw [← hX]; exact hI.putObj _ (hI.alloc _ hi) (by omega) hl2 rfl
    have kX : Kp W X := by rw [← hX]; exact hKt (hKa W x) (hKb _ _ _ _ hl2 rfl)
    rw [hX]
    refine wpIn_mono (hbody _ pre x W.heap.size X hnX (by omega) iX hlen) ?_
    rintro e a3 W3 hp
    cases e with
    | normal =>
      obtain ⟨hk, hkp, hi3⟩ := hp
      have hl3 := hk.same _ _ (by omega) hlX rfl
      have hd3 := hk.same _ _ (by omega) hdX rfl
      have hend := run_endRound (P := P) none hl3
      refine ⟨_, _, hend, .inl ⟨rfl, ⟨hI.putObj _ hi3 (by omega) hl3 rfl, ?_, (World.putObj_heap_other (by omega)).trans hd3⟩, hKt (hKt kX hkp) (hKb _ _ _ _ hl3 rfl)⟩⟩
      have := World.putObj_heap_same (w := W3) (o := .loop { { lp .ready with state := .busy } with state := if (none : Option Code).isNone then .ready else .done, pending := none }) (Array.getElem?_eq_some_iff.1 hl3).1
      rw [this, hlp]
      rfl
    | _ => exact hp.elim
  · rintro e W2 ⟨⟨v, rfl⟩, (⟨xs, hS, hi, hl, hd⟩ | ⟨_, _, h⟩)⟩
    · have hend := run_endLoop (P := P) hl (by rw [hlp]; simp)
      rw [hlp] at hend
      exact ⟨none, _, hend, hdone _ xs _ (Nat.le_refl _) hS (hI.putObj _ hi (by omega) hl rfl) ((World.putObj_heap_other (by omega)).trans hd)⟩
    · exact h.elim
end
end Go.Proofs.YthmkhcmgpkngmaaDoor
