/-
  A map from words to bools that the call itself makes: what stands at a key, behind a store.
-/
import Derived.Test.YtenoekfcffkpeaaMem
import Derived.Test.YtenoekfcffkpeaaPlain
import Derived.Maps.Own
import Derived.Maps.OwnOps
import Derived.Maps.Views
namespace Go.Proofs.Ytenoekfcffkpeaa
open Go.RowKit Go.Maps

theorem lawU64 : Keyed Try.prog 26 := int_keyed Try.underlying26
theorem zeroBool (w : World) : (zeroValue 4).run Try.prog w = .ok (.bool false) w := by kernel_rfl

theorem plainElem_bool_inv {H : Type} {P : Program} {e : TypeId} (he : P.underlying e = some .bool) {v : Value} {z : DataW H × List MemPlace} (h : plainElem P e v = some z) : ∃ a, v = .bool a ∧ z = (.lit (.bool a), []) := by
  unfold plainElem at h
  rw [he] at h
  cases v <;> simp at h
  exact ⟨_, rfl, h.symm⟩

/-- Block b is a map of at most n entries that answers f. -/
def MapIs (w : World) (b n : Nat) (f : Int → Bool) : Prop :=
  ∃ D : DataW Unit, IsMap D ∧ w.ownsMap Try.prog 26 (plainElem Try.prog 4) b n D ∧ ∀ k : Int, (Lit.int .u64 k).wf = true → D.atKey (.int .u64 k) (.lit (.bool false)) = .lit (.bool (f k))

theorem MapIs.made (w : World) : MapIs (w.alloc (.map #[] 0)) w.heap.size 0 (fun _ => false) :=
  ⟨.map [], ⟨[], rfl⟩, World.ownsMap_made _ _ _ _, fun _ _ => rfl⟩
theorem MapIs.below {w w' : World} {b n : Nat} {f : Int → Bool} (h : MapIs w b n f) (hb : Below w.heap.size w w') : MapIs w' b n f := by
  obtain ⟨D, hi, ho, ha⟩ := h
  exact ⟨D, hi, ho.kept (row := none) ⟨hb.os, hb.tape, hb.output, hb.size, fun k hk _ => hb.block k hk⟩ (by simp), ha⟩
theorem MapIs.below' {w w' : World} {b n B : Nat} {f : Int → Bool} (h : MapIs w b n f) (hB : b < B) (hb : Below B w w') : MapIs w' b n f := by
  obtain ⟨D, hi, ⟨es, cl, hh, r⟩, ha⟩ := h
  exact ⟨D, hi, ⟨es, cl, (hb.block b hB).trans hh, r⟩, ha⟩
theorem MapIs.alloc {w : World} {b n : Nat} {f : Int → Bool} (h : MapIs w b n f) (o : Obj) : MapIs (w.alloc o) b n f := by
  obtain ⟨D, hi, ho, ha⟩ := h
  exact ⟨D, hi, ho.alloc o, ha⟩
theorem MapIs.lt {w : World} {b n : Nat} {f : Int → Bool} (h : MapIs w b n f) : b < w.heap.size := by
  obtain ⟨D, hi, ho, ha⟩ := h
  exact ho.lt

theorem MapIs.look {w : World} {b n : Nat} {f : Int → Bool} (h : MapIs w b n f) (x : Int) (hx : (Lit.int .u64 x).wf = true) :
    (Instr.lookup 47 (.map (some b)) (.int .u64 x) false).run Try.prog w = .ok (.bool (f x)) w := by
  obtain ⟨D, hi, ho, ha⟩ := h
  obtain ⟨v, ps, hrun, hv⟩ := ho.lookup lawU64 Try.underlying47 (zeroBool w) (plainElem_bool Try.underlying4 false) (keyOf_int_mk Try.underlying26 hx)
  obtain ⟨a, rfl, e⟩ := plainElem_bool_inv Try.underlying4 hv
  have := ha x hx
  simp only [Prod.mk.injEq] at e
  rw [this] at e
  have e' : f x = a := by have := e.1; simpa using this
  rw [hrun, e']

theorem atKey_put {D : DataW Unit} (hi : IsMap D) (x k : Int) (y : Bool) (z : DataW Unit) : (D.put (.int .u64 x) (.lit (.bool y))).atKey (.int .u64 k) z = if k = x then .lit (.bool y) else D.atKey (.int .u64 k) z := by
  by_cases h : k = x
  · subst h
    rw [if_pos rfl]
    exact atKey_put_same hi (by simp [WideAt.IsKeyLit]) _ _
  · rw [if_neg h]
    exact atKey_put_other (fun e => h (by injection e)) _ _

theorem wpList_mapUpdate_bool {w : World} {ops : Array Oper} {rest : List Oper} {o : Oper} {a : Act} {Q : Exit → Act → World → Prop}
    (hg : o.guard = none) (m x v : Operand) (hop : o.op = Op.mapUpdate 47 m x v) {b n : Nat} {f : Int → Bool}
    (hm : a.eval m = .map (some b)) (hown : MapIs w b n f) (hn : n < maxLen) (k : Int) (y : Bool) (hx : a.eval x = .int .u64 k) (hv : a.eval v = .bool y) (hk : (Lit.int .u64 k).wf = true)
    (hK : ∀ w', MapIs w' b (n + 1) (fun j => if j = k then y else f j) → w.grownBy w' (some b) → wpList Try.prog ops Q rest (a.put o.dst undef) w') :
    wpList Try.prog ops Q (o :: rest) a w := by
  obtain ⟨D, hi, ho, ha⟩ := hown
  refine wpList_mapUpdate_own w hg m x v _ hop 26 4 lawU64 Try.underlying47 _ b n D hm ho hn _ _ (.int .u64 k) hx hv (keyOf_int_mk Try.underlying26 hk) (.lit (.bool y)) [] (plainElem_bool Try.underlying4 y) ?_
  intro w' h1 h2
  refine hK w' ⟨_, hi.put _ _, h1, fun j hj => ?_⟩ h2
  rw [atKey_put hi]
  by_cases hjk : j = k
  · simp [hjk]
  · simp only [if_neg hjk]
    exact ha j hj

end Go.Proofs.Ytenoekfcffkpeaa
