/-
  Package leaf: rises, Right, spliced.
-/
import Derived.Test.YtcmoblibjhaegaaSlc
import Derived.Test.YtcmoblibjhaegaaPast
namespace Go.Proofs.Ytcmoblibjhaegaa
open Go.RowKit

/-- Each word is greater than the one ahead. -/
def RiseTo (l : List Int) (m : Nat) : Prop := ∀ i, i + 1 < m → l.getD i 0 < l.getD (i + 1) 0
def riseB (l : List Int) : Bool := (List.range (l.length - 1)).all fun i => decide (l.getD i 0 < l.getD (i + 1) 0)
theorem riseB_iff (l : List Int) : riseB l = true ↔ RiseTo l l.length := by
  unfold riseB RiseTo
  simp only [List.all_eq_true, List.mem_range, decide_eq_true_eq]
  exact ⟨fun h i hi => h i (by omega), fun h i hi => h i (by omega)⟩
theorem riseB_no {l : List Int} {i : Nat} (h : i + 1 < l.length) (hx : ¬ l.getD i 0 < l.getD (i + 1) 0) : riseB l = false := by
  rw [Bool.eq_false_iff]
  intro e
  exact hx ((riseB_iff l).1 e i h)
theorem RiseTo.succ {l : List Int} {m : Nat} (h : RiseTo l m) (hx : l.getD (m - 1) 0 < l.getD m 0) (hm : 1 ≤ m) : RiseTo l (m + 1) := by
  intro i hi
  by_cases e : i + 1 = m
  · subst e
    simpa using hx
  · exact h i (by omega)
theorem riseTo_small {l : List Int} {m : Nat} (h : m ≤ 1) : RiseTo l m := fun i hi => by omega

def RisesIn (l : List Int) (w : World) (i : Value) (wr : World) : Prop :=
  ∃ k j : Nat, j = k + 1 ∧ i = .int .i64 (j : Int) ∧ (j ≤ l.length → RiseTo l j) ∧ (l.length ≤ j → RiseTo l l.length) ∧ k ≤ l.length ∧ Below w.heap.size w wr


/-- A node's value. -/
def Nd (w : World) (B : Nat) (v : Value) (b : Bool) (ks vs : List Int) (l : Int) : Prop := ∃ k u, v = .agg #[.bool b, k, u, .int .u64 l] ∧ Sl w B k ks ∧ Sl w B u vs
theorem Nd.below {w w' : World} {B : Nat} {v : Value} {b : Bool} {ks vs : List Int} {l : Int} (h : Nd w B v b ks vs l) (hb : Below B w w') : Nd w' B v b ks vs l := by
  obtain ⟨k, u, h1, h2, h3⟩ := h
  exact ⟨k, u, h1, h2.below hb, h3.below hb⟩
theorem Nd.more {w : World} {B B' : Nat} {v : Value} {b : Bool} {ks vs : List Int} {l : Int} (h : Nd w B v b ks vs l) (hB : B ≤ B') : Nd w B' v b ks vs l := by
  obtain ⟨k, u, h1, h2, h3⟩ := h
  exact ⟨k, u, h1, h2.more hB, h3.more hB⟩
theorem Nd.zero (w : World) (B : Nat) : Nd w B (.agg #[.bool false, .slice none 0 0, .slice none 0 0, .int .u64 0]) false [] [] 0 := ⟨_, _, rfl, Sl.nil _ _, Sl.nil _ _⟩

def rightB (b : Bool) (ks vs : List Int) : Bool := !b && ks.length == vs.length && riseB ks

end Go.Proofs.Ytcmoblibjhaegaa
