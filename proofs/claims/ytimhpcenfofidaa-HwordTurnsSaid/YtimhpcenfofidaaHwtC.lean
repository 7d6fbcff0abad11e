/-
  The Go function HwordTurns, whatever its slots.
-/
import Derived.Test.YtimhpcenfofidaaHwtB
namespace Go.Proofs.Ytimhpcenfofidaa
open Go.RowKit Go.Shelf
attribute [local go_sem] Oper.semAt_some

set_option maxRecDepth 100000 in
set_option maxHeartbeats 2000000 in
theorem HwordTurns_big (x0 : Int) (A : Option Addr) (m c : Nat) (w : World) (hm : (60 : Int) < (m : Int)) :
    CallsIn Fence.wide 5 Try.prog 4 #[.int .u64 x0, .slice A m c] w fun e W' => e = .returned (.bool true) ∧ Below w.heap.size w W' := by
  refine callsIn_of_wp_marks Try.func4 rfl trivial ?_ rfl
  simp only [Try.ntmps4, List.size_toArray, List.length_cons, List.length_nil, Nat.reduceAdd, Nat.reduceSub, Array.replicate_succ, Array.replicate_zero, List.push_toArray, List.append_toArray, List.nil_append, List.cons_append]
  gi_wp2
  refine ⟨trivial, ?_⟩
  refine (callsIn_wide.2 (awake06 _)).mono ?_
  rintro e w3 ⟨rfl, hb3⟩
  have bR := (Boxed.new (w.alloc (.cells #[.slice A m c] 31)) 4 (.bool false))
  rw [World.size_alloc] at bR
  have bR3 : Boxed w3 (w.heap.size + 1) 4 (.bool false) := (hb3.block _ bR.lt).trans bR
  have hcR3 := bR3.cell
  have hfR3 := bR3.frozen
  have hB : Below w.heap.size w w3 := (((Below.refl _ w).alloc (Nat.le_refl _) (.cells #[.slice A m c] 31)).alloc (by simp) (.cells #[.bool false] 4)).trans (hb3.mono (by simp; omega))
  clear hb3 bR3 bR
  gi_wp2
  have hc5 := World.cell?_setCell_same' w3 ⟨w.heap.size + 1, 0, none⟩ (.bool true) (by rw [hcR3]; rfl)
  refine ⟨.bool true, ?_, rfl, hB.setCell (p := ⟨w.heap.size + 1, 0, none⟩) (Nat.le_succ _) _⟩
  simp [results, Try.results4, go_sem, hc5]
theorem HwordTurns_calls (x0 : Int) (A : Option Addr) (m c : Nat) (zs : List Int) (w : World) (hx0 : W64 x0) (hz : ∀ y ∈ zs, I64 y) (hr : Reads w w.heap.size 1 A m (ints .i64 zs)) :
    Calls Try.prog 4 #[.int .u64 x0, .slice A m c] w fun e W' => e = .returned (.bool true) ∧ Below w.heap.size w W' := by
  refine (callsIn_wide (n := 5)).1 ?_
  by_cases h : m ≤ 60
  · exact HwordTurns_in x0 A m c zs w hx0 h hz hr
  · exact HwordTurns_big x0 A m c w (by omega)
end Go.Proofs.Ytimhpcenfofidaa
