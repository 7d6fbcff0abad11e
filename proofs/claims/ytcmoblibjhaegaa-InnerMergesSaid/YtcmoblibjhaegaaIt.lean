/-
  Package inner: must, tried.
-/
import Derived.Test.YtcmoblibjhaegaaIr
import Derived.Recover
import Derived.Laws.Pointers
namespace Go.Proofs.Ytcmoblibjhaegaa
open Go.RowKit

/-- All that stood is as it was, but the blocks os. -/
structure Part (os : List Nat) (w w' : World) : Prop where
  os_ : w'.os = w.os
  tape : w'.tape = w.tape
  output : w'.output = w.output
  size : w.heap.size ≤ w'.heap.size
  block : ∀ k, k < w.heap.size → k ∉ os → w'.heap[k]? = w.heap[k]?
theorem Part.refl (os : List Nat) (w : World) : Part os w w := ⟨rfl, rfl, rfl, Nat.le_refl _, fun _ _ _ => rfl⟩
theorem Part.of_below {os : List Nat} {w w' : World} (h : Below w.heap.size w w') : Part os w w' := ⟨h.os, h.tape, h.output, h.size, fun k hk _ => h.block k hk⟩
theorem Part.trans {os : List Nat} {a b c : World} (h : Part os a b) (k : Part os b c) : Part os a c :=
  ⟨k.os_.trans h.os_, k.tape.trans h.tape, k.output.trans h.output, Nat.le_trans h.size k.size, fun i hi ho => (k.block i (Nat.lt_of_lt_of_le hi h.size) ho).trans (h.block i hi ho)⟩
theorem Part.blk {os : List Nat} {w w' : World} {g : Nat} {t : TypeId} {cs : Array Value} (h : Part os w w') (hb : Blk w g t cs) (hg : g ∉ os) : Blk w' g t cs := (h.block g hb.lt hg).trans hb
theorem Below.part {os : List Nat} {B : Nat} {a w w' : World} (hb : Below B a w) (h : Part os w w') (hB : ∀ o ∈ os, B ≤ o) (hs : B ≤ w.heap.size) : Below B a w' :=
  hb.trans ⟨h.os_, h.tape, h.output, h.size, fun k hk => h.block k (by omega) (fun ho => by have := hB k ho; omega)⟩
theorem Part.set_ {os : List Nat} {w w' : World} (h : Part os w w') {g : Nat} (hg : g ∈ os) (i : Nat) (v : Value) : Part os w (w'.setCell ⟨g, i, none⟩ v) :=
  ⟨h.os_, h.tape, h.output, by simpa using h.size, fun k hk ho => (Below.heap_setCell w' ⟨g, i, none⟩ v k (fun e => ho (by rw [e]; exact hg))).trans (h.block k hk ho)⟩

abbrev wrongP : List PanicEntry := [{ v := .iface 57 (.agg #[]), recovered := false }]
theorem run_panic_i {P : Program} (t : TypeId) (v : Value) (w : World) : (Instr.panic (.iface t v)).run P w = .halt (.panic (.iface t v)) w := rfl
theorem must_yes (w : World) : Calls Try.prog 32 #[.bool true] w fun e w' => e = .returned (.tuple #[]) ∧ w' = w := by
  go_enter Try.func32, Try.ntmps32
  go_wp2_with fail
  go_end0
  exact ⟨rfl, rfl⟩
theorem must_no (w : World) : Calls Try.prog 32 #[.bool false] w fun e w' => e = .panicked wrongP ∧ w' = w := by
  have hp := fun w => run_panic_i (P := Try.prog) 57 (.agg #[]) w
  go_enter Try.func32, Try.ntmps32
  go_wp2_with fail
  exact ⟨rfl, rfl, rfl⟩
set_option maxHeartbeats 1000000 in
theorem caught (g : Nat) (older : List PanicEntry) (w : World) (hb : Blk w g 4 #[.bool false]) :
    CallsD Try.prog 43 #[.pointer (some ⟨g, 0, none⟩)] (.panicking ({ v := .iface 57 (.agg #[]), recovered := false } :: older)) w fun e u' w' =>
      e = .returned (.tuple #[]) ∧ u' = .panicking ({ v := .iface 57 (.agg #[]), recovered := true } :: older) ∧ w' = (w.alloc (.cells #[] 57)).setCell ⟨g, 0, none⟩ (.bool false) := by
  refine callsD_of_wpS Try.func43 rfl fun c₀ cs hu => ?_
  apply wpS_seq
  apply wpS_region
  simp [wpOpsS, go_sem, recoverD, hu, Try.ntmps43, Exit.thenS]
  have hta : ∀ w, (Instr.typeAssert (.iface 57 (.agg #[])) 20 57 true).run Try.prog w = .ok (.tuple #[.agg #[], .bool true]) w := fun _ => by kernel_rfl
  have hb' := hb.alloc (.cells #[] 57)
  have mb := fun i => hb'.cell i
  have zb := fun i => hb'.frozen i
  refine wpS_of_wp ?_
  go_wp2_with fail
  cases c₀
  simp_all [bodyPostS, results, Try.results43]
theorem idle (p : Addr) (w : World) :
    CallsD Try.prog 43 #[.pointer (some p)] .returning w fun e u' w' => e = .returned (.tuple #[]) ∧ u' = .returning ∧ w' = w := by
  refine callsD_of_wpS Try.func43 rfl fun c₀ cs hu => ?_
  apply wpS_seq
  apply wpS_region
  simp [wpOpsS, go_sem, recoverD, hu, Try.ntmps43, Exit.thenS]
  apply wpS_seq
  apply wpS_region
  simp [wpOpsS, go_sem, Exit.thenS]
  refine wpS_cond (t := false) (by simp [Act.eval, Array.replicate]) ?_
  simp only [Bool.false_eq_true, if_false]
  refine wpS_of_wp (wp_skip ?_)
  cases c₀
  simp_all [bodyPostS, results, Try.results43]
theorem tried_ok (K : Nat) (caps : Array Value) (w : World) (Q : World → Prop) (hf : ∀ w, (callFunc K caps).run Try.prog w = .ok (.enter K caps) w)
    (hK : Calls Try.prog K caps (w.alloc (.cells #[.bool false] 4)) fun e w' => e = .returned (.tuple #[]) ∧ Blk w' w.heap.size 4 #[.bool false] ∧ Q (w'.setCell ⟨w.heap.size, 0, none⟩ (.bool true))) :
    Calls Try.prog 28 #[.func (.func K) #[] caps] w fun e w' => e = .returned (.bool true) ∧ Q w' := by
  have hmf : ∀ (fn : Fn) (first cap : Array Value) (w : World), (Instr.makeFunc fn first cap).run Try.prog w = .ok (.func fn first cap) w := fun _ _ _ _ => rfl
  go_enter_defers Try.func28, Try.ntmps28
  go_wp2
  refine hK.mono ?_
  rintro e w1 ⟨rfl, hb, hq⟩
  have mb := hb.cell 0
  have zb := hb.frozen 0
  go_wp2
  have b2 := (hb.set_ 0 (.bool true)).cell 0
  generalize w1.setCell ⟨w.heap.size, 0, none⟩ (.bool true) = w2 at *
  refine leaves_cons (f := 43) (args := #[.pointer (some ⟨w.heap.size, 0, none⟩)]) (by simp) (by simp [go_sem]) ?_
  refine (idle ⟨w.heap.size, 0, none⟩ _).mono ?_
  rintro e u' w'' ⟨rfl, rfl, rfl⟩
  simp at b2
  simp [Leaves, settle, results, Try.results28, go_sem, b2, hq]
theorem tried_no (K : Nat) (caps : Array Value) (w : World) (Q : World → Prop) (hf : ∀ w, (callFunc K caps).run Try.prog w = .ok (.enter K caps) w)
    (hK : Calls Try.prog K caps (w.alloc (.cells #[.bool false] 4)) fun e w' => e = .panicked wrongP ∧ Blk w' w.heap.size 4 #[.bool false] ∧ Q ((w'.alloc (.cells #[] 57)).setCell ⟨w.heap.size, 0, none⟩ (.bool false))) :
    Calls Try.prog 28 #[.func (.func K) #[] caps] w fun e w' => e = .returned (.bool false) ∧ Q w' := by
  have hmf : ∀ (fn : Fn) (first cap : Array Value) (w : World), (Instr.makeFunc fn first cap).run Try.prog w = .ok (.func fn first cap) w := fun _ _ _ _ => rfl
  go_enter_defers Try.func28, Try.ntmps28
  go_wp2
  refine hK.mono ?_
  rintro e w1 ⟨rfl, hb, hq⟩
  have mb := hb.cell 0
  have zb := hb.frozen 0
  go_wp2
  have b2 := ((hb.alloc (.cells #[] 57)).set_ 0 (.bool false)).cell 0
  refine leaves_cons (f := 43) (args := #[.pointer (some ⟨w.heap.size, 0, none⟩)]) (by simp) (by simp [go_sem]) ?_
  refine (caught w.heap.size [] _ hb).mono ?_
  rintro e u' w'' ⟨rfl, rfl, rfl⟩
  generalize (w1.alloc (.cells #[] 57)).setCell ⟨w.heap.size, 0, none⟩ (.bool false) = w2 at *
  simp at b2
  simp [Leaves, settle, results, Try.results28, go_sem, b2, hq]
end Go.Proofs.Ytcmoblibjhaegaa
