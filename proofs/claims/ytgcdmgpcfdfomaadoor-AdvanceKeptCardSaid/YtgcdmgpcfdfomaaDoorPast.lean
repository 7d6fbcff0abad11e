/-
  Regions that draw their order and hold calls which only make memory: one walk in the order of the text serves every order.
-/
import Derived.Test.YtgcdmgpcfdfomaaDoorRows
import Derived.WalkKit
import Derived.Deep.QuietTactic
import Derived.BigQuiet
namespace Go.Proofs.YtgcdmgpcfdfomaaDoor
open Go.RowKit

/-- The worlds that lie behind w: what w held below its heap's end is as it was. -/
def Bel (w : World) : Type := { w' : World // Below w.heap.size w w' }
def past (w : World) (x : Bel w) : World := x.1
instance (w : World) : Nonempty (Bel w) := ⟨⟨w, Below.refl _ _⟩⟩

theorem past_below (w : World) (x : Bel w) : Below w.heap.size w (past w x) := x.2
theorem past_cell {w : World} {x : Bel w} {b o : Nat} (h : b < w.heap.size) : (past w x).cell? ⟨b, o, none⟩ = w.cell? ⟨b, o, none⟩ := (past_below w x).cell (p := ⟨b, o, none⟩) h
theorem past_cell_add {w : World} {x : Bel w} {a : Addr} {n : Nat} (h : a.block < w.heap.size) : (past w x).cell? (a.add n) = w.cell? (a.add n) :=
  (past_below w x).cell (p := a.add n) (by unfold Addr.add; split <;> exact h)

section
variable {P : Program}
theorem calls_past {f : FuncId} {args : Array Value} {w : World} {x : Bel w} {v : Value}
    (h : Calls P f args (past w x) fun e w'' => e = .returned v ∧ Below (past w x).heap.size (past w x) w'') :
    Calls P f args (past w x) fun e w'' => e = .returned v ∧ ∃ y : Bel w, w'' = past w y :=
  h.mono fun _ w'' ⟨he, hb⟩ => ⟨he, ⟨w'', (past_below w x).trans (hb.mono (past_below w x).size)⟩, rfl⟩
theorem calls_past_same {f : FuncId} {args : Array Value} {w : World} {x : Bel w} {v : Value}
    (h : Calls P f args (past w x) fun e w'' => e = .returned v ∧ past w x = w'') :
    Calls P f args (past w x) fun e w'' => e = .returned v ∧ ∃ y : Bel w, w'' = past w y :=
  h.mono fun _ _ ⟨he, hb⟩ => ⟨he, x, hb.symm⟩

theorem wp_region_past {id : Nat} {Q : Exit → Act → World → Prop} {a : Act} {w : World} {l : List Oper} (hm : P.follows .mixedOrders = true) (hB : Region.lexB .any l.toArray = true)
    (h : wpQuiet P l.toArray (fun w' => ∃ x : Bel w, w' = past w x) (fun a' => ∀ w', (∃ x : Bel w, w' = past w x) → Q .normal a' w') l a) : (Code.region id l.toArray true).wp P Q a w :=
  wp_region_quiet (C := fun w' => ∃ x : Bel w, w' = past w x) hm hB ⟨⟨w.drew, (Below.refl _ _).drew⟩, rfl⟩ (by simpa using h)
end
end Go.Proofs.YtgcdmgpcfdfomaaDoor
