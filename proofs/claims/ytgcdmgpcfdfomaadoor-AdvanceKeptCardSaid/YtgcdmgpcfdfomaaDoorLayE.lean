/-
  gleaningref08.Place.
-/
import Derived.Test.YtgcdmgpcfdfomaaDoorLayD
namespace Go.Proofs.YtgcdmgpcfdfomaaDoor
open Go.RowKit

def PlA (t d : Int) (n i : Value) : Prop := ∃ k : Nat, (k : Int) ≤ t ∧ (k : Int) ≤ d ∧ n = .int .i64 (3 + k) ∧ i = .int .i64 k
def PlB (t d : Int) (n i : Value) : Prop := ∃ k : Nat, (k : Int) ≤ t ∧ (k : Int) ≤ d ∧ n = .int .i64 (3 + t + 2 * k) ∧ i = .int .i64 k
def PlC (b : Int) (P : Prop) (m : Int) (n i : Value) : Prop := ∃ j : Nat, (j : Int) ≤ 2 ∧ (P → (j : Int) ≤ m) ∧ n = .int .i64 (b + j) ∧ i = .int .i64 j
end Go.Proofs.YtgcdmgpcfdfomaaDoor
