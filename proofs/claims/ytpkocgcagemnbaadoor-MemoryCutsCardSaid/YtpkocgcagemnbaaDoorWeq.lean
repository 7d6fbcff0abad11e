/-
  gleaningref03.Words of two lists that read alike.
-/
import Derived.Test.YtpkocgcagemnbaaDoorWords
import Derived.Deep.QuietTactic
import Derived.BigQuiet
namespace Go.Proofs.YtpkocgcagemnbaaDoor
open Go.RowKit

def WordsIn (n : Nat) (w : World) (i : Value) (wr : World) : Prop := ∃ (k : Nat), i = .int .i64 k ∧ k ≤ n ∧ Below w.heap.size w wr

set_option maxHeartbeats 400000 in
theorem Words_eq (A B : Option Addr) (n c d : Nat) (l : List Int) (w : World) (hn : n ≤ 4294967296) (hA : Reads w w.heap.size 1 A n (ints .u64 l)) (hB : Reads w w.heap.size 1 B n (ints .u64 l)) :
    Calls Tryd.prog 29 #[.slice A n c, .slice B n d] w fun r w' => r = .returned (.bool true) ∧ Below w.heap.size w w' := by
  go_enter Tryd.func29, Tryd.ntmps29
  go_wp2_with fail
  go_loopw [5] (WordsIn n w) (fun i _ => n - (intOf i).toNat)
  case atStart => exact ⟨0, rfl, by omega, Below.refl _ _⟩
  case round =>
    obtain ⟨k, rfl, hk, hb⟩ := hrel
    by_cases hlt : k < n
    · obtain ⟨a, rfl, _, z1⟩ := (hA.below hb).word hlt
      obtain ⟨b, rfl, _, z3⟩ := (hB.below hb).word hlt
      generalize l[k] = x at *
      go_wp2_with fail
      go_quiet (fail)
      go_wp2_with fail
      go_roundw
      case rel => exact ⟨k + 1, by go_num, by omega, below_drewN hb _⟩
      case measure => simp [intOf]; omega
    · go_wp2_with fail
      go_ret
      exact ⟨rfl, hb⟩
end Go.Proofs.YtpkocgcagemnbaaDoor
