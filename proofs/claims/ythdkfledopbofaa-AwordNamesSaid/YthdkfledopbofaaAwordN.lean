/-
  The states' names (in work).
-/
import Derived.Test.YthdkfledopbofaaAwordD
namespace Go.Proofs.Ythdkfledopbofaa
open Go.RowKit

def NameIn (w : World) (v : Value) (wr : World) : Prop :=
  wr = w ∧ (v = .string ⟨#[101, 118, 105, 99, 116, 101, 100, 32, 32]⟩ ∨ v = .string ⟨#[101, 118, 105, 99, 116, 101, 100, 32]⟩ ∨ v = .string ⟨#[101, 118, 105, 99, 116, 101, 100]⟩)
def strLen (v : Value) : Nat := match v with
  | .string s => s.data.size
  | _ => 0

theorem name2_any (w : World) : Calls Try.prog 10 #[.int .i64 2] w fun r w' => r = .returned (.string ⟨#[101, 118, 105, 99, 116, 101, 100]⟩) ∧ w = w' := by
  go_enter Try.func10, Try.ntmps10
  go_wp2_with fail
  go_loopw [3] (NameIn w) (fun v _ => strLen v)
  case atStart => exact ⟨rfl, .inl rfl⟩
  case round =>
    obtain ⟨rfl, rfl | rfl | rfl⟩ := hrel
    · go_wp2_with fail
      go_roundw
      case rel => exact ⟨rfl, .inr (.inl rfl)⟩
      case measure => decide
    · go_wp2_with fail
      go_roundw
      case rel => exact ⟨rfl, .inr (.inr rfl)⟩
      case measure => decide
    · go_wp2_with fail
      go_ret
      exact ⟨rfl, rfl⟩
end Go.Proofs.Ythdkfledopbofaa
