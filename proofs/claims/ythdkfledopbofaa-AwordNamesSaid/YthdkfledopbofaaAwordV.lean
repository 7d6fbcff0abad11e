/-
  The other states' names (in work).
-/
import Derived.Test.YthdkfledopbofaaAwordS
namespace Go.Proofs.Ythdkfledopbofaa
open Go.RowKit

def Name0In (w : World) (v : Value) (wr : World) : Prop :=
  wr = w ∧ (v = .string ⟨#[105, 100, 108, 101, 32, 32, 32, 32, 32]⟩ ∨ v = .string ⟨#[105, 100, 108, 101, 32, 32, 32, 32]⟩ ∨ v = .string ⟨#[105, 100, 108, 101, 32, 32, 32]⟩ ∨ v = .string ⟨#[105, 100, 108, 101, 32, 32]⟩ ∨ v = .string ⟨#[105, 100, 108, 101, 32]⟩ ∨ v = .string ⟨#[105, 100, 108, 101]⟩)
theorem name0_any (w : World) : Calls Try.prog 10 #[.int .i64 0] w fun r w' => r = .returned (.string ⟨#[105, 100, 108, 101]⟩) ∧ w = w' := by
  go_enter Try.func10, Try.ntmps10
  go_wp2_with fail
  go_loopw [3] (Name0In w) (fun v _ => strLen v)
  case atStart => exact ⟨rfl, .inl rfl⟩
  case round =>
    obtain ⟨rfl, rfl | rfl | rfl | rfl | rfl | rfl⟩ := hrel
    · go_wp2_with fail
      go_roundw
      case rel => exact ⟨rfl, .inr (.inl rfl)⟩
      case measure => decide
    · go_wp2_with fail
      go_roundw
      case rel => exact ⟨rfl, .inr (.inr (.inl rfl))⟩
      case measure => decide
    · go_wp2_with fail
      go_roundw
      case rel => exact ⟨rfl, .inr (.inr (.inr (.inl rfl)))⟩
      case measure => decide
    · go_wp2_with fail
      go_roundw
      case rel => exact ⟨rfl, .inr (.inr (.inr (.inr (.inl rfl))))⟩
      case measure => decide
    · go_wp2_with fail
      go_roundw
      case rel => exact ⟨rfl, .inr (.inr (.inr (.inr (.inr rfl))))⟩
      case measure => decide
    · go_wp2_with fail
      go_ret
      exact ⟨rfl, rfl⟩
def Name3In (w : World) (v : Value) (wr : World) : Prop :=
  wr = w ∧ (v = .string ⟨#[115, 108, 111, 119, 32, 32, 32, 32, 32]⟩ ∨ v = .string ⟨#[115, 108, 111, 119, 32, 32, 32, 32]⟩ ∨ v = .string ⟨#[115, 108, 111, 119, 32, 32, 32]⟩ ∨ v = .string ⟨#[115, 108, 111, 119, 32, 32]⟩ ∨ v = .string ⟨#[115, 108, 111, 119, 32]⟩ ∨ v = .string ⟨#[115, 108, 111, 119]⟩)
theorem name3_any (w : World) : Calls Try.prog 10 #[.int .i64 3] w fun r w' => r = .returned (.string ⟨#[115, 108, 111, 119]⟩) ∧ w = w' := by
  go_enter Try.func10, Try.ntmps10
  go_wp2_with fail
  go_loopw [3] (Name3In w) (fun v _ => strLen v)
  case atStart => exact ⟨rfl, .inl rfl⟩
  case round =>
    obtain ⟨rfl, rfl | rfl | rfl | rfl | rfl | rfl⟩ := hrel
    · go_wp2_with fail
      go_roundw
      case rel => exact ⟨rfl, .inr (.inl rfl)⟩
      case measure => decide
    · go_wp2_with fail
      go_roundw
      case rel => exact ⟨rfl, .inr (.inr (.inl rfl))⟩
      case measure => decide
    · go_wp2_with fail
      go_roundw
      case rel => exact ⟨rfl, .inr (.inr (.inr (.inl rfl)))⟩
      case measure => decide
    · go_wp2_with fail
      go_roundw
      case rel => exact ⟨rfl, .inr (.inr (.inr (.inr (.inl rfl))))⟩
      case measure => decide
    · go_wp2_with fail
      go_roundw
      case rel => exact ⟨rfl, .inr (.inr (.inr (.inr (.inr rfl))))⟩
      case measure => decide
    · go_wp2_with fail
      go_ret
      exact ⟨rfl, rfl⟩
def Name1In (w : World) (v : Value) (wr : World) : Prop := wr = w ∧ v = .string ⟨#[97, 110, 110, 111, 117, 110, 99, 101, 100]⟩
theorem name1_any (w : World) : Calls Try.prog 10 #[.int .i64 1] w fun r w' => r = .returned (.string ⟨#[97, 110, 110, 111, 117, 110, 99, 101, 100]⟩) ∧ w = w' := by
  go_enter Try.func10, Try.ntmps10
  go_wp2_with fail
  go_loopw [3] (Name1In w) (fun v _ => strLen v)
  case atStart => exact ⟨rfl, rfl⟩
  case round =>
    obtain ⟨rfl, rfl⟩ := hrel
    go_wp2_with fail
    go_ret
    exact ⟨rfl, rfl⟩
theorem nameout_any (s : Int) (w : World) (h : s < 0 ∨ 3 < s) : Calls Try.prog 10 #[.int .i64 s] w fun r w' => r = .returned (.string ⟨#[]⟩) ∧ w = w' := by
  by_cases c : s < 0
  · clear h
    go_enter Try.func10, Try.ntmps10
    go_wp2_with fail
    go_ret
    exact ⟨rfl, rfl⟩
  · have c2 : 3 < s := by omega
    clear h
    go_enter Try.func10, Try.ntmps10
    go_wp2_with fail
    go_ret
    exact ⟨rfl, rfl⟩
end Go.Proofs.Ythdkfledopbofaa
