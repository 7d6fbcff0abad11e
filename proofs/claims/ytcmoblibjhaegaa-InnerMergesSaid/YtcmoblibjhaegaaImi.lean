/-
  Plain lists for InnerMerges.
-/
import Derived.Test.YtcmoblibjhaegaaImg
namespace Go.Proofs.Ytcmoblibjhaegaa
open Go.RowKit

theorem frL1 (ks ks' : List Int) (key : Int) : ks.take ks.length ++ [key] ++ ks.drop ks.length = ks ++ key :: cutL ks' 0 (1 - 1) := by simp [cutL]
theorem frL2 (vs vs' : List Int) (h : 2 ≤ vs'.length) : vs.take vs.length ++ [vs'.getD 0 0] ++ vs.drop vs.length = vs ++ cutL vs' 0 1 := by
  cases vs' with
  | nil => simp at h
  | cons x t => simp [cutL]
theorem frL3 (ks' vs' : List Int) (h : vs'.length = ks'.length + 1) : ks'.take 0 ++ ks'.drop 1 = cutL ks' 1 (vs'.length - 1) := by
  simp [cutL, h]
theorem frL4 (vs' : List Int) : vs'.take 0 ++ vs'.drop 1 = cutL vs' 1 vs'.length := by simp [cutL]
theorem flL1 (ks : List Int) (q r : Nat) (hr : r = q + 1) : ks.take q ++ ks.drop ks.length = cutL ks 0 (r - 1) := by
  subst hr; simp [cutL]
theorem flL2 (ks vs : List Int) (p r : Nat) (hr : r = ks.length) (hv : vs.length = ks.length + 1) (hp : p = ks.length + 1) : vs.take ks.length ++ vs.drop p = cutL vs 0 r := by
  subst hr hp; rw [List.drop_eq_nil_of_le (by omega)]; simp [cutL]
theorem flL3 (ks vs ks' : List Int) (key : Int) (r : Nat) (hr : r = vs.length - 1) : ks'.take 0 ++ [key] ++ ks'.drop 0 = cutL ks r (vs.length - 1) ++ key :: ks' := by
  subst hr; rw [cutL_self]; simp
theorem flL4 (ks vs vs' : List Int) (r : Nat) (hr : r = ks.length) (hv : vs.length = ks.length + 1) : vs'.take 0 ++ [vs.getD ks.length 0] ++ vs'.drop 0 = cutL vs r vs.length ++ vs' := by
  subst hr
  have h1 : ks.length < vs.length := by omega
  rw [hv, cutL_succ vs ks.length ks.length (Nat.le_refl _) h1, cutL_self, gD _ _ h1]; simp
end Go.Proofs.Ytcmoblibjhaegaa
