/-
  Lists that rise, plain laws.
-/
import Derived.Test.YtcmoblibjhaegaaLeafP
import Derived.Test.YtcmoblibjhaegaaLeafC
namespace Go.Proofs.Ytcmoblibjhaegaa
open Go.RowKit

theorem gD (l : List Int) (i : Nat) (h : i < l.length) : l.getD i 0 = l[i] := by simp [h]
theorem gDr (a b : List Int) (x : Int) (p : Nat) (h : a.length = p) : (a ++ ([x] ++ b)).getD p 0 = x := by subst h; simp
theorem rise_pw (l : List Int) : riseB l = true ↔ l.Pairwise (· < ·) := by
  rw [riseB_iff, List.pairwise_iff_getElem]
  constructor
  · intro h i j hi hj hij
    have := rise_lt' h hij hj
    rwa [gD _ _ hi, gD _ _ hj] at this
  · intro h i hi
    rw [gD _ _ (by omega), gD _ _ hi]
    exact h i (i + 1) (by omega) hi (by omega)
theorem rise_sub {l m : List Int} (h : riseB l = true) (hs : m.Sublist l) : riseB m = true := (rise_pw m).2 (((rise_pw l).1 h).sublist hs)
theorem ValN (w : World) (b : Bool) (ks vs : List Int) (l : Int) (v : Value) (h : Nd w w.heap.size v b ks vs l) : ∃ A c A' c', v = .agg #[.bool b, .slice A ks.length c, .slice A' vs.length c', .int .u64 l] := by
  obtain ⟨k, u, rfl, ⟨A, c, rfl, _⟩, ⟨A', c', rfl, _⟩⟩ := h
  exact ⟨A, c, A', c', rfl⟩
end Go.Proofs.Ytcmoblibjhaegaa
