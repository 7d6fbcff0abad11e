/-
  LeafMerges holds: for every input its Go function returns true and leaves its arguments as they were. No condition.
-/
import Derived.Test.YtogpdgogcjljfaaLift
import Derived.Test.YtogpdgogcjljfaaLfH00
import Derived.Test.YtogpdgogcjljfaaLfH01
import Derived.Test.YtogpdgogcjljfaaLfH10
import Derived.Test.YtogpdgogcjljfaaLfH11
import Derived.Test.YtogpdgogcjljfaaOpenN
namespace Go.Proofs.Ytogpdgogcjljfaa
open Go.ChangeShapes Go.WideShapes Go.ChangeAt Go.RowKit

theorem LeafMerges_calls (v v' : Value) (b b' : Bool) (ks vs ks' vs' : List Int) (l l' : Int) (w : World) (h : Nd w w.heap.size v b ks vs l) (h' : Nd w w.heap.size v' b' ks' vs' l') :
    Calls Try.prog 5 #[v, v'] w fun e w' => e = .returned (.bool true) ∧ Below w.heap.size w w' := by
  by_cases s1 : ks.length ≤ 80 ∧ vs.length ≤ 80
  · by_cases s2 : ks'.length ≤ 80 ∧ vs'.length ≤ 80
    · cases h1 : rightB b ks vs with
      | false => exact merges_no1 v v' b b' ks vs ks' vs' l l' w h h' s1 s2 h1
      | true =>
        cases h2 : rightB b' ks' vs' with
        | false => exact merges_no2 v v' b b' ks vs ks' vs' l l' w h h' s1 s2 h1 h2
        | true =>
          cases h3 : rightB false (ks ++ ks') (vs ++ vs') with
          | false => exact merges_no3 v v' b b' ks vs ks' vs' l l' w h h' s1 s2 h1 h2 h3
          | true =>
            by_cases hR : ks'.length < 2
            · by_cases hL : ks.length < 1
              · exact merges_fit00 v v' b b' ks vs ks' vs' l l' w h h' s1 s2 h1 h2 h3 hR hL
              · exact merges_fit01 v v' b b' ks vs ks' vs' l l' w h h' s1 s2 h1 h2 h3 hR (ks.length - 1) (by omega)
            · by_cases hL : ks.length < 1
              · exact merges_fit10 v v' b b' ks vs ks' vs' l l' w h h' s1 s2 h1 h2 h3 (by omega) hL
              · exact merges_fit11 v v' b b' ks vs ks' vs' l l' w h h' s1 s2 h1 h2 h3 (by omega) (ks.length - 1) (by omega)
    · exact merges_big v v' b b' ks vs ks' vs' l l' w h h' (.inr ⟨s1, s2⟩)
  · exact merges_big v v' b b' ks vs ks' vs' l l' w h h' (.inl s1)
set_option maxRecDepth 100000 in
theorem leafMerges_lifted (os : Os) (started : os.Started) (H : Type) (enc : TypeId × Value → H) :
    ReturnsInHanded {} Try.checked os 5 .any (Rows.leafMergesSpec.pre6 enc Try.prog Try.f5 Rows.leafMergesRow.domain false) (Rows.leafMergesSpec.post enc Try.prog Try.f5 false true false false) := by
  refine lift started 2 (by kernel_rfl) Try.func5 rfl rfl (fun ds hl => ?_) (by kernel_rfl) rfl #[.agg #[.bool false, .slice none 0 0, .slice none 0 0, .int .u64 0], .agg #[.bool false, .slice none 0 0, .slice none 0 0, .int .u64 0]] (by kernel_rfl) (by kernel_rfl) (by kernel_rfl) (by kernel_rfl) (by kernel_rfl) ?_
  · match ds, hl with
    | [_, _], _ => rfl
  intro W base args ds ps hval0 hA0 hlt
  have hval : ∀ (j : Nat) t v, Try.f5.params[j]? = some t → args[j]? = some v → Value.okWide Try.prog W .any base t v := hval0
  have hA : DataW.TrodAll enc Try.prog W 0 (fun _ => true) true Try.f5.params.toList args.toList ds ps := hA0
  rw [Try.params5] at hA hval
  clear hA0 hval0
  obtain ⟨v0, v1, d0, d1, p0, p1, rfl, rfl, rfl, h0, h1⟩ := trodAll_two hA
  obtain ⟨b, ks, vs, l, hN, _, _, _⟩ := open_node (B := W.heap.size) (hval 0 _ _ rfl rfl) h0 (fun p hp => hlt p (by simp [hp])) (fun _ => rfl)
  obtain ⟨b', ks', vs', l', hN', _, _, _⟩ := open_node (B := W.heap.size) (hval 1 _ _ rfl rfl) h1 (fun p hp => hlt p (by simp [hp])) (fun _ => rfl)
  exact LeafMerges_calls v0 v1 b b' ks vs ks' vs' l l' W hN hN'
theorem leafMerges_holds : Rows.LeafMergesSaid :=
  OpenClaim.holds_of_wide 5 Try.f5 rfl rfl rfl rfl rfl rfl rfl ⟨rfl, rfl, rfl, rfl, rfl⟩ rfl rfl rfl rfl rfl (by kernel_rfl) Try.func5 (by kernel_rfl)
    (of_decide_eq_true (by kernel_rfl)) (by unfold Func.isWrapper; first | (rw [if_pos (by decide +kernel)]; kernel_rfl) | (rw [if_neg (by decide +kernel)]; exact ⟨rfl, rfl⟩))
    (fun os started H enc _ => leafMerges_lifted os started H enc)
#print axioms leafMerges_holds
end Go.Proofs.Ytogpdgogcjljfaa
