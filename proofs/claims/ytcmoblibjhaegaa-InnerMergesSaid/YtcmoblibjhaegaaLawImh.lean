/-
  InnerMerges holds: for every input its Go function returns true and leaves its arguments as they were. No condition.
-/
import Derived.Test.YtcmoblibjhaegaaLift
import Derived.Test.YtcmoblibjhaegaaImh00
import Derived.Test.YtcmoblibjhaegaaImh01
import Derived.Test.YtcmoblibjhaegaaImh10
import Derived.Test.YtcmoblibjhaegaaImh11
import Derived.Test.YtcmoblibjhaegaaOpenN
namespace Go.Proofs.Ytcmoblibjhaegaa
open Go.ChangeShapes Go.WideShapes Go.ChangeAt Go.RowKit

theorem InnerMerges_calls (v v' : Value) (b b' : Bool) (ks vs ks' vs' : List Int) (l l' key : Int) (w : World) (h : Nd w w.heap.size v b ks vs l) (h' : Nd w w.heap.size v' b' ks' vs' l') :
    Calls Try.prog 7 #[v, .int .u64 key, v'] w fun e w' => e = .returned (.bool true) ∧ Below w.heap.size w w' := by
  by_cases s1 : ks.length ≤ 80 ∧ vs.length ≤ 80
  · by_cases s2 : ks'.length ≤ 80 ∧ vs'.length ≤ 80
    · cases h1 : rightI b ks vs with
      | false => exact imerges_no1 v v' b b' ks vs ks' vs' l l' key w h h' s1 s2 h1
      | true =>
        cases h2 : rightI b' ks' vs' with
        | false => exact imerges_no2 v v' b b' ks vs ks' vs' l l' key w h h' s1 s2 h1 h2
        | true =>
          cases h3 : rightI true (ks ++ key :: ks') (vs ++ vs') with
          | false => exact imerges_no3 v v' b b' ks vs ks' vs' l l' key w h h' s1 s2 h1 h2 h3
          | true =>
            obtain ⟨rfl, k1, _⟩ := rightI_parts h1
            obtain ⟨rfl, k2, _⟩ := rightI_parts h2
            by_cases hR : vs'.length < 2
            · by_cases hL : ks.length < 1
              · exact imerges_fit00 v v' ks vs ks' vs' l l' key w h h' s1 s2 h1 h2 h3 hR hL
              · exact imerges_fit01 v v' ks vs ks' vs' l l' key w h h' s1 s2 h1 h2 h3 hR (ks.length - 1) ks.length (ks.length + 1) (by omega) rfl rfl
            · by_cases hL : ks.length < 1
              · exact imerges_fit10 v v' ks vs ks' vs' l l' key w h h' s1 s2 h1 h2 h3 (by omega) hL
              · exact imerges_fit11 v v' ks vs ks' vs' l l' key w h h' s1 s2 h1 h2 h3 (by omega) (ks.length - 1) ks.length (ks.length + 1) (by omega) rfl rfl
    · exact imerges_big v v' b b' ks vs ks' vs' l l' key w h h' (.inr ⟨s1, s2⟩)
  · exact imerges_big v v' b b' ks vs ks' vs' l l' key w h h' (.inl s1)
set_option maxRecDepth 100000 in
theorem innerMerges_lifted (os : Os) (started : os.Started) (H : Type) (enc : TypeId × Value → H) :
    ReturnsInHanded {} Try.checked os 7 .any (Rows.innerMergesSpec.pre6 enc Try.prog Try.f7 Rows.innerMergesRow.domain false) (Rows.innerMergesSpec.post enc Try.prog Try.f7 false true false false) := by
  refine lift started 3 (by kernel_rfl) Try.func7 rfl rfl (fun ds hl => ?_) (by kernel_rfl) rfl #[.agg #[.bool false, .slice none 0 0, .slice none 0 0, .int .u64 0], .int .u64 0, .agg #[.bool false, .slice none 0 0, .slice none 0 0, .int .u64 0]] (by kernel_rfl) (by kernel_rfl) (by kernel_rfl) (by kernel_rfl) (by kernel_rfl) ?_
  · match ds, hl with
    | [_, _, _], _ => rfl
  intro W base args ds ps hval0 hA0 hlt
  have hval : ∀ (j : Nat) t v, Try.f7.params[j]? = some t → args[j]? = some v → Value.okWide Try.prog W .any base t v := hval0
  have hA : DataW.TrodAll enc Try.prog W 0 (fun _ => true) true Try.f7.params.toList args.toList ds ps := hA0
  rw [Try.params7] at hA hval
  clear hA0 hval0
  obtain ⟨v0, v1, v2, d0, d1, d2, p0, p1, p2, rfl, rfl, rfl, h0, h1, h2⟩ := trodAll_three hA
  obtain ⟨b, ks, vs, l, hN, _, _, _⟩ := open_node (B := W.heap.size) (hval 0 _ _ rfl rfl) h0 (fun p hp => hlt p (by simp [hp])) (fun _ => rfl)
  obtain ⟨x, rfl, rfl, rfl, w0⟩ := open_int Try.underlying22 (hval 1 _ _ rfl rfl) h1
  obtain ⟨b', ks', vs', l', hN', _, _, _⟩ := open_node (B := W.heap.size) (hval 2 _ _ rfl rfl) h2 (fun p hp => hlt p (by simp [hp])) (fun _ => rfl)
  exact InnerMerges_calls v0 v2 b b' ks vs ks' vs' l l' x W hN hN'
theorem innerMerges_holds : Rows.InnerMergesSaid :=
  OpenClaim.holds_of_wide 7 Try.f7 rfl rfl rfl rfl rfl rfl rfl ⟨rfl, rfl, rfl, rfl, rfl⟩ rfl rfl rfl rfl rfl (by kernel_rfl) Try.func7 (by kernel_rfl)
    (of_decide_eq_true (by kernel_rfl)) (by unfold Func.isWrapper; first | (rw [if_pos (by decide +kernel)]; kernel_rfl) | (rw [if_neg (by decide +kernel)]; exact ⟨rfl, rfl⟩))
    (fun os started H enc _ => innerMerges_lifted os started H enc)
#print axioms innerMerges_holds
end Go.Proofs.Ytcmoblibjhaegaa
