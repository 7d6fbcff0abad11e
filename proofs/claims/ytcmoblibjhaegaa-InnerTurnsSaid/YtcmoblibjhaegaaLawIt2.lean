/-
  InnerTurns holds: for every input its Go function returns true and leaves its arguments as they were. No condition.
-/
import Derived.Test.YtcmoblibjhaegaaLift
import Derived.Test.YtcmoblibjhaegaaIt2
import Derived.Test.YtcmoblibjhaegaaOpenN
namespace Go.Proofs.Ytcmoblibjhaegaa
open Go.ChangeShapes Go.WideShapes Go.ChangeAt Go.RowKit

theorem turns_yes (v : Value) (ks vs : List Int) (l i key child : Int) (w : World) (h : Nd w w.heap.size v true ks vs l) (hsm : ks.length ≤ 80 ∧ vs.length ≤ 80) (hs : rightI true ks vs = true) :
    Calls Try.prog 5 #[v, .int .i64 i, .int .u64 key, .int .u64 child] w fun e w' => e = .returned (.bool true) ∧ Below w.heap.size w w' := by
  obtain ⟨_, hkv, _⟩ := rightI_parts hs
  by_cases h0 : i < 0
  · exact t_neg v ks vs l i key child w h hsm.1 hsm.2 hs (fun w2 hB => iadd_out v true ks vs l i key child w2 (by omega) ((h.below hB).more hB.size) (.inr (by omega))) (fun w2 hB => idrop_out v true ks vs l i w2 (by omega) ((h.below hB).more hB.size) (.inr (by omega))) (by rw [decide_eq_false_iff_not]; omega) (by rw [decide_eq_false_iff_not]; omega)
  by_cases h1 : i = 0
  · by_cases h2 : 1 < vs.length
    · exact t_zero v ks vs l i key child w h hsm.1 hsm.2 hs (ks.take (0 - 1) ++ ks.drop (0 - 1 + 1)) (vs.take 0 ++ vs.drop (0 + 1)) (by simp; omega) (by simp; omega) (fun w2 hB => iadd_out v true ks vs l i key child w2 (by omega) ((h.below hB).more hB.size) (.inr (by omega))) (fun w2 hB => idrop_yes v true ks vs l i w2 (by omega) ((h.below hB).more hB.size) hs 0 (0 - 1) h1 rfl (by omega) h2) (fun w2 hB => by rw [h1]; exact rdrop_any v ks vs l 0 (0 - 1) w2 (by omega) ((h.below hB).more hB.size) hs rfl (by omega) h2) (by rw [decide_eq_false_iff_not]; omega) (by rw [decide_eq_true_eq]; omega) (by rw [decide_eq_true_eq]; omega) (by rw [decide_eq_true_eq]; omega)
    · exact t_zero1 v ks vs l i key child w h hsm.1 hsm.2 hs (fun w2 hB => iadd_out v true ks vs l i key child w2 (by omega) ((h.below hB).more hB.size) (.inr (by omega))) (fun w2 hB => idrop_out v true ks vs l i w2 (by omega) ((h.below hB).more hB.size) (.inr (by omega))) (by rw [decide_eq_false_iff_not]; omega) (by rw [decide_eq_true_eq]; omega) (by rw [decide_eq_true_eq]; omega) (by rw [decide_eq_false_iff_not]; omega)
  by_cases h4 : (vs.length : Int) < i
  · exact t_over v ks vs l i key child w h hsm.1 hsm.2 hs (fun w2 hB => iadd_out v true ks vs l i key child w2 (by omega) ((h.below hB).more hB.size) (.inr (by omega))) (fun w2 hB => idrop_out v true ks vs l i w2 (by omega) ((h.below hB).more hB.size) (.inr (by omega))) (by rw [decide_eq_true_eq]; omega) (by rw [decide_eq_false_iff_not]; omega) (by rw [decide_eq_true_eq]; omega) (by rw [decide_eq_false_iff_not]; omega)
  obtain ⟨q, hq⟩ : ∃ q : Nat, i = ((q + 1 : Nat) : Int) := ⟨(i - 1).toNat, by omega⟩
  by_cases h5 : i < (vs.length : Int)
  · have h2 : 1 < vs.length := by omega
    cases h3 : rightI true (ks.take q ++ [key] ++ ks.drop q) (vs.take (q + 1) ++ [child] ++ vs.drop (q + 1)) with
    | false => exact t_midN v ks vs l i key child w h hsm.1 hsm.2 hs (ks.take q ++ [key] ++ ks.drop q) (vs.take (q + 1) ++ [child] ++ vs.drop (q + 1)) (by simp; omega) (by simp; omega) (ks.take ((q + 1) - 1) ++ ks.drop ((q + 1) - 1 + 1)) (vs.take (q + 1) ++ vs.drop ((q + 1) + 1)) (by simp; omega) (by simp; omega) (fun w2 hB => iadd_no v true ks vs l i key child w2 (by omega) ((h.below hB).more hB.size) hs (q + 1) q hq rfl (by omega) h3) (fun w2 hB => idrop_yes v true ks vs l i w2 (by omega) ((h.below hB).more hB.size) hs (q + 1) ((q + 1) - 1) hq rfl (by omega) h2) (fun w2 hB => by rw [hq]; exact radd_any v ks vs l key child (q + 1) q w2 (by omega) ((h.below hB).more hB.size) hs rfl (by omega)) h3 (fun w2 hB => by rw [hq]; exact rdrop_any v ks vs l (q + 1) ((q + 1) - 1) w2 (by omega) ((h.below hB).more hB.size) hs rfl (by omega) h2) (by rw [decide_eq_true_eq]; omega) (by rw [decide_eq_true_eq]; omega) (by rw [decide_eq_true_eq]; omega) (by rw [decide_eq_true_eq]; omega) (by rw [decide_eq_true_eq]; omega)
    | true => exact t_midY v ks vs l i key child w h hsm.1 hsm.2 hs (ks.take q ++ [key] ++ ks.drop q) (vs.take (q + 1) ++ [child] ++ vs.drop (q + 1)) (by simp; omega) (by simp; omega) (ks.take ((q + 1) - 1) ++ ks.drop ((q + 1) - 1 + 1)) (vs.take (q + 1) ++ vs.drop ((q + 1) + 1)) (by simp; omega) (by simp; omega) (fun w2 hB => iadd_yes v true ks vs l i key child w2 (by omega) ((h.below hB).more hB.size) hs (q + 1) q hq rfl (by omega) h3) (fun w2 hB => idrop_yes v true ks vs l i w2 (by omega) ((h.below hB).more hB.size) hs (q + 1) ((q + 1) - 1) hq rfl (by omega) h2) (fun w2 hB => by rw [hq]; exact radd_any v ks vs l key child (q + 1) q w2 (by omega) ((h.below hB).more hB.size) hs rfl (by omega)) h3 (fun w2 hB => by rw [hq]; exact rdrop_any v ks vs l (q + 1) ((q + 1) - 1) w2 (by omega) ((h.below hB).more hB.size) hs rfl (by omega) h2) (by rw [decide_eq_true_eq]; omega) (by rw [decide_eq_true_eq]; omega) (by rw [decide_eq_true_eq]; omega) (by rw [decide_eq_true_eq]; omega) (by rw [decide_eq_true_eq]; omega)
  · cases h3 : rightI true (ks.take q ++ [key] ++ ks.drop q) (vs.take (q + 1) ++ [child] ++ vs.drop (q + 1)) with
    | false => exact t_endN v ks vs l i key child w h hsm.1 hsm.2 hs (ks.take q ++ [key] ++ ks.drop q) (vs.take (q + 1) ++ [child] ++ vs.drop (q + 1)) (by simp; omega) (by simp; omega) (fun w2 hB => iadd_no v true ks vs l i key child w2 (by omega) ((h.below hB).more hB.size) hs (q + 1) q hq rfl (by omega) h3) (fun w2 hB => idrop_out v true ks vs l i w2 (by omega) ((h.below hB).more hB.size) (.inr (by omega))) (fun w2 hB => by rw [hq]; exact radd_any v ks vs l key child (q + 1) q w2 (by omega) ((h.below hB).more hB.size) hs rfl (by omega)) h3 (by rw [decide_eq_true_eq]; omega) (by rw [decide_eq_true_eq]; omega) (by rw [decide_eq_true_eq]; omega) (by rw [decide_eq_false_iff_not]; omega)
    | true => exact t_endY v ks vs l i key child w h hsm.1 hsm.2 hs (ks.take q ++ [key] ++ ks.drop q) (vs.take (q + 1) ++ [child] ++ vs.drop (q + 1)) (by simp; omega) (by simp; omega) (fun w2 hB => iadd_yes v true ks vs l i key child w2 (by omega) ((h.below hB).more hB.size) hs (q + 1) q hq rfl (by omega) h3) (fun w2 hB => idrop_out v true ks vs l i w2 (by omega) ((h.below hB).more hB.size) (.inr (by omega))) (fun w2 hB => by rw [hq]; exact radd_any v ks vs l key child (q + 1) q w2 (by omega) ((h.below hB).more hB.size) hs rfl (by omega)) h3 (by rw [decide_eq_true_eq]; omega) (by rw [decide_eq_true_eq]; omega) (by rw [decide_eq_true_eq]; omega) (by rw [decide_eq_false_iff_not]; omega)
theorem InnerTurns_calls (v : Value) (b : Bool) (ks vs : List Int) (l i key child : Int) (w : World) (h : Nd w w.heap.size v b ks vs l) :
    Calls Try.prog 5 #[v, .int .i64 i, .int .u64 key, .int .u64 child] w fun e w' => e = .returned (.bool true) ∧ Below w.heap.size w w' := by
  by_cases hsm : ks.length ≤ 80 ∧ vs.length ≤ 80
  · cases hs : rightI b ks vs with
    | false => exact turns_no v b ks vs l i key child w h hsm.1 hsm.2 hs
    | true =>
      obtain ⟨rfl, _, _⟩ := rightI_parts hs
      exact turns_yes v ks vs l i key child w h hsm hs
  · exact turns_big v b ks vs l i key child w h hsm
set_option maxRecDepth 100000 in
theorem innerTurns_lifted (os : Os) (started : os.Started) (H : Type) (enc : TypeId × Value → H) :
    ReturnsInHanded {} Try.checked os 5 .any (Rows.innerTurnsSpec.pre6 enc Try.prog Try.f5 Rows.innerTurnsRow.domain false) (Rows.innerTurnsSpec.post enc Try.prog Try.f5 false true false false) := by
  refine lift started 4 (by kernel_rfl) Try.func5 rfl rfl (fun ds hl => ?_) (by kernel_rfl) rfl #[.agg #[.bool false, .slice none 0 0, .slice none 0 0, .int .u64 0], .int .i64 0, .int .u64 0, .int .u64 0] (by kernel_rfl) (by kernel_rfl) (by kernel_rfl) (by kernel_rfl) (by kernel_rfl) ?_
  · match ds, hl with
    | [_, _, _, _], _ => rfl
  intro W base args ds ps hval0 hA0 hlt
  have hval : ∀ (j : Nat) t v, Try.f5.params[j]? = some t → args[j]? = some v → Value.okWide Try.prog W .any base t v := hval0
  have hA : DataW.TrodAll enc Try.prog W 0 (fun _ => true) true Try.f5.params.toList args.toList ds ps := hA0
  rw [Try.params5] at hA hval
  clear hA0 hval0
  obtain ⟨v0, v1, v2, v3, d0, d1, d2, d3, p0, p1, p2, p3, rfl, rfl, rfl, h0, h1, h2, h3⟩ := trodAll_four hA
  obtain ⟨b, ks, vs, l, hN, _, _, _⟩ := open_node (B := W.heap.size) (hval 0 _ _ rfl rfl) h0 (fun p hp => hlt p (by simp [hp])) (fun _ => rfl)
  obtain ⟨x, rfl, rfl, rfl, w0⟩ := open_int Try.underlying3 (hval 1 _ _ rfl rfl) h1
  obtain ⟨y, rfl, rfl, rfl, w1⟩ := open_int Try.underlying22 (hval 2 _ _ rfl rfl) h2
  obtain ⟨z, rfl, rfl, rfl, w2⟩ := open_int Try.underlying22 (hval 3 _ _ rfl rfl) h3
  exact InnerTurns_calls v0 b ks vs l x y z W hN
theorem innerTurns_holds : Rows.InnerTurnsSaid :=
  OpenClaim.holds_of_wide 5 Try.f5 rfl rfl rfl rfl rfl rfl rfl ⟨rfl, rfl, rfl, rfl, rfl⟩ rfl rfl rfl rfl rfl (by kernel_rfl) Try.func5 (by kernel_rfl)
    (of_decide_eq_true (by kernel_rfl)) (by unfold Func.isWrapper; first | (rw [if_pos (by decide +kernel)]; kernel_rfl) | (rw [if_neg (by decide +kernel)]; exact ⟨rfl, rfl⟩))
    (fun os started H enc _ => innerTurns_lifted os started H enc)
#print axioms innerTurns_holds
end Go.Proofs.Ytcmoblibjhaegaa
