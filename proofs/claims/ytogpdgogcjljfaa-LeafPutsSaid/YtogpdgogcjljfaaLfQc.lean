/-
  The Go function LeafPuts.
-/
import Derived.Test.YtogpdgogcjljfaaLfQy
import Derived.Test.YtogpdgogcjljfaaLfQn
namespace Go.Proofs.Ytogpdgogcjljfaa
open Go.RowKit

theorem putL_len (l : List Int) (i j : Nat) (ins : List Int) (hi : i ≤ l.length) : (putL l i j ins).length = i + ins.length + (l.length - j) := by
  unfold putL
  rw [List.length_append, List.length_append, cutL_len l 0 i hi, cutL_len l j l.length (Nat.le_refl _)]
  omega
theorem LeafPuts_calls (v : Value) (b : Bool) (ks vs : List Int) (l key val : Int) (w : World) (h : Nd w w.heap.size v b ks vs l) :
    Calls Try.prog 6 #[v, .int .u64 key, .int .u64 val] w fun e w' => e = .returned (.bool true) ∧ Below w.heap.size w w' := by
  by_cases hsm : ks.length ≤ 80 ∧ vs.length ≤ 80
  · obtain ⟨hk, hv⟩ := hsm
    cases hr : rightB b ks vs with
    | false => exact puts_no v b ks vs l key val w h hk hv hr
    | true =>
      obtain ⟨_, hkv, hri⟩ := right_parts hr
      have hle := lowN_le key ks
      cases hh : hasB key ks with
      | true =>
        have hlt := has_lt hri hh
        have eP := putL_same hri hh
        refine puts_yes v b ks vs ks (putL vs (lowN key ks) (lowN key ks + 1) [val]) (putL ks (lowN key ks) (lowN key ks + 1) []) (putL vs (lowN key ks) (lowN key ks + 1) []) l key val _ w h hk hr hh rfl (by unfold Short; omega) (by unfold Short; rw [putL_len _ _ _ _ (by omega)]; simp; omega) (by unfold Short; rw [putL_len _ _ _ _ (by omega)]; simp; omega) (by unfold Short; rw [putL_len _ _ _ _ (by omega)]; simp; omega)
          (fun w2 hB => put_yes v b ks vs l key val w2 (by omega) ((h.below hB).more hB.size) hr hh) (fun w2 hB => drop_yes v b ks vs l key w2 (by omega) ((h.below hB).more hB.size) hr hh) (fun w2 hB => ?_) (fun w2 hB => ?_)
        · have := rput_yes v b ks vs l key val w2 (by omega) ((h.below hB).more hB.size) hkv (by omega) hh
          rwa [eP] at this
        · rw [putL_nil, putL_nil]
          exact rdrop_yes v b ks vs l key w2 (by omega) ((h.below hB).more hB.size) hkv (by omega) hh
      | false =>
        refine puts_new v b ks vs (putL ks (lowN key ks) (lowN key ks) [key]) (putL vs (lowN key ks) (lowN key ks) [val]) ks vs l key val w h hk hr hh (by unfold Short; rw [putL_len _ _ _ _ (by omega)]; simp; omega) (by unfold Short; rw [putL_len _ _ _ _ (by omega)]; simp; omega) (by unfold Short; omega) (by unfold Short; omega)
          (fun w2 hB => put_new v b ks vs l key val w2 (by omega) ((h.below hB).more hB.size) hr hh) (fun w2 hB => drop_not v b ks vs l key w2 (by omega) ((h.below hB).more hB.size) hr hh) (fun w2 hB => rput_no v b ks vs l key val w2 (by omega) ((h.below hB).more hB.size) hkv (by omega) hh) (fun w2 hB => ?_)
        have := rdrop_no v b ks vs l key w2 (by omega) ((h.below hB).more hB.size) hkv (by omega) hh
        rwa [cut_both, cut_both] at this
  · exact puts_big v b ks vs l key val w h hsm
end Go.Proofs.Ytogpdgogcjljfaa
