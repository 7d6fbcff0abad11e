/-
  InnerLooks: the plain law.
-/
import Derived.Test.YtcmoblibjhaegaaIa
import Derived.Test.YtcmoblibjhaegaaIdr
import Derived.Test.YtcmoblibjhaegaaIk
namespace Go.Proofs.Ytcmoblibjhaegaa
open Go.RowKit

theorem up_app (p : Int) (a b : List Int) : upN p (a ++ b) = upN p a + upN p b := by unfold upN; rw [List.filter_append, List.length_append]
theorem up_all {p : Int} {a : List Int} (h : ∀ x ∈ a, x ≤ p) : upN p a = a.length := by
  unfold upN
  rw [List.filter_eq_self.2 (fun x hx => by simp; exact h x hx)]
theorem up_none {p : Int} {a : List Int} (h : ∀ x ∈ a, p < x) : upN p a = 0 := by
  unfold upN
  rw [List.filter_eq_nil_iff.2 (fun x hx => by simp; exact h x hx)]
  rfl
theorem up_cons (p x : Int) (a : List Int) : upN p (x :: a) = (if x ≤ p then 1 else 0) + upN p a := by
  unfold upN
  by_cases h : x ≤ p
  · simp [h]; omega
  · simp [h]
theorem child_right {ks vs : List Int} {key : Int} (hr : rightI true ks vs = true) : childN true ks vs key = upN key ks := by unfold childN; rw [if_pos hr]
theorem getD_take (l : List Int) {k p : Nat} (h : k < p) (hp : p ≤ l.length) (m : List Int) : (l.take p ++ m).getD k 0 = l.getD k 0 := by
  have h1 : k < (l.take p ++ m).length := by simp; omega
  rw [gD _ _ h1, gD l k (by omega), List.getElem_append_left (by simp; omega)]
  simp
theorem getD_drop (l : List Int) {k p j q : Nat} (m : List Int) (hm : m.length = p) (hk : p ≤ k) (hj : k - p + q = j) (hj2 : j < l.length) : (m ++ l.drop q).getD k 0 = l.getD j 0 := by
  have h1 : k < (m ++ l.drop q).length := by simp; omega
  rw [gD _ _ h1, gD l j hj2, List.getElem_append_right (by omega)]
  simp only [List.getElem_drop]
  congr 1
  omega
/-- Where a child is added. -/
theorem add_looks {ks vs : List Int} {key child probe : Int} {p q : Nat} (hr : rightI true ks vs = true) (hp : p = q + 1) (hpv : p ≤ vs.length) (h3 : rightI true (ks.take q ++ [key] ++ ks.drop q) (vs.take p ++ [child] ++ vs.drop p) = true) :
    upN probe (ks.take q ++ [key] ++ ks.drop q) < (vs.take p ++ [child] ++ vs.drop p).length ∧ (upN probe (ks.take q ++ [key] ++ ks.drop q) = p ∨ (upN probe (ks.take q ++ [key] ++ ks.drop q) ≠ p ∧ (vs.take p ++ [child] ++ vs.drop p).getD (upN probe (ks.take q ++ [key] ++ ks.drop q)) 0 = vs.getD (upN probe ks) 0)) := by
  obtain ⟨_, hkv, _⟩ := rightI_parts hr
  obtain ⟨_, hl3, hr3⟩ := rightI_parts h3
  have hpw := (rise_pw _).1 hr3
  rw [List.append_assoc, List.pairwise_append] at hpw
  obtain ⟨_, hpw2, hpw3⟩ := hpw
  rw [List.singleton_append, List.pairwise_cons] at hpw2
  have g1 : ∀ x ∈ ks.take q, x < key := fun x hx => hpw3 x hx key (by simp)
  have g2 : ∀ x ∈ ks.drop q, key < x := hpw2.1
  have hw : upN probe ks = upN probe (ks.take q) + upN probe (ks.drop q) := by rw [← up_app, List.take_append_drop]
  have hk : upN probe (ks.take q ++ [key] ++ ks.drop q) = upN probe (ks.take q) + (if key ≤ probe then 1 else 0) + upN probe (ks.drop q) := by
    rw [up_app, up_app, up_cons]
    simp [upN]
  have b1 := upN_le probe (ks.take q)
  have b2 := upN_le probe (ks.drop q)
  rw [List.length_take] at b1
  rw [List.length_drop] at b2
  have hlen : (vs.take p ++ [child] ++ vs.drop p).length = vs.length + 1 := by simp; omega
  rw [hlen]
  by_cases hkp : key ≤ probe
  · rw [if_pos hkp] at hk
    have a1 := up_all (p := probe) (a := ks.take q) (fun x hx => by have := g1 x hx; omega)
    rw [List.length_take] at a1
    refine ⟨by omega, ?_⟩
    by_cases he : upN probe (ks.take q ++ [key] ++ ks.drop q) = p
    · exact .inl he
    · refine .inr ⟨he, ?_⟩
      rw [getD_drop vs (p := p + 1) (q := p) (j := upN probe ks) (vs.take p ++ [child]) (by simp; omega) (by omega) (by omega) (by omega)]
  · rw [if_neg hkp] at hk
    have a1 := up_none (p := probe) (a := ks.drop q) (fun x hx => by have := g2 x hx; omega)
    refine ⟨by omega, .inr ⟨by omega, ?_⟩⟩
    rw [List.append_assoc, getD_take vs (by omega) hpv]
    congr 1
    omega
/-- Where one goes. -/
theorem drop_looks {ks vs : List Int} {probe : Int} {p q : Nat} (hr : rightI true ks vs = true) (hq : q = p - 1) (hpv : p < vs.length) (h2 : 1 < vs.length) :
    upN probe (ks.take q ++ ks.drop (q + 1)) < (vs.take p ++ vs.drop (p + 1)).length ∧
      ((upN probe ks ≠ p ∧ (vs.take p ++ vs.drop (p + 1)).getD (upN probe (ks.take q ++ ks.drop (q + 1))) 0 = vs.getD (upN probe ks) 0) ∨ (upN probe ks = p ∧ 0 < p ∧ upN probe (ks.take q ++ ks.drop (q + 1)) + 1 = p) ∨ (upN probe ks = p ∧ p = 0 ∧ upN probe (ks.take q ++ ks.drop (q + 1)) = 0)) := by
  obtain ⟨_, hkv, hri⟩ := rightI_parts hr
  have hql : q < ks.length := by omega
  have hsplit : ks = ks.take q ++ ks[q] :: ks.drop (q + 1) := by rw [← List.drop_eq_getElem_cons hql, List.take_append_drop]
  have hpw := (rise_pw _).1 hri
  rw [hsplit, List.pairwise_append, List.pairwise_cons] at hpw
  obtain ⟨_, ⟨g2, _⟩, g3⟩ := hpw
  have g1 : ∀ x ∈ ks.take q, x < ks[q] := fun x hx => g3 x hx _ (List.mem_cons_self ..)
  have hw : upN probe ks = upN probe (ks.take q) + ((if ks[q] ≤ probe then 1 else 0) + upN probe (ks.drop (q + 1))) := by
    conv => lhs; rw [hsplit]
    rw [up_app, up_cons]
  have hk : upN probe (ks.take q ++ ks.drop (q + 1)) = upN probe (ks.take q) + upN probe (ks.drop (q + 1)) := up_app _ _ _
  have b1 := upN_le probe (ks.take q)
  have b2 := upN_le probe (ks.drop (q + 1))
  rw [List.length_take] at b1
  rw [List.length_drop] at b2
  have hlen : (vs.take p ++ vs.drop (p + 1)).length = vs.length - 1 := by simp; omega
  rw [hlen]
  by_cases hkp : ks[q] ≤ probe
  · rw [if_pos hkp] at hw
    have a1 := up_all (p := probe) (a := ks.take q) (fun x hx => by have := g1 x hx; omega)
    rw [List.length_take] at a1
    refine ⟨by omega, ?_⟩
    by_cases he : upN probe ks = p
    · exact .inr (.inl ⟨he, by omega, by omega⟩)
    · refine .inl ⟨he, ?_⟩
      rw [getD_drop vs (p := p) (q := p + 1) (j := upN probe ks) (vs.take p) (by simp; omega) (by omega) (by omega) (by omega)]
  · rw [if_neg hkp] at hw
    have a1 := up_none (p := probe) (a := ks.drop (q + 1)) (fun x hx => by have := g2 x hx; omega)
    refine ⟨by omega, ?_⟩
    by_cases he : upN probe ks = p
    · exact .inr (.inr ⟨he, by omega, by omega⟩)
    · refine .inl ⟨he, ?_⟩
      rw [getD_take vs (by omega) (by omega)]
      congr 1
      omega
theorem addCase (v : Value) (ks vs : List Int) (l i key probe : Int) (w : World) (hl : ks.length ≤ 80) (h : Nd w w.heap.size v true ks vs l) (hr : rightI true ks vs = true) :
    (∀ w2, Below w.heap.size w w2 → Calls Try.prog 17 #[v, .int .i64 i, .int .u64 key, .int .u64 12345] w2 fun e w' => e = .returned (.tuple #[.agg #[.bool false, .slice none 0 0, .slice none 0 0, .int .u64 0], .bool false]) ∧ Below w2.heap.size w2 w') ∨ ∃ (y1 y2 : List Int) (k : Nat), (∀ w2, Below w.heap.size w w2 → Calls Try.prog 17 #[v, .int .i64 i, .int .u64 key, .int .u64 12345] w2 fun e w' => (∃ u, e = .returned (.tuple #[u, .bool true]) ∧ NdO w' w2.heap.size u true y1 y2 l) ∧ Below w2.heap.size w2 w') ∧ y1.length ≤ 1000 ∧ childN true y1 y2 probe = k ∧ k ≤ 1000 ∧ k < y2.length ∧ ((k : Int) = i ∨ ((k : Int) ≠ i ∧ y2.getD k 0 = vs.getD (upN probe ks) 0)) := by
  obtain ⟨_, hkv, _⟩ := rightI_parts hr
  by_cases hi : 1 ≤ i ∧ i ≤ (vs.length : Int)
  · obtain ⟨q, hq⟩ : ∃ q : Nat, i = ((q + 1 : Nat) : Int) := ⟨(i - 1).toNat, by omega⟩
    cases h3 : rightI true (ks.take q ++ [key] ++ ks.drop q) (vs.take (q + 1) ++ [12345] ++ vs.drop (q + 1)) with
    | false => exact .inl fun w2 hB => iadd_no v true ks vs l i key 12345 w2 (by omega) ((h.below hB).more hB.size) hr (q + 1) q hq rfl (by omega) h3
    | true =>
      obtain ⟨a1, a2⟩ := add_looks (probe := probe) hr rfl (by omega) h3
      refine .inr ⟨_, _, _, fun w2 hB => iadd_yes v true ks vs l i key 12345 w2 (by omega) ((h.below hB).more hB.size) hr (q + 1) q hq rfl (by omega) h3, by simp; omega, child_right h3, by have := a1; simp only [List.length_append, List.length_take, List.length_drop, List.length_cons, List.length_nil] at this; omega, a1, ?_⟩
      rcases a2 with a2 | ⟨a2, a3⟩
      · exact .inl (by rw [a2, hq])
      · exact .inr ⟨by rw [hq]; omega, a3⟩
  · exact .inl fun w2 hB => iadd_out v true ks vs l i key 12345 w2 (by omega) ((h.below hB).more hB.size) (.inr hi)
theorem dropCase (v : Value) (ks vs : List Int) (l i probe : Int) (w : World) (hl : ks.length ≤ 80) (h : Nd w w.heap.size v true ks vs l) (hr : rightI true ks vs = true) :
    (∀ w2, Below w.heap.size w w2 → Calls Try.prog 18 #[v, .int .i64 i] w2 fun e w' => e = .returned (.tuple #[.agg #[.bool false, .slice none 0 0, .slice none 0 0, .int .u64 0], .bool false]) ∧ Below w2.heap.size w2 w') ∨ ∃ (y1 y2 : List Int) (k : Nat), (∀ w2, Below w.heap.size w w2 → Calls Try.prog 18 #[v, .int .i64 i] w2 fun e w' => (∃ u, e = .returned (.tuple #[u, .bool true]) ∧ NdO w' w2.heap.size u true y1 y2 l) ∧ Below w2.heap.size w2 w') ∧ y1.length ≤ 1000 ∧ childN true y1 y2 probe = k ∧ k ≤ 1000 ∧ k < y2.length ∧
      (((upN probe ks : Int) ≠ i ∧ y2.getD k 0 = vs.getD (upN probe ks) 0) ∨ ((upN probe ks : Int) = i ∧ 0 < i ∧ (k : Int) = i - 1) ∨ ((upN probe ks : Int) = i ∧ i = 0 ∧ k = 0)) := by
  obtain ⟨_, hkv, hri⟩ := rightI_parts hr
  by_cases hi : 0 ≤ i ∧ i < (vs.length : Int) ∧ 1 < vs.length
  · obtain ⟨p, hp⟩ : ∃ p : Nat, i = (p : Int) := ⟨i.toNat, by omega⟩
    obtain ⟨a1, a2⟩ := drop_looks (probe := probe) (p := p) hr rfl (by omega) hi.2.2
    refine .inr ⟨_, _, _, fun w2 hB => idrop_yes v true ks vs l i w2 (by omega) ((h.below hB).more hB.size) hr p (p - 1) hp rfl (by omega) hi.2.2, by simp; omega, child_right (rightI_of (by simp; omega) (rise_drop hri _)), by have := a1; simp only [List.length_append, List.length_take, List.length_drop] at this; omega, a1, ?_⟩
    rcases a2 with ⟨a2, a3⟩ | ⟨a2, a3, a4⟩ | ⟨a2, a3, a4⟩
    · exact .inl ⟨by omega, a3⟩
    · exact .inr (.inl ⟨by omega, by omega, by omega⟩)
    · exact .inr (.inr ⟨by omega, by omega, a4⟩)
  · exact .inl fun w2 hB => idrop_out v true ks vs l i w2 (by omega) ((h.below hB).more hB.size) (.inr hi)
end Go.Proofs.Ytcmoblibjhaegaa
