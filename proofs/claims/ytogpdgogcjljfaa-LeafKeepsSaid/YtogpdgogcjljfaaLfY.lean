/-
  What comes of a leaf by a put or a drop may be; what was put is found, what was dropped is not.
-/
import Derived.Test.YtogpdgogcjljfaaLfU
namespace Go.Proofs.Ytogpdgogcjljfaa
open Go.RowKit

theorem gD (l : List Int) (i : Nat) (h : i < l.length) : l.getD i 0 = l[i] := by simp [h]
theorem gDr (a b : List Int) (x : Int) (p : Nat) (h : a.length = p) : (a ++ ([x] ++ b)).getD p 0 = x := by subst h; simp
theorem rise_pw (l : List Int) : riseB l = true ↔ l.Pairwise (· < ·) := by
  rw [riseB_iff, List.pairwise_iff_getElem]
  constructor
  · intro h i j hi hj hij
    have := rise_lt' h hij hj
    rwa [gD _ _ hi, gD _ _ hj] at this
  · intro h i hi
    rw [gD _ _ (by omega), gD _ _ hi]
    exact h i (i + 1) (by omega) hi (by omega)
theorem low_split {key : Int} {ks : List Int} (h : riseB ks = true) : (∀ x ∈ ks.take (lowN key ks), x < key) ∧ (∀ x ∈ ks.drop (lowN key ks), key ≤ x) := by
  obtain ⟨h1, h2⟩ := low_spec (key := key) h
  constructor
  · intro x hx
    obtain ⟨i, hi, rfl⟩ := List.getElem_of_mem hx
    simp only [List.length_take] at hi
    have := h1 i (by omega)
    rw [gD _ _ (by omega)] at this
    rwa [List.getElem_take]
  · intro x hx
    obtain ⟨i, hi, rfl⟩ := List.getElem_of_mem hx
    simp only [List.length_drop] at hi
    have := h2 (lowN key ks + i) (by omega) (by omega)
    rw [gD _ _ (by omega)] at this
    rwa [List.getElem_drop]
theorem putL_eq (l : List Int) (i j : Nat) (ins : List Int) : putL l i j ins = l.take i ++ ins ++ l.drop j := by
  unfold putL cutL
  simp
theorem lowN_app (key : Int) (a b : List Int) (ha : ∀ x ∈ a, x < key) (hb : ∀ x ∈ b, key ≤ x) : lowN key (a ++ b) = a.length := by
  unfold lowN
  rw [List.filter_append, List.length_append, List.filter_eq_self.2 (fun x hx => by simp; exact ha x hx), List.filter_eq_nil_iff.2 (fun x hx => by simp; exact hb x hx)]
  rfl
theorem hasB_false {key : Int} {l : List Int} (h : hasB key l = false) : ∀ x ∈ l, x ≠ key := by
  unfold hasB at h
  intro x hx e
  subst e
  have : (l.any fun k => k == x) = true := List.any_eq_true.2 ⟨x, hx, by simp⟩
  rw [h] at this
  cases this
theorem put_keeps' {key val : Int} {ks vs : List Int} (hr : rightB false ks vs = true) (hh : hasB key ks = false) :
    rightB false (putL ks (lowN key ks) (lowN key ks) [key]) (putL vs (lowN key ks) (lowN key ks) [val]) = true ∧ (putL ks (lowN key ks) (lowN key ks) [key]).length ≤ ks.length + 1 ∧ hasB key (putL ks (lowN key ks) (lowN key ks) [key]) = true
      ∧ (putL vs (lowN key ks) (lowN key ks) [val]).getD (lowN key (putL ks (lowN key ks) (lowN key ks) [key])) 0 = val := by
  have hrise := rightB_rise hr
  have hlen : ks.length = vs.length := by
    unfold rightB at hr
    simp only [Bool.and_eq_true, beq_iff_eq] at hr
    exact hr.1.2
  have hp := lowN_le key ks
  obtain ⟨h1, h2⟩ := low_split (key := key) hrise
  have hpw := (rise_pw ks).1 hrise
  have h3 := hasB_false hh
  have hlow : lowN key (putL ks (lowN key ks) (lowN key ks) [key]) = lowN key ks := by
    rw [putL_eq, List.append_assoc, lowN_app key _ _ h1 (fun x hx => ?_)]
    · simp; omega
    · rcases List.mem_append.1 hx with hx | hx
      · simp at hx; omega
      · exact h2 x hx
  refine ⟨?_, ?_, ?_, ?_⟩
  · unfold rightB
    simp only [Bool.and_eq_true, beq_iff_eq]
    refine ⟨⟨rfl, ?_⟩, ?_⟩
    · simp only [putL_eq, List.length_append, List.length_take, List.length_drop, List.length_cons, List.length_nil]
      omega
    · rw [rise_pw, putL_eq, List.append_assoc, List.pairwise_append]
      refine ⟨hpw.sublist (List.take_sublist _ _), ?_, ?_⟩
      · rw [List.singleton_append, List.pairwise_cons]
        refine ⟨fun x hx => ?_, hpw.sublist (List.drop_sublist _ _)⟩
        have := h2 x hx
        have := h3 x (List.mem_of_mem_drop hx)
        omega
      · intro a ha b hb
        have := h1 a ha
        rcases List.mem_append.1 hb with hb | hb
        · simp at hb; omega
        · have := h2 b hb; omega
  · simp only [putL_eq, List.length_append, List.length_take, List.length_drop, List.length_cons, List.length_nil]
    omega
  · unfold hasB
    rw [putL_eq]
    simp
  · rw [hlow, putL_eq, List.append_assoc, gDr _ _ _ _ (by simp; omega)]
theorem put_keeps'' {key val : Int} {ks vs : List Int} (hr : rightB false ks vs = true) (hh : hasB key ks = true) :
    rightB false ks (putL vs (lowN key ks) (lowN key ks + 1) [val]) = true ∧ (putL vs (lowN key ks) (lowN key ks + 1) [val]).getD (lowN key ks) 0 = val := by
  have hrise := rightB_rise hr
  have hlt := has_lt hrise hh
  have hlen : ks.length = vs.length := by
    unfold rightB at hr
    simp only [Bool.and_eq_true, beq_iff_eq] at hr
    exact hr.1.2
  refine ⟨?_, ?_⟩
  · unfold rightB
    simp only [Bool.and_eq_true, beq_iff_eq]
    refine ⟨⟨rfl, ?_⟩, hrise⟩
    simp only [putL_eq, List.length_append, List.length_take, List.length_drop, List.length_cons, List.length_nil]
    omega
  · rw [putL_eq, List.append_assoc, gDr _ _ _ _ (by simp; omega)]
theorem drop_keeps' {key : Int} {ks vs : List Int} (hr : rightB false ks vs = true) (hh : hasB key ks = true) :
    rightB false (putL ks (lowN key ks) (lowN key ks + 1) []) (putL vs (lowN key ks) (lowN key ks + 1) []) = true ∧ (putL ks (lowN key ks) (lowN key ks + 1) []).length ≤ ks.length + 1 ∧ hasB key (putL ks (lowN key ks) (lowN key ks + 1) []) = false := by
  have hrise := rightB_rise hr
  have hlt := has_lt hrise hh
  have hlen : ks.length = vs.length := by
    unfold rightB at hr
    simp only [Bool.and_eq_true, beq_iff_eq] at hr
    exact hr.1.2
  obtain ⟨h1, h2⟩ := low_split (key := key) hrise
  have hpw := (rise_pw ks).1 hrise
  have h4 : ∀ x ∈ ks.drop (lowN key ks + 1), key < x := by
    have hd := hpw.sublist (List.drop_sublist (lowN key ks) ks)
    rw [List.drop_eq_getElem_cons hlt] at hd h2
    intro x hx
    have := (List.pairwise_cons.1 hd).1 x hx
    have := h2 _ (List.mem_cons_self ..)
    omega
  refine ⟨?_, ?_, ?_⟩
  · unfold rightB
    simp only [Bool.and_eq_true, beq_iff_eq]
    refine ⟨⟨rfl, ?_⟩, ?_⟩
    · simp only [putL_eq, List.length_append, List.length_take, List.length_drop, List.length_nil]
      omega
    · rw [rise_pw, putL_eq, List.append_nil, List.pairwise_append]
      refine ⟨hpw.sublist (List.take_sublist _ _), hpw.sublist (List.drop_sublist _ _), fun a ha b hb => ?_⟩
      have := h1 a ha
      have := h4 b hb
      omega
  · simp only [putL_eq, List.length_append, List.length_take, List.length_drop, List.length_nil]
    omega
  · unfold hasB
    rw [putL_eq, List.append_nil, Bool.eq_false_iff]
    intro e
    obtain ⟨x, hx, hxe⟩ := List.any_eq_true.1 e
    rw [beq_iff_eq] at hxe
    rcases List.mem_append.1 hx with hx | hx
    · have := h1 x hx; omega
    · have := h4 x hx; omega

theorem put_keeps (v : Value) (ks vs : List Int) (l key val : Int) (w : World) (hl : ks.length ≤ 1000) (h : Nd w w.heap.size v false ks vs l) (hr : rightB false ks vs = true) :
    Calls Try.prog 20 #[v, .int .u64 key, .int .u64 val] w fun e w' => (∃ u x y ks' vs', e = .returned (.tuple #[u, .int .u64 x, .bool y]) ∧ NdO w' w.heap.size u false ks' vs' l ∧ rightB false ks' vs' = true ∧ ks'.length ≤ ks.length + 1 ∧ hasB key ks' = true ∧ vs'.getD (lowN key ks') 0 = val) ∧ Below w.heap.size w w' := by
  cases hh : hasB key ks with
  | true =>
    refine (put_yes v false ks vs l key val w hl h hr hh).mono ?_
    rintro e w' ⟨⟨u, he, hu⟩, hb⟩
    obtain ⟨h1, h2⟩ := put_keeps'' (val := val) hr hh
    exact ⟨⟨u, _, _, _, _, he, hu, h1, by omega, hh, h2⟩, hb⟩
  | false =>
    refine (put_new v false ks vs l key val w hl h hr hh).mono ?_
    rintro e w' ⟨⟨u, he, hu⟩, hb⟩
    obtain ⟨h1, h2, h3, h4⟩ := put_keeps' (val := val) hr hh
    exact ⟨⟨u, _, _, _, _, he, hu, h1, h2, h3, h4⟩, hb⟩
theorem drop_keeps (v : Value) (ks vs : List Int) (l key : Int) (w : World) (hl : ks.length ≤ 1000) (h : Nd w w.heap.size v false ks vs l) (hr : rightB false ks vs = true) :
    Calls Try.prog 21 #[v, .int .u64 key] w fun e w' => (∃ u x y ks' vs', e = .returned (.tuple #[u, .int .u64 x, .bool y]) ∧ NdO w' w.heap.size u false ks' vs' l ∧ rightB false ks' vs' = true ∧ ks'.length ≤ ks.length + 1 ∧ hasB key ks' = false) ∧ Below w.heap.size w w' := by
  cases hh : hasB key ks with
  | true =>
    refine (drop_yes v false ks vs l key w hl h hr hh).mono ?_
    rintro e w' ⟨⟨u, he, hu⟩, hb⟩
    obtain ⟨h1, h2, h3⟩ := drop_keeps' hr hh
    exact ⟨⟨u, _, _, _, _, he, hu, h1, h2, h3⟩, hb⟩
  | false =>
    refine (drop_not v false ks vs l key w hl h hr hh).mono ?_
    rintro e w' ⟨⟨u, he, hu⟩, hb⟩
    exact ⟨⟨u, _, _, _, _, he, hu, hr, by omega, hh⟩, hb⟩
end Go.Proofs.Ytogpdgogcjljfaa
