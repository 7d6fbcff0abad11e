/-
  An operation that reads no memory may be taken first, whatever is carried out ahead of it.
-/
import Derived.Test.YtgcdmgpcfdfomaaDoorHeldB
namespace Go.Proofs.YtgcdmgpcfdfomaaDoor

section
variable {P : Program} {ops : Array Oper} {Q : Exit → Act → World → Prop} {md : Region.Mode} {S : World → Prop} {zs : List Nat}
theorem overZ_set {l : Array Bool} {i : Nat} (hi : i ∉ zs) : overZ zs (l.setIfInBounds i true) = overZ zs l := by
  unfold overZ
  rw [Bool.eq_iff_iff, List.any_eq_true, List.any_eq_true]
  constructor
  · rintro ⟨z, hz, h⟩
    rw [getD_set_ne true (fun e => hi (by rw [e]; exact hz))] at h
    exact ⟨z, hz, h⟩
  · rintro ⟨z, hz, h⟩
    refine ⟨z, hz, ?_⟩
    rw [getD_set_ne true (fun e => hi (by rw [e]; exact hz))]
    exact h
theorem wpAnyZ_firstT {i : Nat} {oi : Oper} {v : Value} (hi : ops[i]? = some oi) (hsel : ∀ (j : Nat) (o : Oper) cs b, ops[j]? = some o → o.op ≠ .select cs b)
    (hQ : ∀ c a w, Q (.panic c) (a.put oi.dst v) w → Q (.panic c) a w) (hiz : i ∉ zs) :
    ∀ (fuel : Nat) (listed : Array Bool) (a : Act) (w : World),
      (∀ j oj, ops[j]? = some oj → j ≠ i → listed.getD j true = false → (∀ e ∈ oj.after, Region.binds md e = true → e.on ≠ i) → oi.apart ops oj = true) →
      i ∈ Region.ready md ops listed → YieldsIf P ops (fun _ => True) oi v a → (overZ zs listed = false → S w) →
      wpAnyZ P md ops Q zs S fuel (listed.setIfInBounds i true) (a.put oi.dst v) w → wpAnyZ P md ops Q zs S (fuel + 1) listed a w := by
  intro fuel
  induction fuel with
  | zero =>
    intro listed a w _ hr hy hS H
    refine ⟨fun h => (by rw [h] at hr; cases hr), fun j hj => ?_⟩
    by_cases hji : j = i
    · subst hji; exact hy.wpOp hi trivial ⟨fun h0 => hS (by rwa [overZ_set hiz] at h0), H⟩
    · have := ready_mono hj hji
      rw [H.1] at this
      cases this
  | succ fuel ih =>
    intro listed a w hfree hr hy hS H
    refine ⟨fun h => (by rw [h] at hr; cases hr), fun j hj => ?_⟩
    by_cases hji : j = i
    · subst hji; exact hy.wpOp hi trivial ⟨fun h0 => hS (by rwa [overZ_set hiz] at h0), H⟩
    · have h1 := H.2 j (ready_mono hj hji)
      obtain ⟨hjun, oj, hoj, hall⟩ := mem_ready.1 hj
      have hnot : ∀ e ∈ oj.after, Region.binds md e = true → e.on ≠ i := fun e he hb heq => by
        have h1 := hall e he hb
        have h0 := (mem_ready.1 hr).1
        rw [heq] at h1
        rcases Nat.lt_or_ge i listed.size with h' | h'
        · simp [h'] at h0 h1; rw [h0] at h1; cases h1
        · simp [Array.getElem?_eq_none h'] at h1
      have h2 := wpOp_putIf hoj (hfree j oj hoj hji hjun hnot) (fun cs b => hsel i oi cs b hi) (fun cs b => hsel j oj cs b hoj) hQ hy h1
      have hfree' : ∀ k ok, ops[k]? = some ok → k ≠ i → (listed.setIfInBounds j true).getD k true = false →
          (∀ e ∈ ok.after, Region.binds md e = true → e.on ≠ i) → oi.apart ops ok = true := fun k ok hk hki hun hno => by
        refine hfree k ok hk hki ?_ hno
        by_cases hjk : j = k
        · subst hjk; exact hjun
        · rw [getD_set_ne true hjk] at hun; exact hun
      have hov : ∀ b, overZ zs (listed.setIfInBounds j true) = b → overZ zs ((listed.setIfInBounds i true).setIfInBounds j true) = b := fun b h0 => by
        rw [Array.setIfInBounds_comm _ _ (Ne.symm hji), overZ_set hiz]
        exact h0
      refine wpOp_mono (fun a' w' h3 => ⟨fun h0 => h3.2.1 (hov _ h0), ih (listed.setIfInBounds j true) a' w' hfree' (ready_mono hr (Ne.symm hji)) h3.1 (fun h0 => h3.2.1 (hov _ h0)) ?_⟩) h2
      rw [Array.setIfInBounds_comm _ _ hji]
      exact h3.2.2
theorem wpAnyZ_takeT {i : Nat} {oi : Oper} {v : Value} {fuel : Nat} {listed : Array Bool} {a : Act} {w : World} (hi : ops[i]? = some oi)
    (hs : Region.noSelect ops = true) (hf : Region.free md ops listed i = true) (hr : (Region.ready md ops listed).contains i = true) (hz : zs.contains i = false)
    (hQ : ∀ c a w, Q (.panic c) (a.put oi.dst v) w → Q (.panic c) a w) (hS : S w) (hw : Region.wanted oi (yielded ops a.tmps) = true) (hy : ∀ w, (execOp a.eval oi).run P w = .ok (.value v) w)
    (h : wpAnyZ P md ops Q zs S fuel (listed.setIfInBounds i true) (a.put oi.dst v) w) : wpAnyZ P md ops Q zs S (fuel + 1) listed a w :=
  wpAnyZ_firstT hi (Region.noSelect_spec hs) hQ (fun h => by rw [← List.contains_iff_mem, hz] at h; cases h) fuel listed a w (Region.free_spec hi hf) (by simpa using hr) (.inl ⟨hw, fun w _ => hy w⟩) (fun _ => hS) h
end
end Go.Proofs.YtgcdmgpcfdfomaaDoor
