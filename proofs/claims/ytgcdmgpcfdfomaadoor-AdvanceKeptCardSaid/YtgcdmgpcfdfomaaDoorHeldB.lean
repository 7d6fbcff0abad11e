/-
  The same, with the waiting operations reckoned.
-/
import Derived.Test.YtgcdmgpcfdfomaaDoorHeldZ
namespace Go.Proofs.YtgcdmgpcfdfomaaDoor

section
variable {P : Program} {ops : Array Oper} {Q : Exit → Act → World → Prop} {md : Region.Mode} {S : World → Prop} {zs : List Nat}
/-- Those that wait for i. -/
def blockedZ (md : Region.Mode) (ops : Array Oper) (listed : Array Bool) (i : Nat) : List Nat :=
  (List.range ops.size).foldl (fun B k => if !(k == i) && !listed.getD k true && (match ops[k]? with | some o => o.after.any fun e => Region.binds md e && (e.on == i || B.contains e.on) | none => false) then B ++ [k] else B) []
theorem wpAnyZ_takeA {i : Nat} {oi : Oper} {v : Value} {fuel : Nat} {listed : Array Bool} {a : Act} {w : World} (hi : ops[i]? = some oi)
    (hs : Region.noSelect ops = true) (hf : Region.free md ops listed i = true) (hr : (Region.ready md ops listed).contains i = true) (hB : waitsB md ops listed zs i (blockedZ md ops listed i) = true)
    (hQ : ∀ c a w, Q (.panic c) (a.put oi.dst v) w → Q (.panic c) a w) (hS : S w) (hw : Region.wanted oi (yielded ops a.tmps) = true) (hy : ∀ w, S w → (execOp a.eval oi).run P w = .ok (.value v) w)
    (h : wpAnyZ P md ops Q zs S fuel (listed.setIfInBounds i true) (a.put oi.dst v) w) : wpAnyZ P md ops Q zs S (fuel + 1) listed a w :=
  wpAnyZ_take (blockedZ md ops listed i) hi hs hf hr hB hQ hS hw hy h
/-- A guarded operation whose guard says no. -/
theorem wpAnyZ_skipA {i : Nat} {oi : Oper} {fuel : Nat} {listed : Array Bool} {a : Act} {w : World} (B : List Nat) (hB : B = blockedZ md ops listed i) (hi : ops[i]? = some oi)
    (hs : Region.noSelect ops = true) (hf : Region.free md ops listed i = true) (hr : (Region.ready md ops listed).contains i = true) (hW : waitsB md ops listed zs i B = true)
    (hQ : ∀ c a w, Q (.panic c) (a.put oi.dst undef) w → Q (.panic c) a w) (hS : S w) (hw : Region.wanted oi (yielded ops a.tmps) = false)
    (h : wpAnyZ P md ops Q zs S fuel (listed.setIfInBounds i true) (a.put oi.dst undef) w) : wpAnyZ P md ops Q zs S (fuel + 1) listed a w := by
  subst hB
  simp only [waitsB, Bool.and_eq_true, List.all_eq_true, Bool.not_eq_true', beq_eq_false_iff_ne, List.contains_iff_mem] at hW
  obtain ⟨⟨h1, h2⟩, h3⟩ := hW
  refine wpAnyZ_first hi (Region.noSelect_spec hs) hQ (B := blockedZ md ops listed i) (fun k hk _ o ho => ?_) (fun hiB => (h1 i hiB).1.1 rfl) h2 fuel listed a w (Region.free_spec hi hf) (fun k hk => (h1 k hk).1.2) (by simpa using hr) (.inr ⟨hw, rfl⟩) hS h
  have h4 := (h1 k hk).2
  rw [ho] at h4
  simp only [Array.any_eq_true'] at h4
  obtain ⟨e, he, hb⟩ := h4
  simp only [Bool.and_eq_true, Bool.or_eq_true, beq_iff_eq, List.contains_iff_mem] at hb
  exact ⟨e, he, hb.1, hb.2⟩
end
end Go.Proofs.YtgcdmgpcfdfomaaDoor
