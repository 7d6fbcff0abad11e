/-
  limbo.Covered: the handles that are covered by hazards, and the others.
-/
import Derived.Test.YtenoekfcffkpeaaParted
import Derived.Test.YtenoekfcffkpeaaMapBool
namespace Go.Proofs.Ytenoekfcffkpeaa
open Go.RowKit

/-- Whether a word is among the hazards, and no 0. -/
def coverB (hz : List Int) (x : Int) : Bool := decide (x ∈ hz) && x != 0
theorem coverB_snoc (l : List Int) (h x : Int) : coverB (l ++ [h]) x = if x = h then h != 0 else coverB l x := by
  unfold coverB
  by_cases e : x = h
  · subst e; simp
  · simp [e]

def CovIn (n : Nat) (l : List Int) (w : World) (i : Value) (wr : World) : Prop :=
  ∃ k : Nat, i = .int .i64 k ∧ k ≤ n ∧ Below w.heap.size w wr ∧ MapIs wr w.heap.size k (coverB (l.take k)) ∧ wr.cell? ⟨w.heap.size + 1, 0, none⟩ = some (.map (some w.heap.size)) ∧ w.heap.size + 1 < wr.heap.size

set_option maxHeartbeats 400000 in
theorem covered1_any (x : Int) (w : World) (g b n : Nat) (f : Int → Bool) (hx : (Lit.int .u64 x).wf = true) (hc : w.cell? ⟨g, 0, none⟩ = some (.map (some b))) (hm : MapIs w b n f) :
    Calls Try.prog 22 #[.int .u64 x, .pointer (some ⟨g, 0, none⟩)] w fun e w' => e = .returned (.bool (f x)) ∧ Below w.heap.size w w' := by
  have hl := hm.look x hx
  clear hm
  go_enter Try.func22, Try.ntmps22
  go_wp2_with fail
  go_ret
  exact ⟨rfl, Below.refl _ _⟩

set_option maxHeartbeats 400000 in
theorem Covered_any (A B : Option Addr) (n c m d : Nat) (l hz : List Int) (w : World) (hn : n ≤ 1000) (hm : m ≤ 1000) (hr : Reads w w.heap.size 1 A n (ints .u64 l)) (hrz : Reads w w.heap.size 1 B m (ints .u64 hz))
    (hwl : ∀ x ∈ l, (Lit.int .u64 x).wf = true) (hwz : ∀ x ∈ hz, (Lit.int .u64 x).wf = true) :
    Calls Try.prog 11 #[.slice A n c, .slice B m d] w fun e w' => (∃ A1 n1 c1 A2 n2 c2, e = .returned (.tuple #[.slice A1 n1 c1, .slice A2 n2 c2]) ∧ n1 = (l.filter (coverB hz)).length ∧ n2 = (l.filter (fun x => !coverB hz x)).length ∧
      Reads w' w'.heap.size 1 A1 n1 (ints .u64 (l.filter (coverB hz))) ∧ Reads w' w'.heap.size 1 A2 n2 (ints .u64 (l.filter fun x => !coverB hz x))) ∧ Below w.heap.size w w' := by
  have hmm := @run_makeMap Try.prog
  go_enter Try.func11, Try.ntmps11
  go_wp2_with fail
  go_loopw [12] (CovIn m hz w) (fun i _ => m - (intOf i).toNat)
  case atStart => 
    refine ⟨0, rfl, by omega, ((Below.refl _ _).alloc (Nat.le_refl _) _).alloc (by simp) _, ?_, by simp [go_sem], by simp⟩
    exact (MapIs.made w).alloc _
  case round =>
    obtain ⟨k, rfl, hk, hb, hmap, hcell, hz1⟩ := hrel
    by_cases hlt : k < m
    · obtain ⟨a, rfl, hkl, z1⟩ := (hrz.below hb).word hlt
      have Hw := hwz hz[k] (List.getElem_mem hkl)
      have Htk := hide (take_snoc' hz k hkl)
      generalize hz[k] = x at *
      go_wp2_with (at_mapUpdate; refine wpList_mapUpdate_bool rfl (.tmp 16) (.tmp 17) (.tmp 19) rfl rfl hmap (by unfold maxLen; omega) x (x != 0) rfl rfl Hw ?_; intro w1 hm1 hg1)
      have hb1 : Below w.heap.size w w1 := hb.grown hg1 hb.size (fun g e => by injection e; omega)
      have hc1 : w1.cell? ⟨w.heap.size + 1, 0, none⟩ = some (.map (some w.heap.size)) := hg1.cell hcell (by simp)
      have hz2 : w.heap.size + 1 < w1.heap.size := Nat.lt_of_lt_of_le hz1 hg1.size
      have hf : (fun j => if j = x then x != 0 else coverB (hz.take k) j) = coverB (hz.take (k + 1)) := by
        rw [Htk.out]
        funext j
        rw [coverB_snoc]
      rw [hf] at hm1
      clear hf
      go_roundw
      case rel => exact ⟨k + 1, by go_num, by omega, hb1, hm1, hc1, hz2⟩
      case measure => simp [intOf]; omega
    · have e : hz.take k = hz := List.take_of_length_le (by have := hrz.lenWord; omega)
      rw [e] at hmap
      go_wp2_with fail
      refine (parted_u64 A n c l 22 #[.pointer (some ⟨w.heap.size + 1, 0, none⟩)] (coverB hz) wr hr.lenWord hn ((hr.below hb).more hb.size) (fun args w' => run_enter Try.func22 (by decide) (by simp [Try.f22]) args w') ?_).mono ?_
      · intro x hx w' hb'
        refine covered1_any x w' (w.heap.size + 1) w.heap.size k (coverB hz) (hwl x hx) ?_ (hmap.below hb')
        rw [hb'.cell (p := ⟨w.heap.size + 1, 0, none⟩) hz1]
        exact hcell
      · rintro e w2 ⟨⟨A1, n1, c1, A2, n2, c2, rfl, e1, e2, r1, r2⟩, hb2⟩
        have E1 := hide e1
        have E2 := hide e2
        clear e1 e2
        go_wp2_with fail
        go_ret2
        exact ⟨⟨A1, n1, c1, A2, n2, c2, rfl, E1.out, E2.out, r1, r2⟩, hb.trans (hb2.mono hb.size)⟩
end Go.Proofs.Ytenoekfcffkpeaa
