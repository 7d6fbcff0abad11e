/-
  Package leaf: Find, spliced, cut, joined, fit.
-/
import Derived.Test.YtogpdgogcjljfaaLeafP
namespace Go.Proofs.Ytogpdgogcjljfaa
open Go.RowKit

def findN (b : Bool) (ks vs : List Int) (key : Int) : Nat := if rightB b ks vs = true then lowN key ks else 0
def findB (b : Bool) (ks vs : List Int) (key : Int) : Bool := rightB b ks vs && hasB key ks
theorem rightB_rise {b : Bool} {ks vs : List Int} (h : rightB b ks vs = true) : riseB ks = true := by
  unfold rightB at h
  simp only [Bool.and_eq_true] at h
  exact h.2

set_option maxHeartbeats 1000000 in
theorem find_any (v : Value) (b : Bool) (ks vs : List Int) (l key : Int) (w : World) (hl : ks.length ≤ 1000) (h : Nd w w.heap.size v b ks vs l) :
    Calls Try.prog 19 #[v, .int .u64 key] w fun e w' => e = .returned (.tuple #[.int .i64 (findN b ks vs key), .bool (findB b ks vs key)]) ∧ Below w.heap.size w w' := by
  obtain ⟨k, u, rfl, hk, hu⟩ := h
  have hn : Nd w w.heap.size (.agg #[.bool b, k, u, .int .u64 l]) b ks vs l := ⟨k, u, rfl, hk, hu⟩
  have Rt := hide (fun w2 (hb : Below w.heap.size w w2) => right_any _ b ks vs l w2 (by omega) ((hn.below hb).more hb.size))
  obtain ⟨A, c, rfl, h1, h2, h3⟩ := hk
  have So := hide (fun w2 (hb : Below w.heap.size w w2) => of_any 1 key A ks.length c ks w2 (by omega) ((h3.below hb).more hb.size))
  have E1 : Hid (findN b ks vs key = if rightB b ks vs = true then lowN key ks else 0) := hide rfl
  have E2 : Hid (findB b ks vs key = (rightB b ks vs && hasB key ks)) := hide rfl
  generalize findN b ks vs key = fN at *
  generalize findB b ks vs key = fB at *
  clear hn
  obtain ⟨A', c', rfl, _⟩ := hu
  have bx := Blk.new w 27 #[.bool b, .slice A ks.length c, .slice A' vs.length c', .int .u64 l]
  have B0 := (Below.refl w.heap.size w).alloc (Nat.le_refl _) (.cells #[.bool b, .slice A ks.length c, .slice A' vs.length c', .int .u64 l] 27)
  by_cases hr : rightB b ks vs = true
  · have hrise := rightB_rise hr
    have hc := hide (find_count (key := key) hrise hl)
    have hhas := hide (has_iff (key := key) hrise)
    have hle := lowN_le key ks
    rw [hr] at Rt
    rw [hr] at E1 E2
    simp only [if_true, Bool.true_and] at E1 E2
    rw [hc.out] at So
    rw [hhas.out] at E2
    clear hc hrise hhas hr
    generalize lowN key ks = q at *
    have H3 := hide h3
    clear h3
    go_enter Try.func19, Try.ntmps19
    go_wp2_with fail
    refine (Rt.out _ B0).mono ?_
    rintro e w1 ⟨rfl, hb1⟩
    have b1 := bx.below hb1 bx.lt
    have B1 := B0.trans (hb1.mono B0.size)
    have c1 := fun i => b1.cell i
    have f1 := fun i => b1.frozen i
    go_wp2_with fail
    refine (So.out _ B1).mono ?_
    rintro e w2 ⟨rfl, hb2⟩
    have b2 := b1.below hb2 b1.lt
    have B2 := B1.trans (hb2.mono B1.size)
    clear c1 f1
    have c2 := fun i => b2.cell i
    have f2 := fun i => b2.frozen i
    by_cases hq : q < ks.length
    · obtain ⟨a, rfl, hkl, z1⟩ := (H3.out.below B2).word hq
      have G1 := hide (show ks.getD q 0 = ks[q] by simp [List.getD, hkl])
      have d1 : decide (q < ks.length) = true := by simpa using hq
      rw [G1.out, d1] at E2
      clear H3 So Rt G1 d1
      generalize ks[q] = x at *
      generalize ks.length = n at *
      generalize vs.length = m at *
      clear bx b1 B0 B1 hb1 hb2
      go_wp2_with fail
      go_quiet (fail)
      go_wp2_with fail
      go_ret2
      exact ⟨by rw [E1.out, E2.out]; simp, below_drewN B2 _⟩
    · have d1 : decide (q < ks.length) = false := by simpa using hq
      rw [d1] at E2
      clear H3 So Rt d1
      generalize ks.length = n at *
      generalize vs.length = m at *
      clear bx b1 B0 B1 hb1 hb2
      go_wp2_with fail
      go_quiet (fail)
      go_wp2_with fail
      go_ret2
      exact ⟨by rw [E1.out, E2.out]; simp, below_drewN B2 _⟩
  · have hr : rightB b ks vs = false := by simpa using hr
    rw [hr] at Rt
    rw [hr] at E1 E2
    simp at E1 E2
    clear h3
    go_enter Try.func19, Try.ntmps19
    go_wp2_with fail
    refine (Rt.out _ B0).mono ?_
    rintro e w1 ⟨rfl, hb1⟩
    go_wp2_with fail
    go_ret2
    exact ⟨by rw [E1.out, E2.out]; rfl, B0.trans (hb1.mono B0.size)⟩

theorem reads3 {w : World} {g : Nat} {t : TypeId} {cs : List Value} {n : Nat} (h : Blk w g t cs.toArray) (hn : cs.length = n) : Reads w (g + 1) 1 (some ⟨g, 0, none⟩) n cs := by
  have := Reads.blk h n 1 (by simp [hn])
  simpa using this

set_option maxHeartbeats 1000000 in
theorem spliced_any (v vi : Value) (xs ins : List Int) (a b : Nat) (w : World) (hab : a ≤ b) (hb : b ≤ xs.length) (hl : xs.length ≤ 1000) (hi : ins.length ≤ 1000) (h : Sl w w.heap.size v xs) (h' : Sl w w.heap.size vi ins) :
    Calls Try.prog 32 #[v, .int .i64 a, .int .i64 b, vi] w fun e w' => (∃ u, e = .returned u ∧ Own w' w.heap.size u (cutL xs 0 a ++ ins ++ cutL xs b xs.length)) ∧ Below w.heap.size w w' := by
  have P1 := hide (fun w2 (hB : Below w.heap.size w w2) => part_any v xs 0 a w2 (by omega) (by omega) (by omega) ((h.below hB).more hB.size))
  have P2 := hide (fun w2 (hB : Below w.heap.size w w2) => part_any v xs b xs.length w2 (by omega) (by omega) (by omega) ((h.below hB).more hB.size))
  have l1 := hide (cutL_len xs 0 a (by omega))
  have l2 := hide (cutL_len xs b xs.length (by omega))
  obtain ⟨A, c, rfl, g1, g2, _⟩ := h
  have h'' := h'
  obtain ⟨Ai, ci, rfl, _⟩ := h''
  have Cc := hide (fun u1 u2 => concat_any [(u1, cutL xs 0 a), (.slice Ai ins.length ci, ins), (u2, cutL xs b xs.length)])
  generalize cutL xs 0 a = y1 at *
  generalize cutL xs b xs.length = y2 at *
  go_enter Try.func32, Try.ntmps32
  go_wp2_with fail
  refine (P1.out _ (Below.refl _ _)).mono ?_
  rintro e w1 ⟨⟨u1, rfl, r1⟩, hb1⟩
  go_wp2_with fail
  refine (P2.out _ hb1).mono ?_
  rintro e w2 ⟨⟨u2, rfl, r2⟩, hb2⟩
  obtain ⟨A1, c1, rfl⟩ := r1.val
  obtain ⟨A2, c2, rfl⟩ := r2.val
  go_wp2_with fail
  have B2 := hb1.trans (hb2.mono hb1.size)
  have b3 := Blk.new w2 25 #[.slice A1 y1.length c1, .slice Ai ins.length ci, .slice A2 y2.length c2]
  have B3 := (Below.refl w2.heap.size w2).alloc (Nat.le_refl _) (.cells #[.slice A1 y1.length c1, .slice Ai ins.length ci, .slice A2 y2.length c2] 25)
  have q3 : w2.heap.size + 1 ≤ (w2.alloc (.cells #[.slice A1 y1.length c1, .slice Ai ins.length ci, .slice A2 y2.length c2] 25)).heap.size := (by simp only [World.size_alloc]; omega)
  refine (Cc.out _ _ _ 3 3 _ rfl (by omega) ((reads3 b3 rfl).more q3) ?_ ?_).mono ?_
  · intro p hp
    simp only [List.mem_cons, List.not_mem_nil, or_false] at hp
    rcases hp with rfl | rfl | rfl
    · exact ((r1.below hb2).sl.below B3).more (by omega)
    · exact (((h'.below B2).more B2.size).below B3).more (by omega)
    · exact (r2.sl.below B3).more (by omega)
  · have := l1.out
    have := l2.out
    simp
    omega
  rintro e w4 ⟨⟨u4, rfl, r4⟩, hb4⟩
  go_wp2_with fail
  go_ret
  refine ⟨⟨u4, rfl, ?_⟩, (B2.trans (B3.mono B2.size)).trans (hb4.mono (by have := B2.size; omega))⟩
  exact (by simpa using r4.mono (show w.heap.size ≤ _ by have := B2.size; simp only [World.size_alloc]; omega))
end Go.Proofs.Ytogpdgogcjljfaa
