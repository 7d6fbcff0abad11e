/-
  leaf.fit, leaf.Merge.
-/
import Derived.Test.YtogpdgogcjljfaaLfS
namespace Go.Proofs.Ytogpdgogcjljfaa
open Go.RowKit

def fitB (b b' : Bool) (ks vs ks' vs' : List Int) : Bool := rightB b ks vs && rightB b' ks' vs' && rightB false (ks ++ ks') (vs ++ vs')
set_option maxHeartbeats 2000000 in
theorem fit_any (v v' : Value) (b b' : Bool) (ks vs ks' vs' : List Int) (l l' : Int) (w : World) (hl : ks.length ≤ 1000) (hl' : vs.length ≤ 1000) (hm : ks'.length ≤ 1000) (hm' : vs'.length ≤ 1000) (h : Nd w w.heap.size v b ks vs l) (h' : Nd w w.heap.size v' b' ks' vs' l') :
    Calls Try.prog 28 #[v, v'] w fun e w' => e = .returned (.bool (fitB b b' ks vs ks' vs')) ∧ Below w.heap.size w w' := by
  have R1 := hide (fun w2 (hB : Below w.heap.size w w2) => right_any v b ks vs l w2 (by omega) ((h.below hB).more hB.size))
  have R2 := hide (fun w2 (hB : Below w.heap.size w w2) => right_any v' b' ks' vs' l' w2 (by omega) ((h'.below hB).more hB.size))
  have Jn := hide (fun w2 (hB : Below w.heap.size w w2) => joined_any v v' b b' ks vs ks' vs' l l' 0 w2 hl hl' hm hm' ((h.below hB).more hB.size) ((h'.below hB).more hB.size))
  have R3 := hide (fun u w2 (hN : Nd w2 w2.heap.size u false (ks ++ ks') (vs ++ vs') 0) => right_any u false (ks ++ ks') (vs ++ vs') 0 w2 (by rw [List.length_append]; omega) hN)
  have E := hide (show fitB b b' ks vs ks' vs' = (rightB b ks vs && rightB b' ks' vs' && rightB false (ks ++ ks') (vs ++ vs')) from rfl)
  generalize fitB b b' ks vs ks' vs' = R at *
  generalize rightB b ks vs = r1 at *
  generalize rightB b' ks' vs' = r2 at *
  generalize rightB false (ks ++ ks') (vs ++ vs') = r3 at *
  generalize ks ++ ks' = kk at *
  generalize vs ++ vs' = vv at *
  clear hl hl' hm hm'
  obtain ⟨k, u, rfl, hk1, hu1⟩ := h
  obtain ⟨k', u', rfl, hk2, hu2⟩ := h'
  obtain ⟨A, c, rfl, _⟩ := hk1
  obtain ⟨B, d, rfl, _⟩ := hu1
  obtain ⟨A', c', rfl, _⟩ := hk2
  obtain ⟨B', d', rfl, _⟩ := hu2
  generalize ks.length = n at *
  generalize vs.length = m at *
  generalize ks'.length = n' at *
  generalize vs'.length = m' at *
  have B0 := (Below.refl w.heap.size w).alloc (Nat.le_refl _) (.cells #[.bool b, .slice A n c, .slice B m d, .int .u64 l] 27)
  have bx := Blk.new w 27 #[.bool b, .slice A n c, .slice B m d, .int .u64 l]
  have by_ := Blk.new (w.alloc (.cells #[.bool b, .slice A n c, .slice B m d, .int .u64 l] 27)) 27 #[.bool b', .slice A' n' c', .slice B' m' d', .int .u64 l']
  replace B0 := B0.alloc B0.size (.cells #[.bool b', .slice A' n' c', .slice B' m' d', .int .u64 l'] 27)
  replace bx := bx.alloc (.cells #[.bool b', .slice A' n' c', .slice B' m' d', .int .u64 l'] 27)
  simp only [World.size_alloc] at by_
  cases r1
  · go_enter Try.func28, Try.ntmps28
    go_wp2_with fail
    refine (R1.out _ B0).mono ?_
    rintro e w1 ⟨rfl, hb1⟩
    try replace bx := bx.below hb1 bx.lt
    try replace bo := bo.below hb1 bo.lt
    try replace by_ := by_.below hb1 by_.lt
    replace B0 := B0.trans (hb1.mono B0.size)
    clear hb1
    try clear mx lx
    try clear mo lo zo
    try clear my ly zy
    try have mx := fun i => bx.cell i
    try have lx := bx.lt
    try have mo := fun i => bo.cell i
    try have lo := bo.lt
    try have zo := fun i => bo.frozen i
    try have my := fun i => by_.cell i
    try have ly := by_.lt
    try have zy := fun i => by_.frozen i
    go_wp2_with fail
    go_ret
    exact ⟨by rw [E.out]; rfl, B0⟩
  · cases r2
    · go_enter Try.func28, Try.ntmps28
      go_wp2_with fail
      refine (R1.out _ B0).mono ?_
      rintro e w1 ⟨rfl, hb1⟩
      try replace bx := bx.below hb1 bx.lt
      try replace bo := bo.below hb1 bo.lt
      try replace by_ := by_.below hb1 by_.lt
      replace B0 := B0.trans (hb1.mono B0.size)
      clear hb1
      try clear mx lx
      try clear mo lo zo
      try clear my ly zy
      try have mx := fun i => bx.cell i
      try have lx := bx.lt
      try have mo := fun i => bo.cell i
      try have lo := bo.lt
      try have zo := fun i => bo.frozen i
      try have my := fun i => by_.cell i
      try have ly := by_.lt
      try have zy := fun i => by_.frozen i
      go_wp2_with fail
      refine (R2.out _ B0).mono ?_
      rintro e w2 ⟨rfl, hb1⟩
      try replace bx := bx.below hb1 bx.lt
      try replace bo := bo.below hb1 bo.lt
      try replace by_ := by_.below hb1 by_.lt
      replace B0 := B0.trans (hb1.mono B0.size)
      clear hb1
      try clear mx lx
      try clear mo lo zo
      try clear my ly zy
      try have mx := fun i => bx.cell i
      try have lx := bx.lt
      try have mo := fun i => bo.cell i
      try have lo := bo.lt
      try have zo := fun i => bo.frozen i
      try have my := fun i => by_.cell i
      try have ly := by_.lt
      try have zy := fun i => by_.frozen i
      go_wp2_with fail
      go_ret
      exact ⟨by rw [E.out]; rfl, B0⟩
    · go_enter Try.func28, Try.ntmps28
      go_wp2_with fail
      refine (R1.out _ B0).mono ?_
      rintro e w1 ⟨rfl, hb1⟩
      try replace bx := bx.below hb1 bx.lt
      try replace bo := bo.below hb1 bo.lt
      try replace by_ := by_.below hb1 by_.lt
      replace B0 := B0.trans (hb1.mono B0.size)
      clear hb1
      try clear mx lx
      try clear mo lo zo
      try clear my ly zy
      try have mx := fun i => bx.cell i
      try have lx := bx.lt
      try have mo := fun i => bo.cell i
      try have lo := bo.lt
      try have zo := fun i => bo.frozen i
      try have my := fun i => by_.cell i
      try have ly := by_.lt
      try have zy := fun i => by_.frozen i
      go_wp2_with fail
      refine (R2.out _ B0).mono ?_
      rintro e w2 ⟨rfl, hb1⟩
      try replace bx := bx.below hb1 bx.lt
      try replace bo := bo.below hb1 bo.lt
      try replace by_ := by_.below hb1 by_.lt
      replace B0 := B0.trans (hb1.mono B0.size)
      clear hb1
      try clear mx lx
      try clear mo lo zo
      try clear my ly zy
      try have mx := fun i => bx.cell i
      try have lx := bx.lt
      try have mo := fun i => bo.cell i
      try have lo := bo.lt
      try have zo := fun i => bo.frozen i
      try have my := fun i => by_.cell i
      try have ly := by_.lt
      try have zy := fun i => by_.frozen i
      go_wp2_with fail
      refine (Jn.out _ B0).mono ?_
      rintro e w3 ⟨⟨u, rfl, hu⟩, hb1⟩
      replace B0 := B0.trans (hb1.mono B0.size)
      have hN := hu.nd
      obtain ⟨Au, cu, Av, cv, rfl⟩ := hu.val
      clear hb1 bx by_ mx lx my ly zy hu
      go_wp2_with fail
      refine (R3.out _ _ hN).mono ?_
      rintro e w4 ⟨rfl, hb1⟩
      replace B0 := B0.trans (hb1.mono B0.size)
      go_wp2_with fail
      go_ret
      exact ⟨by rw [E.out]; simp, B0⟩
set_option maxHeartbeats 2000000 in
theorem merge_any (v v' : Value) (b b' : Bool) (ks vs ks' vs' : List Int) (l l' : Int) (w : World) (hl : ks.length ≤ 1000) (hl' : vs.length ≤ 1000) (hm : ks'.length ≤ 1000) (hm' : vs'.length ≤ 1000) (h : Nd w w.heap.size v b ks vs l) (h' : Nd w w.heap.size v' b' ks' vs' l') :
    Calls Try.prog 15 #[v, v'] w fun e w' => (∃ u, e = .returned u ∧ NdO w' w.heap.size u false (if fitB b b' ks vs ks' vs' = true then ks ++ ks' else []) (if fitB b b' ks vs ks' vs' = true then vs ++ vs' else []) (if fitB b b' ks vs ks' vs' = true then l' else 0)) ∧ Below w.heap.size w w' := by
  have F1 := hide (fun w2 (hB : Below w.heap.size w w2) => fit_any v v' b b' ks vs ks' vs' l l' w2 hl hl' hm hm' ((h.below hB).more hB.size) ((h'.below hB).more hB.size))
  have Jn := hide (fun w2 (hB : Below w.heap.size w w2) => joined_any v v' b b' ks vs ks' vs' l l' l' w2 hl hl' hm hm' ((h.below hB).more hB.size) ((h'.below hB).more hB.size))
  generalize fitB b b' ks vs ks' vs' = R at *
  generalize ks ++ ks' = kk at *
  generalize vs ++ vs' = vv at *
  clear hl hl' hm hm'
  obtain ⟨k, u, rfl, hk1, hu1⟩ := h
  obtain ⟨k', u', rfl, hk2, hu2⟩ := h'
  obtain ⟨A, c, rfl, _⟩ := hk1
  obtain ⟨B, d, rfl, _⟩ := hu1
  obtain ⟨A', c', rfl, _⟩ := hk2
  obtain ⟨B', d', rfl, _⟩ := hu2
  generalize ks.length = n at *
  generalize vs.length = m at *
  generalize ks'.length = n' at *
  generalize vs'.length = m' at *
  have B0 := (Below.refl w.heap.size w).alloc (Nat.le_refl _) (.cells #[.bool b, .slice A n c, .slice B m d, .int .u64 l] 27)
  have bx := Blk.new w 27 #[.bool b, .slice A n c, .slice B m d, .int .u64 l]
  have by_ := Blk.new (w.alloc (.cells #[.bool b, .slice A n c, .slice B m d, .int .u64 l] 27)) 27 #[.bool b', .slice A' n' c', .slice B' m' d', .int .u64 l']
  replace B0 := B0.alloc B0.size (.cells #[.bool b', .slice A' n' c', .slice B' m' d', .int .u64 l'] 27)
  replace bx := bx.alloc (.cells #[.bool b', .slice A' n' c', .slice B' m' d', .int .u64 l'] 27)
  have bo := Blk.new ((w.alloc (.cells #[.bool b, .slice A n c, .slice B m d, .int .u64 l] 27)).alloc (.cells #[.bool b', .slice A' n' c', .slice B' m' d', .int .u64 l'] 27)) 27 #[.bool false, .slice none 0 0, .slice none 0 0, .int .u64 0]
  replace B0 := B0.alloc B0.size (.cells #[.bool false, .slice none 0 0, .slice none 0 0, .int .u64 0] 27)
  replace bx := bx.alloc (.cells #[.bool false, .slice none 0 0, .slice none 0 0, .int .u64 0] 27)
  replace by_ := by_.alloc (.cells #[.bool false, .slice none 0 0, .slice none 0 0, .int .u64 0] 27)
  simp only [World.size_alloc] at by_ bo
  have n3 := hide (show w.heap.size ≤ w.heap.size + 1 + 1 by omega)
  cases R
  · simp only [Bool.false_eq_true, if_false]
    go_enter Try.func15, Try.ntmps15
    go_wp2_with fail
    generalize w.heap.size + 1 + 1 = g at *
    refine (F1.out _ B0).mono ?_
    rintro e w1 ⟨rfl, hb1⟩
    try replace bx := bx.below hb1 bx.lt
    try replace bo := bo.below hb1 bo.lt
    try replace by_ := by_.below hb1 by_.lt
    replace B0 := B0.trans (hb1.mono B0.size)
    clear hb1
    try clear mx lx
    try clear mo lo zo
    try clear my ly zy
    try have mx := fun i => bx.cell i
    try have lx := bx.lt
    try have mo := fun i => bo.cell i
    try have lo := bo.lt
    try have zo := fun i => bo.frozen i
    try have my := fun i => by_.cell i
    try have ly := by_.lt
    try have zy := fun i => by_.frozen i
    go_wp2_with fail
    have b9 := bo.setN (.bool false) (.slice none 0 0) (.slice none 0 0) (.int .u64 0)
    have B9 := below_setN B0 (g := g) n3.out (.bool false) (.slice none 0 0) (.slice none 0 0) (.int .u64 0)
    have m9 := fun i => b9.cell i
    refine bodyPost_ret (v := .agg #[.bool false, .slice none 0 0, .slice none 0 0, .int .u64 0]) (by simp [results, Try.results15, go_sem, m9]) rfl ⟨⟨_, rfl, _, _, rfl, Own.nil _ _, Own.nil _ _⟩, B9⟩
  · simp only [if_true]
    go_enter Try.func15, Try.ntmps15
    go_wp2_with fail
    have n4 := hide (show w.heap.size + 1 + 1 < w.heap.size + 1 + 1 + 1 by omega)
    generalize w.heap.size + 1 + 1 = g at *
    refine (F1.out _ B0).mono ?_
    rintro e w1 ⟨rfl, hb1⟩
    try replace bx := bx.below hb1 bx.lt
    try replace bo := bo.below hb1 bo.lt
    try replace by_ := by_.below hb1 by_.lt
    replace B0 := B0.trans (hb1.mono B0.size)
    clear hb1
    try clear mx lx
    try clear mo lo zo
    try clear my ly zy
    try have mx := fun i => bx.cell i
    try have lx := bx.lt
    try have mo := fun i => bo.cell i
    try have lo := bo.lt
    try have zo := fun i => bo.frozen i
    try have my := fun i => by_.cell i
    try have ly := by_.lt
    try have zy := fun i => by_.frozen i
    go_wp2_with fail
    have hsz := bo.lt
    refine (Jn.out _ B0).mono ?_
    rintro e w2 ⟨⟨u, rfl, hu⟩, hb1⟩
    replace bo := bo.below hb1 bo.lt
    replace B0 := B0.trans (hb1.mono B0.size)
    obtain ⟨Au, cu, Av, cv, rfl⟩ := hu.val
    have hu2 := hu.farN hsz (.bool false) (.slice Au kk.length cu) (.slice Av vv.length cv) (.int .u64 l')
    have hle := n3.out
    have hu3 := hu2.mono (show w.heap.size ≤ w1.heap.size by omega)
    clear hb1 mo lo zo mx lx my ly zy bx by_ hu hu2 hsz hle
    have mo := fun i => bo.cell i
    have zo := fun i => bo.frozen i
    go_wp2_with fail
    have b9 := bo.setN (.bool false) (.slice Au kk.length cu) (.slice Av vv.length cv) (.int .u64 l')
    have B9 := below_setN B0 (g := g) n3.out (.bool false) (.slice Au kk.length cu) (.slice Av vv.length cv) (.int .u64 l')
    have m9 := fun i => b9.cell i
    refine bodyPost_ret (v := .agg #[.bool false, .slice Au kk.length cu, .slice Av vv.length cv, .int .u64 l']) (by simp [results, Try.results15, go_sem, m9]) rfl ⟨⟨_, rfl, hu3⟩, B9⟩
end Go.Proofs.Ytogpdgogcjljfaa
