/-
  The Go function InnerSplits.
-/
import Derived.Test.YtcmoblibjhaegaaImm
import Derived.Test.YtcmoblibjhaegaaIu
import Derived.Test.YtcmoblibjhaegaaIl
namespace Go.Proofs.Ytcmoblibjhaegaa
open Go.RowKit

def Short (l : List Int) : Prop := l.length ≤ 1000000
theorem cutL_take (l : List Int) (k : Nat) : cutL l 0 k = l.take k := by simp [cutL]
theorem cutL_drop (l : List Int) {k n : Nat} (h : l.length ≤ n) : cutL l k n = l.drop k := by
  unfold cutL
  rw [List.take_of_length_le h]
theorem whole {l : List Int} {q : Nat} (h : q < l.length) : l.take q ++ l[q] :: l.drop (q + 1) = l := by
  rw [← List.drop_eq_getElem_cons h]
  exact List.take_append_drop q l
set_option maxHeartbeats 2000000 in
theorem splits_big (v : Value) (b : Bool) (ks vs : List Int) (l : Int) (w : World) (h : Nd w w.heap.size v b ks vs l) (hsm : ¬ (ks.length ≤ 80 ∧ vs.length ≤ 80)) :
    Calls Try.prog 4 #[v] w fun e w' => e = .returned (.bool true) ∧ Below w.heap.size w w' := by
  obtain ⟨A, c, A', c', rfl⟩ := ValN w b ks vs l v h
  have Sm := hide (fun w2 => small_any b A A' ks.length c vs.length c' l w2)
  rw [show (decide (ks.length ≤ 80) && decide (vs.length ≤ 80)) = false by simp; omega] at Sm
  clear h hsm
  generalize ks.length = n at *
  generalize vs.length = m at *
  have B0 := (Below.refl w.heap.size w).alloc (Nat.le_refl _) (.cells #[.bool b, .slice A n c, .slice A' m c', .int .u64 l] 27)
  have bx := Blk.new w 27 #[.bool b, .slice A n c, .slice A' m c', .int .u64 l]
  go_enter Try.func4, Try.ntmps4
  go_wp2_with fail
  refine (Sm.out _).mono ?_
  rintro e w1 ⟨rfl, hb1⟩
  try replace bx := bx.below hb1 bx.lt
  try replace bo := bo.below hb1 bo.lt
  try replace by_ := by_.below hb1 by_.lt
  replace B0 := B0.trans (hb1.mono B0.size)
  clear hb1
  try clear mx lx
  try clear mo lo zo
  try clear my ly zy
  try have mx := fun i => bx.cell i
  try have lx := bx.lt
  try have mo := fun i => bo.cell i
  try have lo := bo.lt
  try have zo := fun i => bo.frozen i
  try have my := fun i => by_.cell i
  try have ly := by_.lt
  try have zy := fun i => by_.frozen i
  go_wp2_with fail
  refine (awake13 _).mono ?_
  rintro e w2 ⟨rfl, hb1⟩
  try replace bx := bx.below hb1 bx.lt
  try replace bo := bo.below hb1 bo.lt
  try replace by_ := by_.below hb1 by_.lt
  replace B0 := B0.trans (hb1.mono B0.size)
  clear hb1
  try clear mx lx
  try clear mo lo zo
  try clear my ly zy
  try have mx := fun i => bx.cell i
  try have lx := bx.lt
  try have mo := fun i => bo.cell i
  try have lo := bo.lt
  try have zo := fun i => bo.frozen i
  try have my := fun i => by_.cell i
  try have ly := by_.lt
  try have zy := fun i => by_.frozen i
  go_wp2_with fail
  go_ret
  exact ⟨rfl, B0⟩
set_option maxHeartbeats 4000000 in
theorem splits_no (v : Value) (b : Bool) (ks vs : List Int) (l : Int) (w : World) (h : Nd w w.heap.size v b ks vs l) (hk : ks.length ≤ 80) (hv : vs.length ≤ 80) (hs : rightI b ks vs = false ∨ vs.length < 2) :
    Calls Try.prog 4 #[v] w fun e w' => e = .returned (.bool true) ∧ Below w.heap.size w w' := by
  have Sp := hide (fun w2 (hB : Below w.heap.size w w2) => isplit_no v b ks vs l w2 (by omega) ((h.below hB).more hB.size) hs)
  have Rt := hide (fun w2 (hB : Below w.heap.size w w2) => irright_any v b ks vs l w2 (by omega) ((h.below hB).more hB.size))
  have Sa := hide (fun w2 => none_any _ false [] [] 0 w2 (by simp) (by simp) (Nd.zero w2 w2.heap.size))
  rw [show sameB false [] [] 0 false [] [] 0 = true from same_yes _ _ _ _] at Sa
  obtain ⟨A, c, A', c', rfl⟩ := ValN w b ks vs l v h
  have Sm := hide (fun w2 => small_any b A A' ks.length c vs.length c' l w2)
  rw [show (decide (ks.length ≤ 80) && decide (vs.length ≤ 80)) = true by simp; omega] at Sm
  have hsm : rightI b ks vs = false ∨ (rightI b ks vs = true ∧ (vs.length : Int) < 2) := by
    cases hq : rightI b ks vs with
    | false => exact .inl rfl
    | true =>
      rcases hs with h' | h'
      · rw [hq] at h'; cases h'
      · exact .inr ⟨rfl, by omega⟩
  clear h hs hk hv
  rcases hsm with hq | ⟨hq, hs⟩
  all_goals
    rw [hq] at Rt
    clear hq
    generalize ks.length = n at *
    generalize vs.length = m at *
    have B0 := (Below.refl w.heap.size w).alloc (Nat.le_refl _) (.cells #[.bool b, .slice A n c, .slice A' m c', .int .u64 l] 27)
    have bx := Blk.new w 27 #[.bool b, .slice A n c, .slice A' m c', .int .u64 l]
    go_enter Try.func4, Try.ntmps4
    go_wp2_with fail
    refine (Sm.out _).mono ?_
    rintro e w1 ⟨rfl, hb1⟩
    try replace bx := bx.below hb1 bx.lt
    try replace bo := bo.below hb1 bo.lt
    try replace by_ := by_.below hb1 by_.lt
    replace B0 := B0.trans (hb1.mono B0.size)
    clear hb1
    try clear mx lx
    try clear mo lo zo
    try clear my ly zy
    try have mx := fun i => bx.cell i
    try have lx := bx.lt
    try have mo := fun i => bo.cell i
    try have lo := bo.lt
    try have zo := fun i => bo.frozen i
    try have my := fun i => by_.cell i
    try have ly := by_.lt
    try have zy := fun i => by_.frozen i
    go_wp2_with fail
    refine (Sp.out _ B0).mono ?_
    rintro e w2 ⟨rfl, hb1⟩
    replace bx := bx.below hb1 bx.lt
    replace B0 := B0.trans (hb1.mono B0.size)
    clear hb1
    have bo := Blk.new w2 27 #[.bool false, .slice none 0 0, .slice none 0 0, .int .u64 0]
    replace bx := bx.alloc (.cells #[.bool false, .slice none 0 0, .slice none 0 0, .int .u64 0] 27)
    replace B0 := B0.alloc B0.size (.cells #[.bool false, .slice none 0 0, .slice none 0 0, .int .u64 0] 27)
    have by_ := Blk.new (w2.alloc (.cells #[.bool false, .slice none 0 0, .slice none 0 0, .int .u64 0] 27)) 27 #[.bool false, .slice none 0 0, .slice none 0 0, .int .u64 0]
    rw [World.size_alloc] at by_
    replace bx := bx.alloc (.cells #[.bool false, .slice none 0 0, .slice none 0 0, .int .u64 0] 27)
    replace bo := bo.alloc (.cells #[.bool false, .slice none 0 0, .slice none 0 0, .int .u64 0] 27)
    replace B0 := B0.alloc B0.size (.cells #[.bool false, .slice none 0 0, .slice none 0 0, .int .u64 0] 27)
    try clear mx lx
    try clear mo lo zo
    try clear my ly zy
    try have mx := fun i => bx.cell i
    try have lx := bx.lt
    try have mo := fun i => bo.cell i
    try have lo := bo.lt
    try have zo := fun i => bo.frozen i
    try have my := fun i => by_.cell i
    try have ly := by_.lt
    try have zy := fun i => by_.frozen i
    go_wp2_with fail
    generalize (w2.alloc (.cells #[.bool false, .slice none 0 0, .slice none 0 0, .int .u64 0] 27)).alloc (.cells #[.bool false, .slice none 0 0, .slice none 0 0, .int .u64 0] 27) = w3 at *
    generalize w2.heap.size + 1 = g2 at *
    generalize w2.heap.size = g1 at *
    refine (Rt.out _ B0).mono ?_
    rintro e w4 ⟨rfl, hb1⟩
    try replace bx := bx.below hb1 bx.lt
    try replace bo := bo.below hb1 bo.lt
    try replace by_ := by_.below hb1 by_.lt
    replace B0 := B0.trans (hb1.mono B0.size)
    clear hb1
    try clear mx lx
    try clear mo lo zo
    try clear my ly zy
    try have mx := fun i => bx.cell i
    try have lx := bx.lt
    try have mo := fun i => bo.cell i
    try have lo := bo.lt
    try have zo := fun i => bo.frozen i
    try have my := fun i => by_.cell i
    try have ly := by_.lt
    try have zy := fun i => by_.frozen i
    go_wp2_with fail
    refine (Sa.out _).mono ?_
    rintro e w5 ⟨rfl, hb1⟩
    try replace bx := bx.below hb1 bx.lt
    try replace bo := bo.below hb1 bo.lt
    try replace by_ := by_.below hb1 by_.lt
    replace B0 := B0.trans (hb1.mono B0.size)
    clear hb1
    try clear mx lx
    try clear mo lo zo
    try clear my ly zy
    try have mx := fun i => bx.cell i
    try have lx := bx.lt
    try have mo := fun i => bo.cell i
    try have lo := bo.lt
    try have zo := fun i => bo.frozen i
    try have my := fun i => by_.cell i
    try have ly := by_.lt
    try have zy := fun i => by_.frozen i
    go_wp2_with fail
    refine (Sa.out _).mono ?_
    rintro e w6 ⟨rfl, hb1⟩
    try replace bx := bx.below hb1 bx.lt
    try replace bo := bo.below hb1 bo.lt
    try replace by_ := by_.below hb1 by_.lt
    replace B0 := B0.trans (hb1.mono B0.size)
    clear hb1
    try clear mx lx
    try clear mo lo zo
    try clear my ly zy
    try have mx := fun i => bx.cell i
    try have lx := bx.lt
    try have mo := fun i => bo.cell i
    try have lo := bo.lt
    try have zo := fun i => bo.frozen i
    try have my := fun i => by_.cell i
    try have ly := by_.lt
    try have zy := fun i => by_.frozen i
    go_wp2_with fail
    refine (awake13 _).mono ?_
    rintro e w7 ⟨rfl, hb1⟩
    try replace bx := bx.below hb1 bx.lt
    try replace bo := bo.below hb1 bo.lt
    try replace by_ := by_.below hb1 by_.lt
    replace B0 := B0.trans (hb1.mono B0.size)
    clear hb1
    try clear mx lx
    try clear mo lo zo
    try clear my ly zy
    try have mx := fun i => bx.cell i
    try have lx := bx.lt
    try have mo := fun i => bo.cell i
    try have lo := bo.lt
    try have zo := fun i => bo.frozen i
    try have my := fun i => by_.cell i
    try have ly := by_.lt
    try have zy := fun i => by_.frozen i
    go_wp2_with fail
    go_ret
    exact ⟨rfl, B0⟩
set_option maxRecDepth 100000 in
set_option maxHeartbeats 4000000 in
theorem splits_yes (v : Value) (b : Bool) (ks vs : List Int) (l : Int) (w : World) (h : Nd w w.heap.size v b ks vs l) (_hk : ks.length ≤ 80) (hv : vs.length ≤ 80) (hr : rightI b ks vs = true) (h2 : 2 ≤ vs.length) :
    Calls Try.prog 4 #[v] w fun e w' => e = .returned (.bool true) ∧ Below w.heap.size w w' := by
  obtain ⟨rfl, hkv, hri⟩ := rightI_parts hr
  obtain ⟨k, hkd⟩ : ∃ k, k = vs.length - vs.length / 2 := ⟨_, rfl⟩
  obtain ⟨q, hqd⟩ : ∃ q, k = q + 1 := ⟨k - 1, by omega⟩
  have hq2 : q < ks.length := by omega
  have hq3 : ((vs.length : Int) + 1) / 2 = (k : Int) := by omega
  have Sp := hide (fun w2 (hB : Below w.heap.size w w2) => isplit_yes v true ks vs l w2 (by omega) ((h.below hB).more hB.size) hr h2 k q hkd hqd)
  have Rt := hide (fun w2 (hB : Below w.heap.size w w2) => irright_any v true ks vs l w2 (by omega) ((h.below hB).more hB.size))
  have C1 := hide (fun w2 (hB : Below w.heap.size w w2) => rcutI_any v true ks vs l 0 0 k w2 (by omega) hkv (by omega) (by omega) ((h.below hB).more hB.size))
  have C2 := hide (fun w2 (hB : Below w.heap.size w w2) => rcutI_any v true ks vs l 0 k vs.length w2 (by omega) hkv (by omega) (by omega) ((h.below hB).more hB.size))
  rw [show k - 1 = q by omega, cutL_take ks q, cutL_take vs k] at C1
  rw [cutL_drop ks (show ks.length ≤ vs.length - 1 by omega), cutL_drop vs (Nat.le_refl _)] at C2
  have hx1 : (ks.take q).length = q := by rw [List.length_take]; omega
  have hy1 : (vs.take k).length = q + 1 := by rw [List.length_take]; omega
  have hx2 : (ks.drop k).length = ks.length - k := by rw [List.length_drop]
  have hy2 : (vs.drop k).length = ks.length - k + 1 := by rw [List.length_drop]; omega
  have Mg := hide (fun (u u' : Value) w2 (hN : Nd w2 w2.heap.size u true (ks.take q) (vs.take k) 0) (hN' : Nd w2 w2.heap.size u' true (ks.drop k) (vs.drop k) 0) =>
    imerge_yes u u' true true _ _ _ _ 0 0 (ks.getD q 0) w2 (by omega) (by omega) hN hN' (rightI_of (by omega) (rise_sub hri (List.take_sublist _ _))) (rightI_of (by omega) (rise_sub hri (List.drop_sublist _ _)))
      (by rw [gD ks q hq2, show k = q + 1 from hqd, whole hq2, List.take_append_drop]; exact rightI_of hkv hri))
  have e1 : ks.take q ++ ks.getD q 0 :: ks.drop k = ks := by rw [gD ks q hq2, hqd]; exact whole hq2
  rw [e1, List.take_append_drop] at Mg
  rw [hr] at Rt
  have Hx1 := hide (show Short (ks.take q) by unfold Short; omega)
  have Hy1 := hide (show Short (vs.take k) by unfold Short; omega)
  have Hx2 := hide (show Short (ks.drop k) by unfold Short; omega)
  have Hy2 := hide (show Short (vs.drop k) by unfold Short; omega)
  have Hks := hide (show Short ks by unfold Short; omega)
  have Hvs := hide (show Short vs by unfold Short; omega)
  have HN0 := hide h
  obtain ⟨k0, u0, rfl, hk0, hu0⟩ := h
  obtain ⟨A, c, rfl, hc1, hc2, hrk⟩ := hk0
  obtain ⟨A', c', rfl, _⟩ := hu0
  obtain ⟨ad, rfl, hkl, z0⟩ := hrk.word hq2
  have Zc := hide (fun w2 (hB : Below w.heap.size w w2) => word_cell hrk hq2 hkl hB)
  rw [gD ks q hq2] at Sp Mg
  clear e1
  generalize ks[q] = mid at *
  have Sm := hide (fun w2 => small_any true (some ad) A' ks.length c vs.length c' l w2)
  rw [show (decide (ks.length ≤ 80) && decide (vs.length ≤ 80)) = true by simp; omega] at Sm
  generalize ks.take q = x1 at *
  generalize vs.take k = y1 at *
  generalize ks.drop k = x2 at *
  generalize vs.drop k = y2 at *
  have hn2 : ¬ (vs.length : Int) < 2 := by omega
  have hqz : (q : Int) < (ks.length : Int) := by omega
  have hkq : (k : Int) - 1 = (q : Int) := by omega
  have hw1 : IntKind.i64.wrap (q : Int) = (q : Int) := IntWalk.i64_in _ (by omega)
  have hw2 : IntKind.i64.wrap (k : Int) = (k : Int) := IntWalk.i64_in _ (by omega)
  have hn80 : (vs.length : Int) ≤ 80 := by omega
  have htd : ((vs.length : Int) + 1).tdiv 2 = (k : Int) := by rw [Int.tdiv_eq_ediv_of_nonneg (by omega)]; exact hq3
  have zz : ((0 : Nat) : Int) = 0 := rfl
  rw [zz] at C1
  clear zz hx1 hy1 hx2 hy2 hrk z0 hkl hv hr h2 hkv hri hkd hqd hc1 hc2 hq2
  generalize hnn : ks.length = n at *
  generalize hmm : vs.length = m at *
  have HNN := hide hnn
  have HMM := hide hmm
  clear hnn hmm
  have B0 := (Below.refl w.heap.size w).alloc (Nat.le_refl _) (.cells #[.bool true, .slice (some ad) n c, .slice A' m c', .int .u64 l] 27)
  have bx := Blk.new w 27 #[.bool true, .slice (some ad) n c, .slice A' m c', .int .u64 l]
  go_enter Try.func4, Try.ntmps4
  go_wp2_with fail
  refine (Sm.out _).mono ?_
  rintro e w1 ⟨rfl, hb1⟩
  try replace bx := bx.below hb1 bx.lt
  try replace bo := bo.below hb1 bo.lt
  try replace by_ := by_.below hb1 by_.lt
  replace B0 := B0.trans (hb1.mono B0.size)
  clear hb1
  try clear mx lx
  try clear mo lo zo
  try clear my ly zy
  try have mx := fun i => bx.cell i
  try have lx := bx.lt
  try have mo := fun i => bo.cell i
  try have lo := bo.lt
  try have zo := fun i => bo.frozen i
  try have my := fun i => by_.cell i
  try have ly := by_.lt
  try have zy := fun i => by_.frozen i
  go_wp2_with fail
  refine (Sp.out _ B0).mono ?_
  rintro e w2 ⟨⟨u1, u2, rfl, Na, Nb⟩, hb1⟩
  replace bx := bx.below hb1 bx.lt
  replace B0 := B0.trans (hb1.mono B0.size)
  clear hb1
  obtain ⟨A1, d1, A2, d2, rfl⟩ := Na.val
  obtain ⟨A3, d3, A4, d4, rfl⟩ := Nb.val
  have bo := Blk.new w2 27 #[.bool true, .slice A1 x1.length d1, .slice A2 y1.length d2, .int .u64 0]
  have K1 := (Below.refl w2.heap.size w2).alloc (Nat.le_refl _) (.cells #[.bool true, .slice A1 x1.length d1, .slice A2 y1.length d2, .int .u64 0] 27)
  replace bx := bx.alloc (.cells #[.bool true, .slice A1 x1.length d1, .slice A2 y1.length d2, .int .u64 0] 27)
  replace B0 := B0.alloc B0.size (.cells #[.bool true, .slice A1 x1.length d1, .slice A2 y1.length d2, .int .u64 0] 27)
  replace Na := Na.below K1
  replace Nb := Nb.below K1
  clear K1
  have by_ := Blk.new (w2.alloc (.cells #[.bool true, .slice A1 x1.length d1, .slice A2 y1.length d2, .int .u64 0] 27)) 27 #[.bool true, .slice A3 x2.length d3, .slice A4 y2.length d4, .int .u64 0]
  have K1 := (Below.refl (w2.alloc (.cells #[.bool true, .slice A1 x1.length d1, .slice A2 y1.length d2, .int .u64 0] 27)).heap.size (w2.alloc (.cells #[.bool true, .slice A1 x1.length d1, .slice A2 y1.length d2, .int .u64 0] 27))).alloc (Nat.le_refl _) (.cells #[.bool true, .slice A3 x2.length d3, .slice A4 y2.length d4, .int .u64 0] 27)
  replace bx := bx.alloc (.cells #[.bool true, .slice A3 x2.length d3, .slice A4 y2.length d4, .int .u64 0] 27)
  replace bo := bo.alloc (.cells #[.bool true, .slice A3 x2.length d3, .slice A4 y2.length d4, .int .u64 0] 27)
  replace B0 := B0.alloc B0.size (.cells #[.bool true, .slice A3 x2.length d3, .slice A4 y2.length d4, .int .u64 0] 27)
  replace Na := Na.below K1
  replace Nb := Nb.below K1
  clear K1
  rw [World.size_alloc] at by_
  try clear mx lx
  try clear mo lo zo
  try clear my ly zy
  try have mx := fun i => bx.cell i
  try have lx := bx.lt
  try have mo := fun i => bo.cell i
  try have lo := bo.lt
  try have zo := fun i => bo.frozen i
  try have my := fun i => by_.cell i
  try have ly := by_.lt
  try have zy := fun i => by_.frozen i
  go_wp2_with fail
  generalize (w2.alloc (.cells #[.bool true, .slice A1 x1.length d1, .slice A2 y1.length d2, .int .u64 0] 27)).alloc (.cells #[.bool true, .slice A3 x2.length d3, .slice A4 y2.length d4, .int .u64 0] 27) = w3 at *
  generalize w2.heap.size + 1 = g2 at *
  generalize w2.heap.size = g1 at *
  refine (Rt.out _ B0).mono ?_
  rintro e w4 ⟨rfl, hb1⟩
  replace bx := bx.below hb1 bx.lt
  replace bo := bo.below hb1 bo.lt
  replace by_ := by_.below hb1 by_.lt
  replace Na := Na.below hb1
  replace Nb := Nb.below hb1
  replace B0 := B0.trans (hb1.mono B0.size)
  clear hb1 Rt Sp Sm
  try clear mx lx
  try clear mo lo zo
  try clear my ly zy
  try have mx := fun i => bx.cell i
  try have lx := bx.lt
  try have mo := fun i => bo.cell i
  try have lo := bo.lt
  try have zo := fun i => bo.frozen i
  try have my := fun i => by_.cell i
  try have ly := by_.lt
  try have zy := fun i => by_.frozen i
  go_wp2_with fail
  refine (Mg.out _ _ _ Na.nd Nb.nd).mono ?_
  rintro e w5 ⟨⟨u3, rfl, hu3⟩, hb1⟩
  replace bx := bx.below hb1 bx.lt
  replace bo := bo.below hb1 bo.lt
  replace by_ := by_.below hb1 by_.lt
  replace Na := Na.below hb1
  replace Nb := Nb.below hb1
  replace B0 := B0.trans (hb1.mono B0.size)
  clear hb1 Mg mx lx mo lo zo my ly zy
  obtain ⟨k3, v3, e3, o1, o2⟩ := hu3
  obtain ⟨B5, e5, rfl⟩ := o1.val
  obtain ⟨B6, e6, rfl⟩ := o2.val
  subst e3
  rw [HNN.out] at o1 ⊢
  rw [HMM.out] at o2 ⊢
  have hg3 := B0.size
  have hx3 : w.heap.size ≠ w5.heap.size := by have := bx.lt; omega
  have ho3 : g1 ≠ w5.heap.size := by have := bo.lt; omega
  have hy3 : g2 ≠ w5.heap.size := by have := by_.lt; omega
  have HG3 := hide hg3
  have HX3 := hide hx3
  have HO3 := hide ho3
  have HY3 := hide hy3
  clear hg3 hx3 ho3 hy3
  have mx := fun i => (bx.alloc (.cells #[.bool true, .slice B5 n e5, .slice B6 m e6, .int .u64 0] 27)).cell i
  have bm := Blk.new w5 27 #[.bool true, .slice B5 n e5, .slice B6 m e6, .int .u64 l]
  have K1 := (Below.refl w5.heap.size w5).alloc (Nat.le_refl _) (.cells #[.bool true, .slice B5 n e5, .slice B6 m e6, .int .u64 l] 27)
  replace bx := bx.alloc (.cells #[.bool true, .slice B5 n e5, .slice B6 m e6, .int .u64 l] 27)
  replace bo := bo.alloc (.cells #[.bool true, .slice B5 n e5, .slice B6 m e6, .int .u64 l] 27)
  replace by_ := by_.alloc (.cells #[.bool true, .slice B5 n e5, .slice B6 m e6, .int .u64 l] 27)
  replace B0 := B0.alloc B0.size (.cells #[.bool true, .slice B5 n e5, .slice B6 m e6, .int .u64 l] 27)
  replace Na := Na.below K1
  replace Nb := Nb.below K1
  replace o1 := o1.below K1
  replace o2 := o2.below K1
  clear K1
  go_wp2_with fail
  clear mx
  generalize w5.alloc (.cells #[.bool true, .slice B5 n e5, .slice B6 m e6, .int .u64 l] 27) = w7 at *
  generalize w5.heap.size = g3 at *
  have Nm : NdO w7 w4.heap.size (.agg #[.bool true, .slice B5 n e5, .slice B6 m e6, .int .u64 l]) true ks vs l := ⟨_, _, rfl, o1, o2⟩
  clear o1 o2
  replace bx := bx.drew
  replace bo := bo.drew
  replace by_ := by_.drew
  replace bm := bm.drew
  have hb := B0.drew
  clear B0
  replace Na := (show NdO w7.drew _ _ _ _ _ _ from Na)
  replace Nb := (show NdO w7.drew _ _ _ _ _ _ from Nb)
  replace Nm := (show NdO w7.drew _ _ _ _ _ _ from Nm)
  refine wp_region_heldZ [] (fun w' => (w'.cell? ⟨w.heap.size, 0, none⟩ = some (.bool true) ∧ w'.cell? ⟨w.heap.size, 1, none⟩ = some (.slice (some ad) n c) ∧ w'.cell? ⟨w.heap.size, 2, none⟩ = some (.slice A' m c') ∧ w'.cell? ⟨w.heap.size, 3, none⟩ = some (.int .u64 l)) ∧ (w'.cell? ⟨g1, 0, none⟩ = some (.bool true) ∧ w'.cell? ⟨g1, 1, none⟩ = some (.slice A1 x1.length d1) ∧ w'.cell? ⟨g1, 2, none⟩ = some (.slice A2 y1.length d2) ∧ w'.cell? ⟨g1, 3, none⟩ = some (.int .u64 0)) ∧ (w'.cell? ⟨g2, 0, none⟩ = some (.bool true) ∧ w'.cell? ⟨g2, 1, none⟩ = some (.slice A3 x2.length d3) ∧ w'.cell? ⟨g2, 2, none⟩ = some (.slice A4 y2.length d4) ∧ w'.cell? ⟨g2, 3, none⟩ = some (.int .u64 0)) ∧ (w'.cell? ⟨g3, 0, none⟩ = some (.bool true) ∧ w'.cell? ⟨g3, 1, none⟩ = some (.slice B5 n e5) ∧ w'.cell? ⟨g3, 2, none⟩ = some (.slice B6 m e6) ∧ w'.cell? ⟨g3, 3, none⟩ = some (.int .u64 l)) ∧ w'.cell? (ad.add q) = some (.int .u64 mid)) (by kernel_rfl) (by exact ⟨cellsN bx, cellsN bo, cellsN by_, cellsN bm, Zc.out _ hb⟩) (fun hHeld => ?_)
  refine' wpAnyZ_takeA (i := 0) (v := ?_) (opAt rfl) (by kernel_rfl) (by kernel_rfl) (by kernel_rfl) (by kernel_rfl) (fun _ _ _ h => h) (by assumption) (by rfl) (fun w hSw => ?_) ?_
  rotate_left
  · (try dsimp only at hSw); go_simp; (try with_reducible rfl)
  try simp only [Act.put, List.setIfInBounds_toArray, List.set_cons_zero, List.set_cons_succ]
  refine' wpAnyZ_takeA (i := 1) (v := ?_) (opAt rfl) (by kernel_rfl) (by kernel_rfl) (by kernel_rfl) (by kernel_rfl) (fun _ _ _ h => h) (by assumption) (by rfl) (fun w hSw => ?_) ?_
  rotate_left
  · (try dsimp only at hSw); go_simp; (try with_reducible rfl)
  try simp only [Act.put, List.setIfInBounds_toArray, List.set_cons_zero, List.set_cons_succ]
  refine' wpAnyZ_takeA (i := 2) (v := ?_) (opAt rfl) (by kernel_rfl) (by kernel_rfl) (by kernel_rfl) (by kernel_rfl) (fun _ _ _ h => h) (by assumption) (by rfl) (fun w hSw => ?_) ?_
  rotate_left
  · (try dsimp only at hSw); go_simp; (try with_reducible rfl)
  try simp only [Act.put, List.setIfInBounds_toArray, List.set_cons_zero, List.set_cons_succ]
  refine wpAnyZ_ready (rs := [3]) (by kernel_rfl) (by simp) ?_
  refine AllReadyZ.cons (opAt rfl) (fun K hK => ?_) ?_
  · skip
    go_simp
    refine (C1.out _ hb).mono ?_
    rintro e wc ⟨⟨u1, rfl, hu1⟩, hb1⟩
    replace bx := bx.below hb1 bx.lt
    replace bo := bo.below hb1 bo.lt
    replace by_ := by_.below hb1 by_.lt
    replace bm := bm.below hb1 bm.lt
    replace Na := Na.below hb1
    replace Nb := Nb.below hb1
    replace Nm := Nm.below hb1
    replace hb := hb.trans (hb1.mono hb.size)
    obtain ⟨B1, e1, B2, e2, rfl⟩ := hu1.val
    clear hb1
    try go_wp2_with fail
    refine hK.out _ _ (by exact ⟨cellsN bx, cellsN bo, cellsN by_, cellsN bm, Zc.out _ hb⟩) (fun hHeld => ?_)
    clear hK K
    try simp only [Act.put, List.setIfInBounds_toArray, List.set_cons_zero, List.set_cons_succ]
    refine wpAnyZ_ready (rs := [4]) (by kernel_rfl) (by simp) ?_
    refine AllReadyZ.cons (opAt rfl) (fun K hK => ?_) ?_
    · skip
      go_simp
      refine (same_any _ _ true true x1 y1 x1 y1 0 0 _ Hx1.out Hy1.out Hx1.out Hy1.out Na.nd hu1.nd).mono ?_
      rw [same_yes]
      rintro e wd ⟨rfl, hb1⟩
      replace bx := bx.below hb1 bx.lt
      replace bo := bo.below hb1 bo.lt
      replace by_ := by_.below hb1 by_.lt
      replace bm := bm.below hb1 bm.lt
      replace Na := Na.below hb1
      replace Nb := Nb.below hb1
      replace Nm := Nm.below hb1
      replace hb := hb.trans (hb1.mono hb.size)
      clear hb1
      try go_wp2_with fail
      refine hK.out _ _ (by exact ⟨cellsN bx, cellsN bo, cellsN by_, cellsN bm, Zc.out _ hb⟩) (fun hHeld => ?_)
      clear hK K
      try simp only [Act.put, List.setIfInBounds_toArray, List.set_cons_zero, List.set_cons_succ]
      refine' wpAnyZ_takeA (i := 5) (v := ?_) (opAt rfl) (by kernel_rfl) (by kernel_rfl) (by kernel_rfl) (by kernel_rfl) (fun _ _ _ h => h) (by assumption) (by rfl) (fun w hSw => ?_) ?_
      rotate_left
      · (try dsimp only at hSw); go_simp; (try with_reducible rfl)
      try simp only [Act.put, List.setIfInBounds_toArray, List.set_cons_zero, List.set_cons_succ]
      refine' wpAnyZ_takeA (i := 6) (v := ?_) (opAt rfl) (by kernel_rfl) (by kernel_rfl) (by kernel_rfl) (by kernel_rfl) (fun _ _ _ h => h) (by assumption) (by rfl) (fun w hSw => ?_) ?_
      rotate_left
      · (try dsimp only at hSw); go_simp; (try with_reducible rfl)
      try simp only [Act.put, List.setIfInBounds_toArray, List.set_cons_zero, List.set_cons_succ]
      refine' wpAnyZ_takeA (i := 7) (v := ?_) (opAt rfl) (by kernel_rfl) (by kernel_rfl) (by kernel_rfl) (by kernel_rfl) (fun _ _ _ h => h) (by assumption) (by rfl) (fun w hSw => ?_) ?_
      rotate_left
      · (try dsimp only at hSw); go_simp; (try with_reducible rfl)
      try simp only [Act.put, List.setIfInBounds_toArray, List.set_cons_zero, List.set_cons_succ]
      refine' wpAnyZ_takeA (i := 8) (v := ?_) (opAt rfl) (by kernel_rfl) (by kernel_rfl) (by kernel_rfl) (by kernel_rfl) (fun _ _ _ h => h) (by assumption) (by rfl) (fun w hSw => ?_) ?_
      rotate_left
      · (try dsimp only at hSw); go_simp; (try with_reducible rfl)
      try simp only [Act.put, List.setIfInBounds_toArray, List.set_cons_zero, List.set_cons_succ]
      refine' wpAnyZ_takeA (i := 9) (v := ?_) (opAt rfl) (by kernel_rfl) (by kernel_rfl) (by kernel_rfl) (by kernel_rfl) (fun _ _ _ h => h) (by assumption) (by rfl) (fun w hSw => ?_) ?_
      rotate_left
      · (try dsimp only at hSw); go_simp; (try with_reducible rfl)
      try simp only [Act.put, List.setIfInBounds_toArray, List.set_cons_zero, List.set_cons_succ]
      refine' wpAnyZ_takeA (i := 10) (v := ?_) (opAt rfl) (by kernel_rfl) (by kernel_rfl) (by kernel_rfl) (by kernel_rfl) (fun _ _ _ h => h) (by assumption) (by rfl) (fun w hSw => ?_) ?_
      rotate_left
      · (try dsimp only at hSw); go_simp; (try with_reducible rfl)
      try simp only [Act.put, List.setIfInBounds_toArray, List.set_cons_zero, List.set_cons_succ]
      refine' wpAnyZ_takeA (i := 11) (v := ?_) (opAt rfl) (by kernel_rfl) (by kernel_rfl) (by kernel_rfl) (by kernel_rfl) (fun _ _ _ h => h) (by assumption) (by rfl) (fun w hSw => ?_) ?_
      rotate_left
      · (try dsimp only at hSw); go_simp; (try with_reducible rfl)
      try simp only [Act.put, List.setIfInBounds_toArray, List.set_cons_zero, List.set_cons_succ]
      refine wpAnyZ_ready (rs := [12]) (by kernel_rfl) (by simp) ?_
      refine AllReadyZ.cons (opAt rfl) (fun K hK => ?_) ?_
      · skip
        go_simp
        refine (C2.out _ hb).mono ?_
        rintro e wc ⟨⟨u2, rfl, hu2⟩, hb1⟩
        replace bx := bx.below hb1 bx.lt
        replace bo := bo.below hb1 bo.lt
        replace by_ := by_.below hb1 by_.lt
        replace bm := bm.below hb1 bm.lt
        replace Na := Na.below hb1
        replace Nb := Nb.below hb1
        replace Nm := Nm.below hb1
        replace hb := hb.trans (hb1.mono hb.size)
        obtain ⟨B3, e3, B4, e4, rfl⟩ := hu2.val
        clear hb1
        try go_wp2_with fail
        refine hK.out _ _ (by exact ⟨cellsN bx, cellsN bo, cellsN by_, cellsN bm, Zc.out _ hb⟩) (fun hHeld => ?_)
        clear hK K
        try simp only [Act.put, List.setIfInBounds_toArray, List.set_cons_zero, List.set_cons_succ]
        refine wpAnyZ_ready (rs := [13]) (by kernel_rfl) (by simp) ?_
        refine AllReadyZ.cons (opAt rfl) (fun K hK => ?_) ?_
        · skip
          go_simp
          refine (same_any _ _ true true x2 y2 x2 y2 0 0 _ Hx2.out Hy2.out Hx2.out Hy2.out Nb.nd hu2.nd).mono ?_
          rw [same_yes]
          rintro e wd ⟨rfl, hb1⟩
          replace bx := bx.below hb1 bx.lt
          replace bo := bo.below hb1 bo.lt
          replace by_ := by_.below hb1 by_.lt
          replace bm := bm.below hb1 bm.lt
          replace Na := Na.below hb1
          replace Nb := Nb.below hb1
          replace Nm := Nm.below hb1
          replace hb := hb.trans (hb1.mono hb.size)
          clear hb1
          try go_wp2_with fail
          refine hK.out _ _ (by exact ⟨cellsN bx, cellsN bo, cellsN by_, cellsN bm, Zc.out _ hb⟩) (fun hHeld => ?_)
          clear hK K
          try simp only [Act.put, List.setIfInBounds_toArray, List.set_cons_zero, List.set_cons_succ]
          refine' wpAnyZ_takeA (i := 14) (v := ?_) (opAt rfl) (by kernel_rfl) (by kernel_rfl) (by kernel_rfl) (by kernel_rfl) (fun _ _ _ h => h) (by assumption) (by rfl) (fun w hSw => ?_) ?_
          rotate_left
          · (try dsimp only at hSw); go_simp; (try with_reducible rfl)
          try simp only [Act.put, List.setIfInBounds_toArray, List.set_cons_zero, List.set_cons_succ]
          refine' wpAnyZ_takeA (i := 15) (v := ?_) (opAt rfl) (by kernel_rfl) (by kernel_rfl) (by kernel_rfl) (by kernel_rfl) (fun _ _ _ h => h) (by assumption) (by rfl) (fun w hSw => ?_) ?_
          rotate_left
          · (try dsimp only at hSw); go_simp; (try with_reducible rfl)
          try simp only [Act.put, List.setIfInBounds_toArray, List.set_cons_zero, List.set_cons_succ]
          refine' wpAnyZ_takeA (i := 16) (v := ?_) (opAt rfl) (by kernel_rfl) (by kernel_rfl) (by kernel_rfl) (by kernel_rfl) (fun _ _ _ h => h) (by assumption) (by rfl) (fun w hSw => ?_) ?_
          rotate_left
          · (try dsimp only at hSw); go_simp; (try with_reducible rfl)
          try simp only [Act.put, List.setIfInBounds_toArray, List.set_cons_zero, List.set_cons_succ]
          refine' wpAnyZ_takeA (i := 17) (v := ?_) (opAt rfl) (by kernel_rfl) (by kernel_rfl) (by kernel_rfl) (by kernel_rfl) (fun _ _ _ h => h) (by assumption) (by rfl) (fun w hSw => ?_) ?_
          rotate_left
          · (try dsimp only at hSw); go_simp; (try with_reducible rfl)
          try simp only [Act.put, List.setIfInBounds_toArray, List.set_cons_zero, List.set_cons_succ]
          refine' wpAnyZ_takeA (i := 18) (v := ?_) (opAt rfl) (by kernel_rfl) (by kernel_rfl) (by kernel_rfl) (by kernel_rfl) (fun _ _ _ h => h) (by assumption) (by rfl) (fun w hSw => ?_) ?_
          rotate_left
          · (try dsimp only at hSw); go_simp; (try with_reducible rfl)
          try simp only [Act.put, List.setIfInBounds_toArray, List.set_cons_zero, List.set_cons_succ]
          refine' wpAnyZ_takeA (i := 19) (v := ?_) (opAt rfl) (by kernel_rfl) (by kernel_rfl) (by kernel_rfl) (by kernel_rfl) (fun _ _ _ h => h) (by assumption) (by rfl) (fun w hSw => ?_) ?_
          rotate_left
          · (try dsimp only at hSw); go_simp; (try with_reducible rfl)
          try simp only [Act.put, List.setIfInBounds_toArray, List.set_cons_zero, List.set_cons_succ]
          refine' wpAnyZ_takeA (i := 20) (v := ?_) (opAt rfl) (by kernel_rfl) (by kernel_rfl) (by kernel_rfl) (by kernel_rfl) (fun _ _ _ h => h) (by assumption) (by rfl) (fun w hSw => ?_) ?_
          rotate_left
          · (try dsimp only at hSw); go_simp; (try with_reducible rfl)
          try simp only [Act.put, List.setIfInBounds_toArray, List.set_cons_zero, List.set_cons_succ]
          refine' wpAnyZ_takeA (i := 21) (v := ?_) (opAt rfl) (by kernel_rfl) (by kernel_rfl) (by kernel_rfl) (by kernel_rfl) (fun _ _ _ h => h) (by assumption) (by rfl) (fun w hSw => ?_) ?_
          rotate_left
          · (try dsimp only at hSw); go_simp; (try with_reducible rfl)
          try simp only [Act.put, List.setIfInBounds_toArray, List.set_cons_zero, List.set_cons_succ]
          refine' wpAnyZ_takeA (i := 22) (v := ?_) (opAt rfl) (by kernel_rfl) (by kernel_rfl) (by kernel_rfl) (by kernel_rfl) (fun _ _ _ h => h) (by assumption) (by rfl) (fun w hSw => ?_) ?_
          rotate_left
          · (try dsimp only at hSw); go_simp; (try with_reducible rfl)
          try simp only [Act.put, List.setIfInBounds_toArray, List.set_cons_zero, List.set_cons_succ]
          refine' wpAnyZ_takeA (i := 23) (v := ?_) (opAt rfl) (by kernel_rfl) (by kernel_rfl) (by kernel_rfl) (by kernel_rfl) (fun _ _ _ h => h) (by assumption) (by rfl) (fun w hSw => ?_) ?_
          rotate_left
          · (try dsimp only at hSw); go_simp; (try with_reducible rfl)
          try simp only [Act.put, List.setIfInBounds_toArray, List.set_cons_zero, List.set_cons_succ]
          refine' wpAnyZ_takeA (i := 24) (v := ?_) (opAt rfl) (by kernel_rfl) (by kernel_rfl) (by kernel_rfl) (by kernel_rfl) (fun _ _ _ h => h) (by assumption) (by rfl) (fun w hSw => ?_) ?_
          rotate_left
          · (try dsimp only at hSw); go_simp; (try with_reducible rfl)
          try simp only [Act.put, List.setIfInBounds_toArray, List.set_cons_zero, List.set_cons_succ]
          refine' wpAnyZ_takeA (i := 25) (v := ?_) (opAt rfl) (by kernel_rfl) (by kernel_rfl) (by kernel_rfl) (by kernel_rfl) (fun _ _ _ h => h) (by assumption) (by rfl) (fun w hSw => ?_) ?_
          rotate_left
          · (try dsimp only at hSw); go_simp; (try with_reducible rfl)
          try simp only [Act.put, List.setIfInBounds_toArray, List.set_cons_zero, List.set_cons_succ]
          refine' wpAnyZ_takeA (i := 26) (v := ?_) (opAt rfl) (by kernel_rfl) (by kernel_rfl) (by kernel_rfl) (by kernel_rfl) (fun _ _ _ h => h) (by assumption) (by rfl) (fun w hSw => ?_) ?_
          rotate_left
          · (try dsimp only at hSw); go_simp; (try with_reducible rfl)
          try simp only [Act.put, List.setIfInBounds_toArray, List.set_cons_zero, List.set_cons_succ]
          refine' wpAnyZ_takeA (i := 27) (v := ?_) (opAt rfl) (by kernel_rfl) (by kernel_rfl) (by kernel_rfl) (by kernel_rfl) (fun _ _ _ h => h) (by assumption) (by rfl) (fun w hSw => ?_) ?_
          rotate_left
          · (try dsimp only at hSw); go_simp; (try with_reducible rfl)
          try simp only [Act.put, List.setIfInBounds_toArray, List.set_cons_zero, List.set_cons_succ]
          refine wpAnyZ_ready (rs := [28]) (by kernel_rfl) (by simp) ?_
          refine AllReadyZ.cons (opAt rfl) (fun K hK => ?_) ?_
          · skip
            go_simp
            refine (same_any _ _ true true ks vs ks vs l l _ Hks.out Hvs.out Hks.out Hvs.out Nm.nd ((HN0.out.below hb).more hb.size)).mono ?_
            rw [same_yes]
            rintro e wd ⟨rfl, hb1⟩
            replace bx := bx.below hb1 bx.lt
            replace bo := bo.below hb1 bo.lt
            replace by_ := by_.below hb1 by_.lt
            replace bm := bm.below hb1 bm.lt
            replace Na := Na.below hb1
            replace Nb := Nb.below hb1
            replace Nm := Nm.below hb1
            replace hb := hb.trans (hb1.mono hb.size)
            clear hb1
            try go_wp2_with fail
            refine hK.out _ _ (by exact ⟨cellsN bx, cellsN bo, cellsN by_, cellsN bm, Zc.out _ hb⟩) (fun hHeld => ?_)
            clear hK K
            try simp only [Act.put, List.setIfInBounds_toArray, List.set_cons_zero, List.set_cons_succ]
            refine' wpAnyZ_takeA (i := 29) (v := ?_) (opAt rfl) (by kernel_rfl) (by kernel_rfl) (by kernel_rfl) (by kernel_rfl) (fun _ _ _ h => h) (by assumption) (by rfl) (fun w hSw => ?_) ?_
            rotate_left
            · (try dsimp only at hSw); go_simp; (try with_reducible rfl)
            try simp only [Act.put, List.setIfInBounds_toArray, List.set_cons_zero, List.set_cons_succ]
            refine' wpAnyZ_takeA (i := 30) (v := ?_) (opAt rfl) (by kernel_rfl) (by kernel_rfl) (by kernel_rfl) (by kernel_rfl) (fun _ _ _ h => h) (by assumption) (by rfl) (fun w hSw => ?_) ?_
            rotate_left
            · (try dsimp only at hSw); go_simp; (try with_reducible rfl)
            try simp only [Act.put, List.setIfInBounds_toArray, List.set_cons_zero, List.set_cons_succ]
            refine wpAnyZ_ready (rs := [31]) (by kernel_rfl) (by simp) ?_
            refine AllReadyZ.cons (opAt rfl) (fun K hK => ?_) ?_
            · skip
              go_simp
              refine (awake13 _).mono ?_
              rintro e we ⟨rfl, hb1⟩
              replace bx := bx.below hb1 bx.lt
              replace bo := bo.below hb1 bo.lt
              replace by_ := by_.below hb1 by_.lt
              replace bm := bm.below hb1 bm.lt
              replace Na := Na.below hb1
              replace Nb := Nb.below hb1
              replace Nm := Nm.below hb1
              replace hb := hb.trans (hb1.mono hb.size)
              clear hb1
              try go_wp2_with fail
              refine hK.out _ _ (by exact ⟨cellsN bx, cellsN bo, cellsN by_, cellsN bm, Zc.out _ hb⟩) (fun hHeld => ?_)
              clear hK K
              try simp only [Act.put, List.setIfInBounds_toArray, List.set_cons_zero, List.set_cons_succ]
              refine' wpAnyZ_takeA (i := 32) (v := ?_) (opAt rfl) (by kernel_rfl) (by kernel_rfl) (by kernel_rfl) (by kernel_rfl) (fun _ _ _ h => h) (by assumption) (by rfl) (fun w hSw => ?_) ?_
              rotate_left
              · (try dsimp only at hSw); go_simp; (try with_reducible rfl)
              try simp only [Act.put, List.setIfInBounds_toArray, List.set_cons_zero, List.set_cons_succ]
              refine' wpAnyZ_takeA (i := 33) (v := ?_) (opAt rfl) (by kernel_rfl) (by kernel_rfl) (by kernel_rfl) (by kernel_rfl) (fun _ _ _ h => h) (by assumption) (by rfl) (fun w hSw => ?_) ?_
              rotate_left
              · (try dsimp only at hSw); go_simp; (try with_reducible rfl)
              try simp only [Act.put, List.setIfInBounds_toArray, List.set_cons_zero, List.set_cons_succ]
              refine wpAnyZ_done (by kernel_rfl) ?_ _
              go_wp2_with fail
              go_ret
              exact ⟨rfl, hb⟩
            exact AllReadyZ.nil
          exact AllReadyZ.nil
        exact AllReadyZ.nil
      exact AllReadyZ.nil
    exact AllReadyZ.nil
  exact AllReadyZ.nil
end Go.Proofs.Ytcmoblibjhaegaa
