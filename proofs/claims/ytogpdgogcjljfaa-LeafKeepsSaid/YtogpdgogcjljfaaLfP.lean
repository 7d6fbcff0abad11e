/-
  The Go function LeafSplits.
-/
import Derived.Test.YtogpdgogcjljfaaLfM
import Derived.Test.YtogpdgogcjljfaaLfJ
import Derived.Test.YtogpdgogcjljfaaLeafO
namespace Go.Proofs.Ytogpdgogcjljfaa
open Go.RowKit

def Short (l : List Int) : Prop := l.length ≤ 1000000
theorem same_yes (b : Bool) (ks vs : List Int) (l : Int) : sameB b ks vs l b ks vs l = true := by simp [sameB]
theorem cutL_getD (l : List Int) {a b i : Nat} (hb : b ≤ l.length) (hi : a + i < b) : (cutL l a b).getD i 0 = l.getD (a + i) 0 := by
  unfold cutL
  have h1 : i < ((l.take b).drop a).length := by simp; omega
  have h2 : a + i < l.length := by omega
  simp only [List.getD, List.getElem?_eq_getElem h1, List.getElem?_eq_getElem h2, Option.getD_some]
  simp
theorem rise_cut {l : List Int} (h : riseB l = true) {a b : Nat} (hb : b ≤ l.length) : riseB (cutL l a b) = true := by
  rw [riseB_iff] at h ⊢
  intro i hi
  rw [cutL_len l a b hb] at hi
  rw [cutL_getD l hb (by omega), cutL_getD l hb (by omega)]
  exact h (a + i) (by omega)
theorem right_parts {b : Bool} {ks vs : List Int} (h : rightB b ks vs = true) : b = false ∧ ks.length = vs.length ∧ riseB ks = true := by
  unfold rightB at h
  simp only [Bool.and_eq_true, Bool.not_eq_true', beq_iff_eq] at h
  exact ⟨h.1.1, h.1.2, h.2⟩
theorem right_mk {ks vs : List Int} (h1 : ks.length = vs.length) (h2 : riseB ks = true) : rightB false ks vs = true := by simp [rightB, h1, h2]
theorem right_cut {b : Bool} {ks vs : List Int} (h : rightB b ks vs = true) {x y : Nat} (hy : y ≤ ks.length) : rightB false (cutL ks x y) (cutL vs x y) = true := by
  obtain ⟨_, h1, h2⟩ := right_parts h
  exact right_mk (by rw [cutL_len ks x y hy, cutL_len vs x y (by omega)]) (rise_cut h2 hy)
theorem cut_both (l : List Int) (q : Nat) : cutL l 0 q ++ cutL l q l.length = l := by
  unfold cutL
  simp
theorem fit_cut {b : Bool} {ks vs : List Int} (h : rightB b ks vs = true) {q : Nat} (hq : q ≤ ks.length) : fitB false false (cutL ks 0 q) (cutL vs 0 q) (cutL ks q ks.length) (cutL vs q ks.length) = true := by
  obtain ⟨_, h1, h2⟩ := right_parts h
  unfold fitB
  rw [right_cut h hq, right_cut h (Nat.le_refl _), cut_both ks q, h1, cut_both vs q]
  simpa using right_mk h1 h2
theorem ValN (w : World) (b : Bool) (ks vs : List Int) (l : Int) (v : Value) (h : Nd w w.heap.size v b ks vs l) : ∃ A c A' c', v = .agg #[.bool b, .slice A ks.length c, .slice A' vs.length c', .int .u64 l] := by
  obtain ⟨k, u, rfl, ⟨A, c, rfl, _⟩, ⟨A', c', rfl, _⟩⟩ := h
  exact ⟨A, c, A', c', rfl⟩
set_option maxHeartbeats 2000000 in
theorem splits_big (v : Value) (b : Bool) (ks vs : List Int) (l : Int) (w : World) (h : Nd w w.heap.size v b ks vs l) (hsm : ¬ (ks.length ≤ 80 ∧ vs.length ≤ 80)) :
    Calls Try.prog 4 #[v] w fun e w' => e = .returned (.bool true) ∧ Below w.heap.size w w' := by
  obtain ⟨A, c, A', c', rfl⟩ := ValN w b ks vs l v h
  have Sm := hide (fun w2 => small_any b A A' ks.length c vs.length c' l w2)
  rw [show (decide (ks.length ≤ 80) && decide (vs.length ≤ 80)) = false by simp; omega] at Sm
  clear h hsm
  generalize ks.length = n at *
  generalize vs.length = m at *
  have B0 := (Below.refl w.heap.size w).alloc (Nat.le_refl _) (.cells #[.bool b, .slice A n c, .slice A' m c', .int .u64 l] 27)
  have bx := Blk.new w 27 #[.bool b, .slice A n c, .slice A' m c', .int .u64 l]
  go_enter Try.func4, Try.ntmps4
  go_wp2_with fail
  refine (Sm.out _).mono ?_
  rintro e w1 ⟨rfl, hb1⟩
  try replace bx := bx.below hb1 bx.lt
  try replace bo := bo.below hb1 bo.lt
  try replace by_ := by_.below hb1 by_.lt
  replace B0 := B0.trans (hb1.mono B0.size)
  clear hb1
  try clear mx lx
  try clear mo lo zo
  try clear my ly zy
  try have mx := fun i => bx.cell i
  try have lx := bx.lt
  try have mo := fun i => bo.cell i
  try have lo := bo.lt
  try have zo := fun i => bo.frozen i
  try have my := fun i => by_.cell i
  try have ly := by_.lt
  try have zy := fun i => by_.frozen i
  go_wp2_with fail
  refine (awake12 _).mono ?_
  rintro e w2 ⟨rfl, hb1⟩
  try replace bx := bx.below hb1 bx.lt
  try replace bo := bo.below hb1 bo.lt
  try replace by_ := by_.below hb1 by_.lt
  replace B0 := B0.trans (hb1.mono B0.size)
  clear hb1
  try clear mx lx
  try clear mo lo zo
  try clear my ly zy
  try have mx := fun i => bx.cell i
  try have lx := bx.lt
  try have mo := fun i => bo.cell i
  try have lo := bo.lt
  try have zo := fun i => bo.frozen i
  try have my := fun i => by_.cell i
  try have ly := by_.lt
  try have zy := fun i => by_.frozen i
  go_wp2_with fail
  go_ret
  exact ⟨rfl, B0⟩
set_option maxHeartbeats 4000000 in
theorem splits_no (v : Value) (b : Bool) (ks vs : List Int) (l : Int) (w : World) (h : Nd w w.heap.size v b ks vs l) (hk : ks.length ≤ 80) (hv : vs.length ≤ 80) (hs : splitB b ks vs = false) :
    Calls Try.prog 4 #[v] w fun e w' => e = .returned (.bool true) ∧ Below w.heap.size w w' := by
  have Sp := hide (fun w2 (hB : Below w.heap.size w w2) => split_no v b ks vs l w2 (by omega) ((h.below hB).more hB.size) hs)
  have Rt := hide (fun w2 (hB : Below w.heap.size w w2) => rright_any v b ks vs l w2 (by omega) ((h.below hB).more hB.size))
  have Sa := hide (fun w2 => same_any _ _ false false [] [] [] [] 0 0 w2 (by simp) (by simp) (by simp) (by simp) (Nd.zero w2 w2.heap.size) (Nd.zero w2 w2.heap.size))
  rw [same_yes] at Sa
  obtain ⟨A, c, A', c', rfl⟩ := ValN w b ks vs l v h
  have Sm := hide (fun w2 => small_any b A A' ks.length c vs.length c' l w2)
  rw [show (decide (ks.length ≤ 80) && decide (vs.length ≤ 80)) = true by simp; omega] at Sm
  have hsm : rightB b ks vs = false ∨ (rightB b ks vs = true ∧ (ks.length : Int) < 2) := by
    unfold splitB at hs
    cases hq : rightB b ks vs with
    | false => exact .inl rfl
    | true =>
      rw [hq] at hs
      simp at hs
      exact .inr ⟨rfl, by omega⟩
  clear h hs hk hv
  rcases hsm with hq | ⟨hq, hs⟩
  all_goals
    rw [hq] at Rt
    clear hq
    generalize ks.length = n at *
    generalize vs.length = m at *
    have B0 := (Below.refl w.heap.size w).alloc (Nat.le_refl _) (.cells #[.bool b, .slice A n c, .slice A' m c', .int .u64 l] 27)
    have bx := Blk.new w 27 #[.bool b, .slice A n c, .slice A' m c', .int .u64 l]
    go_enter Try.func4, Try.ntmps4
    go_wp2_with fail
    refine (Sm.out _).mono ?_
    rintro e w1 ⟨rfl, hb1⟩
    try replace bx := bx.below hb1 bx.lt
    try replace bo := bo.below hb1 bo.lt
    try replace by_ := by_.below hb1 by_.lt
    replace B0 := B0.trans (hb1.mono B0.size)
    clear hb1
    try clear mx lx
    try clear mo lo zo
    try clear my ly zy
    try have mx := fun i => bx.cell i
    try have lx := bx.lt
    try have mo := fun i => bo.cell i
    try have lo := bo.lt
    try have zo := fun i => bo.frozen i
    try have my := fun i => by_.cell i
    try have ly := by_.lt
    try have zy := fun i => by_.frozen i
    go_wp2_with fail
    refine (Sp.out _ B0).mono ?_
    rintro e w2 ⟨rfl, hb1⟩
    replace bx := bx.below hb1 bx.lt
    replace B0 := B0.trans (hb1.mono B0.size)
    clear hb1
    have bo := Blk.new w2 27 #[.bool false, .slice none 0 0, .slice none 0 0, .int .u64 0]
    replace bx := bx.alloc (.cells #[.bool false, .slice none 0 0, .slice none 0 0, .int .u64 0] 27)
    replace B0 := B0.alloc B0.size (.cells #[.bool false, .slice none 0 0, .slice none 0 0, .int .u64 0] 27)
    have by_ := Blk.new (w2.alloc (.cells #[.bool false, .slice none 0 0, .slice none 0 0, .int .u64 0] 27)) 27 #[.bool false, .slice none 0 0, .slice none 0 0, .int .u64 0]
    rw [World.size_alloc] at by_
    replace bx := bx.alloc (.cells #[.bool false, .slice none 0 0, .slice none 0 0, .int .u64 0] 27)
    replace bo := bo.alloc (.cells #[.bool false, .slice none 0 0, .slice none 0 0, .int .u64 0] 27)
    replace B0 := B0.alloc B0.size (.cells #[.bool false, .slice none 0 0, .slice none 0 0, .int .u64 0] 27)
    try clear mx lx
    try clear mo lo zo
    try clear my ly zy
    try have mx := fun i => bx.cell i
    try have lx := bx.lt
    try have mo := fun i => bo.cell i
    try have lo := bo.lt
    try have zo := fun i => bo.frozen i
    try have my := fun i => by_.cell i
    try have ly := by_.lt
    try have zy := fun i => by_.frozen i
    go_wp2_with fail
    generalize (w2.alloc (.cells #[.bool false, .slice none 0 0, .slice none 0 0, .int .u64 0] 27)).alloc (.cells #[.bool false, .slice none 0 0, .slice none 0 0, .int .u64 0] 27) = w3 at *
    generalize w2.heap.size + 1 = g2 at *
    generalize w2.heap.size = g1 at *
    refine (Rt.out _ B0).mono ?_
    rintro e w4 ⟨rfl, hb1⟩
    try replace bx := bx.below hb1 bx.lt
    try replace bo := bo.below hb1 bo.lt
    try replace by_ := by_.below hb1 by_.lt
    replace B0 := B0.trans (hb1.mono B0.size)
    clear hb1
    try clear mx lx
    try clear mo lo zo
    try clear my ly zy
    try have mx := fun i => bx.cell i
    try have lx := bx.lt
    try have mo := fun i => bo.cell i
    try have lo := bo.lt
    try have zo := fun i => bo.frozen i
    try have my := fun i => by_.cell i
    try have ly := by_.lt
    try have zy := fun i => by_.frozen i
    go_wp2_with fail
    refine (Sa.out _).mono ?_
    rintro e w5 ⟨rfl, hb1⟩
    try replace bx := bx.below hb1 bx.lt
    try replace bo := bo.below hb1 bo.lt
    try replace by_ := by_.below hb1 by_.lt
    replace B0 := B0.trans (hb1.mono B0.size)
    clear hb1
    try clear mx lx
    try clear mo lo zo
    try clear my ly zy
    try have mx := fun i => bx.cell i
    try have lx := bx.lt
    try have mo := fun i => bo.cell i
    try have lo := bo.lt
    try have zo := fun i => bo.frozen i
    try have my := fun i => by_.cell i
    try have ly := by_.lt
    try have zy := fun i => by_.frozen i
    go_wp2_with fail
    refine (Sa.out _).mono ?_
    rintro e w6 ⟨rfl, hb1⟩
    try replace bx := bx.below hb1 bx.lt
    try replace bo := bo.below hb1 bo.lt
    try replace by_ := by_.below hb1 by_.lt
    replace B0 := B0.trans (hb1.mono B0.size)
    clear hb1
    try clear mx lx
    try clear mo lo zo
    try clear my ly zy
    try have mx := fun i => bx.cell i
    try have lx := bx.lt
    try have mo := fun i => bo.cell i
    try have lo := bo.lt
    try have zo := fun i => bo.frozen i
    try have my := fun i => by_.cell i
    try have ly := by_.lt
    try have zy := fun i => by_.frozen i
    go_wp2_with fail
    refine (awake12 _).mono ?_
    rintro e w7 ⟨rfl, hb1⟩
    try replace bx := bx.below hb1 bx.lt
    try replace bo := bo.below hb1 bo.lt
    try replace by_ := by_.below hb1 by_.lt
    replace B0 := B0.trans (hb1.mono B0.size)
    clear hb1
    try clear mx lx
    try clear mo lo zo
    try clear my ly zy
    try have mx := fun i => bx.cell i
    try have lx := bx.lt
    try have mo := fun i => bo.cell i
    try have lo := bo.lt
    try have zo := fun i => bo.frozen i
    try have my := fun i => by_.cell i
    try have ly := by_.lt
    try have zy := fun i => by_.frozen i
    go_wp2_with fail
    go_ret
    exact ⟨rfl, B0⟩
set_option maxRecDepth 100000 in
set_option maxHeartbeats 4000000 in
theorem splits_yes (v : Value) (b : Bool) (ks vs : List Int) (l : Int) (w : World) (h : Nd w w.heap.size v b ks vs l) (hk : ks.length ≤ 80) (hr : rightB b ks vs = true) (h2 : 2 ≤ ks.length) :
    Calls Try.prog 4 #[v] w fun e w' => e = .returned (.bool true) ∧ Below w.heap.size w w' := by
  obtain ⟨rfl, hkv, hri⟩ := right_parts hr
  have hq1 : splitN ks ≤ ks.length := by unfold splitN; omega
  have hq2 : splitN ks < ks.length := by unfold splitN; omega
  have hq3 : ((ks.length : Int) + 1) / 2 = (splitN ks : Int) := by unfold splitN; omega
  have Sp := hide (fun w2 (hB : Below w.heap.size w w2) => split_yes v false ks vs l w2 (by omega) ((h.below hB).more hB.size) hr h2)
  have Rt := hide (fun w2 (hB : Below w.heap.size w w2) => rright_any v false ks vs l w2 (by omega) ((h.below hB).more hB.size))
  have C1 := hide (fun w2 (hB : Below w.heap.size w w2) => rcut_any v false ks vs l 0 0 (splitN ks) w2 (by omega) (by omega) (by omega) (by omega) (by omega) ((h.below hB).more hB.size))
  have C2 := hide (fun w2 (hB : Below w.heap.size w w2) => rcut_any v false ks vs l l (splitN ks) ks.length w2 (by omega) (by omega) (by omega) (by omega) (by omega) ((h.below hB).more hB.size))
  have l1 := cutL_len ks 0 (splitN ks) hq1
  have l2 := cutL_len vs 0 (splitN ks) (by omega)
  have l3 := cutL_len ks (splitN ks) ks.length (Nat.le_refl _)
  have l4 := cutL_len vs (splitN ks) ks.length (by omega)
  have Mg := hide (fun (u u' : Value) w2 (hN : Nd w2 w2.heap.size u false (cutL ks 0 (splitN ks)) (cutL vs 0 (splitN ks)) 0) (hN' : Nd w2 w2.heap.size u' false (cutL ks (splitN ks) ks.length) (cutL vs (splitN ks) ks.length) l) => merge_any u u' false false _ _ _ _ 0 l w2 (by omega) (by omega) (by omega) (by omega) hN hN')
  rw [fit_cut hr hq1, cut_both ks (splitN ks)] at Mg
  have hvv := cut_both vs (splitN ks)
  rw [← hkv] at hvv
  rw [hvv] at Mg
  simp only [if_true] at Mg
  rw [hr] at Rt
  have Hx1 := hide (show Short (cutL ks 0 (splitN ks)) by unfold Short; omega)
  have Hy1 := hide (show Short (cutL vs 0 (splitN ks)) by unfold Short; omega)
  have Hx2 := hide (show Short (cutL ks (splitN ks) ks.length) by unfold Short; omega)
  have Hy2 := hide (show Short (cutL vs (splitN ks) ks.length) by unfold Short; omega)
  have Hks := hide (show Short ks by unfold Short; omega)
  have Hvs := hide (show Short vs by unfold Short; omega)
  have HN0 := hide h
  obtain ⟨k0, u0, rfl, hk0, hu0⟩ := h
  obtain ⟨A, c, rfl, hc1, hc2, hrk⟩ := hk0
  obtain ⟨A', c', rfl, _⟩ := hu0
  obtain ⟨ad, rfl, hkl, z0⟩ := hrk.word hq2
  have Zc := hide (fun w2 (hB : Below w.heap.size w w2) => word_cell hrk hq2 hkl hB)
  have G1 := hide (show ks.getD (splitN ks) 0 = ks[splitN ks] by simp [List.getD, hkl])
  rw [G1.out] at Sp
  generalize ks[splitN ks] = mid at *
  have Sm := hide (fun w2 => small_any false (some ad) A' ks.length c vs.length c' l w2)
  rw [show (decide (ks.length ≤ 80) && decide (vs.length ≤ 80)) = true by simp; omega] at Sm
  generalize splitN ks = q at *
  generalize cutL ks 0 q = x1 at *
  generalize cutL vs 0 q = y1 at *
  generalize cutL ks q ks.length = x2 at *
  generalize cutL vs q ks.length = y2 at *
  have hn2 : ¬ (ks.length : Int) < 2 := by omega
  have hqz : (q : Int) < (ks.length : Int) := by omega
  have hn80 : (ks.length : Int) ≤ 80 := by omega
  have htd : ((ks.length : Int) + 1).tdiv 2 = ((ks.length : Int) + 1) / 2 := Int.tdiv_eq_ediv_of_nonneg (by omega)
  have zz : ((0 : Nat) : Int) = 0 := rfl
  rw [zz] at C1
  clear zz l1 l2 l3 l4 hvv hrk z0 hkl G1 hk hr h2 hkv hri hq1 hq2 hc1 hc2
  have hnc : Hid (ks.length ≤ 80) := hide (by omega)
  generalize ks.length = n at *
  generalize vs.length = m at *
  have B0 := (Below.refl w.heap.size w).alloc (Nat.le_refl _) (.cells #[.bool false, .slice (some ad) n c, .slice A' m c', .int .u64 l] 27)
  have bx := Blk.new w 27 #[.bool false, .slice (some ad) n c, .slice A' m c', .int .u64 l]
  go_enter Try.func4, Try.ntmps4
  go_wp2_with fail
  refine (Sm.out _).mono ?_
  rintro e w1 ⟨rfl, hb1⟩
  try replace bx := bx.below hb1 bx.lt
  try replace bo := bo.below hb1 bo.lt
  try replace by_ := by_.below hb1 by_.lt
  replace B0 := B0.trans (hb1.mono B0.size)
  clear hb1
  try clear mx lx
  try clear mo lo zo
  try clear my ly zy
  try have mx := fun i => bx.cell i
  try have lx := bx.lt
  try have mo := fun i => bo.cell i
  try have lo := bo.lt
  try have zo := fun i => bo.frozen i
  try have my := fun i => by_.cell i
  try have ly := by_.lt
  try have zy := fun i => by_.frozen i
  go_wp2_with fail
  refine (Sp.out _ B0).mono ?_
  rintro e w2 ⟨⟨u1, u2, rfl, Na, Nb⟩, hb1⟩
  replace bx := bx.below hb1 bx.lt
  replace B0 := B0.trans (hb1.mono B0.size)
  clear hb1
  obtain ⟨A1, d1, A2, d2, rfl⟩ := Na.val
  obtain ⟨A3, d3, A4, d4, rfl⟩ := Nb.val
  have bo := Blk.new w2 27 #[.bool false, .slice A1 x1.length d1, .slice A2 y1.length d2, .int .u64 0]
  have K1 := (Below.refl w2.heap.size w2).alloc (Nat.le_refl _) (.cells #[.bool false, .slice A1 x1.length d1, .slice A2 y1.length d2, .int .u64 0] 27)
  replace bx := bx.alloc (.cells #[.bool false, .slice A1 x1.length d1, .slice A2 y1.length d2, .int .u64 0] 27)
  replace B0 := B0.alloc B0.size (.cells #[.bool false, .slice A1 x1.length d1, .slice A2 y1.length d2, .int .u64 0] 27)
  have by_ := Blk.new (w2.alloc (.cells #[.bool false, .slice A1 x1.length d1, .slice A2 y1.length d2, .int .u64 0] 27)) 27 #[.bool false, .slice A3 x2.length d3, .slice A4 y2.length d4, .int .u64 l]
  rw [World.size_alloc] at by_
  replace K1 := K1.alloc K1.size (.cells #[.bool false, .slice A3 x2.length d3, .slice A4 y2.length d4, .int .u64 l] 27)
  replace bx := bx.alloc (.cells #[.bool false, .slice A3 x2.length d3, .slice A4 y2.length d4, .int .u64 l] 27)
  replace bo := bo.alloc (.cells #[.bool false, .slice A3 x2.length d3, .slice A4 y2.length d4, .int .u64 l] 27)
  replace B0 := B0.alloc B0.size (.cells #[.bool false, .slice A3 x2.length d3, .slice A4 y2.length d4, .int .u64 l] 27)
  replace Na := Na.below K1
  replace Nb := Nb.below K1
  clear K1
  try clear mx lx
  try clear mo lo zo
  try clear my ly zy
  try have mx := fun i => bx.cell i
  try have lx := bx.lt
  try have mo := fun i => bo.cell i
  try have lo := bo.lt
  try have zo := fun i => bo.frozen i
  try have my := fun i => by_.cell i
  try have ly := by_.lt
  try have zy := fun i => by_.frozen i
  go_wp2_with fail
  generalize (w2.alloc (.cells #[.bool false, .slice A1 x1.length d1, .slice A2 y1.length d2, .int .u64 0] 27)).alloc (.cells #[.bool false, .slice A3 x2.length d3, .slice A4 y2.length d4, .int .u64 l] 27) = w3 at *
  generalize w2.heap.size + 1 = g2 at *
  generalize w2.heap.size = g1 at *
  refine (Rt.out _ B0).mono ?_
  rintro e w4 ⟨rfl, hb1⟩
  replace bx := bx.below hb1 bx.lt
  replace bo := bo.below hb1 bo.lt
  replace by_ := by_.below hb1 by_.lt
  replace Na := Na.below hb1
  replace Nb := Nb.below hb1
  replace B0 := B0.trans (hb1.mono B0.size)
  clear hb1 Rt Sp Sm
  try clear mx lx
  try clear mo lo zo
  try clear my ly zy
  try have mx := fun i => bx.cell i
  try have lx := bx.lt
  try have mo := fun i => bo.cell i
  try have lo := bo.lt
  try have zo := fun i => bo.frozen i
  try have my := fun i => by_.cell i
  try have ly := by_.lt
  try have zy := fun i => by_.frozen i
  go_wp2_with fail
  clear mx lx mo lo zo my ly zy
  replace bx := bx.drew
  replace bo := bo.drew
  replace by_ := by_.drew
  have hb := B0.drew
  clear B0
  replace Na := (show NdO w4.drew _ _ _ _ _ _ from Na)
  replace Nb := (show NdO w4.drew _ _ _ _ _ _ from Nb)
  refine wp_region_heldZ [] (fun w' => (w'.cell? ⟨w.heap.size, 0, none⟩ = some (.bool false) ∧ w'.cell? ⟨w.heap.size, 1, none⟩ = some (.slice (some ad) n c) ∧ w'.cell? ⟨w.heap.size, 2, none⟩ = some (.slice A' m c') ∧ w'.cell? ⟨w.heap.size, 3, none⟩ = some (.int .u64 l)) ∧ (w'.cell? ⟨g1, 0, none⟩ = some (.bool false) ∧ w'.cell? ⟨g1, 1, none⟩ = some (.slice A1 x1.length d1) ∧ w'.cell? ⟨g1, 2, none⟩ = some (.slice A2 y1.length d2) ∧ w'.cell? ⟨g1, 3, none⟩ = some (.int .u64 0)) ∧ (w'.cell? ⟨g2, 0, none⟩ = some (.bool false) ∧ w'.cell? ⟨g2, 1, none⟩ = some (.slice A3 x2.length d3) ∧ w'.cell? ⟨g2, 2, none⟩ = some (.slice A4 y2.length d4) ∧ w'.cell? ⟨g2, 3, none⟩ = some (.int .u64 l)) ∧ w'.cell? (ad.add q) = some (.int .u64 mid)) (by kernel_rfl) (by exact ⟨cellsN bx, cellsN bo, cellsN by_, Zc.out _ hb⟩) (fun hHeld => ?_)
  refine' wpAnyZ_takeA (i := 0) (v := ?_) (opAt rfl) (by kernel_rfl) (by kernel_rfl) (by kernel_rfl) (by kernel_rfl) (fun _ _ _ h => h) (by assumption) (by rfl) (fun w hSw => ?_) ?_
  rotate_left
  · (try dsimp only at hSw); go_simp; (try with_reducible rfl)
  try simp only [Act.put, List.setIfInBounds_toArray, List.set_cons_zero, List.set_cons_succ]
  refine' wpAnyZ_takeA (i := 1) (v := ?_) (opAt rfl) (by kernel_rfl) (by kernel_rfl) (by kernel_rfl) (by kernel_rfl) (fun _ _ _ h => h) (by assumption) (by rfl) (fun w hSw => ?_) ?_
  rotate_left
  · (try dsimp only at hSw); go_simp; (try with_reducible rfl)
  try simp only [Act.put, List.setIfInBounds_toArray, List.set_cons_zero, List.set_cons_succ]
  refine' wpAnyZ_takeA (i := 2) (v := ?_) (opAt rfl) (by kernel_rfl) (by kernel_rfl) (by kernel_rfl) (by kernel_rfl) (fun _ _ _ h => h) (by assumption) (by rfl) (fun w hSw => ?_) ?_
  rotate_left
  · (try dsimp only at hSw); go_simp; (try with_reducible rfl)
  try simp only [Act.put, List.setIfInBounds_toArray, List.set_cons_zero, List.set_cons_succ]
  refine wpAnyZ_ready (rs := [3]) (by kernel_rfl) (by simp) ?_
  refine AllReadyZ.cons (opAt rfl) (fun K hK => ?_) ?_
  · skip
    go_simp
    refine (C1.out _ hb).mono ?_
    rintro e wc ⟨⟨u1, rfl, hu1⟩, hb1⟩
    replace bx := bx.below hb1 bx.lt
    replace bo := bo.below hb1 bo.lt
    replace by_ := by_.below hb1 by_.lt
    replace Na := Na.below hb1
    replace Nb := Nb.below hb1
    replace hb := hb.trans (hb1.mono hb.size)
    obtain ⟨B1, e1, B2, e2, rfl⟩ := hu1.val
    clear hb1
    try go_wp2_with fail
    refine hK.out _ _ (by exact ⟨cellsN bx, cellsN bo, cellsN by_, Zc.out _ hb⟩) (fun hHeld => ?_)
    clear hK K
    try simp only [Act.put, List.setIfInBounds_toArray, List.set_cons_zero, List.set_cons_succ]
    refine wpAnyZ_ready (rs := [4]) (by kernel_rfl) (by simp) ?_
    refine AllReadyZ.cons (opAt rfl) (fun K hK => ?_) ?_
    · skip
      go_simp
      refine (same_any _ _ false false x1 y1 x1 y1 0 0 _ Hx1.out Hy1.out Hx1.out Hy1.out Na.nd hu1.nd).mono ?_
      rw [same_yes]
      rintro e wd ⟨rfl, hb1⟩
      replace bx := bx.below hb1 bx.lt
      replace bo := bo.below hb1 bo.lt
      replace by_ := by_.below hb1 by_.lt
      replace Na := Na.below hb1
      replace Nb := Nb.below hb1
      replace hb := hb.trans (hb1.mono hb.size)
      clear hb1
      try go_wp2_with fail
      refine hK.out _ _ (by exact ⟨cellsN bx, cellsN bo, cellsN by_, Zc.out _ hb⟩) (fun hHeld => ?_)
      clear hK K
      try simp only [Act.put, List.setIfInBounds_toArray, List.set_cons_zero, List.set_cons_succ]
      refine' wpAnyZ_takeA (i := 5) (v := ?_) (opAt rfl) (by kernel_rfl) (by kernel_rfl) (by kernel_rfl) (by kernel_rfl) (fun _ _ _ h => h) (by assumption) (by rfl) (fun w hSw => ?_) ?_
      rotate_left
      · (try dsimp only at hSw); go_simp; (try with_reducible rfl)
      try simp only [Act.put, List.setIfInBounds_toArray, List.set_cons_zero, List.set_cons_succ]
      refine' wpAnyZ_takeA (i := 6) (v := ?_) (opAt rfl) (by kernel_rfl) (by kernel_rfl) (by kernel_rfl) (by kernel_rfl) (fun _ _ _ h => h) (by assumption) (by rfl) (fun w hSw => ?_) ?_
      rotate_left
      · (try dsimp only at hSw); go_simp; (try with_reducible rfl)
      try simp only [Act.put, List.setIfInBounds_toArray, List.set_cons_zero, List.set_cons_succ]
      refine' wpAnyZ_takeA (i := 7) (v := ?_) (opAt rfl) (by kernel_rfl) (by kernel_rfl) (by kernel_rfl) (by kernel_rfl) (fun _ _ _ h => h) (by assumption) (by rfl) (fun w hSw => ?_) ?_
      rotate_left
      · (try dsimp only at hSw); go_simp; (try with_reducible rfl)
      try simp only [Act.put, List.setIfInBounds_toArray, List.set_cons_zero, List.set_cons_succ]
      refine' wpAnyZ_takeA (i := 8) (v := ?_) (opAt rfl) (by kernel_rfl) (by kernel_rfl) (by kernel_rfl) (by kernel_rfl) (fun _ _ _ h => h) (by assumption) (by rfl) (fun w hSw => ?_) ?_
      rotate_left
      · (try dsimp only at hSw); go_simp; (try with_reducible rfl)
      try simp only [Act.put, List.setIfInBounds_toArray, List.set_cons_zero, List.set_cons_succ]
      refine' wpAnyZ_takeA (i := 9) (v := ?_) (opAt rfl) (by kernel_rfl) (by kernel_rfl) (by kernel_rfl) (by kernel_rfl) (fun _ _ _ h => h) (by assumption) (by rfl) (fun w hSw => ?_) ?_
      rotate_left
      · (try dsimp only at hSw); go_simp; (try with_reducible rfl)
      try simp only [Act.put, List.setIfInBounds_toArray, List.set_cons_zero, List.set_cons_succ]
      refine' wpAnyZ_takeA (i := 10) (v := ?_) (opAt rfl) (by kernel_rfl) (by kernel_rfl) (by kernel_rfl) (by kernel_rfl) (fun _ _ _ h => h) (by assumption) (by rfl) (fun w hSw => ?_) ?_
      rotate_left
      · (try dsimp only at hSw); go_simp; (try with_reducible rfl)
      try simp only [Act.put, List.setIfInBounds_toArray, List.set_cons_zero, List.set_cons_succ]
      refine' wpAnyZ_takeA (i := 11) (v := ?_) (opAt rfl) (by kernel_rfl) (by kernel_rfl) (by kernel_rfl) (by kernel_rfl) (fun _ _ _ h => h) (by assumption) (by rfl) (fun w hSw => ?_) ?_
      rotate_left
      · (try dsimp only at hSw); go_simp; (try with_reducible rfl)
      try simp only [Act.put, List.setIfInBounds_toArray, List.set_cons_zero, List.set_cons_succ]
      refine' wpAnyZ_takeA (i := 12) (v := ?_) (opAt rfl) (by kernel_rfl) (by kernel_rfl) (by kernel_rfl) (by kernel_rfl) (fun _ _ _ h => h) (by assumption) (by rfl) (fun w hSw => ?_) ?_
      rotate_left
      · (try dsimp only at hSw); go_simp; (try with_reducible rfl)
      try simp only [Act.put, List.setIfInBounds_toArray, List.set_cons_zero, List.set_cons_succ]
      refine' wpAnyZ_takeA (i := 13) (v := ?_) (opAt rfl) (by kernel_rfl) (by kernel_rfl) (by kernel_rfl) (by kernel_rfl) (fun _ _ _ h => h) (by assumption) (by rfl) (fun w hSw => ?_) ?_
      rotate_left
      · (try dsimp only at hSw); go_simp; (try with_reducible rfl)
      try simp only [Act.put, List.setIfInBounds_toArray, List.set_cons_zero, List.set_cons_succ]
      refine wpAnyZ_ready (rs := [14]) (by kernel_rfl) (by simp) ?_
      refine AllReadyZ.cons (opAt rfl) (fun K hK => ?_) ?_
      · skip
        go_simp
        refine (C2.out _ hb).mono ?_
        rintro e wc ⟨⟨u2, rfl, hu2⟩, hb1⟩
        replace bx := bx.below hb1 bx.lt
        replace bo := bo.below hb1 bo.lt
        replace by_ := by_.below hb1 by_.lt
        replace Na := Na.below hb1
        replace Nb := Nb.below hb1
        replace hb := hb.trans (hb1.mono hb.size)
        obtain ⟨B3, e3, B4, e4, rfl⟩ := hu2.val
        clear hb1
        try go_wp2_with fail
        refine hK.out _ _ (by exact ⟨cellsN bx, cellsN bo, cellsN by_, Zc.out _ hb⟩) (fun hHeld => ?_)
        clear hK K
        try simp only [Act.put, List.setIfInBounds_toArray, List.set_cons_zero, List.set_cons_succ]
        refine wpAnyZ_ready (rs := [15]) (by kernel_rfl) (by simp) ?_
        refine AllReadyZ.cons (opAt rfl) (fun K hK => ?_) ?_
        · skip
          go_simp
          refine (same_any _ _ false false x2 y2 x2 y2 l l _ Hx2.out Hy2.out Hx2.out Hy2.out Nb.nd hu2.nd).mono ?_
          rw [same_yes]
          rintro e wd ⟨rfl, hb1⟩
          replace bx := bx.below hb1 bx.lt
          replace bo := bo.below hb1 bo.lt
          replace by_ := by_.below hb1 by_.lt
          replace Na := Na.below hb1
          replace Nb := Nb.below hb1
          replace hb := hb.trans (hb1.mono hb.size)
          clear hb1
          try go_wp2_with fail
          refine hK.out _ _ (by exact ⟨cellsN bx, cellsN bo, cellsN by_, Zc.out _ hb⟩) (fun hHeld => ?_)
          clear hK K
          try simp only [Act.put, List.setIfInBounds_toArray, List.set_cons_zero, List.set_cons_succ]
          refine' wpAnyZ_takeA (i := 16) (v := ?_) (opAt rfl) (by kernel_rfl) (by kernel_rfl) (by kernel_rfl) (by kernel_rfl) (fun _ _ _ h => h) (by assumption) (by rfl) (fun w hSw => ?_) ?_
          rotate_left
          · (try dsimp only at hSw); go_simp; (try with_reducible rfl)
          try simp only [Act.put, List.setIfInBounds_toArray, List.set_cons_zero, List.set_cons_succ]
          refine' wpAnyZ_takeA (i := 17) (v := ?_) (opAt rfl) (by kernel_rfl) (by kernel_rfl) (by kernel_rfl) (by kernel_rfl) (fun _ _ _ h => h) (by assumption) (by rfl) (fun w hSw => ?_) ?_
          rotate_left
          · (try dsimp only at hSw); go_simp; (try with_reducible rfl)
          try simp only [Act.put, List.setIfInBounds_toArray, List.set_cons_zero, List.set_cons_succ]
          refine' wpAnyZ_takeA (i := 18) (v := ?_) (opAt rfl) (by kernel_rfl) (by kernel_rfl) (by kernel_rfl) (by kernel_rfl) (fun _ _ _ h => h) (by assumption) (by rfl) (fun w hSw => ?_) ?_
          rotate_left
          · (try dsimp only at hSw); go_simp; (try with_reducible rfl)
          try simp only [Act.put, List.setIfInBounds_toArray, List.set_cons_zero, List.set_cons_succ]
          refine' wpAnyZ_takeA (i := 19) (v := ?_) (opAt rfl) (by kernel_rfl) (by kernel_rfl) (by kernel_rfl) (by kernel_rfl) (fun _ _ _ h => h) (by assumption) (by rfl) (fun w hSw => ?_) ?_
          rotate_left
          · (try dsimp only at hSw); go_simp; (try with_reducible rfl)
          try simp only [Act.put, List.setIfInBounds_toArray, List.set_cons_zero, List.set_cons_succ]
          refine' wpAnyZ_takeA (i := 20) (v := ?_) (opAt rfl) (by kernel_rfl) (by kernel_rfl) (by kernel_rfl) (by kernel_rfl) (fun _ _ _ h => h) (by assumption) (by rfl) (fun w hSw => ?_) ?_
          rotate_left
          · (try dsimp only at hSw); go_simp; (try with_reducible rfl)
          try simp only [Act.put, List.setIfInBounds_toArray, List.set_cons_zero, List.set_cons_succ]
          refine' wpAnyZ_takeA (i := 21) (v := ?_) (opAt rfl) (by kernel_rfl) (by kernel_rfl) (by kernel_rfl) (by kernel_rfl) (fun _ _ _ h => h) (by assumption) (by rfl) (fun w hSw => ?_) ?_
          rotate_left
          · (try dsimp only at hSw); go_simp; (try with_reducible rfl)
          try simp only [Act.put, List.setIfInBounds_toArray, List.set_cons_zero, List.set_cons_succ]
          refine' wpAnyZ_takeA (i := 22) (v := ?_) (opAt rfl) (by kernel_rfl) (by kernel_rfl) (by kernel_rfl) (by kernel_rfl) (fun _ _ _ h => h) (by assumption) (by rfl) (fun w hSw => ?_) ?_
          rotate_left
          · (try dsimp only at hSw); go_simp; (try with_reducible rfl)
          try simp only [Act.put, List.setIfInBounds_toArray, List.set_cons_zero, List.set_cons_succ]
          refine' wpAnyZ_takeA (i := 23) (v := ?_) (opAt rfl) (by kernel_rfl) (by kernel_rfl) (by kernel_rfl) (by kernel_rfl) (fun _ _ _ h => h) (by assumption) (by rfl) (fun w hSw => ?_) ?_
          rotate_left
          · (try dsimp only at hSw); go_simp; (try with_reducible rfl)
          try simp only [Act.put, List.setIfInBounds_toArray, List.set_cons_zero, List.set_cons_succ]
          refine' wpAnyZ_takeA (i := 24) (v := ?_) (opAt rfl) (by kernel_rfl) (by kernel_rfl) (by kernel_rfl) (by kernel_rfl) (fun _ _ _ h => h) (by assumption) (by rfl) (fun w hSw => ?_) ?_
          rotate_left
          · (try dsimp only at hSw); go_simp; (try with_reducible rfl)
          try simp only [Act.put, List.setIfInBounds_toArray, List.set_cons_zero, List.set_cons_succ]
          refine' wpAnyZ_takeA (i := 25) (v := ?_) (opAt rfl) (by kernel_rfl) (by kernel_rfl) (by kernel_rfl) (by kernel_rfl) (fun _ _ _ h => h) (by assumption) (by rfl) (fun w hSw => ?_) ?_
          rotate_left
          · (try dsimp only at hSw); go_simp; (try with_reducible rfl)
          try simp only [Act.put, List.setIfInBounds_toArray, List.set_cons_zero, List.set_cons_succ]
          refine' wpAnyZ_takeA (i := 26) (v := ?_) (opAt rfl) (by kernel_rfl) (by kernel_rfl) (by kernel_rfl) (by kernel_rfl) (fun _ _ _ h => h) (by assumption) (by rfl) (fun w hSw => ?_) ?_
          rotate_left
          · (try dsimp only at hSw); go_simp; (try with_reducible rfl)
          try simp only [Act.put, List.setIfInBounds_toArray, List.set_cons_zero, List.set_cons_succ]
          refine' wpAnyZ_takeA (i := 27) (v := ?_) (opAt rfl) (by kernel_rfl) (by kernel_rfl) (by kernel_rfl) (by kernel_rfl) (fun _ _ _ h => h) (by assumption) (by rfl) (fun w hSw => ?_) ?_
          rotate_left
          · (try dsimp only at hSw); go_simp; (try with_reducible rfl)
          try simp only [Act.put, List.setIfInBounds_toArray, List.set_cons_zero, List.set_cons_succ]
          refine' wpAnyZ_takeA (i := 28) (v := ?_) (opAt rfl) (by kernel_rfl) (by kernel_rfl) (by kernel_rfl) (by kernel_rfl) (fun _ _ _ h => h) (by assumption) (by rfl) (fun w hSw => ?_) ?_
          rotate_left
          · (try dsimp only at hSw); go_simp; (try with_reducible rfl)
          try simp only [Act.put, List.setIfInBounds_toArray, List.set_cons_zero, List.set_cons_succ]
          refine' wpAnyZ_takeA (i := 30) (v := ?_) (opAt rfl) (by kernel_rfl) (by kernel_rfl) (by kernel_rfl) (by kernel_rfl) (fun _ _ _ h => h) (by assumption) (by rfl) (fun w hSw => ?_) ?_
          rotate_left
          · (try dsimp only at hSw); go_simp; (try with_reducible rfl)
          try simp only [Act.put, List.setIfInBounds_toArray, List.set_cons_zero, List.set_cons_succ]
          refine wpAnyZ_ready (rs := [29]) (by kernel_rfl) (by simp) ?_
          refine AllReadyZ.cons (opAt rfl) (fun K hK => ?_) ?_
          · skip
            go_simp
            refine (Mg.out _ _ _ Na.nd Nb.nd).mono ?_
            rintro e wm ⟨⟨u3, rfl, hu3⟩, hb1⟩
            replace bx := bx.below hb1 bx.lt
            replace bo := bo.below hb1 bo.lt
            replace by_ := by_.below hb1 by_.lt
            replace Na := Na.below hb1
            replace Nb := Nb.below hb1
            replace hb := hb.trans (hb1.mono hb.size)
            obtain ⟨B5, e5, B6, e6, rfl⟩ := hu3.val
            clear hb1
            try go_wp2_with fail
            refine hK.out _ _ (by exact ⟨cellsN bx, cellsN bo, cellsN by_, Zc.out _ hb⟩) (fun hHeld => ?_)
            clear hK K
            try simp only [Act.put, List.setIfInBounds_toArray, List.set_cons_zero, List.set_cons_succ]
            refine wpAnyZ_ready (rs := [31]) (by kernel_rfl) (by simp) ?_
            refine AllReadyZ.cons (opAt rfl) (fun K hK => ?_) ?_
            · skip
              go_simp
              refine (same_any _ _ false false ks vs ks vs l l _ Hks.out Hvs.out Hks.out Hvs.out hu3.nd ((HN0.out.below hb).more hb.size)).mono ?_
              rw [same_yes]
              rintro e wd ⟨rfl, hb1⟩
              replace bx := bx.below hb1 bx.lt
              replace bo := bo.below hb1 bo.lt
              replace by_ := by_.below hb1 by_.lt
              replace Na := Na.below hb1
              replace Nb := Nb.below hb1
              replace hb := hb.trans (hb1.mono hb.size)
              clear hb1
              try go_wp2_with fail
              refine hK.out _ _ (by exact ⟨cellsN bx, cellsN bo, cellsN by_, Zc.out _ hb⟩) (fun hHeld => ?_)
              clear hK K
              try simp only [Act.put, List.setIfInBounds_toArray, List.set_cons_zero, List.set_cons_succ]
              refine' wpAnyZ_takeA (i := 32) (v := ?_) (opAt rfl) (by kernel_rfl) (by kernel_rfl) (by kernel_rfl) (by kernel_rfl) (fun _ _ _ h => h) (by assumption) (by rfl) (fun w hSw => ?_) ?_
              rotate_left
              · (try dsimp only at hSw); go_simp; (try with_reducible rfl)
              try simp only [Act.put, List.setIfInBounds_toArray, List.set_cons_zero, List.set_cons_succ]
              refine' wpAnyZ_takeA (i := 33) (v := ?_) (opAt rfl) (by kernel_rfl) (by kernel_rfl) (by kernel_rfl) (by kernel_rfl) (fun _ _ _ h => h) (by assumption) (by rfl) (fun w hSw => ?_) ?_
              rotate_left
              · (try dsimp only at hSw); go_simp; (try with_reducible rfl)
              try simp only [Act.put, List.setIfInBounds_toArray, List.set_cons_zero, List.set_cons_succ]
              refine wpAnyZ_ready (rs := [34]) (by kernel_rfl) (by simp) ?_
              refine AllReadyZ.cons (opAt rfl) (fun K hK => ?_) ?_
              · skip
                go_simp
                refine (awake12 _).mono ?_
                rintro e we ⟨rfl, hb1⟩
                replace bx := bx.below hb1 bx.lt
                replace bo := bo.below hb1 bo.lt
                replace by_ := by_.below hb1 by_.lt
                replace Na := Na.below hb1
                replace Nb := Nb.below hb1
                replace hb := hb.trans (hb1.mono hb.size)
                clear hb1
                try go_wp2_with fail
                refine hK.out _ _ (by exact ⟨cellsN bx, cellsN bo, cellsN by_, Zc.out _ hb⟩) (fun hHeld => ?_)
                clear hK K
                try simp only [Act.put, List.setIfInBounds_toArray, List.set_cons_zero, List.set_cons_succ]
                refine' wpAnyZ_takeA (i := 35) (v := ?_) (opAt rfl) (by kernel_rfl) (by kernel_rfl) (by kernel_rfl) (by kernel_rfl) (fun _ _ _ h => h) (by assumption) (by rfl) (fun w hSw => ?_) ?_
                rotate_left
                · (try dsimp only at hSw); go_simp; (try with_reducible rfl)
                try simp only [Act.put, List.setIfInBounds_toArray, List.set_cons_zero, List.set_cons_succ]
                refine' wpAnyZ_takeA (i := 36) (v := ?_) (opAt rfl) (by kernel_rfl) (by kernel_rfl) (by kernel_rfl) (by kernel_rfl) (fun _ _ _ h => h) (by assumption) (by rfl) (fun w hSw => ?_) ?_
                rotate_left
                · (try dsimp only at hSw); go_simp; (try with_reducible rfl)
                try simp only [Act.put, List.setIfInBounds_toArray, List.set_cons_zero, List.set_cons_succ]
                refine wpAnyZ_done (by kernel_rfl) ?_ _
                go_wp2_with fail
                go_ret
                exact ⟨rfl, hb⟩
              exact AllReadyZ.nil
            exact AllReadyZ.nil
          exact AllReadyZ.nil
        exact AllReadyZ.nil
      exact AllReadyZ.nil
    exact AllReadyZ.nil
  exact AllReadyZ.nil
end Go.Proofs.Ytogpdgogcjljfaa
