/-
  inner.FromRight, inner.FromLeft.
-/
import Derived.Test.YtcmoblibjhaegaaIfl
namespace Go.Proofs.Ytcmoblibjhaegaa
open Go.RowKit

set_option maxRecDepth 100000 in
set_option maxHeartbeats 4000000 in
theorem fr_yes (v v' : Value) (b b' : Bool) (ks vs ks' vs' : List Int) (l l' key : Int) (w : World) (hl : ks.length ≤ 900) (hl' : ks'.length ≤ 900) (h : Nd w w.heap.size v b ks vs l) (h' : Nd w w.heap.size v' b' ks' vs' l') (h1 : rightI b ks vs = true) (h2 : rightI b' ks' vs' = true) (h3 : rightI true (ks ++ key :: ks') (vs ++ vs') = true) (hR : 2 ≤ vs'.length) :
    Calls Try.prog 24 #[v, .int .u64 key, v'] w fun e w' => (∃ va vb, e = .returned (.tuple #[va, vb, .int .u64 (ks'.getD 0 0)]) ∧ NdO w' w.heap.size va true (ks.take ks.length ++ [key] ++ ks.drop ks.length) (vs.take vs.length ++ [vs'.getD 0 0] ++ vs.drop vs.length) l ∧ NdO w' w.heap.size vb true (ks'.take 0 ++ ks'.drop 1) (vs'.take 0 ++ vs'.drop 1) l') ∧ Below w.heap.size w w' := by
  have hmf : ∀ (fn : Fn) (first cap : Array Value) (w : World), (Instr.makeFunc fn first cap).run Try.prog w = .ok (.func fn first cap) w := fun _ _ _ _ => rfl
  obtain ⟨A, c, A', c', rfl⟩ := ValN w b ks vs l v h
  obtain ⟨E, f, E', f', rfl⟩ := ValN w b' ks' vs' l' v' h'
  replace hR := hide hR
  have bx := (((((Blk.new w 27 #[.bool b, .slice A ks.length c, .slice A' vs.length c', .int .u64 l]).alloc (.cells #[.int .u64 key] 22)).alloc (.cells #[.bool b', .slice E ks'.length f, .slice E' vs'.length f', .int .u64 l'] 27)).alloc (.cells #[.bool false, .slice none 0 0, .slice none 0 0, .int .u64 0] 27)).alloc (.cells #[.bool false, .slice none 0 0, .slice none 0 0, .int .u64 0] 27)).alloc (.cells #[.int .u64 0] 22)
  have bk := ((((Blk.new (w.alloc (.cells #[.bool b, .slice A ks.length c, .slice A' vs.length c', .int .u64 l] 27)) 22 #[.int .u64 key]).alloc (.cells #[.bool b', .slice E ks'.length f, .slice E' vs'.length f', .int .u64 l'] 27)).alloc (.cells #[.bool false, .slice none 0 0, .slice none 0 0, .int .u64 0] 27)).alloc (.cells #[.bool false, .slice none 0 0, .slice none 0 0, .int .u64 0] 27)).alloc (.cells #[.int .u64 0] 22)
  have by_ := (((Blk.new ((w.alloc (.cells #[.bool b, .slice A ks.length c, .slice A' vs.length c', .int .u64 l] 27)).alloc (.cells #[.int .u64 key] 22)) 27 #[.bool b', .slice E ks'.length f, .slice E' vs'.length f', .int .u64 l']).alloc (.cells #[.bool false, .slice none 0 0, .slice none 0 0, .int .u64 0] 27)).alloc (.cells #[.bool false, .slice none 0 0, .slice none 0 0, .int .u64 0] 27)).alloc (.cells #[.int .u64 0] 22)
  have bc := ((Blk.new (((w.alloc (.cells #[.bool b, .slice A ks.length c, .slice A' vs.length c', .int .u64 l] 27)).alloc (.cells #[.int .u64 key] 22)).alloc (.cells #[.bool b', .slice E ks'.length f, .slice E' vs'.length f', .int .u64 l'] 27)) 27 #[.bool false, .slice none 0 0, .slice none 0 0, .int .u64 0]).alloc (.cells #[.bool false, .slice none 0 0, .slice none 0 0, .int .u64 0] 27)).alloc (.cells #[.int .u64 0] 22)
  have bd := (Blk.new ((((w.alloc (.cells #[.bool b, .slice A ks.length c, .slice A' vs.length c', .int .u64 l] 27)).alloc (.cells #[.int .u64 key] 22)).alloc (.cells #[.bool b', .slice E ks'.length f, .slice E' vs'.length f', .int .u64 l'] 27)).alloc (.cells #[.bool false, .slice none 0 0, .slice none 0 0, .int .u64 0] 27)) 27 #[.bool false, .slice none 0 0, .slice none 0 0, .int .u64 0]).alloc (.cells #[.int .u64 0] 22)
  have bm := Blk.new (((((w.alloc (.cells #[.bool b, .slice A ks.length c, .slice A' vs.length c', .int .u64 l] 27)).alloc (.cells #[.int .u64 key] 22)).alloc (.cells #[.bool b', .slice E ks'.length f, .slice E' vs'.length f', .int .u64 l'] 27)).alloc (.cells #[.bool false, .slice none 0 0, .slice none 0 0, .int .u64 0] 27)).alloc (.cells #[.bool false, .slice none 0 0, .slice none 0 0, .int .u64 0] 27)) 22 #[.int .u64 0]
  have hb := ((((((Below.refl w.heap.size w).alloc (Nat.le_refl _) (.cells #[.bool b, .slice A ks.length c, .slice A' vs.length c', .int .u64 l] 27)).alloc (by simp only [World.size_alloc]; omega) (.cells #[.int .u64 key] 22)).alloc (by simp only [World.size_alloc]; omega) (.cells #[.bool b', .slice E ks'.length f, .slice E' vs'.length f', .int .u64 l'] 27)).alloc (by simp only [World.size_alloc]; omega) (.cells #[.bool false, .slice none 0 0, .slice none 0 0, .int .u64 0] 27)).alloc (by simp only [World.size_alloc]; omega) (.cells #[.bool false, .slice none 0 0, .slice none 0 0, .int .u64 0] 27)).alloc (by simp only [World.size_alloc]; omega) (.cells #[.int .u64 0] 22)
  simp only [World.size_alloc] at bk by_ bc bd bm
  go_enter Try.func24, Try.ntmps24
  go_wp2_with fail
  generalize ((((((w.alloc (.cells #[.bool b, .slice A ks.length c, .slice A' vs.length c', .int .u64 l] 27)).alloc (.cells #[.int .u64 key] 22)).alloc (.cells #[.bool b', .slice E ks'.length f, .slice E' vs'.length f', .int .u64 l'] 27)).alloc (.cells #[.bool false, .slice none 0 0, .slice none 0 0, .int .u64 0] 27)).alloc (.cells #[.bool false, .slice none 0 0, .slice none 0 0, .int .u64 0] 27)).alloc (.cells #[.int .u64 0] 22)) = w2 at *
  obtain ⟨gx, egx⟩ : ∃ g, g = w.heap.size := ⟨_, rfl⟩
  obtain ⟨gk, egk⟩ : ∃ g, g = w.heap.size + 1 := ⟨_, rfl⟩
  obtain ⟨gy, egy⟩ : ∃ g, g = w.heap.size + 1 + 1 := ⟨_, rfl⟩
  obtain ⟨gc, egc⟩ : ∃ g, g = w.heap.size + 1 + 1 + 1 := ⟨_, rfl⟩
  obtain ⟨gd, egd⟩ : ∃ g, g = w.heap.size + 1 + 1 + 1 + 1 := ⟨_, rfl⟩
  obtain ⟨gm, egm⟩ : ∃ g, g = w.heap.size + 1 + 1 + 1 + 1 + 1 := ⟨_, rfl⟩
  rw [← egm] at bm
  rw [← egd] at bd
  rw [← egc] at bc
  rw [← egy] at by_
  rw [← egk] at bk
  rw [← egx] at bx
  rw [← egm, ← egd, ← egc, ← egy, ← egk, ← egx]
  have HAB := hide (show gc ≠ gd by omega)
  have HBA := hide (show gd ≠ gc by omega)
  have HAK := hide (show gc ≠ gm by omega)
  have HKA := hide (show gm ≠ gc by omega)
  have HBK := hide (show gd ≠ gm by omega)
  have HKB := hide (show gm ≠ gd by omega)
  have HGc := hide (show w.heap.size ≤ gc by omega)
  have HGd := hide (show w.heap.size ≤ gd by omega)
  have HGm := hide (show w.heap.size ≤ gm by omega)
  have T1 := hide (tried_part 41 #[.pointer (some ⟨gx, 0, none⟩), .pointer (some ⟨gk, 0, none⟩), .pointer (some ⟨gy, 0, none⟩), .pointer (some ⟨gm, 0, none⟩), .pointer (some ⟨gc, 0, none⟩), .pointer (some ⟨gd, 0, none⟩)] [gm, gc, gd] (TwoOut gc gd gm w2.heap.size (ks'.getD 0 0) (ks.take ks.length ++ [key] ++ ks.drop ks.length) (vs.take vs.length ++ [vs'.getD 0 0] ++ vs.drop vs.length) l (ks'.take 0 ++ ks'.drop 1) (vs'.take 0 ++ vs'.drop 1) l') w2 (fun _ => by rfl)
    (by intro o ho; simp at ho; rcases ho with rfl | rfl | rfl <;> first | exact bc.lt | exact bd.lt | exact bm.lt) (fun w' b hb hs => hs.set_ hb)
    (fun w1 hB _ => (fr1_yes b b' A A' E E' c c' f f' ks vs ks' vs' l l' key _ _ _ _  w.heap.size gx gk gy gm gc gd w1 hl hl' ((h.below hb).below (hB.mono hb.size)) ((h'.below hb).below (hB.mono hb.size)) (Nat.le_trans hb.size hB.size) (bx.below hB bx.lt) (bk.below hB bk.lt) (by_.below hB by_.lt) (bm.below hB bm.lt) (bc.below hB bc.lt) (bd.below hB bd.lt) HGm.out HGc.out HGd.out (by omega) (by omega) (by omega) (by omega) HAB.out (by omega) h1 h2 h3 hR.out rfl rfl rfl rfl).mono (fun e w' hh => ⟨hh.1, hh.2.1, hh.2.2.mono hB.size⟩)))
  have HLO := hide hb.size
  have HKL := hide bm.lt
  clear bx bk by_ h h' h1 h2 h3 hR hl hl'
  obtain ⟨x1, hx1⟩ : ∃ x, x = ks.take ks.length ++ [key] ++ ks.drop ks.length := ⟨_, rfl⟩
  obtain ⟨x2, hx2⟩ : ∃ x, x = vs.take vs.length ++ [vs'.getD 0 0] ++ vs.drop vs.length := ⟨_, rfl⟩
  obtain ⟨x3, hx3⟩ : ∃ x, x = ks'.take 0 ++ ks'.drop 1 := ⟨_, rfl⟩
  obtain ⟨x4, hx4⟩ : ∃ x, x = vs'.take 0 ++ vs'.drop 1 := ⟨_, rfl⟩
  obtain ⟨mid, hmid⟩ : ∃ x, x = (ks'.getD 0 0) := ⟨_, rfl⟩
  rw [← hx1, ← hx2, ← hx3, ← hx4, ← hmid] at T1
  replace hx1 := hide hx1
  replace hx2 := hide hx2
  replace hx3 := hide hx3
  replace hx4 := hide hx4
  replace hmid := hide hmid
  obtain ⟨lo, hlo⟩ : ∃ lo, lo = w2.heap.size := ⟨_, rfl⟩
  rw [← hlo] at T1 HLO HKL
  refine T1.out.mono ?_
  rintro e w3 ⟨rfl, hp, k1, u1, k2, u2, bc3, bd3, bm3, Na, Nb⟩
  have hb3 := Part.below_trans hb hp (by intro o ho; simp at ho; rcases ho with rfl | rfl | rfl <;> first | exact HGc.out | exact HGd.out | exact HGm.out) (by omega)
  obtain ⟨A1, d1, A2, d2, e1⟩ := Na.val
  obtain ⟨A3, d3, A4, d4, e2⟩ := Nb.val
  simp only [Value.agg.injEq, Array.mk.injEq, List.cons.injEq, and_true, true_and] at e1 e2
  obtain ⟨rfl, rfl⟩ := e1
  obtain ⟨rfl, rfl⟩ := e2
  clear T1 hp bm bc bd hb hlo egx egk egy egc egd egm
  replace bc := bc3
  replace bd := bd3
  replace bm := bm3
  replace hb := hb3
  clear bc3 bd3 bm3 hb3
  go_wp2_with fail
  refine wp_region_heldZ [] (fun w' => w'.cell? ⟨gc, 0, none⟩ = some (.bool true) ∧ w'.cell? ⟨gc, 1, none⟩ = some (.slice A1 x1.length d1) ∧ w'.cell? ⟨gc, 2, none⟩ = some (.slice A2 x2.length d2) ∧ w'.cell? ⟨gc, 3, none⟩ = some (.int .u64 l) ∧ w'.cell? ⟨gd, 0, none⟩ = some (.bool true) ∧ w'.cell? ⟨gd, 1, none⟩ = some (.slice A3 x3.length d3) ∧ w'.cell? ⟨gd, 2, none⟩ = some (.slice A4 x4.length d4) ∧ w'.cell? ⟨gd, 3, none⟩ = some (.int .u64 l') ∧ w'.cell? ⟨gm, 0, none⟩ = some (.int .u64 mid)) (by kernel_rfl) (by obtain ⟨p0, p1, p2, p3⟩ := cellsN bc; obtain ⟨q0, q1, q2, q3⟩ := cellsN bd; exact ⟨p0, p1, p2, p3, q0, q1, q2, q3, bm.cell 0⟩) (fun hHeld => ?_)
  replace bc := bc.drew
  replace bd := bd.drew
  replace bm := bm.drew
  replace hb := hb.drew
  replace Na := (show NdO w3.drew _ _ _ _ _ _ from Na)
  replace Nb := (show NdO w3.drew _ _ _ _ _ _ from Nb)
  generalize w3.drew = ws0 at *
  refine' wpAnyZ_takeA (i := 0) (v := ?_) (opAt rfl) (by kernel_rfl) (by kernel_rfl) (by kernel_rfl) (by kernel_rfl) (fun _ _ _ h => h) (by assumption) (by rfl) (fun w hSw => ?_) ?_
  rotate_left
  · (try dsimp only at hSw); go_simp; (try with_reducible rfl)
  try simp only [Act.put, List.setIfInBounds_toArray, List.set_cons_zero, List.set_cons_succ]
  refine' wpAnyZ_takeA (i := 1) (v := ?_) (opAt rfl) (by kernel_rfl) (by kernel_rfl) (by kernel_rfl) (by kernel_rfl) (fun _ _ _ h => h) (by assumption) (by rfl) (fun w hSw => ?_) ?_
  rotate_left
  · (try dsimp only at hSw); go_simp; (try with_reducible rfl)
  try simp only [Act.put, List.setIfInBounds_toArray, List.set_cons_zero, List.set_cons_succ]
  refine' wpAnyZ_takeA (i := 2) (v := ?_) (opAt rfl) (by kernel_rfl) (by kernel_rfl) (by kernel_rfl) (by kernel_rfl) (fun _ _ _ h => h) (by assumption) (by rfl) (fun w hSw => ?_) ?_
  rotate_left
  · (try dsimp only at hSw); go_simp; (try with_reducible rfl)
  try simp only [Act.put, List.setIfInBounds_toArray, List.set_cons_zero, List.set_cons_succ]
  refine wpAnyZ_ready (rs := [3]) (by kernel_rfl) (by simp) ?_
  refine AllReadyZ.cons (opAt rfl) (fun K hK => ?_) ?_
  · skip
    have zo := fun i => bc.frozen i
    have mo := fun i => bc.cell i
    go_simp
    replace Na := Na.setN bc (.bool true) (.slice A1 x1.length d1) (.slice A2 x2.length d2) (.int .u64 l)
    replace Nb := Nb.setN bc (.bool true) (.slice A1 x1.length d1) (.slice A2 x2.length d2) (.int .u64 l)
    replace bd := bd.offN HBA.out (.bool true) (.slice A1 x1.length d1) (.slice A2 x2.length d2) (.int .u64 l)
    replace bm := bm.offN HKA.out (.bool true) (.slice A1 x1.length d1) (.slice A2 x2.length d2) (.int .u64 l)
    replace bc := bc.setN (.bool true) (.slice A1 x1.length d1) (.slice A2 x2.length d2) (.int .u64 l)
    replace hb := below_setN hb (g := gc) HGc.out (.bool true) (.slice A1 x1.length d1) (.slice A2 x2.length d2) (.int .u64 l)
    clear zo mo
    generalize ((((ws0).setCell ⟨gc, 0, none⟩ (.bool true)).setCell ⟨gc, 1, none⟩ (.slice A1 x1.length d1)).setCell ⟨gc, 2, none⟩ (.slice A2 x2.length d2)).setCell ⟨gc, 3, none⟩ (.int .u64 l) = ws1 at *
    refine hK.out _ _ (by obtain ⟨p0, p1, p2, p3⟩ := cellsN bc; obtain ⟨q0, q1, q2, q3⟩ := cellsN bd; exact ⟨p0, p1, p2, p3, q0, q1, q2, q3, bm.cell 0⟩) (fun hHeld => ?_)
    clear hK K
    try simp only [Act.put, List.setIfInBounds_toArray, List.set_cons_zero, List.set_cons_succ]
    refine wpAnyZ_ready (rs := [4]) (by kernel_rfl) (by simp) ?_
    refine AllReadyZ.cons (opAt rfl) (fun K hK => ?_) ?_
    · skip
      have zo := fun i => bd.frozen i
      have mo := fun i => bd.cell i
      go_simp
      replace Na := Na.setN bd (.bool true) (.slice A3 x3.length d3) (.slice A4 x4.length d4) (.int .u64 l')
      replace Nb := Nb.setN bd (.bool true) (.slice A3 x3.length d3) (.slice A4 x4.length d4) (.int .u64 l')
      replace bc := bc.offN HAB.out (.bool true) (.slice A3 x3.length d3) (.slice A4 x4.length d4) (.int .u64 l')
      replace bm := bm.offN HKB.out (.bool true) (.slice A3 x3.length d3) (.slice A4 x4.length d4) (.int .u64 l')
      replace bd := bd.setN (.bool true) (.slice A3 x3.length d3) (.slice A4 x4.length d4) (.int .u64 l')
      replace hb := below_setN hb (g := gd) HGd.out (.bool true) (.slice A3 x3.length d3) (.slice A4 x4.length d4) (.int .u64 l')
      clear zo mo
      generalize ((((ws1).setCell ⟨gd, 0, none⟩ (.bool true)).setCell ⟨gd, 1, none⟩ (.slice A3 x3.length d3)).setCell ⟨gd, 2, none⟩ (.slice A4 x4.length d4)).setCell ⟨gd, 3, none⟩ (.int .u64 l') = ws2 at *
      refine hK.out _ _ (by obtain ⟨p0, p1, p2, p3⟩ := cellsN bc; obtain ⟨q0, q1, q2, q3⟩ := cellsN bd; exact ⟨p0, p1, p2, p3, q0, q1, q2, q3, bm.cell 0⟩) (fun hHeld => ?_)
      clear hK K
      try simp only [Act.put, List.setIfInBounds_toArray, List.set_cons_zero, List.set_cons_succ]
      refine wpAnyZ_ready (rs := [5]) (by kernel_rfl) (by simp) ?_
      refine AllReadyZ.cons (opAt rfl) (fun K hK => ?_) ?_
      · skip
        have zo := fun i => bm.frozen i
        have mo := fun i => bm.cell i
        go_simp
        replace Na := Na.far (p := ⟨gm, 0, none⟩) HKL.out (.int .u64 mid)
        replace Nb := Nb.far (p := ⟨gm, 0, none⟩) HKL.out (.int .u64 mid)
        replace bc := bc.far (p := ⟨gm, 0, none⟩) HAK.out (.int .u64 mid)
        replace bd := bd.far (p := ⟨gm, 0, none⟩) HBK.out (.int .u64 mid)
        replace bm := bm.set1 (.int .u64 mid)
        replace hb := hb.setCell (p := ⟨gm, 0, none⟩) HGm.out (.int .u64 mid)
        clear zo mo
        generalize ws2.setCell ⟨gm, 0, none⟩ (.int .u64 mid) = ws3 at *
        refine hK.out _ _ (by obtain ⟨p0, p1, p2, p3⟩ := cellsN bc; obtain ⟨q0, q1, q2, q3⟩ := cellsN bd; exact ⟨p0, p1, p2, p3, q0, q1, q2, q3, bm.cell 0⟩) (fun hHeld => ?_)
        clear hK K
        try simp only [Act.put, List.setIfInBounds_toArray, List.set_cons_zero, List.set_cons_succ]
        refine wpAnyZ_done (by kernel_rfl) ?_ _
        go_wp2_with fail
        have ca := fun i => bc.cell i
        have cb := fun i => bd.cell i
        have ck := fun i => bm.cell i
        refine bodyPost_ret (v := .tuple #[.agg #[.bool true, .slice A1 x1.length d1, .slice A2 x2.length d2, .int .u64 l], .agg #[.bool true, .slice A3 x3.length d3, .slice A4 x4.length d4, .int .u64 l'], .int .u64 mid]) (by simp [results, Try.results24, go_sem, ca, cb, ck]) rfl ⟨⟨.agg #[.bool true, .slice A1 x1.length d1, .slice A2 x2.length d2, .int .u64 l], .agg #[.bool true, .slice A3 x3.length d3, .slice A4 x4.length d4, .int .u64 l'], by rw [← hmid.out], by rw [← hx1.out, ← hx2.out]; exact Na.mono HLO.out, by rw [← hx3.out, ← hx4.out]; exact Nb.mono HLO.out⟩, hb⟩
      exact AllReadyZ.nil
    exact AllReadyZ.nil
  exact AllReadyZ.nil
set_option maxRecDepth 100000 in
set_option maxHeartbeats 4000000 in
theorem fr_no (v v' : Value) (b b' : Bool) (ks vs ks' vs' : List Int) (l l' key : Int) (w : World) (hl : ks.length ≤ 900) (hl' : ks'.length ≤ 900) (h : Nd w w.heap.size v b ks vs l) (h' : Nd w w.heap.size v' b' ks' vs' l') (hno : (rightI b ks vs && rightI b' ks' vs' && rightI true (ks ++ key :: ks') (vs ++ vs')) = false ∨ ((rightI b ks vs = true ∧ rightI b' ks' vs' = true ∧ rightI true (ks ++ key :: ks') (vs ++ vs') = true) ∧ vs'.length < 2)) :
    Calls Try.prog 24 #[v, .int .u64 key, v'] w fun e w' => e = .returned (.tuple #[.agg #[.bool false, .slice none 0 0, .slice none 0 0, .int .u64 0], .agg #[.bool false, .slice none 0 0, .slice none 0 0, .int .u64 0], .int .u64 0]) ∧ Below w.heap.size w w' := by
  have hmf : ∀ (fn : Fn) (first cap : Array Value) (w : World), (Instr.makeFunc fn first cap).run Try.prog w = .ok (.func fn first cap) w := fun _ _ _ _ => rfl
  obtain ⟨A, c, A', c', rfl⟩ := ValN w b ks vs l v h
  obtain ⟨E, f, E', f', rfl⟩ := ValN w b' ks' vs' l' v' h'
  have bx := (((((Blk.new w 27 #[.bool b, .slice A ks.length c, .slice A' vs.length c', .int .u64 l]).alloc (.cells #[.int .u64 key] 22)).alloc (.cells #[.bool b', .slice E ks'.length f, .slice E' vs'.length f', .int .u64 l'] 27)).alloc (.cells #[.bool false, .slice none 0 0, .slice none 0 0, .int .u64 0] 27)).alloc (.cells #[.bool false, .slice none 0 0, .slice none 0 0, .int .u64 0] 27)).alloc (.cells #[.int .u64 0] 22)
  have bk := ((((Blk.new (w.alloc (.cells #[.bool b, .slice A ks.length c, .slice A' vs.length c', .int .u64 l] 27)) 22 #[.int .u64 key]).alloc (.cells #[.bool b', .slice E ks'.length f, .slice E' vs'.length f', .int .u64 l'] 27)).alloc (.cells #[.bool false, .slice none 0 0, .slice none 0 0, .int .u64 0] 27)).alloc (.cells #[.bool false, .slice none 0 0, .slice none 0 0, .int .u64 0] 27)).alloc (.cells #[.int .u64 0] 22)
  have by_ := (((Blk.new ((w.alloc (.cells #[.bool b, .slice A ks.length c, .slice A' vs.length c', .int .u64 l] 27)).alloc (.cells #[.int .u64 key] 22)) 27 #[.bool b', .slice E ks'.length f, .slice E' vs'.length f', .int .u64 l']).alloc (.cells #[.bool false, .slice none 0 0, .slice none 0 0, .int .u64 0] 27)).alloc (.cells #[.bool false, .slice none 0 0, .slice none 0 0, .int .u64 0] 27)).alloc (.cells #[.int .u64 0] 22)
  have bc := ((Blk.new (((w.alloc (.cells #[.bool b, .slice A ks.length c, .slice A' vs.length c', .int .u64 l] 27)).alloc (.cells #[.int .u64 key] 22)).alloc (.cells #[.bool b', .slice E ks'.length f, .slice E' vs'.length f', .int .u64 l'] 27)) 27 #[.bool false, .slice none 0 0, .slice none 0 0, .int .u64 0]).alloc (.cells #[.bool false, .slice none 0 0, .slice none 0 0, .int .u64 0] 27)).alloc (.cells #[.int .u64 0] 22)
  have bd := (Blk.new ((((w.alloc (.cells #[.bool b, .slice A ks.length c, .slice A' vs.length c', .int .u64 l] 27)).alloc (.cells #[.int .u64 key] 22)).alloc (.cells #[.bool b', .slice E ks'.length f, .slice E' vs'.length f', .int .u64 l'] 27)).alloc (.cells #[.bool false, .slice none 0 0, .slice none 0 0, .int .u64 0] 27)) 27 #[.bool false, .slice none 0 0, .slice none 0 0, .int .u64 0]).alloc (.cells #[.int .u64 0] 22)
  have bm := Blk.new (((((w.alloc (.cells #[.bool b, .slice A ks.length c, .slice A' vs.length c', .int .u64 l] 27)).alloc (.cells #[.int .u64 key] 22)).alloc (.cells #[.bool b', .slice E ks'.length f, .slice E' vs'.length f', .int .u64 l'] 27)).alloc (.cells #[.bool false, .slice none 0 0, .slice none 0 0, .int .u64 0] 27)).alloc (.cells #[.bool false, .slice none 0 0, .slice none 0 0, .int .u64 0] 27)) 22 #[.int .u64 0]
  have hb := ((((((Below.refl w.heap.size w).alloc (Nat.le_refl _) (.cells #[.bool b, .slice A ks.length c, .slice A' vs.length c', .int .u64 l] 27)).alloc (by simp only [World.size_alloc]; omega) (.cells #[.int .u64 key] 22)).alloc (by simp only [World.size_alloc]; omega) (.cells #[.bool b', .slice E ks'.length f, .slice E' vs'.length f', .int .u64 l'] 27)).alloc (by simp only [World.size_alloc]; omega) (.cells #[.bool false, .slice none 0 0, .slice none 0 0, .int .u64 0] 27)).alloc (by simp only [World.size_alloc]; omega) (.cells #[.bool false, .slice none 0 0, .slice none 0 0, .int .u64 0] 27)).alloc (by simp only [World.size_alloc]; omega) (.cells #[.int .u64 0] 22)
  simp only [World.size_alloc] at bk by_ bc bd bm
  go_enter Try.func24, Try.ntmps24
  go_wp2_with fail
  generalize ((((((w.alloc (.cells #[.bool b, .slice A ks.length c, .slice A' vs.length c', .int .u64 l] 27)).alloc (.cells #[.int .u64 key] 22)).alloc (.cells #[.bool b', .slice E ks'.length f, .slice E' vs'.length f', .int .u64 l'] 27)).alloc (.cells #[.bool false, .slice none 0 0, .slice none 0 0, .int .u64 0] 27)).alloc (.cells #[.bool false, .slice none 0 0, .slice none 0 0, .int .u64 0] 27)).alloc (.cells #[.int .u64 0] 22)) = w2 at *
  obtain ⟨gx, egx⟩ : ∃ g, g = w.heap.size := ⟨_, rfl⟩
  obtain ⟨gk, egk⟩ : ∃ g, g = w.heap.size + 1 := ⟨_, rfl⟩
  obtain ⟨gy, egy⟩ : ∃ g, g = w.heap.size + 1 + 1 := ⟨_, rfl⟩
  obtain ⟨gc, egc⟩ : ∃ g, g = w.heap.size + 1 + 1 + 1 := ⟨_, rfl⟩
  obtain ⟨gd, egd⟩ : ∃ g, g = w.heap.size + 1 + 1 + 1 + 1 := ⟨_, rfl⟩
  obtain ⟨gm, egm⟩ : ∃ g, g = w.heap.size + 1 + 1 + 1 + 1 + 1 := ⟨_, rfl⟩
  rw [← egm] at bm
  rw [← egd] at bd
  rw [← egc] at bc
  rw [← egy] at by_
  rw [← egk] at bk
  rw [← egx] at bx
  rw [← egm, ← egd, ← egc, ← egy, ← egk, ← egx]
  have HAB := hide (show gc ≠ gd by omega)
  have HBA := hide (show gd ≠ gc by omega)
  have HAK := hide (show gc ≠ gm by omega)
  have HKA := hide (show gm ≠ gc by omega)
  have HBK := hide (show gd ≠ gm by omega)
  have HKB := hide (show gm ≠ gd by omega)
  have HGc := hide (show w.heap.size ≤ gc by omega)
  have HGd := hide (show w.heap.size ≤ gd by omega)
  have HGm := hide (show w.heap.size ≤ gm by omega)
  have T1 := hide (tried_wrong 41 #[.pointer (some ⟨gx, 0, none⟩), .pointer (some ⟨gk, 0, none⟩), .pointer (some ⟨gy, 0, none⟩), .pointer (some ⟨gm, 0, none⟩), .pointer (some ⟨gc, 0, none⟩), .pointer (some ⟨gd, 0, none⟩)] w2 (fun _ => by rfl)
    (fun w1 hB => fr1_few b b' A A' E E' c c' f f' ks vs ks' vs' l l' key w.heap.size gx gk gy gm gc gd w1 hl hl' ((h.below hb).below (hB.mono hb.size)) ((h'.below hb).below (hB.mono hb.size)) (Nat.le_trans hb.size hB.size) (bx.below hB bx.lt) (bk.below hB bk.lt) (by_.below hB by_.lt) hno))
  clear bx bk by_ h h' hno hl hl'
  have HLO := hide hb.size
  have HKL := hide bm.lt
  obtain ⟨lo, hlo⟩ : ∃ lo, lo = w2.heap.size := ⟨_, rfl⟩
  rw [← hlo] at HLO HKL
  refine T1.out.mono ?_
  rintro e w3 ⟨rfl, hb1⟩
  replace bc := bc.below hb1 bc.lt
  replace bd := bd.below hb1 bd.lt
  replace bm := bm.below hb1 bm.lt
  replace hb := hb.trans (hb1.mono hb.size)
  have Na : NdO w3 lo (.agg #[.bool false, .slice none 0 0, .slice none 0 0, .int .u64 0]) false [] [] 0 := ⟨_, _, rfl, Own.nil _ _, Own.nil _ _⟩
  have Nb : NdO w3 lo (.agg #[.bool false, .slice none 0 0, .slice none 0 0, .int .u64 0]) false [] [] 0 := Na
  clear T1 hb1 hlo egx egk egy egc egd egm
  go_wp2_with fail
  refine wp_region_heldZ [] (fun w' => w'.cell? ⟨gc, 0, none⟩ = some (.bool false) ∧ w'.cell? ⟨gc, 1, none⟩ = some (.slice none 0 0) ∧ w'.cell? ⟨gc, 2, none⟩ = some (.slice none 0 0) ∧ w'.cell? ⟨gc, 3, none⟩ = some (.int .u64 0) ∧ w'.cell? ⟨gd, 0, none⟩ = some (.bool false) ∧ w'.cell? ⟨gd, 1, none⟩ = some (.slice none 0 0) ∧ w'.cell? ⟨gd, 2, none⟩ = some (.slice none 0 0) ∧ w'.cell? ⟨gd, 3, none⟩ = some (.int .u64 0) ∧ w'.cell? ⟨gm, 0, none⟩ = some (.int .u64 0)) (by kernel_rfl) (by obtain ⟨p0, p1, p2, p3⟩ := cellsN bc; obtain ⟨q0, q1, q2, q3⟩ := cellsN bd; exact ⟨p0, p1, p2, p3, q0, q1, q2, q3, bm.cell 0⟩) (fun hHeld => ?_)
  replace bc := bc.drew
  replace bd := bd.drew
  replace bm := bm.drew
  replace hb := hb.drew
  replace Na := (show NdO w3.drew _ _ _ _ _ _ from Na)
  replace Nb := (show NdO w3.drew _ _ _ _ _ _ from Nb)
  generalize w3.drew = ws0 at *
  refine' wpAnyZ_takeA (i := 0) (v := ?_) (opAt rfl) (by kernel_rfl) (by kernel_rfl) (by kernel_rfl) (by kernel_rfl) (fun _ _ _ h => h) (by assumption) (by rfl) (fun w hSw => ?_) ?_
  rotate_left
  · (try dsimp only at hSw); go_simp; (try with_reducible rfl)
  try simp only [Act.put, List.setIfInBounds_toArray, List.set_cons_zero, List.set_cons_succ]
  refine' wpAnyZ_takeA (i := 1) (v := ?_) (opAt rfl) (by kernel_rfl) (by kernel_rfl) (by kernel_rfl) (by kernel_rfl) (fun _ _ _ h => h) (by assumption) (by rfl) (fun w hSw => ?_) ?_
  rotate_left
  · (try dsimp only at hSw); go_simp; (try with_reducible rfl)
  try simp only [Act.put, List.setIfInBounds_toArray, List.set_cons_zero, List.set_cons_succ]
  refine' wpAnyZ_takeA (i := 2) (v := ?_) (opAt rfl) (by kernel_rfl) (by kernel_rfl) (by kernel_rfl) (by kernel_rfl) (fun _ _ _ h => h) (by assumption) (by rfl) (fun w hSw => ?_) ?_
  rotate_left
  · (try dsimp only at hSw); go_simp; (try with_reducible rfl)
  try simp only [Act.put, List.setIfInBounds_toArray, List.set_cons_zero, List.set_cons_succ]
  refine wpAnyZ_ready (rs := [3]) (by kernel_rfl) (by simp) ?_
  refine AllReadyZ.cons (opAt rfl) (fun K hK => ?_) ?_
  · skip
    have zo := fun i => bc.frozen i
    have mo := fun i => bc.cell i
    go_simp
    replace Na := Na.setN bc (.bool false) (.slice none 0 0) (.slice none 0 0) (.int .u64 0)
    replace Nb := Nb.setN bc (.bool false) (.slice none 0 0) (.slice none 0 0) (.int .u64 0)
    replace bd := bd.offN HBA.out (.bool false) (.slice none 0 0) (.slice none 0 0) (.int .u64 0)
    replace bm := bm.offN HKA.out (.bool false) (.slice none 0 0) (.slice none 0 0) (.int .u64 0)
    replace bc := bc.setN (.bool false) (.slice none 0 0) (.slice none 0 0) (.int .u64 0)
    replace hb := below_setN hb (g := gc) HGc.out (.bool false) (.slice none 0 0) (.slice none 0 0) (.int .u64 0)
    clear zo mo
    generalize ((((ws0).setCell ⟨gc, 0, none⟩ (.bool false)).setCell ⟨gc, 1, none⟩ (.slice none 0 0)).setCell ⟨gc, 2, none⟩ (.slice none 0 0)).setCell ⟨gc, 3, none⟩ (.int .u64 0) = ws1 at *
    refine hK.out _ _ (by obtain ⟨p0, p1, p2, p3⟩ := cellsN bc; obtain ⟨q0, q1, q2, q3⟩ := cellsN bd; exact ⟨p0, p1, p2, p3, q0, q1, q2, q3, bm.cell 0⟩) (fun hHeld => ?_)
    clear hK K
    try simp only [Act.put, List.setIfInBounds_toArray, List.set_cons_zero, List.set_cons_succ]
    refine wpAnyZ_ready (rs := [4]) (by kernel_rfl) (by simp) ?_
    refine AllReadyZ.cons (opAt rfl) (fun K hK => ?_) ?_
    · skip
      have zo := fun i => bd.frozen i
      have mo := fun i => bd.cell i
      go_simp
      replace Na := Na.setN bd (.bool false) (.slice none 0 0) (.slice none 0 0) (.int .u64 0)
      replace Nb := Nb.setN bd (.bool false) (.slice none 0 0) (.slice none 0 0) (.int .u64 0)
      replace bc := bc.offN HAB.out (.bool false) (.slice none 0 0) (.slice none 0 0) (.int .u64 0)
      replace bm := bm.offN HKB.out (.bool false) (.slice none 0 0) (.slice none 0 0) (.int .u64 0)
      replace bd := bd.setN (.bool false) (.slice none 0 0) (.slice none 0 0) (.int .u64 0)
      replace hb := below_setN hb (g := gd) HGd.out (.bool false) (.slice none 0 0) (.slice none 0 0) (.int .u64 0)
      clear zo mo
      generalize ((((ws1).setCell ⟨gd, 0, none⟩ (.bool false)).setCell ⟨gd, 1, none⟩ (.slice none 0 0)).setCell ⟨gd, 2, none⟩ (.slice none 0 0)).setCell ⟨gd, 3, none⟩ (.int .u64 0) = ws2 at *
      refine hK.out _ _ (by obtain ⟨p0, p1, p2, p3⟩ := cellsN bc; obtain ⟨q0, q1, q2, q3⟩ := cellsN bd; exact ⟨p0, p1, p2, p3, q0, q1, q2, q3, bm.cell 0⟩) (fun hHeld => ?_)
      clear hK K
      try simp only [Act.put, List.setIfInBounds_toArray, List.set_cons_zero, List.set_cons_succ]
      refine wpAnyZ_ready (rs := [5]) (by kernel_rfl) (by simp) ?_
      refine AllReadyZ.cons (opAt rfl) (fun K hK => ?_) ?_
      · skip
        have zo := fun i => bm.frozen i
        have mo := fun i => bm.cell i
        go_simp
        replace Na := Na.far (p := ⟨gm, 0, none⟩) HKL.out (.int .u64 0)
        replace Nb := Nb.far (p := ⟨gm, 0, none⟩) HKL.out (.int .u64 0)
        replace bc := bc.far (p := ⟨gm, 0, none⟩) HAK.out (.int .u64 0)
        replace bd := bd.far (p := ⟨gm, 0, none⟩) HBK.out (.int .u64 0)
        replace bm := bm.set1 (.int .u64 0)
        replace hb := hb.setCell (p := ⟨gm, 0, none⟩) HGm.out (.int .u64 0)
        clear zo mo
        generalize ws2.setCell ⟨gm, 0, none⟩ (.int .u64 0) = ws3 at *
        refine hK.out _ _ (by obtain ⟨p0, p1, p2, p3⟩ := cellsN bc; obtain ⟨q0, q1, q2, q3⟩ := cellsN bd; exact ⟨p0, p1, p2, p3, q0, q1, q2, q3, bm.cell 0⟩) (fun hHeld => ?_)
        clear hK K
        try simp only [Act.put, List.setIfInBounds_toArray, List.set_cons_zero, List.set_cons_succ]
        refine wpAnyZ_done (by kernel_rfl) ?_ _
        clear Na Nb
        go_wp2_with fail
        have ca := fun i => bc.cell i
        have cb := fun i => bd.cell i
        have ck := fun i => bm.cell i
        refine bodyPost_ret (v := .tuple #[.agg #[.bool false, .slice none 0 0, .slice none 0 0, .int .u64 0], .agg #[.bool false, .slice none 0 0, .slice none 0 0, .int .u64 0], .int .u64 0]) (by simp [results, Try.results24, go_sem, ca, cb, ck]) rfl ⟨rfl, hb⟩
      exact AllReadyZ.nil
    exact AllReadyZ.nil
  exact AllReadyZ.nil
set_option maxRecDepth 100000 in
set_option maxHeartbeats 4000000 in
theorem fl_yes (v v' : Value) (b b' : Bool) (ks vs ks' vs' : List Int) (l l' key : Int) (w : World) (hl : ks.length ≤ 900) (hl' : ks'.length ≤ 900) (h : Nd w w.heap.size v b ks vs l) (h' : Nd w w.heap.size v' b' ks' vs' l') (h1 : rightI b ks vs = true) (h2 : rightI b' ks' vs' = true) (h3 : rightI true (ks ++ key :: ks') (vs ++ vs') = true) (q p : Nat) (hq : ks.length = q + 1) (hp : p = ks.length + 1) :
    Calls Try.prog 25 #[v, .int .u64 key, v'] w fun e w' => (∃ va vb, e = .returned (.tuple #[va, vb, .int .u64 (ks.getD q 0)]) ∧ NdO w' w.heap.size va true (ks.take q ++ ks.drop ks.length) (vs.take ks.length ++ vs.drop p) l ∧ NdO w' w.heap.size vb true (ks'.take 0 ++ [key] ++ ks'.drop 0) (vs'.take 0 ++ [vs.getD ks.length 0] ++ vs'.drop 0) l') ∧ Below w.heap.size w w' := by
  have hmf : ∀ (fn : Fn) (first cap : Array Value) (w : World), (Instr.makeFunc fn first cap).run Try.prog w = .ok (.func fn first cap) w := fun _ _ _ _ => rfl
  obtain ⟨A, c, A', c', rfl⟩ := ValN w b ks vs l v h
  obtain ⟨E, f, E', f', rfl⟩ := ValN w b' ks' vs' l' v' h'
  replace hq := hide hq
  replace hp := hide hp
  have bx := (((((Blk.new w 27 #[.bool b, .slice A ks.length c, .slice A' vs.length c', .int .u64 l]).alloc (.cells #[.int .u64 key] 22)).alloc (.cells #[.bool b', .slice E ks'.length f, .slice E' vs'.length f', .int .u64 l'] 27)).alloc (.cells #[.bool false, .slice none 0 0, .slice none 0 0, .int .u64 0] 27)).alloc (.cells #[.bool false, .slice none 0 0, .slice none 0 0, .int .u64 0] 27)).alloc (.cells #[.int .u64 0] 22)
  have bk := ((((Blk.new (w.alloc (.cells #[.bool b, .slice A ks.length c, .slice A' vs.length c', .int .u64 l] 27)) 22 #[.int .u64 key]).alloc (.cells #[.bool b', .slice E ks'.length f, .slice E' vs'.length f', .int .u64 l'] 27)).alloc (.cells #[.bool false, .slice none 0 0, .slice none 0 0, .int .u64 0] 27)).alloc (.cells #[.bool false, .slice none 0 0, .slice none 0 0, .int .u64 0] 27)).alloc (.cells #[.int .u64 0] 22)
  have by_ := (((Blk.new ((w.alloc (.cells #[.bool b, .slice A ks.length c, .slice A' vs.length c', .int .u64 l] 27)).alloc (.cells #[.int .u64 key] 22)) 27 #[.bool b', .slice E ks'.length f, .slice E' vs'.length f', .int .u64 l']).alloc (.cells #[.bool false, .slice none 0 0, .slice none 0 0, .int .u64 0] 27)).alloc (.cells #[.bool false, .slice none 0 0, .slice none 0 0, .int .u64 0] 27)).alloc (.cells #[.int .u64 0] 22)
  have bc := ((Blk.new (((w.alloc (.cells #[.bool b, .slice A ks.length c, .slice A' vs.length c', .int .u64 l] 27)).alloc (.cells #[.int .u64 key] 22)).alloc (.cells #[.bool b', .slice E ks'.length f, .slice E' vs'.length f', .int .u64 l'] 27)) 27 #[.bool false, .slice none 0 0, .slice none 0 0, .int .u64 0]).alloc (.cells #[.bool false, .slice none 0 0, .slice none 0 0, .int .u64 0] 27)).alloc (.cells #[.int .u64 0] 22)
  have bd := (Blk.new ((((w.alloc (.cells #[.bool b, .slice A ks.length c, .slice A' vs.length c', .int .u64 l] 27)).alloc (.cells #[.int .u64 key] 22)).alloc (.cells #[.bool b', .slice E ks'.length f, .slice E' vs'.length f', .int .u64 l'] 27)).alloc (.cells #[.bool false, .slice none 0 0, .slice none 0 0, .int .u64 0] 27)) 27 #[.bool false, .slice none 0 0, .slice none 0 0, .int .u64 0]).alloc (.cells #[.int .u64 0] 22)
  have bm := Blk.new (((((w.alloc (.cells #[.bool b, .slice A ks.length c, .slice A' vs.length c', .int .u64 l] 27)).alloc (.cells #[.int .u64 key] 22)).alloc (.cells #[.bool b', .slice E ks'.length f, .slice E' vs'.length f', .int .u64 l'] 27)).alloc (.cells #[.bool false, .slice none 0 0, .slice none 0 0, .int .u64 0] 27)).alloc (.cells #[.bool false, .slice none 0 0, .slice none 0 0, .int .u64 0] 27)) 22 #[.int .u64 0]
  have hb := ((((((Below.refl w.heap.size w).alloc (Nat.le_refl _) (.cells #[.bool b, .slice A ks.length c, .slice A' vs.length c', .int .u64 l] 27)).alloc (by simp only [World.size_alloc]; omega) (.cells #[.int .u64 key] 22)).alloc (by simp only [World.size_alloc]; omega) (.cells #[.bool b', .slice E ks'.length f, .slice E' vs'.length f', .int .u64 l'] 27)).alloc (by simp only [World.size_alloc]; omega) (.cells #[.bool false, .slice none 0 0, .slice none 0 0, .int .u64 0] 27)).alloc (by simp only [World.size_alloc]; omega) (.cells #[.bool false, .slice none 0 0, .slice none 0 0, .int .u64 0] 27)).alloc (by simp only [World.size_alloc]; omega) (.cells #[.int .u64 0] 22)
  simp only [World.size_alloc] at bk by_ bc bd bm
  go_enter Try.func25, Try.ntmps25
  go_wp2_with fail
  generalize ((((((w.alloc (.cells #[.bool b, .slice A ks.length c, .slice A' vs.length c', .int .u64 l] 27)).alloc (.cells #[.int .u64 key] 22)).alloc (.cells #[.bool b', .slice E ks'.length f, .slice E' vs'.length f', .int .u64 l'] 27)).alloc (.cells #[.bool false, .slice none 0 0, .slice none 0 0, .int .u64 0] 27)).alloc (.cells #[.bool false, .slice none 0 0, .slice none 0 0, .int .u64 0] 27)).alloc (.cells #[.int .u64 0] 22)) = w2 at *
  obtain ⟨gx, egx⟩ : ∃ g, g = w.heap.size := ⟨_, rfl⟩
  obtain ⟨gk, egk⟩ : ∃ g, g = w.heap.size + 1 := ⟨_, rfl⟩
  obtain ⟨gy, egy⟩ : ∃ g, g = w.heap.size + 1 + 1 := ⟨_, rfl⟩
  obtain ⟨gc, egc⟩ : ∃ g, g = w.heap.size + 1 + 1 + 1 := ⟨_, rfl⟩
  obtain ⟨gd, egd⟩ : ∃ g, g = w.heap.size + 1 + 1 + 1 + 1 := ⟨_, rfl⟩
  obtain ⟨gm, egm⟩ : ∃ g, g = w.heap.size + 1 + 1 + 1 + 1 + 1 := ⟨_, rfl⟩
  rw [← egm] at bm
  rw [← egd] at bd
  rw [← egc] at bc
  rw [← egy] at by_
  rw [← egk] at bk
  rw [← egx] at bx
  rw [← egm, ← egd, ← egc, ← egy, ← egk, ← egx]
  have HAB := hide (show gc ≠ gd by omega)
  have HBA := hide (show gd ≠ gc by omega)
  have HAK := hide (show gc ≠ gm by omega)
  have HKA := hide (show gm ≠ gc by omega)
  have HBK := hide (show gd ≠ gm by omega)
  have HKB := hide (show gm ≠ gd by omega)
  have HGc := hide (show w.heap.size ≤ gc by omega)
  have HGd := hide (show w.heap.size ≤ gd by omega)
  have HGm := hide (show w.heap.size ≤ gm by omega)
  have T1 := hide (tried_part 42 #[.pointer (some ⟨gx, 0, none⟩), .pointer (some ⟨gk, 0, none⟩), .pointer (some ⟨gy, 0, none⟩), .pointer (some ⟨gm, 0, none⟩), .pointer (some ⟨gc, 0, none⟩), .pointer (some ⟨gd, 0, none⟩)] [gm, gc, gd] (TwoOut gc gd gm w2.heap.size (ks.getD q 0) (ks.take q ++ ks.drop ks.length) (vs.take ks.length ++ vs.drop p) l (ks'.take 0 ++ [key] ++ ks'.drop 0) (vs'.take 0 ++ [vs.getD ks.length 0] ++ vs'.drop 0) l') w2 (fun _ => by rfl)
    (by intro o ho; simp at ho; rcases ho with rfl | rfl | rfl <;> first | exact bc.lt | exact bd.lt | exact bm.lt) (fun w' b hb hs => hs.set_ hb)
    (fun w1 hB _ => (fl1_yes b b' A A' E E' c c' f f' ks vs ks' vs' l l' key _ _ _ _ q p w.heap.size gx gk gy gm gc gd w1 hl hl' ((h.below hb).below (hB.mono hb.size)) ((h'.below hb).below (hB.mono hb.size)) (Nat.le_trans hb.size hB.size) (bx.below hB bx.lt) (bk.below hB bk.lt) (by_.below hB by_.lt) (bm.below hB bm.lt) (bc.below hB bc.lt) (bd.below hB bd.lt) HGm.out HGc.out HGd.out (by omega) (by omega) (by omega) (by omega) HAB.out (by omega) h1 h2 h3 hq.out hp.out rfl rfl rfl rfl).mono (fun e w' hh => ⟨hh.1, hh.2.1, hh.2.2.mono hB.size⟩)))
  have HLO := hide hb.size
  have HKL := hide bm.lt
  clear bx bk by_ h h' h1 h2 h3 hq hp hl hl'
  obtain ⟨x1, hx1⟩ : ∃ x, x = ks.take q ++ ks.drop ks.length := ⟨_, rfl⟩
  obtain ⟨x2, hx2⟩ : ∃ x, x = vs.take ks.length ++ vs.drop p := ⟨_, rfl⟩
  obtain ⟨x3, hx3⟩ : ∃ x, x = ks'.take 0 ++ [key] ++ ks'.drop 0 := ⟨_, rfl⟩
  obtain ⟨x4, hx4⟩ : ∃ x, x = vs'.take 0 ++ [vs.getD ks.length 0] ++ vs'.drop 0 := ⟨_, rfl⟩
  obtain ⟨mid, hmid⟩ : ∃ x, x = (ks.getD q 0) := ⟨_, rfl⟩
  rw [← hx1, ← hx2, ← hx3, ← hx4, ← hmid] at T1
  replace hx1 := hide hx1
  replace hx2 := hide hx2
  replace hx3 := hide hx3
  replace hx4 := hide hx4
  replace hmid := hide hmid
  obtain ⟨lo, hlo⟩ : ∃ lo, lo = w2.heap.size := ⟨_, rfl⟩
  rw [← hlo] at T1 HLO HKL
  refine T1.out.mono ?_
  rintro e w3 ⟨rfl, hp, k1, u1, k2, u2, bc3, bd3, bm3, Na, Nb⟩
  have hb3 := Part.below_trans hb hp (by intro o ho; simp at ho; rcases ho with rfl | rfl | rfl <;> first | exact HGc.out | exact HGd.out | exact HGm.out) (by omega)
  obtain ⟨A1, d1, A2, d2, e1⟩ := Na.val
  obtain ⟨A3, d3, A4, d4, e2⟩ := Nb.val
  simp only [Value.agg.injEq, Array.mk.injEq, List.cons.injEq, and_true, true_and] at e1 e2
  obtain ⟨rfl, rfl⟩ := e1
  obtain ⟨rfl, rfl⟩ := e2
  clear T1 hp bm bc bd hb hlo egx egk egy egc egd egm
  replace bc := bc3
  replace bd := bd3
  replace bm := bm3
  replace hb := hb3
  clear bc3 bd3 bm3 hb3
  go_wp2_with fail
  refine wp_region_heldZ [] (fun w' => w'.cell? ⟨gc, 0, none⟩ = some (.bool true) ∧ w'.cell? ⟨gc, 1, none⟩ = some (.slice A1 x1.length d1) ∧ w'.cell? ⟨gc, 2, none⟩ = some (.slice A2 x2.length d2) ∧ w'.cell? ⟨gc, 3, none⟩ = some (.int .u64 l) ∧ w'.cell? ⟨gd, 0, none⟩ = some (.bool true) ∧ w'.cell? ⟨gd, 1, none⟩ = some (.slice A3 x3.length d3) ∧ w'.cell? ⟨gd, 2, none⟩ = some (.slice A4 x4.length d4) ∧ w'.cell? ⟨gd, 3, none⟩ = some (.int .u64 l') ∧ w'.cell? ⟨gm, 0, none⟩ = some (.int .u64 mid)) (by kernel_rfl) (by obtain ⟨p0, p1, p2, p3⟩ := cellsN bc; obtain ⟨q0, q1, q2, q3⟩ := cellsN bd; exact ⟨p0, p1, p2, p3, q0, q1, q2, q3, bm.cell 0⟩) (fun hHeld => ?_)
  replace bc := bc.drew
  replace bd := bd.drew
  replace bm := bm.drew
  replace hb := hb.drew
  replace Na := (show NdO w3.drew _ _ _ _ _ _ from Na)
  replace Nb := (show NdO w3.drew _ _ _ _ _ _ from Nb)
  generalize w3.drew = ws0 at *
  refine' wpAnyZ_takeA (i := 0) (v := ?_) (opAt rfl) (by kernel_rfl) (by kernel_rfl) (by kernel_rfl) (by kernel_rfl) (fun _ _ _ h => h) (by assumption) (by rfl) (fun w hSw => ?_) ?_
  rotate_left
  · (try dsimp only at hSw); go_simp; (try with_reducible rfl)
  try simp only [Act.put, List.setIfInBounds_toArray, List.set_cons_zero, List.set_cons_succ]
  refine' wpAnyZ_takeA (i := 1) (v := ?_) (opAt rfl) (by kernel_rfl) (by kernel_rfl) (by kernel_rfl) (by kernel_rfl) (fun _ _ _ h => h) (by assumption) (by rfl) (fun w hSw => ?_) ?_
  rotate_left
  · (try dsimp only at hSw); go_simp; (try with_reducible rfl)
  try simp only [Act.put, List.setIfInBounds_toArray, List.set_cons_zero, List.set_cons_succ]
  refine' wpAnyZ_takeA (i := 2) (v := ?_) (opAt rfl) (by kernel_rfl) (by kernel_rfl) (by kernel_rfl) (by kernel_rfl) (fun _ _ _ h => h) (by assumption) (by rfl) (fun w hSw => ?_) ?_
  rotate_left
  · (try dsimp only at hSw); go_simp; (try with_reducible rfl)
  try simp only [Act.put, List.setIfInBounds_toArray, List.set_cons_zero, List.set_cons_succ]
  refine wpAnyZ_ready (rs := [3]) (by kernel_rfl) (by simp) ?_
  refine AllReadyZ.cons (opAt rfl) (fun K hK => ?_) ?_
  · skip
    have zo := fun i => bc.frozen i
    have mo := fun i => bc.cell i
    go_simp
    replace Na := Na.setN bc (.bool true) (.slice A1 x1.length d1) (.slice A2 x2.length d2) (.int .u64 l)
    replace Nb := Nb.setN bc (.bool true) (.slice A1 x1.length d1) (.slice A2 x2.length d2) (.int .u64 l)
    replace bd := bd.offN HBA.out (.bool true) (.slice A1 x1.length d1) (.slice A2 x2.length d2) (.int .u64 l)
    replace bm := bm.offN HKA.out (.bool true) (.slice A1 x1.length d1) (.slice A2 x2.length d2) (.int .u64 l)
    replace bc := bc.setN (.bool true) (.slice A1 x1.length d1) (.slice A2 x2.length d2) (.int .u64 l)
    replace hb := below_setN hb (g := gc) HGc.out (.bool true) (.slice A1 x1.length d1) (.slice A2 x2.length d2) (.int .u64 l)
    clear zo mo
    generalize ((((ws0).setCell ⟨gc, 0, none⟩ (.bool true)).setCell ⟨gc, 1, none⟩ (.slice A1 x1.length d1)).setCell ⟨gc, 2, none⟩ (.slice A2 x2.length d2)).setCell ⟨gc, 3, none⟩ (.int .u64 l) = ws1 at *
    refine hK.out _ _ (by obtain ⟨p0, p1, p2, p3⟩ := cellsN bc; obtain ⟨q0, q1, q2, q3⟩ := cellsN bd; exact ⟨p0, p1, p2, p3, q0, q1, q2, q3, bm.cell 0⟩) (fun hHeld => ?_)
    clear hK K
    try simp only [Act.put, List.setIfInBounds_toArray, List.set_cons_zero, List.set_cons_succ]
    refine wpAnyZ_ready (rs := [4]) (by kernel_rfl) (by simp) ?_
    refine AllReadyZ.cons (opAt rfl) (fun K hK => ?_) ?_
    · skip
      have zo := fun i => bd.frozen i
      have mo := fun i => bd.cell i
      go_simp
      replace Na := Na.setN bd (.bool true) (.slice A3 x3.length d3) (.slice A4 x4.length d4) (.int .u64 l')
      replace Nb := Nb.setN bd (.bool true) (.slice A3 x3.length d3) (.slice A4 x4.length d4) (.int .u64 l')
      replace bc := bc.offN HAB.out (.bool true) (.slice A3 x3.length d3) (.slice A4 x4.length d4) (.int .u64 l')
      replace bm := bm.offN HKB.out (.bool true) (.slice A3 x3.length d3) (.slice A4 x4.length d4) (.int .u64 l')
      replace bd := bd.setN (.bool true) (.slice A3 x3.length d3) (.slice A4 x4.length d4) (.int .u64 l')
      replace hb := below_setN hb (g := gd) HGd.out (.bool true) (.slice A3 x3.length d3) (.slice A4 x4.length d4) (.int .u64 l')
      clear zo mo
      generalize ((((ws1).setCell ⟨gd, 0, none⟩ (.bool true)).setCell ⟨gd, 1, none⟩ (.slice A3 x3.length d3)).setCell ⟨gd, 2, none⟩ (.slice A4 x4.length d4)).setCell ⟨gd, 3, none⟩ (.int .u64 l') = ws2 at *
      refine hK.out _ _ (by obtain ⟨p0, p1, p2, p3⟩ := cellsN bc; obtain ⟨q0, q1, q2, q3⟩ := cellsN bd; exact ⟨p0, p1, p2, p3, q0, q1, q2, q3, bm.cell 0⟩) (fun hHeld => ?_)
      clear hK K
      try simp only [Act.put, List.setIfInBounds_toArray, List.set_cons_zero, List.set_cons_succ]
      refine wpAnyZ_ready (rs := [5]) (by kernel_rfl) (by simp) ?_
      refine AllReadyZ.cons (opAt rfl) (fun K hK => ?_) ?_
      · skip
        have zo := fun i => bm.frozen i
        have mo := fun i => bm.cell i
        go_simp
        replace Na := Na.far (p := ⟨gm, 0, none⟩) HKL.out (.int .u64 mid)
        replace Nb := Nb.far (p := ⟨gm, 0, none⟩) HKL.out (.int .u64 mid)
        replace bc := bc.far (p := ⟨gm, 0, none⟩) HAK.out (.int .u64 mid)
        replace bd := bd.far (p := ⟨gm, 0, none⟩) HBK.out (.int .u64 mid)
        replace bm := bm.set1 (.int .u64 mid)
        replace hb := hb.setCell (p := ⟨gm, 0, none⟩) HGm.out (.int .u64 mid)
        clear zo mo
        generalize ws2.setCell ⟨gm, 0, none⟩ (.int .u64 mid) = ws3 at *
        refine hK.out _ _ (by obtain ⟨p0, p1, p2, p3⟩ := cellsN bc; obtain ⟨q0, q1, q2, q3⟩ := cellsN bd; exact ⟨p0, p1, p2, p3, q0, q1, q2, q3, bm.cell 0⟩) (fun hHeld => ?_)
        clear hK K
        try simp only [Act.put, List.setIfInBounds_toArray, List.set_cons_zero, List.set_cons_succ]
        refine wpAnyZ_done (by kernel_rfl) ?_ _
        go_wp2_with fail
        have ca := fun i => bc.cell i
        have cb := fun i => bd.cell i
        have ck := fun i => bm.cell i
        refine bodyPost_ret (v := .tuple #[.agg #[.bool true, .slice A1 x1.length d1, .slice A2 x2.length d2, .int .u64 l], .agg #[.bool true, .slice A3 x3.length d3, .slice A4 x4.length d4, .int .u64 l'], .int .u64 mid]) (by simp [results, Try.results25, go_sem, ca, cb, ck]) rfl ⟨⟨.agg #[.bool true, .slice A1 x1.length d1, .slice A2 x2.length d2, .int .u64 l], .agg #[.bool true, .slice A3 x3.length d3, .slice A4 x4.length d4, .int .u64 l'], by rw [← hmid.out], by rw [← hx1.out, ← hx2.out]; exact Na.mono HLO.out, by rw [← hx3.out, ← hx4.out]; exact Nb.mono HLO.out⟩, hb⟩
      exact AllReadyZ.nil
    exact AllReadyZ.nil
  exact AllReadyZ.nil
set_option maxRecDepth 100000 in
set_option maxHeartbeats 4000000 in
theorem fl_no (v v' : Value) (b b' : Bool) (ks vs ks' vs' : List Int) (l l' key : Int) (w : World) (hl : ks.length ≤ 900) (hl' : ks'.length ≤ 900) (h : Nd w w.heap.size v b ks vs l) (h' : Nd w w.heap.size v' b' ks' vs' l') (hno : (rightI b ks vs && rightI b' ks' vs' && rightI true (ks ++ key :: ks') (vs ++ vs')) = false ∨ ((rightI b ks vs = true ∧ rightI b' ks' vs' = true ∧ rightI true (ks ++ key :: ks') (vs ++ vs') = true) ∧ ks.length < 1)) :
    Calls Try.prog 25 #[v, .int .u64 key, v'] w fun e w' => e = .returned (.tuple #[.agg #[.bool false, .slice none 0 0, .slice none 0 0, .int .u64 0], .agg #[.bool false, .slice none 0 0, .slice none 0 0, .int .u64 0], .int .u64 0]) ∧ Below w.heap.size w w' := by
  have hmf : ∀ (fn : Fn) (first cap : Array Value) (w : World), (Instr.makeFunc fn first cap).run Try.prog w = .ok (.func fn first cap) w := fun _ _ _ _ => rfl
  obtain ⟨A, c, A', c', rfl⟩ := ValN w b ks vs l v h
  obtain ⟨E, f, E', f', rfl⟩ := ValN w b' ks' vs' l' v' h'
  have bx := (((((Blk.new w 27 #[.bool b, .slice A ks.length c, .slice A' vs.length c', .int .u64 l]).alloc (.cells #[.int .u64 key] 22)).alloc (.cells #[.bool b', .slice E ks'.length f, .slice E' vs'.length f', .int .u64 l'] 27)).alloc (.cells #[.bool false, .slice none 0 0, .slice none 0 0, .int .u64 0] 27)).alloc (.cells #[.bool false, .slice none 0 0, .slice none 0 0, .int .u64 0] 27)).alloc (.cells #[.int .u64 0] 22)
  have bk := ((((Blk.new (w.alloc (.cells #[.bool b, .slice A ks.length c, .slice A' vs.length c', .int .u64 l] 27)) 22 #[.int .u64 key]).alloc (.cells #[.bool b', .slice E ks'.length f, .slice E' vs'.length f', .int .u64 l'] 27)).alloc (.cells #[.bool false, .slice none 0 0, .slice none 0 0, .int .u64 0] 27)).alloc (.cells #[.bool false, .slice none 0 0, .slice none 0 0, .int .u64 0] 27)).alloc (.cells #[.int .u64 0] 22)
  have by_ := (((Blk.new ((w.alloc (.cells #[.bool b, .slice A ks.length c, .slice A' vs.length c', .int .u64 l] 27)).alloc (.cells #[.int .u64 key] 22)) 27 #[.bool b', .slice E ks'.length f, .slice E' vs'.length f', .int .u64 l']).alloc (.cells #[.bool false, .slice none 0 0, .slice none 0 0, .int .u64 0] 27)).alloc (.cells #[.bool false, .slice none 0 0, .slice none 0 0, .int .u64 0] 27)).alloc (.cells #[.int .u64 0] 22)
  have bc := ((Blk.new (((w.alloc (.cells #[.bool b, .slice A ks.length c, .slice A' vs.length c', .int .u64 l] 27)).alloc (.cells #[.int .u64 key] 22)).alloc (.cells #[.bool b', .slice E ks'.length f, .slice E' vs'.length f', .int .u64 l'] 27)) 27 #[.bool false, .slice none 0 0, .slice none 0 0, .int .u64 0]).alloc (.cells #[.bool false, .slice none 0 0, .slice none 0 0, .int .u64 0] 27)).alloc (.cells #[.int .u64 0] 22)
  have bd := (Blk.new ((((w.alloc (.cells #[.bool b, .slice A ks.length c, .slice A' vs.length c', .int .u64 l] 27)).alloc (.cells #[.int .u64 key] 22)).alloc (.cells #[.bool b', .slice E ks'.length f, .slice E' vs'.length f', .int .u64 l'] 27)).alloc (.cells #[.bool false, .slice none 0 0, .slice none 0 0, .int .u64 0] 27)) 27 #[.bool false, .slice none 0 0, .slice none 0 0, .int .u64 0]).alloc (.cells #[.int .u64 0] 22)
  have bm := Blk.new (((((w.alloc (.cells #[.bool b, .slice A ks.length c, .slice A' vs.length c', .int .u64 l] 27)).alloc (.cells #[.int .u64 key] 22)).alloc (.cells #[.bool b', .slice E ks'.length f, .slice E' vs'.length f', .int .u64 l'] 27)).alloc (.cells #[.bool false, .slice none 0 0, .slice none 0 0, .int .u64 0] 27)).alloc (.cells #[.bool false, .slice none 0 0, .slice none 0 0, .int .u64 0] 27)) 22 #[.int .u64 0]
  have hb := ((((((Below.refl w.heap.size w).alloc (Nat.le_refl _) (.cells #[.bool b, .slice A ks.length c, .slice A' vs.length c', .int .u64 l] 27)).alloc (by simp only [World.size_alloc]; omega) (.cells #[.int .u64 key] 22)).alloc (by simp only [World.size_alloc]; omega) (.cells #[.bool b', .slice E ks'.length f, .slice E' vs'.length f', .int .u64 l'] 27)).alloc (by simp only [World.size_alloc]; omega) (.cells #[.bool false, .slice none 0 0, .slice none 0 0, .int .u64 0] 27)).alloc (by simp only [World.size_alloc]; omega) (.cells #[.bool false, .slice none 0 0, .slice none 0 0, .int .u64 0] 27)).alloc (by simp only [World.size_alloc]; omega) (.cells #[.int .u64 0] 22)
  simp only [World.size_alloc] at bk by_ bc bd bm
  go_enter Try.func25, Try.ntmps25
  go_wp2_with fail
  generalize ((((((w.alloc (.cells #[.bool b, .slice A ks.length c, .slice A' vs.length c', .int .u64 l] 27)).alloc (.cells #[.int .u64 key] 22)).alloc (.cells #[.bool b', .slice E ks'.length f, .slice E' vs'.length f', .int .u64 l'] 27)).alloc (.cells #[.bool false, .slice none 0 0, .slice none 0 0, .int .u64 0] 27)).alloc (.cells #[.bool false, .slice none 0 0, .slice none 0 0, .int .u64 0] 27)).alloc (.cells #[.int .u64 0] 22)) = w2 at *
  obtain ⟨gx, egx⟩ : ∃ g, g = w.heap.size := ⟨_, rfl⟩
  obtain ⟨gk, egk⟩ : ∃ g, g = w.heap.size + 1 := ⟨_, rfl⟩
  obtain ⟨gy, egy⟩ : ∃ g, g = w.heap.size + 1 + 1 := ⟨_, rfl⟩
  obtain ⟨gc, egc⟩ : ∃ g, g = w.heap.size + 1 + 1 + 1 := ⟨_, rfl⟩
  obtain ⟨gd, egd⟩ : ∃ g, g = w.heap.size + 1 + 1 + 1 + 1 := ⟨_, rfl⟩
  obtain ⟨gm, egm⟩ : ∃ g, g = w.heap.size + 1 + 1 + 1 + 1 + 1 := ⟨_, rfl⟩
  rw [← egm] at bm
  rw [← egd] at bd
  rw [← egc] at bc
  rw [← egy] at by_
  rw [← egk] at bk
  rw [← egx] at bx
  rw [← egm, ← egd, ← egc, ← egy, ← egk, ← egx]
  have HAB := hide (show gc ≠ gd by omega)
  have HBA := hide (show gd ≠ gc by omega)
  have HAK := hide (show gc ≠ gm by omega)
  have HKA := hide (show gm ≠ gc by omega)
  have HBK := hide (show gd ≠ gm by omega)
  have HKB := hide (show gm ≠ gd by omega)
  have HGc := hide (show w.heap.size ≤ gc by omega)
  have HGd := hide (show w.heap.size ≤ gd by omega)
  have HGm := hide (show w.heap.size ≤ gm by omega)
  have T1 := hide (tried_wrong 42 #[.pointer (some ⟨gx, 0, none⟩), .pointer (some ⟨gk, 0, none⟩), .pointer (some ⟨gy, 0, none⟩), .pointer (some ⟨gm, 0, none⟩), .pointer (some ⟨gc, 0, none⟩), .pointer (some ⟨gd, 0, none⟩)] w2 (fun _ => by rfl)
    (fun w1 hB => fl1_few b b' A A' E E' c c' f f' ks vs ks' vs' l l' key w.heap.size gx gk gy gm gc gd w1 hl hl' ((h.below hb).below (hB.mono hb.size)) ((h'.below hb).below (hB.mono hb.size)) (Nat.le_trans hb.size hB.size) (bx.below hB bx.lt) (bk.below hB bk.lt) (by_.below hB by_.lt) hno))
  clear bx bk by_ h h' hno hl hl'
  have HLO := hide hb.size
  have HKL := hide bm.lt
  obtain ⟨lo, hlo⟩ : ∃ lo, lo = w2.heap.size := ⟨_, rfl⟩
  rw [← hlo] at HLO HKL
  refine T1.out.mono ?_
  rintro e w3 ⟨rfl, hb1⟩
  replace bc := bc.below hb1 bc.lt
  replace bd := bd.below hb1 bd.lt
  replace bm := bm.below hb1 bm.lt
  replace hb := hb.trans (hb1.mono hb.size)
  have Na : NdO w3 lo (.agg #[.bool false, .slice none 0 0, .slice none 0 0, .int .u64 0]) false [] [] 0 := ⟨_, _, rfl, Own.nil _ _, Own.nil _ _⟩
  have Nb : NdO w3 lo (.agg #[.bool false, .slice none 0 0, .slice none 0 0, .int .u64 0]) false [] [] 0 := Na
  clear T1 hb1 hlo egx egk egy egc egd egm
  go_wp2_with fail
  refine wp_region_heldZ [] (fun w' => w'.cell? ⟨gc, 0, none⟩ = some (.bool false) ∧ w'.cell? ⟨gc, 1, none⟩ = some (.slice none 0 0) ∧ w'.cell? ⟨gc, 2, none⟩ = some (.slice none 0 0) ∧ w'.cell? ⟨gc, 3, none⟩ = some (.int .u64 0) ∧ w'.cell? ⟨gd, 0, none⟩ = some (.bool false) ∧ w'.cell? ⟨gd, 1, none⟩ = some (.slice none 0 0) ∧ w'.cell? ⟨gd, 2, none⟩ = some (.slice none 0 0) ∧ w'.cell? ⟨gd, 3, none⟩ = some (.int .u64 0) ∧ w'.cell? ⟨gm, 0, none⟩ = some (.int .u64 0)) (by kernel_rfl) (by obtain ⟨p0, p1, p2, p3⟩ := cellsN bc; obtain ⟨q0, q1, q2, q3⟩ := cellsN bd; exact ⟨p0, p1, p2, p3, q0, q1, q2, q3, bm.cell 0⟩) (fun hHeld => ?_)
  replace bc := bc.drew
  replace bd := bd.drew
  replace bm := bm.drew
  replace hb := hb.drew
  replace Na := (show NdO w3.drew _ _ _ _ _ _ from Na)
  replace Nb := (show NdO w3.drew _ _ _ _ _ _ from Nb)
  generalize w3.drew = ws0 at *
  refine' wpAnyZ_takeA (i := 0) (v := ?_) (opAt rfl) (by kernel_rfl) (by kernel_rfl) (by kernel_rfl) (by kernel_rfl) (fun _ _ _ h => h) (by assumption) (by rfl) (fun w hSw => ?_) ?_
  rotate_left
  · (try dsimp only at hSw); go_simp; (try with_reducible rfl)
  try simp only [Act.put, List.setIfInBounds_toArray, List.set_cons_zero, List.set_cons_succ]
  refine' wpAnyZ_takeA (i := 1) (v := ?_) (opAt rfl) (by kernel_rfl) (by kernel_rfl) (by kernel_rfl) (by kernel_rfl) (fun _ _ _ h => h) (by assumption) (by rfl) (fun w hSw => ?_) ?_
  rotate_left
  · (try dsimp only at hSw); go_simp; (try with_reducible rfl)
  try simp only [Act.put, List.setIfInBounds_toArray, List.set_cons_zero, List.set_cons_succ]
  refine' wpAnyZ_takeA (i := 2) (v := ?_) (opAt rfl) (by kernel_rfl) (by kernel_rfl) (by kernel_rfl) (by kernel_rfl) (fun _ _ _ h => h) (by assumption) (by rfl) (fun w hSw => ?_) ?_
  rotate_left
  · (try dsimp only at hSw); go_simp; (try with_reducible rfl)
  try simp only [Act.put, List.setIfInBounds_toArray, List.set_cons_zero, List.set_cons_succ]
  refine wpAnyZ_ready (rs := [3]) (by kernel_rfl) (by simp) ?_
  refine AllReadyZ.cons (opAt rfl) (fun K hK => ?_) ?_
  · skip
    have zo := fun i => bc.frozen i
    have mo := fun i => bc.cell i
    go_simp
    replace Na := Na.setN bc (.bool false) (.slice none 0 0) (.slice none 0 0) (.int .u64 0)
    replace Nb := Nb.setN bc (.bool false) (.slice none 0 0) (.slice none 0 0) (.int .u64 0)
    replace bd := bd.offN HBA.out (.bool false) (.slice none 0 0) (.slice none 0 0) (.int .u64 0)
    replace bm := bm.offN HKA.out (.bool false) (.slice none 0 0) (.slice none 0 0) (.int .u64 0)
    replace bc := bc.setN (.bool false) (.slice none 0 0) (.slice none 0 0) (.int .u64 0)
    replace hb := below_setN hb (g := gc) HGc.out (.bool false) (.slice none 0 0) (.slice none 0 0) (.int .u64 0)
    clear zo mo
    generalize ((((ws0).setCell ⟨gc, 0, none⟩ (.bool false)).setCell ⟨gc, 1, none⟩ (.slice none 0 0)).setCell ⟨gc, 2, none⟩ (.slice none 0 0)).setCell ⟨gc, 3, none⟩ (.int .u64 0) = ws1 at *
    refine hK.out _ _ (by obtain ⟨p0, p1, p2, p3⟩ := cellsN bc; obtain ⟨q0, q1, q2, q3⟩ := cellsN bd; exact ⟨p0, p1, p2, p3, q0, q1, q2, q3, bm.cell 0⟩) (fun hHeld => ?_)
    clear hK K
    try simp only [Act.put, List.setIfInBounds_toArray, List.set_cons_zero, List.set_cons_succ]
    refine wpAnyZ_ready (rs := [4]) (by kernel_rfl) (by simp) ?_
    refine AllReadyZ.cons (opAt rfl) (fun K hK => ?_) ?_
    · skip
      have zo := fun i => bd.frozen i
      have mo := fun i => bd.cell i
      go_simp
      replace Na := Na.setN bd (.bool false) (.slice none 0 0) (.slice none 0 0) (.int .u64 0)
      replace Nb := Nb.setN bd (.bool false) (.slice none 0 0) (.slice none 0 0) (.int .u64 0)
      replace bc := bc.offN HAB.out (.bool false) (.slice none 0 0) (.slice none 0 0) (.int .u64 0)
      replace bm := bm.offN HKB.out (.bool false) (.slice none 0 0) (.slice none 0 0) (.int .u64 0)
      replace bd := bd.setN (.bool false) (.slice none 0 0) (.slice none 0 0) (.int .u64 0)
      replace hb := below_setN hb (g := gd) HGd.out (.bool false) (.slice none 0 0) (.slice none 0 0) (.int .u64 0)
      clear zo mo
      generalize ((((ws1).setCell ⟨gd, 0, none⟩ (.bool false)).setCell ⟨gd, 1, none⟩ (.slice none 0 0)).setCell ⟨gd, 2, none⟩ (.slice none 0 0)).setCell ⟨gd, 3, none⟩ (.int .u64 0) = ws2 at *
      refine hK.out _ _ (by obtain ⟨p0, p1, p2, p3⟩ := cellsN bc; obtain ⟨q0, q1, q2, q3⟩ := cellsN bd; exact ⟨p0, p1, p2, p3, q0, q1, q2, q3, bm.cell 0⟩) (fun hHeld => ?_)
      clear hK K
      try simp only [Act.put, List.setIfInBounds_toArray, List.set_cons_zero, List.set_cons_succ]
      refine wpAnyZ_ready (rs := [5]) (by kernel_rfl) (by simp) ?_
      refine AllReadyZ.cons (opAt rfl) (fun K hK => ?_) ?_
      · skip
        have zo := fun i => bm.frozen i
        have mo := fun i => bm.cell i
        go_simp
        replace Na := Na.far (p := ⟨gm, 0, none⟩) HKL.out (.int .u64 0)
        replace Nb := Nb.far (p := ⟨gm, 0, none⟩) HKL.out (.int .u64 0)
        replace bc := bc.far (p := ⟨gm, 0, none⟩) HAK.out (.int .u64 0)
        replace bd := bd.far (p := ⟨gm, 0, none⟩) HBK.out (.int .u64 0)
        replace bm := bm.set1 (.int .u64 0)
        replace hb := hb.setCell (p := ⟨gm, 0, none⟩) HGm.out (.int .u64 0)
        clear zo mo
        generalize ws2.setCell ⟨gm, 0, none⟩ (.int .u64 0) = ws3 at *
        refine hK.out _ _ (by obtain ⟨p0, p1, p2, p3⟩ := cellsN bc; obtain ⟨q0, q1, q2, q3⟩ := cellsN bd; exact ⟨p0, p1, p2, p3, q0, q1, q2, q3, bm.cell 0⟩) (fun hHeld => ?_)
        clear hK K
        try simp only [Act.put, List.setIfInBounds_toArray, List.set_cons_zero, List.set_cons_succ]
        refine wpAnyZ_done (by kernel_rfl) ?_ _
        clear Na Nb
        go_wp2_with fail
        have ca := fun i => bc.cell i
        have cb := fun i => bd.cell i
        have ck := fun i => bm.cell i
        refine bodyPost_ret (v := .tuple #[.agg #[.bool false, .slice none 0 0, .slice none 0 0, .int .u64 0], .agg #[.bool false, .slice none 0 0, .slice none 0 0, .int .u64 0], .int .u64 0]) (by simp [results, Try.results25, go_sem, ca, cb, ck]) rfl ⟨rfl, hb⟩
      exact AllReadyZ.nil
    exact AllReadyZ.nil
  exact AllReadyZ.nil
end Go.Proofs.Ytcmoblibjhaegaa
