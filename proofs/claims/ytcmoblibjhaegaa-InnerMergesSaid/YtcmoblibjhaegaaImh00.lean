/-
  The Go function InnerMerges.
-/
import Derived.Test.YtcmoblibjhaegaaImi
namespace Go.Proofs.Ytcmoblibjhaegaa
open Go.RowKit

set_option maxRecDepth 100000 in
set_option maxHeartbeats 4000000 in
theorem imerges_fit00 (v v' : Value) (ks vs ks' vs' : List Int) (l l' key : Int) (w : World) (h : Nd w w.heap.size v true ks vs l) (h' : Nd w w.heap.size v' true ks' vs' l') (s1 : ks.length ≤ 80 ∧ vs.length ≤ 80) (s2 : ks'.length ≤ 80 ∧ vs'.length ≤ 80) (h1 : rightI true ks vs = true) (h2 : rightI true ks' vs' = true) (h3 : rightI true (ks ++ key :: ks') (vs ++ vs') = true) (hR : vs'.length < 2) (hL : ks.length < 1) :
    Calls Try.prog 7 #[v, .int .u64 key, v'] w fun e w' => e = .returned (.bool true) ∧ Below w.heap.size w w' := by
  have hkv := (rightI_parts h1).2.1
  have hkv' := (rightI_parts h2).2.1
  have hN := fun w2 (hB : Below w.heap.size w w2) => (h.below hB).more hB.size
  have hN' := fun w2 (hB : Below w.heap.size w w2) => (h'.below hB).more hB.size
  have Mg := hide (fun w2 (hB : Below w.heap.size w w2) => imerge_yes v v' true true ks vs ks' vs' l l' key w2 (by omega) (by omega) (hN w2 hB) (hN' w2 hB) h1 h2 h3)
  have R1 := hide (fun w2 (hB : Below w.heap.size w w2) => irright_any v true ks vs l w2 (by omega) (hN w2 hB))
  have R2 := hide (fun w2 (hB : Below w.heap.size w w2) => irright_any v' true ks' vs' l' w2 (by omega) (hN' w2 hB))
  have J1 := hide (fun w2 (hB : Below w.heap.size w w2) => rjoinI_any v v' true true ks vs ks' vs' l l' key 0 w2 (by omega) (by omega) (by omega) (by omega) (by omega) (by omega) (hN w2 hB) (hN' w2 hB))
  have R3 := hide (fun (u : Value) w2 (hN : Nd w2 w2.heap.size u true (ks ++ key :: ks') (vs ++ vs') 0) => irright_any u true (ks ++ key :: ks') (vs ++ vs') 0 w2 (by rw [List.length_append, List.length_cons]; omega) hN)
  have J2 := hide (fun w2 (hB : Below w.heap.size w w2) => rjoinI_any v v' true true ks vs ks' vs' l l' key l w2 (by omega) (by omega) (by omega) (by omega) (by omega) (by omega) (hN w2 hB) (hN' w2 hB))
  have Hkk := hide (show (ks ++ key :: ks').length ≤ 1000000 by rw [List.length_append, List.length_cons]; omega)
  have Hvv := hide (show (vs ++ vs').length ≤ 1000000 by rw [List.length_append]; omega)
  rw [h1] at R1
  rw [h2] at R2
  rw [h3] at R3
  have Fr := hide (fun w2 (hB : Below w.heap.size w w2) => fr_no v v' true true ks vs ks' vs' l l' key w2 (by omega) (by omega) (hN w2 hB) (hN' w2 hB) (.inr ⟨⟨h1, h2, h3⟩, hR⟩))
  have Fl := hide (fun w2 (hB : Below w.heap.size w w2) => fl_no v v' true true ks vs ks' vs' l l' key w2 (by omega) (by omega) (hN w2 hB) (hN' w2 hB) (.inr ⟨⟨h1, h2, h3⟩, hL⟩))
  have Nn := hide (fun w2 => none_any _ false [] [] 0 w2 (by simp) (by simp) (Nd.zero w2 w2.heap.size))
  rw [same_yes] at Nn
  obtain ⟨A, c, A', c', rfl⟩ := ValN w true ks vs l v h
  obtain ⟨E, f, E', f', rfl⟩ := ValN w true ks' vs' l' v' h'
  have S1 := hide (fun w2 => small_any true A A' ks.length c vs.length c' l w2)
  have S2 := hide (fun w2 => small_any true E E' ks'.length f vs'.length f' l' w2)
  rw [show (decide (ks.length ≤ 80) && decide (vs.length ≤ 80)) = true by simp; omega] at S1
  rw [show (decide (ks'.length ≤ 80) && decide (vs'.length ≤ 80)) = true by simp; omega] at S2
  have hnc : ((vs'.length : Nat) : Int) ≤ 80 := by omega
  have hR1 : (vs'.length : Int) < 2 := by omega
  have hL1 : (vs.length : Int) < 2 := by omega
  clear h1 h2 h3 s1 s2 hkv hkv' hR hN hN' hL h h'
  generalize ks ++ key :: ks' = kk at *
  generalize vs ++ vs' = vv at *
  generalize ks.length = n at *
  generalize vs.length = m at *
  generalize ks'.length = n' at *
  generalize vs'.length = m' at *
  have hb := (Below.refl w.heap.size w).alloc (Nat.le_refl _) (.cells #[.bool true, .slice A n c, .slice A' m c', .int .u64 l] 27)
  have bx := Blk.new w 27 #[.bool true, .slice A n c, .slice A' m c', .int .u64 l]
  have by_ := Blk.new (w.alloc (.cells #[.bool true, .slice A n c, .slice A' m c', .int .u64 l] 27)) 27 #[.bool true, .slice E n' f, .slice E' m' f', .int .u64 l']
  replace hb := hb.alloc hb.size (.cells #[.bool true, .slice E n' f, .slice E' m' f', .int .u64 l'] 27)
  replace bx := bx.alloc (.cells #[.bool true, .slice E n' f, .slice E' m' f', .int .u64 l'] 27)
  simp only [World.size_alloc] at by_
  go_enter Try.func7, Try.ntmps7
  go_wp2_with fail
  refine (S1.out _).mono ?_
  rintro e wk ⟨rfl, hb1⟩
  replace bx := bx.below hb1 bx.lt
  replace by_ := by_.below hb1 by_.lt
  replace hb := hb.trans (hb1.mono hb.size)
  clear hb1
  have m_bx := fun i => bx.cell i
  have m_by_ := fun i => by_.cell i
  have l_bx := bx.lt
  have l_by_ := by_.lt
  go_wp2_with fail
  refine (S2.out _).mono ?_
  rintro e wk ⟨rfl, hb1⟩
  replace bx := bx.below hb1 bx.lt
  replace by_ := by_.below hb1 by_.lt
  replace hb := hb.trans (hb1.mono hb.size)
  clear hb1
  clear m_bx l_bx m_by_ l_by_
  have m_bx := fun i => bx.cell i
  have m_by_ := fun i => by_.cell i
  have l_bx := bx.lt
  have l_by_ := by_.lt
  go_wp2_with fail
  refine (Mg.out _ hb).mono ?_
  rintro e wk ⟨⟨u, rfl, Nm⟩, hb1⟩
  replace bx := bx.below hb1 bx.lt
  replace by_ := by_.below hb1 by_.lt
  replace hb := hb.trans (hb1.mono hb.size)
  clear hb1
  clear m_bx l_bx m_by_ l_by_
  obtain ⟨Am, cm, Bm, dm, rfl⟩ := Nm.val
  have bm := Blk.new wk 27 #[.bool true, .slice Am kk.length cm, .slice Bm vv.length dm, .int .u64 l]
  replace Nm := Nm.below ((Below.refl wk.heap.size wk).alloc (Nat.le_refl _) (.cells #[.bool true, .slice Am kk.length cm, .slice Bm vv.length dm, .int .u64 l] 27))
  replace bx := bx.alloc (.cells #[.bool true, .slice Am kk.length cm, .slice Bm vv.length dm, .int .u64 l] 27)
  replace by_ := by_.alloc (.cells #[.bool true, .slice Am kk.length cm, .slice Bm vv.length dm, .int .u64 l] 27)
  replace hb := hb.alloc hb.size (.cells #[.bool true, .slice Am kk.length cm, .slice Bm vv.length dm, .int .u64 l] 27)
  have m_bx := fun i => bx.cell i
  have m_by_ := fun i => by_.cell i
  have m_bm := fun i => bm.cell i
  have l_bx := bx.lt
  have l_by_ := by_.lt
  have l_bm := bm.lt
  go_wp2_with fail
  generalize wk.alloc (.cells #[.bool true, .slice Am kk.length cm, .slice Bm vv.length dm, .int .u64 l] 27) = wq at *
  generalize wk.heap.size = gm at *
  refine (Fr.out _ hb).mono ?_
  rintro e wk ⟨rfl, hb1⟩
  replace bx := bx.below hb1 bx.lt
  replace by_ := by_.below hb1 by_.lt
  replace bm := bm.below hb1 bm.lt
  replace Nm := Nm.below hb1
  replace hb := hb.trans (hb1.mono hb.size)
  clear hb1
  clear m_bx l_bx m_by_ l_by_ m_bm l_bm
  have bc := Blk.new wk 27 #[.bool false, .slice none 0 0, .slice none 0 0, .int .u64 0]
  replace Nm := Nm.below ((Below.refl wk.heap.size wk).alloc (Nat.le_refl _) (.cells #[.bool false, .slice none 0 0, .slice none 0 0, .int .u64 0] 27))
  replace bx := bx.alloc (.cells #[.bool false, .slice none 0 0, .slice none 0 0, .int .u64 0] 27)
  replace by_ := by_.alloc (.cells #[.bool false, .slice none 0 0, .slice none 0 0, .int .u64 0] 27)
  replace bm := bm.alloc (.cells #[.bool false, .slice none 0 0, .slice none 0 0, .int .u64 0] 27)
  replace hb := hb.alloc hb.size (.cells #[.bool false, .slice none 0 0, .slice none 0 0, .int .u64 0] 27)
  have bd := Blk.new (wk.alloc (.cells #[.bool false, .slice none 0 0, .slice none 0 0, .int .u64 0] 27)) 27 #[.bool false, .slice none 0 0, .slice none 0 0, .int .u64 0]
  rw [World.size_alloc] at bd
  replace Nm := Nm.below ((Below.refl _ _).alloc (Nat.le_refl _) (.cells #[.bool false, .slice none 0 0, .slice none 0 0, .int .u64 0] 27))
  replace bx := bx.alloc (.cells #[.bool false, .slice none 0 0, .slice none 0 0, .int .u64 0] 27)
  replace by_ := by_.alloc (.cells #[.bool false, .slice none 0 0, .slice none 0 0, .int .u64 0] 27)
  replace bm := bm.alloc (.cells #[.bool false, .slice none 0 0, .slice none 0 0, .int .u64 0] 27)
  replace bc := bc.alloc (.cells #[.bool false, .slice none 0 0, .slice none 0 0, .int .u64 0] 27)
  replace hb := hb.alloc hb.size (.cells #[.bool false, .slice none 0 0, .slice none 0 0, .int .u64 0] 27)
  have m_bx := fun i => bx.cell i
  have m_by_ := fun i => by_.cell i
  have m_bm := fun i => bm.cell i
  have m_bc := fun i => bc.cell i
  have m_bd := fun i => bd.cell i
  have l_bx := bx.lt
  have l_by_ := by_.lt
  have l_bm := bm.lt
  have l_bc := bc.lt
  have l_bd := bd.lt
  go_wp2_with fail
  generalize (wk.alloc (.cells #[.bool false, .slice none 0 0, .slice none 0 0, .int .u64 0] 27)).alloc (.cells #[.bool false, .slice none 0 0, .slice none 0 0, .int .u64 0] 27) = wq at *
  generalize wk.heap.size + 1 = gd at *
  generalize wk.heap.size = gc at *
  refine (Fl.out _ hb).mono ?_
  rintro e wk ⟨rfl, hb1⟩
  replace bx := bx.below hb1 bx.lt
  replace by_ := by_.below hb1 by_.lt
  replace bm := bm.below hb1 bm.lt
  replace bc := bc.below hb1 bc.lt
  replace bd := bd.below hb1 bd.lt
  replace Nm := Nm.below hb1
  replace hb := hb.trans (hb1.mono hb.size)
  clear hb1
  clear m_bx l_bx m_by_ l_by_ m_bm l_bm m_bc l_bc m_bd l_bd
  have be := Blk.new wk 27 #[.bool false, .slice none 0 0, .slice none 0 0, .int .u64 0]
  replace Nm := Nm.below ((Below.refl wk.heap.size wk).alloc (Nat.le_refl _) (.cells #[.bool false, .slice none 0 0, .slice none 0 0, .int .u64 0] 27))
  replace bx := bx.alloc (.cells #[.bool false, .slice none 0 0, .slice none 0 0, .int .u64 0] 27)
  replace by_ := by_.alloc (.cells #[.bool false, .slice none 0 0, .slice none 0 0, .int .u64 0] 27)
  replace bm := bm.alloc (.cells #[.bool false, .slice none 0 0, .slice none 0 0, .int .u64 0] 27)
  replace bc := bc.alloc (.cells #[.bool false, .slice none 0 0, .slice none 0 0, .int .u64 0] 27)
  replace bd := bd.alloc (.cells #[.bool false, .slice none 0 0, .slice none 0 0, .int .u64 0] 27)
  replace hb := hb.alloc hb.size (.cells #[.bool false, .slice none 0 0, .slice none 0 0, .int .u64 0] 27)
  have bf := Blk.new (wk.alloc (.cells #[.bool false, .slice none 0 0, .slice none 0 0, .int .u64 0] 27)) 27 #[.bool false, .slice none 0 0, .slice none 0 0, .int .u64 0]
  rw [World.size_alloc] at bf
  replace Nm := Nm.below ((Below.refl _ _).alloc (Nat.le_refl _) (.cells #[.bool false, .slice none 0 0, .slice none 0 0, .int .u64 0] 27))
  replace bx := bx.alloc (.cells #[.bool false, .slice none 0 0, .slice none 0 0, .int .u64 0] 27)
  replace by_ := by_.alloc (.cells #[.bool false, .slice none 0 0, .slice none 0 0, .int .u64 0] 27)
  replace bm := bm.alloc (.cells #[.bool false, .slice none 0 0, .slice none 0 0, .int .u64 0] 27)
  replace bc := bc.alloc (.cells #[.bool false, .slice none 0 0, .slice none 0 0, .int .u64 0] 27)
  replace bd := bd.alloc (.cells #[.bool false, .slice none 0 0, .slice none 0 0, .int .u64 0] 27)
  replace be := be.alloc (.cells #[.bool false, .slice none 0 0, .slice none 0 0, .int .u64 0] 27)
  replace hb := hb.alloc hb.size (.cells #[.bool false, .slice none 0 0, .slice none 0 0, .int .u64 0] 27)
  have m_bx := fun i => bx.cell i
  have m_by_ := fun i => by_.cell i
  have m_bm := fun i => bm.cell i
  have m_bc := fun i => bc.cell i
  have m_bd := fun i => bd.cell i
  have m_be := fun i => be.cell i
  have m_bf := fun i => bf.cell i
  have l_bx := bx.lt
  have l_by_ := by_.lt
  have l_bm := bm.lt
  have l_bc := bc.lt
  have l_bd := bd.lt
  have l_be := be.lt
  have l_bf := bf.lt
  go_wp2_with fail
  generalize (wk.alloc (.cells #[.bool false, .slice none 0 0, .slice none 0 0, .int .u64 0] 27)).alloc (.cells #[.bool false, .slice none 0 0, .slice none 0 0, .int .u64 0] 27) = wq at *
  generalize wk.heap.size + 1 = gf at *
  generalize wk.heap.size = ge at *
  refine (R1.out _ hb).mono ?_
  rintro e wk ⟨rfl, hb1⟩
  replace bx := bx.below hb1 bx.lt
  replace by_ := by_.below hb1 by_.lt
  replace bm := bm.below hb1 bm.lt
  replace bc := bc.below hb1 bc.lt
  replace bd := bd.below hb1 bd.lt
  replace be := be.below hb1 be.lt
  replace bf := bf.below hb1 bf.lt
  replace Nm := Nm.below hb1
  replace hb := hb.trans (hb1.mono hb.size)
  clear hb1
  clear m_bx l_bx m_by_ l_by_ m_bm l_bm m_bc l_bc m_bd l_bd m_be l_be m_bf l_bf
  have m_bx := fun i => bx.cell i
  have m_by_ := fun i => by_.cell i
  have m_bm := fun i => bm.cell i
  have m_bc := fun i => bc.cell i
  have m_bd := fun i => bd.cell i
  have m_be := fun i => be.cell i
  have m_bf := fun i => bf.cell i
  have l_bx := bx.lt
  have l_by_ := by_.lt
  have l_bm := bm.lt
  have l_bc := bc.lt
  have l_bd := bd.lt
  have l_be := be.lt
  have l_bf := bf.lt
  go_wp2_with fail
  refine (R2.out _ hb).mono ?_
  rintro e wk ⟨rfl, hb1⟩
  replace bx := bx.below hb1 bx.lt
  replace by_ := by_.below hb1 by_.lt
  replace bm := bm.below hb1 bm.lt
  replace bc := bc.below hb1 bc.lt
  replace bd := bd.below hb1 bd.lt
  replace be := be.below hb1 be.lt
  replace bf := bf.below hb1 bf.lt
  replace Nm := Nm.below hb1
  replace hb := hb.trans (hb1.mono hb.size)
  clear hb1
  clear m_bx l_bx m_by_ l_by_ m_bm l_bm m_bc l_bc m_bd l_bd m_be l_be m_bf l_bf
  have m_bx := fun i => bx.cell i
  have m_by_ := fun i => by_.cell i
  have m_bm := fun i => bm.cell i
  have m_bc := fun i => bc.cell i
  have m_bd := fun i => bd.cell i
  have m_be := fun i => be.cell i
  have m_bf := fun i => bf.cell i
  have l_bx := bx.lt
  have l_by_ := by_.lt
  have l_bm := bm.lt
  have l_bc := bc.lt
  have l_bd := bd.lt
  have l_be := be.lt
  have l_bf := bf.lt
  go_wp2_with fail
  refine (J1.out _ hb).mono ?_
  rintro e wk ⟨⟨u, rfl, Nj⟩, hb1⟩
  replace bx := bx.below hb1 bx.lt
  replace by_ := by_.below hb1 by_.lt
  replace bm := bm.below hb1 bm.lt
  replace bc := bc.below hb1 bc.lt
  replace bd := bd.below hb1 bd.lt
  replace be := be.below hb1 be.lt
  replace bf := bf.below hb1 bf.lt
  replace Nm := Nm.below hb1
  replace hb := hb.trans (hb1.mono hb.size)
  clear hb1
  have Nj' := Nj.nd
  obtain ⟨Aj, cj, Bj, dj, rfl⟩ := Nj.val
  clear Nj
  clear m_bx l_bx m_by_ l_by_ m_bm l_bm m_bc l_bc m_bd l_bd m_be l_be m_bf l_bf
  have m_bx := fun i => bx.cell i
  have m_by_ := fun i => by_.cell i
  have m_bm := fun i => bm.cell i
  have m_bc := fun i => bc.cell i
  have m_bd := fun i => bd.cell i
  have m_be := fun i => be.cell i
  have m_bf := fun i => bf.cell i
  have l_bx := bx.lt
  have l_by_ := by_.lt
  have l_bm := bm.lt
  have l_bc := bc.lt
  have l_bd := bd.lt
  have l_be := be.lt
  have l_bf := bf.lt
  go_wp2_with fail
  refine (R3.out _ _ Nj').mono ?_
  rintro e wk ⟨rfl, hb1⟩
  replace bx := bx.below hb1 bx.lt
  replace by_ := by_.below hb1 by_.lt
  replace bm := bm.below hb1 bm.lt
  replace bc := bc.below hb1 bc.lt
  replace bd := bd.below hb1 bd.lt
  replace be := be.below hb1 be.lt
  replace bf := bf.below hb1 bf.lt
  replace Nm := Nm.below hb1
  replace hb := hb.trans (hb1.mono hb.size)
  clear hb1
  clear m_bx l_bx m_by_ l_by_ m_bm l_bm m_bc l_bc m_bd l_bd m_be l_be m_bf l_bf
  have m_bx := fun i => bx.cell i
  have m_by_ := fun i => by_.cell i
  have m_bm := fun i => bm.cell i
  have m_bc := fun i => bc.cell i
  have m_bd := fun i => bd.cell i
  have m_be := fun i => be.cell i
  have m_bf := fun i => bf.cell i
  have l_bx := bx.lt
  have l_by_ := by_.lt
  have l_bm := bm.lt
  have l_bc := bc.lt
  have l_bd := bd.lt
  have l_be := be.lt
  have l_bf := bf.lt
  go_wp2_with fail
  clear Nj' R1 R2 R3 J1 S1 S2 Mg Fr Fl
  clear m_bx l_bx m_by_ l_by_ m_bm l_bm m_bc l_bc m_bd l_bd m_be l_be m_bf l_bf
  replace bx := bx.drew
  replace by_ := by_.drew
  replace bm := bm.drew
  replace bc := bc.drew
  replace bd := bd.drew
  replace be := be.drew
  replace bf := bf.drew
  replace hb := hb.drew
  replace Nm := (show NdO wk.drew _ _ _ _ _ _ from Nm)
  refine wp_region_heldZ [] (fun w' => (w'.cell? ⟨w.heap.size, 0, none⟩ = some (.bool true) ∧ w'.cell? ⟨w.heap.size, 1, none⟩ = some (.slice A n c) ∧ w'.cell? ⟨w.heap.size, 2, none⟩ = some (.slice A' m c') ∧ w'.cell? ⟨w.heap.size, 3, none⟩ = some (.int .u64 l)) ∧ (w'.cell? ⟨w.heap.size + 1, 0, none⟩ = some (.bool true) ∧ w'.cell? ⟨w.heap.size + 1, 1, none⟩ = some (.slice E n' f) ∧ w'.cell? ⟨w.heap.size + 1, 2, none⟩ = some (.slice E' m' f') ∧ w'.cell? ⟨w.heap.size + 1, 3, none⟩ = some (.int .u64 l')) ∧ (w'.cell? ⟨gm, 0, none⟩ = some (.bool true) ∧ w'.cell? ⟨gm, 1, none⟩ = some (.slice Am kk.length cm) ∧ w'.cell? ⟨gm, 2, none⟩ = some (.slice Bm vv.length dm) ∧ w'.cell? ⟨gm, 3, none⟩ = some (.int .u64 l))) (by kernel_rfl) (by exact ⟨cellsN bx, cellsN by_, cellsN bm⟩) (fun hHeld => ?_)
  refine' wpAnyZ_takeA (i := 0) (v := ?_) (opAt rfl) (by kernel_rfl) (by kernel_rfl) (by kernel_rfl) (by kernel_rfl) (fun _ _ _ h => h) (by assumption) (by rfl) (fun w hSw => ?_) ?_
  rotate_left
  · (try dsimp only at hSw); go_simp; (try with_reducible rfl)
  try simp only [Act.put, List.setIfInBounds_toArray, List.set_cons_zero, List.set_cons_succ]
  refine' wpAnyZ_takeA (i := 1) (v := ?_) (opAt rfl) (by kernel_rfl) (by kernel_rfl) (by kernel_rfl) (by kernel_rfl) (fun _ _ _ h => h) (by assumption) (by rfl) (fun w hSw => ?_) ?_
  rotate_left
  · (try dsimp only at hSw); go_simp; (try with_reducible rfl)
  try simp only [Act.put, List.setIfInBounds_toArray, List.set_cons_zero, List.set_cons_succ]
  refine' wpAnyZ_takeA (i := 2) (v := ?_) (opAt rfl) (by kernel_rfl) (by kernel_rfl) (by kernel_rfl) (by kernel_rfl) (fun _ _ _ h => h) (by assumption) (by rfl) (fun w hSw => ?_) ?_
  rotate_left
  · (try dsimp only at hSw); go_simp; (try with_reducible rfl)
  try simp only [Act.put, List.setIfInBounds_toArray, List.set_cons_zero, List.set_cons_succ]
  refine' wpAnyZ_takeA (i := 3) (v := ?_) (opAt rfl) (by kernel_rfl) (by kernel_rfl) (by kernel_rfl) (by kernel_rfl) (fun _ _ _ h => h) (by assumption) (by rfl) (fun w hSw => ?_) ?_
  rotate_left
  · (try dsimp only at hSw); go_simp; (try with_reducible rfl)
  try simp only [Act.put, List.setIfInBounds_toArray, List.set_cons_zero, List.set_cons_succ]
  refine' wpAnyZ_takeA (i := 4) (v := ?_) (opAt rfl) (by kernel_rfl) (by kernel_rfl) (by kernel_rfl) (by kernel_rfl) (fun _ _ _ h => h) (by assumption) (by rfl) (fun w hSw => ?_) ?_
  rotate_left
  · (try dsimp only at hSw); go_simp; (try with_reducible rfl)
  try simp only [Act.put, List.setIfInBounds_toArray, List.set_cons_zero, List.set_cons_succ]
  refine' wpAnyZ_takeA (i := 5) (v := ?_) (opAt rfl) (by kernel_rfl) (by kernel_rfl) (by kernel_rfl) (by kernel_rfl) (fun _ _ _ h => h) (by assumption) (by rfl) (fun w hSw => ?_) ?_
  rotate_left
  · (try dsimp only at hSw); go_simp; (try with_reducible rfl)
  try simp only [Act.put, List.setIfInBounds_toArray, List.set_cons_zero, List.set_cons_succ]
  refine wpAnyZ_ready (rs := [6]) (by kernel_rfl) (by simp) ?_
  refine AllReadyZ.cons (opAt rfl) (fun K hK => ?_) ?_
  · skip
    go_simp
    refine (J2.out _ hb).mono ?_
    rintro e wc ⟨⟨u, rfl, r0⟩, hb1⟩
    replace bx := bx.below hb1 bx.lt
    replace by_ := by_.below hb1 by_.lt
    replace bm := bm.below hb1 bm.lt
    replace bc := bc.below hb1 bc.lt
    replace bd := bd.below hb1 bd.lt
    replace be := be.below hb1 be.lt
    replace bf := bf.below hb1 bf.lt
    replace Nm := Nm.below hb1
    replace hb := hb.trans (hb1.mono hb.size)
    obtain ⟨Aj, cj, Bj, dj, rfl⟩ := r0.val
    clear hb1
    try go_wp2_with fail
    refine hK.out _ _ (by exact ⟨cellsN bx, cellsN by_, cellsN bm⟩) (fun hHeld => ?_)
    clear hK K
    try simp only [Act.put, List.setIfInBounds_toArray, List.set_cons_zero, List.set_cons_succ]
    refine wpAnyZ_ready (rs := [7]) (by kernel_rfl) (by simp) ?_
    refine AllReadyZ.cons (opAt rfl) (fun K hK => ?_) ?_
    · skip
      go_simp
      refine (same_any _ _ true true kk vv kk vv l l _ Hkk.out Hvv.out Hkk.out Hvv.out Nm.nd r0.nd).mono ?_
      rw [same_yes]
      rintro e wd ⟨rfl, hb1⟩
      replace bx := bx.below hb1 bx.lt
      replace by_ := by_.below hb1 by_.lt
      replace bm := bm.below hb1 bm.lt
      replace bc := bc.below hb1 bc.lt
      replace bd := bd.below hb1 bd.lt
      replace be := be.below hb1 be.lt
      replace bf := bf.below hb1 bf.lt
      replace hb := hb.trans (hb1.mono hb.size)
      clear hb1
      try go_wp2_with fail
      refine hK.out _ _ (by exact ⟨cellsN bx, cellsN by_, cellsN bm⟩) (fun hHeld => ?_)
      clear hK K
      try simp only [Act.put, List.setIfInBounds_toArray, List.set_cons_zero, List.set_cons_succ]
      refine' wpAnyZ_takeA (i := 8) (v := ?_) (opAt rfl) (by kernel_rfl) (by kernel_rfl) (by kernel_rfl) (by kernel_rfl) (fun _ _ _ h => h) (by assumption) (by rfl) (fun w hSw => ?_) ?_
      rotate_left
      · (try dsimp only at hSw); go_simp; (try with_reducible rfl)
      try simp only [Act.put, List.setIfInBounds_toArray, List.set_cons_zero, List.set_cons_succ]
      refine wpAnyZ_done (by kernel_rfl) ?_ _
      have m_bx := fun i => bx.cell i
      have m_by_ := fun i => by_.cell i
      have m_bm := fun i => bm.cell i
      have m_bc := fun i => bc.cell i
      have m_bd := fun i => bd.cell i
      have m_be := fun i => be.cell i
      have m_bf := fun i => bf.cell i
      have l_bx := bx.lt
      have l_by_ := by_.lt
      have l_bm := bm.lt
      have l_bc := bc.lt
      have l_bd := bd.lt
      have l_be := be.lt
      have l_bf := bf.lt
      go_wp2_with fail
      refine (Nn.out _).mono ?_
      rintro e wk ⟨rfl, hb1⟩
      replace bx := bx.below hb1 bx.lt
      replace by_ := by_.below hb1 by_.lt
      replace bm := bm.below hb1 bm.lt
      replace bc := bc.below hb1 bc.lt
      replace bd := bd.below hb1 bd.lt
      replace be := be.below hb1 be.lt
      replace bf := bf.below hb1 bf.lt
      replace hb := hb.trans (hb1.mono hb.size)
      clear hb1
      clear m_bx l_bx m_by_ l_by_ m_bm l_bm m_bc l_bc m_bd l_bd m_be l_be m_bf l_bf
      have m_bx := fun i => bx.cell i
      have m_by_ := fun i => by_.cell i
      have m_bm := fun i => bm.cell i
      have m_bc := fun i => bc.cell i
      have m_bd := fun i => bd.cell i
      have m_be := fun i => be.cell i
      have m_bf := fun i => bf.cell i
      have l_bx := bx.lt
      have l_by_ := by_.lt
      have l_bm := bm.lt
      have l_bc := bc.lt
      have l_bd := bd.lt
      have l_be := be.lt
      have l_bf := bf.lt
      go_wp2_with fail
      refine (Nn.out _).mono ?_
      rintro e wk ⟨rfl, hb1⟩
      replace bx := bx.below hb1 bx.lt
      replace by_ := by_.below hb1 by_.lt
      replace bm := bm.below hb1 bm.lt
      replace bc := bc.below hb1 bc.lt
      replace bd := bd.below hb1 bd.lt
      replace be := be.below hb1 be.lt
      replace bf := bf.below hb1 bf.lt
      replace hb := hb.trans (hb1.mono hb.size)
      clear hb1
      clear m_bx l_bx m_by_ l_by_ m_bm l_bm m_bc l_bc m_bd l_bd m_be l_be m_bf l_bf
      have m_bx := fun i => bx.cell i
      have m_by_ := fun i => by_.cell i
      have m_bm := fun i => bm.cell i
      have m_bc := fun i => bc.cell i
      have m_bd := fun i => bd.cell i
      have m_be := fun i => be.cell i
      have m_bf := fun i => bf.cell i
      have l_bx := bx.lt
      have l_by_ := by_.lt
      have l_bm := bm.lt
      have l_bc := bc.lt
      have l_bd := bd.lt
      have l_be := be.lt
      have l_bf := bf.lt
      go_wp2_with fail
      refine (Nn.out _).mono ?_
      rintro e wk ⟨rfl, hb1⟩
      replace bx := bx.below hb1 bx.lt
      replace by_ := by_.below hb1 by_.lt
      replace bm := bm.below hb1 bm.lt
      replace bc := bc.below hb1 bc.lt
      replace bd := bd.below hb1 bd.lt
      replace be := be.below hb1 be.lt
      replace bf := bf.below hb1 bf.lt
      replace hb := hb.trans (hb1.mono hb.size)
      clear hb1
      clear m_bx l_bx m_by_ l_by_ m_bm l_bm m_bc l_bc m_bd l_bd m_be l_be m_bf l_bf
      have m_bx := fun i => bx.cell i
      have m_by_ := fun i => by_.cell i
      have m_bm := fun i => bm.cell i
      have m_bc := fun i => bc.cell i
      have m_bd := fun i => bd.cell i
      have m_be := fun i => be.cell i
      have m_bf := fun i => bf.cell i
      have l_bx := bx.lt
      have l_by_ := by_.lt
      have l_bm := bm.lt
      have l_bc := bc.lt
      have l_bd := bd.lt
      have l_be := be.lt
      have l_bf := bf.lt
      go_wp2_with fail
      refine (Nn.out _).mono ?_
      rintro e wk ⟨rfl, hb1⟩
      replace bx := bx.below hb1 bx.lt
      replace by_ := by_.below hb1 by_.lt
      replace bm := bm.below hb1 bm.lt
      replace bc := bc.below hb1 bc.lt
      replace bd := bd.below hb1 bd.lt
      replace be := be.below hb1 be.lt
      replace bf := bf.below hb1 bf.lt
      replace hb := hb.trans (hb1.mono hb.size)
      clear hb1
      clear m_bx l_bx m_by_ l_by_ m_bm l_bm m_bc l_bc m_bd l_bd m_be l_be m_bf l_bf
      have m_bx := fun i => bx.cell i
      have m_by_ := fun i => by_.cell i
      have m_bm := fun i => bm.cell i
      have m_bc := fun i => bc.cell i
      have m_bd := fun i => bd.cell i
      have m_be := fun i => be.cell i
      have m_bf := fun i => bf.cell i
      have l_bx := bx.lt
      have l_by_ := by_.lt
      have l_bm := bm.lt
      have l_bc := bc.lt
      have l_bd := bd.lt
      have l_be := be.lt
      have l_bf := bf.lt
      go_wp2_with fail
      refine (awake13 _).mono ?_
      rintro e wk ⟨rfl, hb1⟩
      replace bx := bx.below hb1 bx.lt
      replace by_ := by_.below hb1 by_.lt
      replace bm := bm.below hb1 bm.lt
      replace bc := bc.below hb1 bc.lt
      replace bd := bd.below hb1 bd.lt
      replace be := be.below hb1 be.lt
      replace bf := bf.below hb1 bf.lt
      replace hb := hb.trans (hb1.mono hb.size)
      clear hb1
      clear m_bx l_bx m_by_ l_by_ m_bm l_bm m_bc l_bc m_bd l_bd m_be l_be m_bf l_bf
      have m_bx := fun i => bx.cell i
      have m_by_ := fun i => by_.cell i
      have m_bm := fun i => bm.cell i
      have m_bc := fun i => bc.cell i
      have m_bd := fun i => bd.cell i
      have m_be := fun i => be.cell i
      have m_bf := fun i => bf.cell i
      have l_bx := bx.lt
      have l_by_ := by_.lt
      have l_bm := bm.lt
      have l_bc := bc.lt
      have l_bd := bd.lt
      have l_be := be.lt
      have l_bf := bf.lt
      go_wp2_with fail
      go_ret
      exact ⟨rfl, hb⟩
    exact AllReadyZ.nil
  exact AllReadyZ.nil
end Go.Proofs.Ytcmoblibjhaegaa
