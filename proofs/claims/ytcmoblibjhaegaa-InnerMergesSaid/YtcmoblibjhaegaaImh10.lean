/-
  The Go function InnerMerges.
-/
import Derived.Test.YtcmoblibjhaegaaImi
namespace Go.Proofs.Ytcmoblibjhaegaa
open Go.RowKit

set_option maxRecDepth 100000 in
set_option maxHeartbeats 4000000 in
theorem imerges_fit10 (v v' : Value) (ks vs ks' vs' : List Int) (l l' key : Int) (w : World) (h : Nd w w.heap.size v true ks vs l) (h' : Nd w w.heap.size v' true ks' vs' l') (s1 : ks.length ≤ 80 ∧ vs.length ≤ 80) (s2 : ks'.length ≤ 80 ∧ vs'.length ≤ 80) (h1 : rightI true ks vs = true) (h2 : rightI true ks' vs' = true) (h3 : rightI true (ks ++ key :: ks') (vs ++ vs') = true) (hR : 2 ≤ vs'.length) (hL : ks.length < 1) :
    Calls Try.prog 7 #[v, .int .u64 key, v'] w fun e w' => e = .returned (.bool true) ∧ Below w.heap.size w w' := by
  have hkv := (rightI_parts h1).2.1
  have hkv' := (rightI_parts h2).2.1
  have hN := fun w2 (hB : Below w.heap.size w w2) => (h.below hB).more hB.size
  have hN' := fun w2 (hB : Below w.heap.size w w2) => (h'.below hB).more hB.size
  have Mg := hide (fun w2 (hB : Below w.heap.size w w2) => imerge_yes v v' true true ks vs ks' vs' l l' key w2 (by omega) (by omega) (hN w2 hB) (hN' w2 hB) h1 h2 h3)
  have R1 := hide (fun w2 (hB : Below w.heap.size w w2) => irright_any v true ks vs l w2 (by omega) (hN w2 hB))
  have R2 := hide (fun w2 (hB : Below w.heap.size w w2) => irright_any v' true ks' vs' l' w2 (by omega) (hN' w2 hB))
  have J1 := hide (fun w2 (hB : Below w.heap.size w w2) => rjoinI_any v v' true true ks vs ks' vs' l l' key 0 w2 (by omega) (by omega) (by omega) (by omega) (by omega) (by omega) (hN w2 hB) (hN' w2 hB))
  have R3 := hide (fun (u : Value) w2 (hN : Nd w2 w2.heap.size u true (ks ++ key :: ks') (vs ++ vs') 0) => irright_any u true (ks ++ key :: ks') (vs ++ vs') 0 w2 (by rw [List.length_append, List.length_cons]; omega) hN)
  have J2 := hide (fun w2 (hB : Below w.heap.size w w2) => rjoinI_any v v' true true ks vs ks' vs' l l' key l w2 (by omega) (by omega) (by omega) (by omega) (by omega) (by omega) (hN w2 hB) (hN' w2 hB))
  have Hkk := hide (show (ks ++ key :: ks').length ≤ 1000000 by rw [List.length_append, List.length_cons]; omega)
  have Hvv := hide (show (vs ++ vs').length ≤ 1000000 by rw [List.length_append]; omega)
  rw [h1] at R1
  rw [h2] at R2
  rw [h3] at R3
  have Fr := hide (fun w2 (hB : Below w.heap.size w w2) => fr_yes v v' true true ks vs ks' vs' l l' key w2 (by omega) (by omega) (hN w2 hB) (hN' w2 hB) h1 h2 h3 hR)
  rw [frL1 ks ks' key, frL2 vs vs' hR, frL3 ks' vs' hkv', frL4 vs'] at Fr
  have C1 := hide (fun w2 (hB : Below w.heap.size w w2) => rcutI_any v' true ks' vs' l' 0 0 1 w2 (by omega) hkv' (by omega) (by omega) (hN' w2 hB))
  have C2 := hide (fun w2 (hB : Below w.heap.size w w2) => rcutI_any v' true ks' vs' l' l' 1 vs'.length w2 (by omega) hkv' (by omega) (by omega) (hN' w2 hB))
  have l1 := cutL_len ks' 0 (1 - 1) (by omega)
  have l2 := cutL_len vs' 0 1 (by omega)
  have l3 := cutL_len ks' 1 (vs'.length - 1) (by omega)
  have l4 := cutL_len vs' 1 vs'.length (by omega)
  have J3 := hide (fun (u : Value) w2 (hB : Below w.heap.size w w2) (hn : Nd w2 w2.heap.size u true (cutL ks' 0 (1 - 1)) (cutL vs' 0 1) 0) => rjoinI_any v u true true ks vs (cutL ks' 0 (1 - 1)) (cutL vs' 0 1) l 0 key l w2 (by omega) (by omega) (by omega) (by omega) (by omega) (by omega) (hN w2 hB) hn)
  have Hp1 := hide (show (ks ++ key :: cutL ks' 0 (1 - 1)).length ≤ 1000000 by rw [List.length_append, List.length_cons]; omega)
  have Hq1 := hide (show (vs ++ cutL vs' 0 1).length ≤ 1000000 by rw [List.length_append]; omega)
  have Hp2 := hide (show (cutL ks' 1 (vs'.length - 1)).length ≤ 1000000 by omega)
  have Hq2 := hide (show (cutL vs' 1 vs'.length).length ≤ 1000000 by omega)
  have zz0 : ((0 : Nat) : Int) = 0 := rfl
  have zz1 : ((1 : Nat) : Int) = 1 := rfl
  rw [zz0, zz1] at C1
  rw [zz1] at C2
  clear l1 l2 l3 l4 zz0 zz1
  have Fl := hide (fun w2 (hB : Below w.heap.size w w2) => fl_no v v' true true ks vs ks' vs' l l' key w2 (by omega) (by omega) (hN w2 hB) (hN' w2 hB) (.inr ⟨⟨h1, h2, h3⟩, hL⟩))
  have Nn := hide (fun w2 => none_any _ false [] [] 0 w2 (by simp) (by simp) (Nd.zero w2 w2.heap.size))
  rw [same_yes] at Nn
  obtain ⟨A, c, A', c', rfl⟩ := ValN w true ks vs l v h
  obtain ⟨k0', u0', rfl, hk0', hu0'⟩ := h'
  obtain ⟨E, f, rfl, hc1', hc2', hrk'⟩ := hk0'
  obtain ⟨E', f', rfl, _⟩ := hu0'
  have h1k : 0 < ks'.length := by omega
  obtain ⟨ad', rfl, hkl', hzz'⟩ := hrk'.word h1k
  have add0 : ∀ ad : Addr, ad.add 0 = ad := fun ad => by simp [Addr.add]
  have Zb := hide (fun w2 (hB : Below w.heap.size w w2) => (show w2.cell? ad' = some (.int .u64 (ks'.getD 0 0)) from by
    have := word_cell hrk' h1k hkl' hB
    rw [add0] at this
    rw [gD ks' 0 hkl']
    exact this))
  generalize ks'.getD 0 0 = mid' at *
  clear hzz' hkl' h1k hrk' hc1' hc2' add0
  have hn0 : (0 : Int) < (ks'.length : Int) := by omega
  have hn0' : 0 < ks'.length := by omega
  have S1 := hide (fun w2 => small_any true A A' ks.length c vs.length c' l w2)
  have S2 := hide (fun w2 => small_any true (some ad') E' ks'.length f vs'.length f' l' w2)
  rw [show (decide (ks.length ≤ 80) && decide (vs.length ≤ 80)) = true by simp; omega] at S1
  rw [show (decide (ks'.length ≤ 80) && decide (vs'.length ≤ 80)) = true by simp; omega] at S2
  have hnc : ((vs'.length : Nat) : Int) ≤ 80 := by omega
  have hR1 : decide ((vs'.length : Int) < 2) = false := by rw [decide_eq_false_iff_not]; omega
  have hR2 : decide (vs'.length < 2) = false := by rw [decide_eq_false_iff_not]; omega
  have hR3 : (1 : Int) ≤ (vs'.length : Int) := by omega
  have hL1 : (vs.length : Int) < 2 := by omega
  clear h1 h2 h3 s1 s2 hkv hkv' hR hN hN' hL h
  generalize ks ++ key :: ks' = kk at *
  generalize vs ++ vs' = vv at *
  generalize ks ++ key :: cutL ks' 0 (1 - 1) = p1 at *
  generalize vs ++ cutL vs' 0 1 = q1 at *
  generalize cutL ks' 0 (1 - 1) = p0 at *
  generalize cutL vs' 0 1 = q0 at *
  generalize cutL ks' 1 (vs'.length - 1) = p2 at *
  generalize cutL vs' 1 vs'.length = q2 at *
  generalize ks.length = n at *
  generalize vs.length = m at *
  generalize ks'.length = n' at *
  generalize vs'.length = m' at *
  have hb := (Below.refl w.heap.size w).alloc (Nat.le_refl _) (.cells #[.bool true, .slice A n c, .slice A' m c', .int .u64 l] 27)
  have bx := Blk.new w 27 #[.bool true, .slice A n c, .slice A' m c', .int .u64 l]
  have by_ := Blk.new (w.alloc (.cells #[.bool true, .slice A n c, .slice A' m c', .int .u64 l] 27)) 27 #[.bool true, .slice (some ad') n' f, .slice E' m' f', .int .u64 l']
  replace hb := hb.alloc hb.size (.cells #[.bool true, .slice (some ad') n' f, .slice E' m' f', .int .u64 l'] 27)
  replace bx := bx.alloc (.cells #[.bool true, .slice (some ad') n' f, .slice E' m' f', .int .u64 l'] 27)
  simp only [World.size_alloc] at by_
  go_enter Try.func7, Try.ntmps7
  go_wp2_with fail
  refine (S1.out _).mono ?_
  rintro e wk ⟨rfl, hb1⟩
  replace bx := bx.below hb1 bx.lt
  replace by_ := by_.below hb1 by_.lt
  replace hb := hb.trans (hb1.mono hb.size)
  clear hb1
  have m_bx := fun i => bx.cell i
  have m_by_ := fun i => by_.cell i
  have l_bx := bx.lt
  have l_by_ := by_.lt
  go_wp2_with fail
  refine (S2.out _).mono ?_
  rintro e wk ⟨rfl, hb1⟩
  replace bx := bx.below hb1 bx.lt
  replace by_ := by_.below hb1 by_.lt
  replace hb := hb.trans (hb1.mono hb.size)
  clear hb1
  clear m_bx l_bx m_by_ l_by_
  have m_bx := fun i => bx.cell i
  have m_by_ := fun i => by_.cell i
  have l_bx := bx.lt
  have l_by_ := by_.lt
  go_wp2_with fail
  refine (Mg.out _ hb).mono ?_
  rintro e wk ⟨⟨u, rfl, Nm⟩, hb1⟩
  replace bx := bx.below hb1 bx.lt
  replace by_ := by_.below hb1 by_.lt
  replace hb := hb.trans (hb1.mono hb.size)
  clear hb1
  clear m_bx l_bx m_by_ l_by_
  obtain ⟨Am, cm, Bm, dm, rfl⟩ := Nm.val
  have bm := Blk.new wk 27 #[.bool true, .slice Am kk.length cm, .slice Bm vv.length dm, .int .u64 l]
  replace Nm := Nm.below ((Below.refl wk.heap.size wk).alloc (Nat.le_refl _) (.cells #[.bool true, .slice Am kk.length cm, .slice Bm vv.length dm, .int .u64 l] 27))
  replace bx := bx.alloc (.cells #[.bool true, .slice Am kk.length cm, .slice Bm vv.length dm, .int .u64 l] 27)
  replace by_ := by_.alloc (.cells #[.bool true, .slice Am kk.length cm, .slice Bm vv.length dm, .int .u64 l] 27)
  replace hb := hb.alloc hb.size (.cells #[.bool true, .slice Am kk.length cm, .slice Bm vv.length dm, .int .u64 l] 27)
  have m_bx := fun i => bx.cell i
  have m_by_ := fun i => by_.cell i
  have m_bm := fun i => bm.cell i
  have l_bx := bx.lt
  have l_by_ := by_.lt
  have l_bm := bm.lt
  go_wp2_with fail
  generalize wk.alloc (.cells #[.bool true, .slice Am kk.length cm, .slice Bm vv.length dm, .int .u64 l] 27) = wq at *
  generalize wk.heap.size = gm at *
  refine (Fr.out _ hb).mono ?_
  rintro e wk ⟨⟨u1, u2, rfl, Nc, Ng⟩, hb1⟩
  replace bx := bx.below hb1 bx.lt
  replace by_ := by_.below hb1 by_.lt
  replace bm := bm.below hb1 bm.lt
  replace Nm := Nm.below hb1
  replace hb := hb.trans (hb1.mono hb.size)
  clear hb1
  clear m_bx l_bx m_by_ l_by_ m_bm l_bm
  obtain ⟨Ac, cc, Bc, dc, rfl⟩ := Nc.val
  obtain ⟨Ad, cd, Bd, dd, rfl⟩ := Ng.val
  have bc := Blk.new wk 27 #[.bool true, .slice Ac p1.length cc, .slice Bc q1.length dc, .int .u64 l]
  have K1 := (Below.refl wk.heap.size wk).alloc (Nat.le_refl _) (.cells #[.bool true, .slice Ac p1.length cc, .slice Bc q1.length dc, .int .u64 l] 27)
  replace bx := bx.alloc (.cells #[.bool true, .slice Ac p1.length cc, .slice Bc q1.length dc, .int .u64 l] 27)
  replace by_ := by_.alloc (.cells #[.bool true, .slice Ac p1.length cc, .slice Bc q1.length dc, .int .u64 l] 27)
  replace bm := bm.alloc (.cells #[.bool true, .slice Ac p1.length cc, .slice Bc q1.length dc, .int .u64 l] 27)
  replace hb := hb.alloc hb.size (.cells #[.bool true, .slice Ac p1.length cc, .slice Bc q1.length dc, .int .u64 l] 27)
  have bd := Blk.new (wk.alloc (.cells #[.bool true, .slice Ac p1.length cc, .slice Bc q1.length dc, .int .u64 l] 27)) 27 #[.bool true, .slice Ad p2.length cd, .slice Bd q2.length dd, .int .u64 l']
  rw [World.size_alloc] at bd
  replace K1 := K1.alloc K1.size (.cells #[.bool true, .slice Ad p2.length cd, .slice Bd q2.length dd, .int .u64 l'] 27)
  replace bx := bx.alloc (.cells #[.bool true, .slice Ad p2.length cd, .slice Bd q2.length dd, .int .u64 l'] 27)
  replace by_ := by_.alloc (.cells #[.bool true, .slice Ad p2.length cd, .slice Bd q2.length dd, .int .u64 l'] 27)
  replace bm := bm.alloc (.cells #[.bool true, .slice Ad p2.length cd, .slice Bd q2.length dd, .int .u64 l'] 27)
  replace bc := bc.alloc (.cells #[.bool true, .slice Ad p2.length cd, .slice Bd q2.length dd, .int .u64 l'] 27)
  replace hb := hb.alloc hb.size (.cells #[.bool true, .slice Ad p2.length cd, .slice Bd q2.length dd, .int .u64 l'] 27)
  replace Nm := Nm.below K1
  replace Nc := Nc.below K1
  replace Ng := Ng.below K1
  clear K1
  have m_bx := fun i => bx.cell i
  have m_by_ := fun i => by_.cell i
  have m_bm := fun i => bm.cell i
  have m_bc := fun i => bc.cell i
  have m_bd := fun i => bd.cell i
  have l_bx := bx.lt
  have l_by_ := by_.lt
  have l_bm := bm.lt
  have l_bc := bc.lt
  have l_bd := bd.lt
  go_wp2_with fail
  generalize (wk.alloc (.cells #[.bool true, .slice Ac p1.length cc, .slice Bc q1.length dc, .int .u64 l] 27)).alloc (.cells #[.bool true, .slice Ad p2.length cd, .slice Bd q2.length dd, .int .u64 l'] 27) = wq at *
  generalize wk.heap.size + 1 = gd at *
  generalize wk.heap.size = gc at *
  refine (Fl.out _ hb).mono ?_
  rintro e wk ⟨rfl, hb1⟩
  replace bx := bx.below hb1 bx.lt
  replace by_ := by_.below hb1 by_.lt
  replace bm := bm.below hb1 bm.lt
  replace bc := bc.below hb1 bc.lt
  replace bd := bd.below hb1 bd.lt
  replace Nm := Nm.below hb1
  replace Nc := Nc.below hb1
  replace Ng := Ng.below hb1
  replace hb := hb.trans (hb1.mono hb.size)
  clear hb1
  clear m_bx l_bx m_by_ l_by_ m_bm l_bm m_bc l_bc m_bd l_bd
  have be := Blk.new wk 27 #[.bool false, .slice none 0 0, .slice none 0 0, .int .u64 0]
  replace Nm := Nm.below ((Below.refl wk.heap.size wk).alloc (Nat.le_refl _) (.cells #[.bool false, .slice none 0 0, .slice none 0 0, .int .u64 0] 27))
  replace Nc := Nc.below ((Below.refl wk.heap.size wk).alloc (Nat.le_refl _) (.cells #[.bool false, .slice none 0 0, .slice none 0 0, .int .u64 0] 27))
  replace Ng := Ng.below ((Below.refl wk.heap.size wk).alloc (Nat.le_refl _) (.cells #[.bool false, .slice none 0 0, .slice none 0 0, .int .u64 0] 27))
  replace bx := bx.alloc (.cells #[.bool false, .slice none 0 0, .slice none 0 0, .int .u64 0] 27)
  replace by_ := by_.alloc (.cells #[.bool false, .slice none 0 0, .slice none 0 0, .int .u64 0] 27)
  replace bm := bm.alloc (.cells #[.bool false, .slice none 0 0, .slice none 0 0, .int .u64 0] 27)
  replace bc := bc.alloc (.cells #[.bool false, .slice none 0 0, .slice none 0 0, .int .u64 0] 27)
  replace bd := bd.alloc (.cells #[.bool false, .slice none 0 0, .slice none 0 0, .int .u64 0] 27)
  replace hb := hb.alloc hb.size (.cells #[.bool false, .slice none 0 0, .slice none 0 0, .int .u64 0] 27)
  have bf := Blk.new (wk.alloc (.cells #[.bool false, .slice none 0 0, .slice none 0 0, .int .u64 0] 27)) 27 #[.bool false, .slice none 0 0, .slice none 0 0, .int .u64 0]
  rw [World.size_alloc] at bf
  replace Nm := Nm.below ((Below.refl _ _).alloc (Nat.le_refl _) (.cells #[.bool false, .slice none 0 0, .slice none 0 0, .int .u64 0] 27))
  replace Nc := Nc.below ((Below.refl _ _).alloc (Nat.le_refl _) (.cells #[.bool false, .slice none 0 0, .slice none 0 0, .int .u64 0] 27))
  replace Ng := Ng.below ((Below.refl _ _).alloc (Nat.le_refl _) (.cells #[.bool false, .slice none 0 0, .slice none 0 0, .int .u64 0] 27))
  replace bx := bx.alloc (.cells #[.bool false, .slice none 0 0, .slice none 0 0, .int .u64 0] 27)
  replace by_ := by_.alloc (.cells #[.bool false, .slice none 0 0, .slice none 0 0, .int .u64 0] 27)
  replace bm := bm.alloc (.cells #[.bool false, .slice none 0 0, .slice none 0 0, .int .u64 0] 27)
  replace bc := bc.alloc (.cells #[.bool false, .slice none 0 0, .slice none 0 0, .int .u64 0] 27)
  replace bd := bd.alloc (.cells #[.bool false, .slice none 0 0, .slice none 0 0, .int .u64 0] 27)
  replace be := be.alloc (.cells #[.bool false, .slice none 0 0, .slice none 0 0, .int .u64 0] 27)
  replace hb := hb.alloc hb.size (.cells #[.bool false, .slice none 0 0, .slice none 0 0, .int .u64 0] 27)
  have m_bx := fun i => bx.cell i
  have m_by_ := fun i => by_.cell i
  have m_bm := fun i => bm.cell i
  have m_bc := fun i => bc.cell i
  have m_bd := fun i => bd.cell i
  have m_be := fun i => be.cell i
  have m_bf := fun i => bf.cell i
  have l_bx := bx.lt
  have l_by_ := by_.lt
  have l_bm := bm.lt
  have l_bc := bc.lt
  have l_bd := bd.lt
  have l_be := be.lt
  have l_bf := bf.lt
  go_wp2_with fail
  generalize (wk.alloc (.cells #[.bool false, .slice none 0 0, .slice none 0 0, .int .u64 0] 27)).alloc (.cells #[.bool false, .slice none 0 0, .slice none 0 0, .int .u64 0] 27) = wq at *
  generalize wk.heap.size + 1 = gf at *
  generalize wk.heap.size = ge at *
  refine (R1.out _ hb).mono ?_
  rintro e wk ⟨rfl, hb1⟩
  replace bx := bx.below hb1 bx.lt
  replace by_ := by_.below hb1 by_.lt
  replace bm := bm.below hb1 bm.lt
  replace bc := bc.below hb1 bc.lt
  replace bd := bd.below hb1 bd.lt
  replace be := be.below hb1 be.lt
  replace bf := bf.below hb1 bf.lt
  replace Nm := Nm.below hb1
  replace Nc := Nc.below hb1
  replace Ng := Ng.below hb1
  replace hb := hb.trans (hb1.mono hb.size)
  clear hb1
  clear m_bx l_bx m_by_ l_by_ m_bm l_bm m_bc l_bc m_bd l_bd m_be l_be m_bf l_bf
  have m_bx := fun i => bx.cell i
  have m_by_ := fun i => by_.cell i
  have m_bm := fun i => bm.cell i
  have m_bc := fun i => bc.cell i
  have m_bd := fun i => bd.cell i
  have m_be := fun i => be.cell i
  have m_bf := fun i => bf.cell i
  have l_bx := bx.lt
  have l_by_ := by_.lt
  have l_bm := bm.lt
  have l_bc := bc.lt
  have l_bd := bd.lt
  have l_be := be.lt
  have l_bf := bf.lt
  go_wp2_with fail
  refine (R2.out _ hb).mono ?_
  rintro e wk ⟨rfl, hb1⟩
  replace bx := bx.below hb1 bx.lt
  replace by_ := by_.below hb1 by_.lt
  replace bm := bm.below hb1 bm.lt
  replace bc := bc.below hb1 bc.lt
  replace bd := bd.below hb1 bd.lt
  replace be := be.below hb1 be.lt
  replace bf := bf.below hb1 bf.lt
  replace Nm := Nm.below hb1
  replace Nc := Nc.below hb1
  replace Ng := Ng.below hb1
  replace hb := hb.trans (hb1.mono hb.size)
  clear hb1
  clear m_bx l_bx m_by_ l_by_ m_bm l_bm m_bc l_bc m_bd l_bd m_be l_be m_bf l_bf
  have m_bx := fun i => bx.cell i
  have m_by_ := fun i => by_.cell i
  have m_bm := fun i => bm.cell i
  have m_bc := fun i => bc.cell i
  have m_bd := fun i => bd.cell i
  have m_be := fun i => be.cell i
  have m_bf := fun i => bf.cell i
  have l_bx := bx.lt
  have l_by_ := by_.lt
  have l_bm := bm.lt
  have l_bc := bc.lt
  have l_bd := bd.lt
  have l_be := be.lt
  have l_bf := bf.lt
  go_wp2_with fail
  refine (J1.out _ hb).mono ?_
  rintro e wk ⟨⟨u, rfl, Nj⟩, hb1⟩
  replace bx := bx.below hb1 bx.lt
  replace by_ := by_.below hb1 by_.lt
  replace bm := bm.below hb1 bm.lt
  replace bc := bc.below hb1 bc.lt
  replace bd := bd.below hb1 bd.lt
  replace be := be.below hb1 be.lt
  replace bf := bf.below hb1 bf.lt
  replace Nm := Nm.below hb1
  replace Nc := Nc.below hb1
  replace Ng := Ng.below hb1
  replace hb := hb.trans (hb1.mono hb.size)
  clear hb1
  have Nj' := Nj.nd
  obtain ⟨Aj, cj, Bj, dj, rfl⟩ := Nj.val
  clear Nj
  clear m_bx l_bx m_by_ l_by_ m_bm l_bm m_bc l_bc m_bd l_bd m_be l_be m_bf l_bf
  have m_bx := fun i => bx.cell i
  have m_by_ := fun i => by_.cell i
  have m_bm := fun i => bm.cell i
  have m_bc := fun i => bc.cell i
  have m_bd := fun i => bd.cell i
  have m_be := fun i => be.cell i
  have m_bf := fun i => bf.cell i
  have l_bx := bx.lt
  have l_by_ := by_.lt
  have l_bm := bm.lt
  have l_bc := bc.lt
  have l_bd := bd.lt
  have l_be := be.lt
  have l_bf := bf.lt
  go_wp2_with fail
  refine (R3.out _ _ Nj').mono ?_
  rintro e wk ⟨rfl, hb1⟩
  replace bx := bx.below hb1 bx.lt
  replace by_ := by_.below hb1 by_.lt
  replace bm := bm.below hb1 bm.lt
  replace bc := bc.below hb1 bc.lt
  replace bd := bd.below hb1 bd.lt
  replace be := be.below hb1 be.lt
  replace bf := bf.below hb1 bf.lt
  replace Nm := Nm.below hb1
  replace Nc := Nc.below hb1
  replace Ng := Ng.below hb1
  replace hb := hb.trans (hb1.mono hb.size)
  clear hb1
  clear m_bx l_bx m_by_ l_by_ m_bm l_bm m_bc l_bc m_bd l_bd m_be l_be m_bf l_bf
  have m_bx := fun i => bx.cell i
  have m_by_ := fun i => by_.cell i
  have m_bm := fun i => bm.cell i
  have m_bc := fun i => bc.cell i
  have m_bd := fun i => bd.cell i
  have m_be := fun i => be.cell i
  have m_bf := fun i => bf.cell i
  have l_bx := bx.lt
  have l_by_ := by_.lt
  have l_bm := bm.lt
  have l_bc := bc.lt
  have l_bd := bd.lt
  have l_be := be.lt
  have l_bf := bf.lt
  go_wp2_with fail
  clear Nj' R1 R2 R3 J1 S1 S2 Mg Fr Fl
  clear m_bx l_bx m_by_ l_by_ m_bm l_bm m_bc l_bc m_bd l_bd m_be l_be m_bf l_bf
  replace bx := bx.drew
  replace by_ := by_.drew
  replace bm := bm.drew
  replace bc := bc.drew
  replace bd := bd.drew
  replace be := be.drew
  replace bf := bf.drew
  replace hb := hb.drew
  replace Nm := (show NdO wk.drew _ _ _ _ _ _ from Nm)
  replace Nc := (show NdO wk.drew _ _ _ _ _ _ from Nc)
  replace Ng := (show NdO wk.drew _ _ _ _ _ _ from Ng)
  refine wp_region_heldZ [] (fun w' => (w'.cell? ⟨w.heap.size, 0, none⟩ = some (.bool true) ∧ w'.cell? ⟨w.heap.size, 1, none⟩ = some (.slice A n c) ∧ w'.cell? ⟨w.heap.size, 2, none⟩ = some (.slice A' m c') ∧ w'.cell? ⟨w.heap.size, 3, none⟩ = some (.int .u64 l)) ∧ (w'.cell? ⟨w.heap.size + 1, 0, none⟩ = some (.bool true) ∧ w'.cell? ⟨w.heap.size + 1, 1, none⟩ = some (.slice (some ad') n' f) ∧ w'.cell? ⟨w.heap.size + 1, 2, none⟩ = some (.slice E' m' f') ∧ w'.cell? ⟨w.heap.size + 1, 3, none⟩ = some (.int .u64 l')) ∧ (w'.cell? ⟨gm, 0, none⟩ = some (.bool true) ∧ w'.cell? ⟨gm, 1, none⟩ = some (.slice Am kk.length cm) ∧ w'.cell? ⟨gm, 2, none⟩ = some (.slice Bm vv.length dm) ∧ w'.cell? ⟨gm, 3, none⟩ = some (.int .u64 l))) (by kernel_rfl) (by exact ⟨cellsN bx, cellsN by_, cellsN bm⟩) (fun hHeld => ?_)
  refine' wpAnyZ_takeA (i := 0) (v := ?_) (opAt rfl) (by kernel_rfl) (by kernel_rfl) (by kernel_rfl) (by kernel_rfl) (fun _ _ _ h => h) (by assumption) (by rfl) (fun w hSw => ?_) ?_
  rotate_left
  · (try dsimp only at hSw); go_simp; (try with_reducible rfl)
  try simp only [Act.put, List.setIfInBounds_toArray, List.set_cons_zero, List.set_cons_succ]
  refine' wpAnyZ_takeA (i := 1) (v := ?_) (opAt rfl) (by kernel_rfl) (by kernel_rfl) (by kernel_rfl) (by kernel_rfl) (fun _ _ _ h => h) (by assumption) (by rfl) (fun w hSw => ?_) ?_
  rotate_left
  · (try dsimp only at hSw); go_simp; (try with_reducible rfl)
  try simp only [Act.put, List.setIfInBounds_toArray, List.set_cons_zero, List.set_cons_succ]
  refine' wpAnyZ_takeA (i := 2) (v := ?_) (opAt rfl) (by kernel_rfl) (by kernel_rfl) (by kernel_rfl) (by kernel_rfl) (fun _ _ _ h => h) (by assumption) (by rfl) (fun w hSw => ?_) ?_
  rotate_left
  · (try dsimp only at hSw); go_simp; (try with_reducible rfl)
  try simp only [Act.put, List.setIfInBounds_toArray, List.set_cons_zero, List.set_cons_succ]
  refine' wpAnyZ_takeA (i := 3) (v := ?_) (opAt rfl) (by kernel_rfl) (by kernel_rfl) (by kernel_rfl) (by kernel_rfl) (fun _ _ _ h => h) (by assumption) (by rfl) (fun w hSw => ?_) ?_
  rotate_left
  · (try dsimp only at hSw); go_simp; (try with_reducible rfl)
  try simp only [Act.put, List.setIfInBounds_toArray, List.set_cons_zero, List.set_cons_succ]
  refine' wpAnyZ_takeA (i := 4) (v := ?_) (opAt rfl) (by kernel_rfl) (by kernel_rfl) (by kernel_rfl) (by kernel_rfl) (fun _ _ _ h => h) (by assumption) (by rfl) (fun w hSw => ?_) ?_
  rotate_left
  · (try dsimp only at hSw); go_simp; (try with_reducible rfl)
  try simp only [Act.put, List.setIfInBounds_toArray, List.set_cons_zero, List.set_cons_succ]
  refine' wpAnyZ_takeA (i := 5) (v := ?_) (opAt rfl) (by kernel_rfl) (by kernel_rfl) (by kernel_rfl) (by kernel_rfl) (fun _ _ _ h => h) (by assumption) (by rfl) (fun w hSw => ?_) ?_
  rotate_left
  · (try dsimp only at hSw); go_simp; (try with_reducible rfl)
  try simp only [Act.put, List.setIfInBounds_toArray, List.set_cons_zero, List.set_cons_succ]
  refine wpAnyZ_ready (rs := [6]) (by kernel_rfl) (by simp) ?_
  refine AllReadyZ.cons (opAt rfl) (fun K hK => ?_) ?_
  · skip
    go_simp
    refine (J2.out _ hb).mono ?_
    rintro e wc ⟨⟨u, rfl, r0⟩, hb1⟩
    replace bx := bx.below hb1 bx.lt
    replace by_ := by_.below hb1 by_.lt
    replace bm := bm.below hb1 bm.lt
    replace bc := bc.below hb1 bc.lt
    replace bd := bd.below hb1 bd.lt
    replace be := be.below hb1 be.lt
    replace bf := bf.below hb1 bf.lt
    replace Nm := Nm.below hb1
    replace Nc := Nc.below hb1
    replace Ng := Ng.below hb1
    replace hb := hb.trans (hb1.mono hb.size)
    obtain ⟨Aj, cj, Bj, dj, rfl⟩ := r0.val
    clear hb1
    try go_wp2_with fail
    refine hK.out _ _ (by exact ⟨cellsN bx, cellsN by_, cellsN bm⟩) (fun hHeld => ?_)
    clear hK K
    try simp only [Act.put, List.setIfInBounds_toArray, List.set_cons_zero, List.set_cons_succ]
    refine wpAnyZ_ready (rs := [7]) (by kernel_rfl) (by simp) ?_
    refine AllReadyZ.cons (opAt rfl) (fun K hK => ?_) ?_
    · skip
      go_simp
      refine (same_any _ _ true true kk vv kk vv l l _ Hkk.out Hvv.out Hkk.out Hvv.out Nm.nd r0.nd).mono ?_
      rw [same_yes]
      rintro e wd ⟨rfl, hb1⟩
      replace bx := bx.below hb1 bx.lt
      replace by_ := by_.below hb1 by_.lt
      replace bm := bm.below hb1 bm.lt
      replace bc := bc.below hb1 bc.lt
      replace bd := bd.below hb1 bd.lt
      replace be := be.below hb1 be.lt
      replace bf := bf.below hb1 bf.lt
      replace Nc := Nc.below hb1
      replace Ng := Ng.below hb1
      replace hb := hb.trans (hb1.mono hb.size)
      clear hb1
      try go_wp2_with fail
      refine hK.out _ _ (by exact ⟨cellsN bx, cellsN by_, cellsN bm⟩) (fun hHeld => ?_)
      clear hK K
      try simp only [Act.put, List.setIfInBounds_toArray, List.set_cons_zero, List.set_cons_succ]
      refine' wpAnyZ_takeA (i := 8) (v := ?_) (opAt rfl) (by kernel_rfl) (by kernel_rfl) (by kernel_rfl) (by kernel_rfl) (fun _ _ _ h => h) (by assumption) (by rfl) (fun w hSw => ?_) ?_
      rotate_left
      · (try dsimp only at hSw); go_simp; (try with_reducible rfl)
      try simp only [Act.put, List.setIfInBounds_toArray, List.set_cons_zero, List.set_cons_succ]
      refine wpAnyZ_done (by kernel_rfl) ?_ _
      have m_bx := fun i => bx.cell i
      have m_by_ := fun i => by_.cell i
      have m_bm := fun i => bm.cell i
      have m_bc := fun i => bc.cell i
      have m_bd := fun i => bd.cell i
      have m_be := fun i => be.cell i
      have m_bf := fun i => bf.cell i
      have l_bx := bx.lt
      have l_by_ := by_.lt
      have l_bm := bm.lt
      have l_bc := bc.lt
      have l_bd := bd.lt
      have l_be := be.lt
      have l_bf := bf.lt
      go_wp2_with fail
      clear m_bx l_bx m_by_ l_by_ m_bm l_bm m_bc l_bc m_bd l_bd m_be l_be m_bf l_bf
      replace bx := bx.drew
      replace by_ := by_.drew
      replace bm := bm.drew
      replace bc := bc.drew
      replace bd := bd.drew
      replace be := be.drew
      replace bf := bf.drew
      replace hb := hb.drew
      replace Nc := (show NdO wd.drew _ _ _ _ _ _ from Nc)
      replace Ng := (show NdO wd.drew _ _ _ _ _ _ from Ng)
      refine wp_region_heldZ [] (fun w' => (w'.cell? ⟨w.heap.size, 0, none⟩ = some (.bool true) ∧ w'.cell? ⟨w.heap.size, 1, none⟩ = some (.slice A n c) ∧ w'.cell? ⟨w.heap.size, 2, none⟩ = some (.slice A' m c') ∧ w'.cell? ⟨w.heap.size, 3, none⟩ = some (.int .u64 l)) ∧ (w'.cell? ⟨w.heap.size + 1, 0, none⟩ = some (.bool true) ∧ w'.cell? ⟨w.heap.size + 1, 1, none⟩ = some (.slice (some ad') n' f) ∧ w'.cell? ⟨w.heap.size + 1, 2, none⟩ = some (.slice E' m' f') ∧ w'.cell? ⟨w.heap.size + 1, 3, none⟩ = some (.int .u64 l')) ∧ (w'.cell? ⟨gc, 0, none⟩ = some (.bool true) ∧ w'.cell? ⟨gc, 1, none⟩ = some (.slice Ac p1.length cc) ∧ w'.cell? ⟨gc, 2, none⟩ = some (.slice Bc q1.length dc) ∧ w'.cell? ⟨gc, 3, none⟩ = some (.int .u64 l)) ∧ (w'.cell? ⟨gd, 0, none⟩ = some (.bool true) ∧ w'.cell? ⟨gd, 1, none⟩ = some (.slice Ad p2.length cd) ∧ w'.cell? ⟨gd, 2, none⟩ = some (.slice Bd q2.length dd) ∧ w'.cell? ⟨gd, 3, none⟩ = some (.int .u64 l')) ∧ w'.cell? ad' = some (.int .u64 mid')) (by kernel_rfl) (by exact ⟨cellsN bx, cellsN by_, cellsN bc, cellsN bd, Zb.out _ hb⟩) (fun hHeld => ?_)
      refine' wpAnyZ_takeA (i := 0) (v := ?_) (opAt rfl) (by kernel_rfl) (by kernel_rfl) (by kernel_rfl) (by kernel_rfl) (fun _ _ _ h => h) (by assumption) (by rfl) (fun w hSw => ?_) ?_
      rotate_left
      · (try dsimp only at hSw); go_simp; (try with_reducible rfl)
      try simp only [Act.put, List.setIfInBounds_toArray, List.set_cons_zero, List.set_cons_succ]
      refine' wpAnyZ_takeA (i := 1) (v := ?_) (opAt rfl) (by kernel_rfl) (by kernel_rfl) (by kernel_rfl) (by kernel_rfl) (fun _ _ _ h => h) (by assumption) (by rfl) (fun w hSw => ?_) ?_
      rotate_left
      · (try dsimp only at hSw); go_simp; (try with_reducible rfl)
      try simp only [Act.put, List.setIfInBounds_toArray, List.set_cons_zero, List.set_cons_succ]
      refine' wpAnyZ_takeA (i := 2) (v := ?_) (opAt rfl) (by kernel_rfl) (by kernel_rfl) (by kernel_rfl) (by kernel_rfl) (fun _ _ _ h => h) (by assumption) (by rfl) (fun w hSw => ?_) ?_
      rotate_left
      · (try dsimp only at hSw); go_simp; (try with_reducible rfl)
      try simp only [Act.put, List.setIfInBounds_toArray, List.set_cons_zero, List.set_cons_succ]
      refine' wpAnyZ_takeA (i := 3) (v := ?_) (opAt rfl) (by kernel_rfl) (by kernel_rfl) (by kernel_rfl) (by kernel_rfl) (fun _ _ _ h => h) (by assumption) (by rfl) (fun w hSw => ?_) ?_
      rotate_left
      · (try dsimp only at hSw); go_simp; (try with_reducible rfl)
      try simp only [Act.put, List.setIfInBounds_toArray, List.set_cons_zero, List.set_cons_succ]
      refine' wpAnyZ_takeA (i := 4) (v := ?_) (opAt rfl) (by kernel_rfl) (by kernel_rfl) (by kernel_rfl) (by kernel_rfl) (fun _ _ _ h => h) (by assumption) (by rfl) (fun w hSw => ?_) ?_
      rotate_left
      · (try dsimp only at hSw); go_simp; (try with_reducible rfl)
      try simp only [Act.put, List.setIfInBounds_toArray, List.set_cons_zero, List.set_cons_succ]
      refine' wpAnyZ_takeA (i := 5) (v := ?_) (opAt rfl) (by kernel_rfl) (by kernel_rfl) (by kernel_rfl) (by kernel_rfl) (fun _ _ _ h => h) (by assumption) (by rfl) (fun w hSw => ?_) ?_
      rotate_left
      · (try dsimp only at hSw); go_simp; (try with_reducible rfl)
      try simp only [Act.put, List.setIfInBounds_toArray, List.set_cons_zero, List.set_cons_succ]
      refine' wpAnyZ_takeA (i := 6) (v := ?_) (opAt rfl) (by kernel_rfl) (by kernel_rfl) (by kernel_rfl) (by kernel_rfl) (fun _ _ _ h => h) (by assumption) (by rfl) (fun w hSw => ?_) ?_
      rotate_left
      · (try dsimp only at hSw); go_simp; (try with_reducible rfl)
      try simp only [Act.put, List.setIfInBounds_toArray, List.set_cons_zero, List.set_cons_succ]
      refine' wpAnyZ_takeA (i := 7) (v := ?_) (opAt rfl) (by kernel_rfl) (by kernel_rfl) (by kernel_rfl) (by kernel_rfl) (fun _ _ _ h => h) (by assumption) (by rfl) (fun w hSw => ?_) ?_
      rotate_left
      · (try dsimp only at hSw); go_simp; (try with_reducible rfl)
      try simp only [Act.put, List.setIfInBounds_toArray, List.set_cons_zero, List.set_cons_succ]
      refine' wpAnyZ_takeA (i := 8) (v := ?_) (opAt rfl) (by kernel_rfl) (by kernel_rfl) (by kernel_rfl) (by kernel_rfl) (fun _ _ _ h => h) (by assumption) (by rfl) (fun w hSw => ?_) ?_
      rotate_left
      · (try dsimp only at hSw); go_simp; (try with_reducible rfl)
      try simp only [Act.put, List.setIfInBounds_toArray, List.set_cons_zero, List.set_cons_succ]
      refine' wpAnyZ_takeA (i := 9) (v := ?_) (opAt rfl) (by kernel_rfl) (by kernel_rfl) (by kernel_rfl) (by kernel_rfl) (fun _ _ _ h => h) (by assumption) (by rfl) (fun w hSw => ?_) ?_
      rotate_left
      · (try dsimp only at hSw); go_simp; (try with_reducible rfl)
      try simp only [Act.put, List.setIfInBounds_toArray, List.set_cons_zero, List.set_cons_succ]
      refine' wpAnyZ_takeA (i := 10) (v := ?_) (opAt rfl) (by kernel_rfl) (by kernel_rfl) (by kernel_rfl) (by kernel_rfl) (fun _ _ _ h => h) (by assumption) (by rfl) (fun w hSw => ?_) ?_
      rotate_left
      · (try dsimp only at hSw); go_simp; (try with_reducible rfl)
      try simp only [Act.put, List.setIfInBounds_toArray, List.set_cons_zero, List.set_cons_succ]
      refine' wpAnyZ_takeA (i := 12) (v := ?_) (opAt rfl) (by kernel_rfl) (by kernel_rfl) (by kernel_rfl) (by kernel_rfl) (fun _ _ _ h => h) (by assumption) (by rfl) (fun w hSw => ?_) ?_
      rotate_left
      · (try dsimp only at hSw); go_simp; (try with_reducible rfl)
      try simp only [Act.put, List.setIfInBounds_toArray, List.set_cons_zero, List.set_cons_succ]
      refine' wpAnyZ_takeA (i := 13) (v := ?_) (opAt rfl) (by kernel_rfl) (by kernel_rfl) (by kernel_rfl) (by kernel_rfl) (fun _ _ _ h => h) (by assumption) (by rfl) (fun w hSw => ?_) ?_
      rotate_left
      · (try dsimp only at hSw); go_simp; (try with_reducible rfl)
      try simp only [Act.put, List.setIfInBounds_toArray, List.set_cons_zero, List.set_cons_succ]
      refine wpAnyZ_ready (rs := [11]) (by kernel_rfl) (by simp) ?_
      refine AllReadyZ.cons (opAt rfl) (fun K hK => ?_) ?_
      · skip
        go_simp
        refine (C1.out _ hb).mono ?_
        rintro e wc ⟨⟨u3, rfl, r1⟩, hb1⟩
        replace bx := bx.below hb1 bx.lt
        replace by_ := by_.below hb1 by_.lt
        replace bm := bm.below hb1 bm.lt
        replace bc := bc.below hb1 bc.lt
        replace bd := bd.below hb1 bd.lt
        replace be := be.below hb1 be.lt
        replace bf := bf.below hb1 bf.lt
        replace Nc := Nc.below hb1
        replace Ng := Ng.below hb1
        replace hb := hb.trans (hb1.mono hb.size)
        obtain ⟨A1, c1, B1, d1, rfl⟩ := r1.val
        clear hb1
        try go_wp2_with fail
        refine hK.out _ _ (by exact ⟨cellsN bx, cellsN by_, cellsN bc, cellsN bd, Zb.out _ hb⟩) (fun hHeld => ?_)
        clear hK K
        try simp only [Act.put, List.setIfInBounds_toArray, List.set_cons_zero, List.set_cons_succ]
        refine wpAnyZ_ready (rs := [14]) (by kernel_rfl) (by simp) ?_
        refine AllReadyZ.cons (opAt rfl) (fun K hK => ?_) ?_
        · skip
          go_simp
          refine (J3.out _ _ hb r1.nd).mono ?_
          rintro e wc ⟨⟨u4, rfl, r2⟩, hb1⟩
          replace bx := bx.below hb1 bx.lt
          replace by_ := by_.below hb1 by_.lt
          replace bm := bm.below hb1 bm.lt
          replace bc := bc.below hb1 bc.lt
          replace bd := bd.below hb1 bd.lt
          replace be := be.below hb1 be.lt
          replace bf := bf.below hb1 bf.lt
          replace Nc := Nc.below hb1
          replace Ng := Ng.below hb1
          replace hb := hb.trans (hb1.mono hb.size)
          obtain ⟨A2, c2, B2, d2, rfl⟩ := r2.val
          clear hb1
          try go_wp2_with fail
          refine hK.out _ _ (by exact ⟨cellsN bx, cellsN by_, cellsN bc, cellsN bd, Zb.out _ hb⟩) (fun hHeld => ?_)
          clear hK K
          try simp only [Act.put, List.setIfInBounds_toArray, List.set_cons_zero, List.set_cons_succ]
          refine wpAnyZ_ready (rs := [15]) (by kernel_rfl) (by simp) ?_
          refine AllReadyZ.cons (opAt rfl) (fun K hK => ?_) ?_
          · skip
            go_simp
            refine (same_any _ _ true true p1 q1 p1 q1 l l _ Hp1.out Hq1.out Hp1.out Hq1.out Nc.nd r2.nd).mono ?_
            rw [same_yes]
            rintro e wd ⟨rfl, hb1⟩
            replace bx := bx.below hb1 bx.lt
            replace by_ := by_.below hb1 by_.lt
            replace bm := bm.below hb1 bm.lt
            replace bc := bc.below hb1 bc.lt
            replace bd := bd.below hb1 bd.lt
            replace be := be.below hb1 be.lt
            replace bf := bf.below hb1 bf.lt
            replace Ng := Ng.below hb1
            replace hb := hb.trans (hb1.mono hb.size)
            clear hb1
            try go_wp2_with fail
            refine hK.out _ _ (by exact ⟨cellsN bx, cellsN by_, cellsN bc, cellsN bd, Zb.out _ hb⟩) (fun hHeld => ?_)
            clear hK K
            try simp only [Act.put, List.setIfInBounds_toArray, List.set_cons_zero, List.set_cons_succ]
            refine' wpAnyZ_takeA (i := 16) (v := ?_) (opAt rfl) (by kernel_rfl) (by kernel_rfl) (by kernel_rfl) (by kernel_rfl) (fun _ _ _ h => h) (by assumption) (by rfl) (fun w hSw => ?_) ?_
            rotate_left
            · (try dsimp only at hSw); go_simp; (try with_reducible rfl)
            try simp only [Act.put, List.setIfInBounds_toArray, List.set_cons_zero, List.set_cons_succ]
            refine' wpAnyZ_takeA (i := 17) (v := ?_) (opAt rfl) (by kernel_rfl) (by kernel_rfl) (by kernel_rfl) (by kernel_rfl) (fun _ _ _ h => h) (by assumption) (by rfl) (fun w hSw => ?_) ?_
            rotate_left
            · (try dsimp only at hSw); go_simp; (try with_reducible rfl)
            try simp only [Act.put, List.setIfInBounds_toArray, List.set_cons_zero, List.set_cons_succ]
            refine' wpAnyZ_takeA (i := 18) (v := ?_) (opAt rfl) (by kernel_rfl) (by kernel_rfl) (by kernel_rfl) (by kernel_rfl) (fun _ _ _ h => h) (by assumption) (by rfl) (fun w hSw => ?_) ?_
            rotate_left
            · (try dsimp only at hSw); go_simp; (try with_reducible rfl)
            try simp only [Act.put, List.setIfInBounds_toArray, List.set_cons_zero, List.set_cons_succ]
            refine' wpAnyZ_takeA (i := 19) (v := ?_) (opAt rfl) (by kernel_rfl) (by kernel_rfl) (by kernel_rfl) (by kernel_rfl) (fun _ _ _ h => h) (by assumption) (by rfl) (fun w hSw => ?_) ?_
            rotate_left
            · (try dsimp only at hSw); go_simp; (try with_reducible rfl)
            try simp only [Act.put, List.setIfInBounds_toArray, List.set_cons_zero, List.set_cons_succ]
            refine' wpAnyZ_takeA (i := 20) (v := ?_) (opAt rfl) (by kernel_rfl) (by kernel_rfl) (by kernel_rfl) (by kernel_rfl) (fun _ _ _ h => h) (by assumption) (by rfl) (fun w hSw => ?_) ?_
            rotate_left
            · (try dsimp only at hSw); go_simp; (try with_reducible rfl)
            try simp only [Act.put, List.setIfInBounds_toArray, List.set_cons_zero, List.set_cons_succ]
            refine' wpAnyZ_takeA (i := 21) (v := ?_) (opAt rfl) (by kernel_rfl) (by kernel_rfl) (by kernel_rfl) (by kernel_rfl) (fun _ _ _ h => h) (by assumption) (by rfl) (fun w hSw => ?_) ?_
            rotate_left
            · (try dsimp only at hSw); go_simp; (try with_reducible rfl)
            try simp only [Act.put, List.setIfInBounds_toArray, List.set_cons_zero, List.set_cons_succ]
            refine' wpAnyZ_takeA (i := 22) (v := ?_) (opAt rfl) (by kernel_rfl) (by kernel_rfl) (by kernel_rfl) (by kernel_rfl) (fun _ _ _ h => h) (by assumption) (by rfl) (fun w hSw => ?_) ?_
            rotate_left
            · (try dsimp only at hSw); go_simp; (try with_reducible rfl)
            try simp only [Act.put, List.setIfInBounds_toArray, List.set_cons_zero, List.set_cons_succ]
            refine' wpAnyZ_takeA (i := 23) (v := ?_) (opAt rfl) (by kernel_rfl) (by kernel_rfl) (by kernel_rfl) (by kernel_rfl) (fun _ _ _ h => h) (by assumption) (by rfl) (fun w hSw => ?_) ?_
            rotate_left
            · (try dsimp only at hSw); go_simp; (try with_reducible rfl)
            try simp only [Act.put, List.setIfInBounds_toArray, List.set_cons_zero, List.set_cons_succ]
            refine wpAnyZ_ready (rs := [24]) (by kernel_rfl) (by simp) ?_
            refine AllReadyZ.cons (opAt rfl) (fun K hK => ?_) ?_
            · skip
              go_simp
              refine (C2.out _ hb).mono ?_
              rintro e wc ⟨⟨u5, rfl, r3⟩, hb1⟩
              replace bx := bx.below hb1 bx.lt
              replace by_ := by_.below hb1 by_.lt
              replace bm := bm.below hb1 bm.lt
              replace bc := bc.below hb1 bc.lt
              replace bd := bd.below hb1 bd.lt
              replace be := be.below hb1 be.lt
              replace bf := bf.below hb1 bf.lt
              replace Ng := Ng.below hb1
              replace hb := hb.trans (hb1.mono hb.size)
              obtain ⟨A3, c3, B3, d3, rfl⟩ := r3.val
              clear hb1
              try go_wp2_with fail
              refine hK.out _ _ (by exact ⟨cellsN bx, cellsN by_, cellsN bc, cellsN bd, Zb.out _ hb⟩) (fun hHeld => ?_)
              clear hK K
              try simp only [Act.put, List.setIfInBounds_toArray, List.set_cons_zero, List.set_cons_succ]
              refine wpAnyZ_ready (rs := [25]) (by kernel_rfl) (by simp) ?_
              refine AllReadyZ.cons (opAt rfl) (fun K hK => ?_) ?_
              · skip
                go_simp
                refine (same_any _ _ true true p2 q2 p2 q2 l' l' _ Hp2.out Hq2.out Hp2.out Hq2.out Ng.nd r3.nd).mono ?_
                rw [same_yes]
                rintro e wd ⟨rfl, hb1⟩
                replace bx := bx.below hb1 bx.lt
                replace by_ := by_.below hb1 by_.lt
                replace bm := bm.below hb1 bm.lt
                replace bc := bc.below hb1 bc.lt
                replace bd := bd.below hb1 bd.lt
                replace be := be.below hb1 be.lt
                replace bf := bf.below hb1 bf.lt
                replace hb := hb.trans (hb1.mono hb.size)
                clear hb1
                try go_wp2_with fail
                refine hK.out _ _ (by exact ⟨cellsN bx, cellsN by_, cellsN bc, cellsN bd, Zb.out _ hb⟩) (fun hHeld => ?_)
                clear hK K
                try simp only [Act.put, List.setIfInBounds_toArray, List.set_cons_zero, List.set_cons_succ]
                refine' wpAnyZ_takeA (i := 26) (v := ?_) (opAt rfl) (by kernel_rfl) (by kernel_rfl) (by kernel_rfl) (by kernel_rfl) (fun _ _ _ h => h) (by assumption) (by rfl) (fun w hSw => ?_) ?_
                rotate_left
                · (try dsimp only at hSw); go_simp; (try with_reducible rfl)
                try simp only [Act.put, List.setIfInBounds_toArray, List.set_cons_zero, List.set_cons_succ]
                refine' wpAnyZ_takeA (i := 27) (v := ?_) (opAt rfl) (by kernel_rfl) (by kernel_rfl) (by kernel_rfl) (by kernel_rfl) (fun _ _ _ h => h) (by assumption) (by rfl) (fun w hSw => ?_) ?_
                rotate_left
                · (try dsimp only at hSw); go_simp; (try with_reducible rfl)
                try simp only [Act.put, List.setIfInBounds_toArray, List.set_cons_zero, List.set_cons_succ]
                refine wpAnyZ_done (by kernel_rfl) ?_ _
                have m_bx := fun i => bx.cell i
                have m_by_ := fun i => by_.cell i
                have m_bm := fun i => bm.cell i
                have m_bc := fun i => bc.cell i
                have m_bd := fun i => bd.cell i
                have m_be := fun i => be.cell i
                have m_bf := fun i => bf.cell i
                have l_bx := bx.lt
                have l_by_ := by_.lt
                have l_bm := bm.lt
                have l_bc := bc.lt
                have l_bd := bd.lt
                have l_be := be.lt
                have l_bf := bf.lt
                go_wp2_with fail
                refine (Nn.out _).mono ?_
                rintro e wk ⟨rfl, hb1⟩
                replace bx := bx.below hb1 bx.lt
                replace by_ := by_.below hb1 by_.lt
                replace bm := bm.below hb1 bm.lt
                replace bc := bc.below hb1 bc.lt
                replace bd := bd.below hb1 bd.lt
                replace be := be.below hb1 be.lt
                replace bf := bf.below hb1 bf.lt
                replace hb := hb.trans (hb1.mono hb.size)
                clear hb1
                clear m_bx l_bx m_by_ l_by_ m_bm l_bm m_bc l_bc m_bd l_bd m_be l_be m_bf l_bf
                have m_bx := fun i => bx.cell i
                have m_by_ := fun i => by_.cell i
                have m_bm := fun i => bm.cell i
                have m_bc := fun i => bc.cell i
                have m_bd := fun i => bd.cell i
                have m_be := fun i => be.cell i
                have m_bf := fun i => bf.cell i
                have l_bx := bx.lt
                have l_by_ := by_.lt
                have l_bm := bm.lt
                have l_bc := bc.lt
                have l_bd := bd.lt
                have l_be := be.lt
                have l_bf := bf.lt
                go_wp2_with fail
                refine (Nn.out _).mono ?_
                rintro e wk ⟨rfl, hb1⟩
                replace bx := bx.below hb1 bx.lt
                replace by_ := by_.below hb1 by_.lt
                replace bm := bm.below hb1 bm.lt
                replace bc := bc.below hb1 bc.lt
                replace bd := bd.below hb1 bd.lt
                replace be := be.below hb1 be.lt
                replace bf := bf.below hb1 bf.lt
                replace hb := hb.trans (hb1.mono hb.size)
                clear hb1
                clear m_bx l_bx m_by_ l_by_ m_bm l_bm m_bc l_bc m_bd l_bd m_be l_be m_bf l_bf
                have m_bx := fun i => bx.cell i
                have m_by_ := fun i => by_.cell i
                have m_bm := fun i => bm.cell i
                have m_bc := fun i => bc.cell i
                have m_bd := fun i => bd.cell i
                have m_be := fun i => be.cell i
                have m_bf := fun i => bf.cell i
                have l_bx := bx.lt
                have l_by_ := by_.lt
                have l_bm := bm.lt
                have l_bc := bc.lt
                have l_bd := bd.lt
                have l_be := be.lt
                have l_bf := bf.lt
                go_wp2_with fail
                refine (awake13 _).mono ?_
                rintro e wk ⟨rfl, hb1⟩
                replace bx := bx.below hb1 bx.lt
                replace by_ := by_.below hb1 by_.lt
                replace bm := bm.below hb1 bm.lt
                replace bc := bc.below hb1 bc.lt
                replace bd := bd.below hb1 bd.lt
                replace be := be.below hb1 be.lt
                replace bf := bf.below hb1 bf.lt
                replace hb := hb.trans (hb1.mono hb.size)
                clear hb1
                clear m_bx l_bx m_by_ l_by_ m_bm l_bm m_bc l_bc m_bd l_bd m_be l_be m_bf l_bf
                have m_bx := fun i => bx.cell i
                have m_by_ := fun i => by_.cell i
                have m_bm := fun i => bm.cell i
                have m_bc := fun i => bc.cell i
                have m_bd := fun i => bd.cell i
                have m_be := fun i => be.cell i
                have m_bf := fun i => bf.cell i
                have l_bx := bx.lt
                have l_by_ := by_.lt
                have l_bm := bm.lt
                have l_bc := bc.lt
                have l_bd := bd.lt
                have l_be := be.lt
                have l_bf := bf.lt
                go_wp2_with fail
                go_ret
                exact ⟨rfl, hb⟩
              exact AllReadyZ.nil
            exact AllReadyZ.nil
          exact AllReadyZ.nil
        exact AllReadyZ.nil
      exact AllReadyZ.nil
    exact AllReadyZ.nil
  exact AllReadyZ.nil
end Go.Proofs.Ytcmoblibjhaegaa
