/-
  The Go function InnerMerges.
-/
import Derived.Test.YtcmoblibjhaegaaIfo
import Derived.Test.YtcmoblibjhaegaaIl
import Derived.Test.YtcmoblibjhaegaaIp
import Derived.Test.YtcmoblibjhaegaaIj
namespace Go.Proofs.Ytcmoblibjhaegaa
open Go.RowKit

set_option maxRecDepth 100000 in
set_option maxHeartbeats 4000000 in
theorem imerges_big (v v' : Value) (b b' : Bool) (ks vs ks' vs' : List Int) (l l' key : Int) (w : World) (h : Nd w w.heap.size v b ks vs l) (h' : Nd w w.heap.size v' b' ks' vs' l') (hsm : ¬ (ks.length ≤ 80 ∧ vs.length ≤ 80) ∨ ((ks.length ≤ 80 ∧ vs.length ≤ 80) ∧ ¬ (ks'.length ≤ 80 ∧ vs'.length ≤ 80))) :
    Calls Try.prog 7 #[v, .int .u64 key, v'] w fun e w' => e = .returned (.bool true) ∧ Below w.heap.size w w' := by
  obtain ⟨A, c, A', c', rfl⟩ := ValN w b ks vs l v h
  obtain ⟨E, f, E', f', rfl⟩ := ValN w b' ks' vs' l' v' h'
  have S1 := hide (fun w2 => small_any b A A' ks.length c vs.length c' l w2)
  have S2 := hide (fun w2 => small_any b' E E' ks'.length f vs'.length f' l' w2)
  clear h h'
  rcases hsm with hs | ⟨hs, hs'⟩
  · rw [show (decide (ks.length ≤ 80) && decide (vs.length ≤ 80)) = false by simp; omega] at S1
    clear hs S2
    generalize ks.length = n at *
    generalize vs.length = m at *
    generalize ks'.length = n' at *
    generalize vs'.length = m' at *
    have hb := (Below.refl w.heap.size w).alloc (Nat.le_refl _) (.cells #[.bool b, .slice A n c, .slice A' m c', .int .u64 l] 27)
    have bx := Blk.new w 27 #[.bool b, .slice A n c, .slice A' m c', .int .u64 l]
    have by_ := Blk.new (w.alloc (.cells #[.bool b, .slice A n c, .slice A' m c', .int .u64 l] 27)) 27 #[.bool b', .slice E n' f, .slice E' m' f', .int .u64 l']
    replace hb := hb.alloc hb.size (.cells #[.bool b', .slice E n' f, .slice E' m' f', .int .u64 l'] 27)
    replace bx := bx.alloc (.cells #[.bool b', .slice E n' f, .slice E' m' f', .int .u64 l'] 27)
    simp only [World.size_alloc] at by_
    go_enter Try.func7, Try.ntmps7
    go_wp2_with fail
    refine (S1.out _).mono ?_
    rintro e wk ⟨rfl, hb1⟩
    replace bx := bx.below hb1 bx.lt
    replace by_ := by_.below hb1 by_.lt
    replace hb := hb.trans (hb1.mono hb.size)
    clear hb1
    have m_bx := fun i => bx.cell i
    have m_by_ := fun i => by_.cell i
    have l_bx := bx.lt
    have l_by_ := by_.lt
    go_wp2_with fail
    refine (awake13 _).mono ?_
    rintro e wk ⟨rfl, hb1⟩
    replace bx := bx.below hb1 bx.lt
    replace by_ := by_.below hb1 by_.lt
    replace hb := hb.trans (hb1.mono hb.size)
    clear hb1
    clear m_bx l_bx m_by_ l_by_
    have m_bx := fun i => bx.cell i
    have m_by_ := fun i => by_.cell i
    have l_bx := bx.lt
    have l_by_ := by_.lt
    go_wp2_with fail
    go_ret
    exact ⟨rfl, hb⟩
  · rw [show (decide (ks.length ≤ 80) && decide (vs.length ≤ 80)) = true by simp; omega] at S1
    rw [show (decide (ks'.length ≤ 80) && decide (vs'.length ≤ 80)) = false by simp; omega] at S2
    clear hs hs'
    generalize ks.length = n at *
    generalize vs.length = m at *
    generalize ks'.length = n' at *
    generalize vs'.length = m' at *
    have hb := (Below.refl w.heap.size w).alloc (Nat.le_refl _) (.cells #[.bool b, .slice A n c, .slice A' m c', .int .u64 l] 27)
    have bx := Blk.new w 27 #[.bool b, .slice A n c, .slice A' m c', .int .u64 l]
    have by_ := Blk.new (w.alloc (.cells #[.bool b, .slice A n c, .slice A' m c', .int .u64 l] 27)) 27 #[.bool b', .slice E n' f, .slice E' m' f', .int .u64 l']
    replace hb := hb.alloc hb.size (.cells #[.bool b', .slice E n' f, .slice E' m' f', .int .u64 l'] 27)
    replace bx := bx.alloc (.cells #[.bool b', .slice E n' f, .slice E' m' f', .int .u64 l'] 27)
    simp only [World.size_alloc] at by_
    go_enter Try.func7, Try.ntmps7
    go_wp2_with fail
    refine (S1.out _).mono ?_
    rintro e wk ⟨rfl, hb1⟩
    replace bx := bx.below hb1 bx.lt
    replace by_ := by_.below hb1 by_.lt
    replace hb := hb.trans (hb1.mono hb.size)
    clear hb1
    have m_bx := fun i => bx.cell i
    have m_by_ := fun i => by_.cell i
    have l_bx := bx.lt
    have l_by_ := by_.lt
    go_wp2_with fail
    refine (S2.out _).mono ?_
    rintro e wk ⟨rfl, hb1⟩
    replace bx := bx.below hb1 bx.lt
    replace by_ := by_.below hb1 by_.lt
    replace hb := hb.trans (hb1.mono hb.size)
    clear hb1
    clear m_bx l_bx m_by_ l_by_
    have m_bx := fun i => bx.cell i
    have m_by_ := fun i => by_.cell i
    have l_bx := bx.lt
    have l_by_ := by_.lt
    go_wp2_with fail
    refine (awake13 _).mono ?_
    rintro e wk ⟨rfl, hb1⟩
    replace bx := bx.below hb1 bx.lt
    replace by_ := by_.below hb1 by_.lt
    replace hb := hb.trans (hb1.mono hb.size)
    clear hb1
    clear m_bx l_bx m_by_ l_by_
    have m_bx := fun i => bx.cell i
    have m_by_ := fun i => by_.cell i
    have l_bx := bx.lt
    have l_by_ := by_.lt
    go_wp2_with fail
    go_ret
    exact ⟨rfl, hb⟩
set_option maxRecDepth 100000 in
set_option maxHeartbeats 4000000 in
theorem imerges_no1 (v v' : Value) (b b' : Bool) (ks vs ks' vs' : List Int) (l l' key : Int) (w : World) (h : Nd w w.heap.size v b ks vs l) (h' : Nd w w.heap.size v' b' ks' vs' l') (s1 : ks.length ≤ 80 ∧ vs.length ≤ 80) (s2 : ks'.length ≤ 80 ∧ vs'.length ≤ 80) (h1 : rightI b ks vs = false) :
    Calls Try.prog 7 #[v, .int .u64 key, v'] w fun e w' => e = .returned (.bool true) ∧ Below w.heap.size w w' := by
  have hf : (rightI b ks vs && rightI b' ks' vs' && rightI true (ks ++ key :: ks') (vs ++ vs')) = false := by rw [h1]; simp
  have Mg := hide (fun w2 (hB : Below w.heap.size w w2) => imerge_no v v' b b' ks vs ks' vs' l l' key w2 (by omega) (by omega) ((h.below hB).more hB.size) ((h'.below hB).more hB.size) hf)
  have Fr := hide (fun w2 (hB : Below w.heap.size w w2) => fr_no v v' b b' ks vs ks' vs' l l' key w2 (by omega) (by omega) ((h.below hB).more hB.size) ((h'.below hB).more hB.size) (.inl hf))
  have Fl := hide (fun w2 (hB : Below w.heap.size w w2) => fl_no v v' b b' ks vs ks' vs' l l' key w2 (by omega) (by omega) ((h.below hB).more hB.size) ((h'.below hB).more hB.size) (.inl hf))
  have R1 := hide (fun w2 (hB : Below w.heap.size w w2) => irright_any v b ks vs l w2 (by omega) ((h.below hB).more hB.size))
  rw [h1] at R1
  have Nn := hide (fun w2 => none_any _ false [] [] 0 w2 (by simp) (by simp) (Nd.zero w2 w2.heap.size))
  rw [same_yes] at Nn
  obtain ⟨A, c, A', c', rfl⟩ := ValN w b ks vs l v h
  obtain ⟨E, f, E', f', rfl⟩ := ValN w b' ks' vs' l' v' h'
  have S1 := hide (fun w2 => small_any b A A' ks.length c vs.length c' l w2)
  have S2 := hide (fun w2 => small_any b' E E' ks'.length f vs'.length f' l' w2)
  rw [show (decide (ks.length ≤ 80) && decide (vs.length ≤ 80)) = true by simp; omega] at S1
  rw [show (decide (ks'.length ≤ 80) && decide (vs'.length ≤ 80)) = true by simp; omega] at S2
  clear h h' s1 s2 hf h1
  generalize ks.length = n at *
  generalize vs.length = m at *
  generalize ks'.length = n' at *
  generalize vs'.length = m' at *
  have hb := (Below.refl w.heap.size w).alloc (Nat.le_refl _) (.cells #[.bool b, .slice A n c, .slice A' m c', .int .u64 l] 27)
  have bx := Blk.new w 27 #[.bool b, .slice A n c, .slice A' m c', .int .u64 l]
  have by_ := Blk.new (w.alloc (.cells #[.bool b, .slice A n c, .slice A' m c', .int .u64 l] 27)) 27 #[.bool b', .slice E n' f, .slice E' m' f', .int .u64 l']
  replace hb := hb.alloc hb.size (.cells #[.bool b', .slice E n' f, .slice E' m' f', .int .u64 l'] 27)
  replace bx := bx.alloc (.cells #[.bool b', .slice E n' f, .slice E' m' f', .int .u64 l'] 27)
  simp only [World.size_alloc] at by_
  go_enter Try.func7, Try.ntmps7
  go_wp2_with fail
  refine (S1.out _).mono ?_
  rintro e wk ⟨rfl, hb1⟩
  replace bx := bx.below hb1 bx.lt
  replace by_ := by_.below hb1 by_.lt
  replace hb := hb.trans (hb1.mono hb.size)
  clear hb1
  have m_bx := fun i => bx.cell i
  have m_by_ := fun i => by_.cell i
  have l_bx := bx.lt
  have l_by_ := by_.lt
  go_wp2_with fail
  refine (S2.out _).mono ?_
  rintro e wk ⟨rfl, hb1⟩
  replace bx := bx.below hb1 bx.lt
  replace by_ := by_.below hb1 by_.lt
  replace hb := hb.trans (hb1.mono hb.size)
  clear hb1
  clear m_bx l_bx m_by_ l_by_
  have m_bx := fun i => bx.cell i
  have m_by_ := fun i => by_.cell i
  have l_bx := bx.lt
  have l_by_ := by_.lt
  go_wp2_with fail
  refine (Mg.out _ hb).mono ?_
  rintro e wk ⟨rfl, hb1⟩
  replace bx := bx.below hb1 bx.lt
  replace by_ := by_.below hb1 by_.lt
  replace hb := hb.trans (hb1.mono hb.size)
  clear hb1
  clear m_bx l_bx m_by_ l_by_
  have bm := Blk.new wk 27 #[.bool false, .slice none 0 0, .slice none 0 0, .int .u64 0]
  replace bx := bx.alloc (.cells #[.bool false, .slice none 0 0, .slice none 0 0, .int .u64 0] 27)
  replace by_ := by_.alloc (.cells #[.bool false, .slice none 0 0, .slice none 0 0, .int .u64 0] 27)
  replace hb := hb.alloc hb.size (.cells #[.bool false, .slice none 0 0, .slice none 0 0, .int .u64 0] 27)
  have m_bx := fun i => bx.cell i
  have m_by_ := fun i => by_.cell i
  have m_bm := fun i => bm.cell i
  have l_bx := bx.lt
  have l_by_ := by_.lt
  have l_bm := bm.lt
  go_wp2_with fail
  generalize wk.alloc (.cells #[.bool false, .slice none 0 0, .slice none 0 0, .int .u64 0] 27) = wq at *
  generalize wk.heap.size = gm at *
  refine (Fr.out _ hb).mono ?_
  rintro e wk ⟨rfl, hb1⟩
  replace bx := bx.below hb1 bx.lt
  replace by_ := by_.below hb1 by_.lt
  replace bm := bm.below hb1 bm.lt
  replace hb := hb.trans (hb1.mono hb.size)
  clear hb1
  clear m_bx l_bx m_by_ l_by_ m_bm l_bm
  have bc := Blk.new wk 27 #[.bool false, .slice none 0 0, .slice none 0 0, .int .u64 0]
  replace bx := bx.alloc (.cells #[.bool false, .slice none 0 0, .slice none 0 0, .int .u64 0] 27)
  replace by_ := by_.alloc (.cells #[.bool false, .slice none 0 0, .slice none 0 0, .int .u64 0] 27)
  replace bm := bm.alloc (.cells #[.bool false, .slice none 0 0, .slice none 0 0, .int .u64 0] 27)
  replace hb := hb.alloc hb.size (.cells #[.bool false, .slice none 0 0, .slice none 0 0, .int .u64 0] 27)
  have bd := Blk.new (wk.alloc (.cells #[.bool false, .slice none 0 0, .slice none 0 0, .int .u64 0] 27)) 27 #[.bool false, .slice none 0 0, .slice none 0 0, .int .u64 0]
  rw [World.size_alloc] at bd
  replace bx := bx.alloc (.cells #[.bool false, .slice none 0 0, .slice none 0 0, .int .u64 0] 27)
  replace by_ := by_.alloc (.cells #[.bool false, .slice none 0 0, .slice none 0 0, .int .u64 0] 27)
  replace bm := bm.alloc (.cells #[.bool false, .slice none 0 0, .slice none 0 0, .int .u64 0] 27)
  replace bc := bc.alloc (.cells #[.bool false, .slice none 0 0, .slice none 0 0, .int .u64 0] 27)
  replace hb := hb.alloc hb.size (.cells #[.bool false, .slice none 0 0, .slice none 0 0, .int .u64 0] 27)
  have m_bx := fun i => bx.cell i
  have m_by_ := fun i => by_.cell i
  have m_bm := fun i => bm.cell i
  have m_bc := fun i => bc.cell i
  have m_bd := fun i => bd.cell i
  have l_bx := bx.lt
  have l_by_ := by_.lt
  have l_bm := bm.lt
  have l_bc := bc.lt
  have l_bd := bd.lt
  go_wp2_with fail
  generalize (wk.alloc (.cells #[.bool false, .slice none 0 0, .slice none 0 0, .int .u64 0] 27)).alloc (.cells #[.bool false, .slice none 0 0, .slice none 0 0, .int .u64 0] 27) = wq at *
  generalize wk.heap.size + 1 = gd at *
  generalize wk.heap.size = gc at *
  refine (Fl.out _ hb).mono ?_
  rintro e wk ⟨rfl, hb1⟩
  replace bx := bx.below hb1 bx.lt
  replace by_ := by_.below hb1 by_.lt
  replace bm := bm.below hb1 bm.lt
  replace bc := bc.below hb1 bc.lt
  replace bd := bd.below hb1 bd.lt
  replace hb := hb.trans (hb1.mono hb.size)
  clear hb1
  clear m_bx l_bx m_by_ l_by_ m_bm l_bm m_bc l_bc m_bd l_bd
  have be := Blk.new wk 27 #[.bool false, .slice none 0 0, .slice none 0 0, .int .u64 0]
  replace bx := bx.alloc (.cells #[.bool false, .slice none 0 0, .slice none 0 0, .int .u64 0] 27)
  replace by_ := by_.alloc (.cells #[.bool false, .slice none 0 0, .slice none 0 0, .int .u64 0] 27)
  replace bm := bm.alloc (.cells #[.bool false, .slice none 0 0, .slice none 0 0, .int .u64 0] 27)
  replace bc := bc.alloc (.cells #[.bool false, .slice none 0 0, .slice none 0 0, .int .u64 0] 27)
  replace bd := bd.alloc (.cells #[.bool false, .slice none 0 0, .slice none 0 0, .int .u64 0] 27)
  replace hb := hb.alloc hb.size (.cells #[.bool false, .slice none 0 0, .slice none 0 0, .int .u64 0] 27)
  have bf := Blk.new (wk.alloc (.cells #[.bool false, .slice none 0 0, .slice none 0 0, .int .u64 0] 27)) 27 #[.bool false, .slice none 0 0, .slice none 0 0, .int .u64 0]
  rw [World.size_alloc] at bf
  replace bx := bx.alloc (.cells #[.bool false, .slice none 0 0, .slice none 0 0, .int .u64 0] 27)
  replace by_ := by_.alloc (.cells #[.bool false, .slice none 0 0, .slice none 0 0, .int .u64 0] 27)
  replace bm := bm.alloc (.cells #[.bool false, .slice none 0 0, .slice none 0 0, .int .u64 0] 27)
  replace bc := bc.alloc (.cells #[.bool false, .slice none 0 0, .slice none 0 0, .int .u64 0] 27)
  replace bd := bd.alloc (.cells #[.bool false, .slice none 0 0, .slice none 0 0, .int .u64 0] 27)
  replace be := be.alloc (.cells #[.bool false, .slice none 0 0, .slice none 0 0, .int .u64 0] 27)
  replace hb := hb.alloc hb.size (.cells #[.bool false, .slice none 0 0, .slice none 0 0, .int .u64 0] 27)
  have m_bx := fun i => bx.cell i
  have m_by_ := fun i => by_.cell i
  have m_bm := fun i => bm.cell i
  have m_bc := fun i => bc.cell i
  have m_bd := fun i => bd.cell i
  have m_be := fun i => be.cell i
  have m_bf := fun i => bf.cell i
  have l_bx := bx.lt
  have l_by_ := by_.lt
  have l_bm := bm.lt
  have l_bc := bc.lt
  have l_bd := bd.lt
  have l_be := be.lt
  have l_bf := bf.lt
  go_wp2_with fail
  generalize (wk.alloc (.cells #[.bool false, .slice none 0 0, .slice none 0 0, .int .u64 0] 27)).alloc (.cells #[.bool false, .slice none 0 0, .slice none 0 0, .int .u64 0] 27) = wq at *
  generalize wk.heap.size + 1 = gf at *
  generalize wk.heap.size = ge at *
  refine (R1.out _ hb).mono ?_
  rintro e wk ⟨rfl, hb1⟩
  replace bx := bx.below hb1 bx.lt
  replace by_ := by_.below hb1 by_.lt
  replace bm := bm.below hb1 bm.lt
  replace bc := bc.below hb1 bc.lt
  replace bd := bd.below hb1 bd.lt
  replace be := be.below hb1 be.lt
  replace bf := bf.below hb1 bf.lt
  replace hb := hb.trans (hb1.mono hb.size)
  clear hb1
  clear m_bx l_bx m_by_ l_by_ m_bm l_bm m_bc l_bc m_bd l_bd m_be l_be m_bf l_bf
  have m_bx := fun i => bx.cell i
  have m_by_ := fun i => by_.cell i
  have m_bm := fun i => bm.cell i
  have m_bc := fun i => bc.cell i
  have m_bd := fun i => bd.cell i
  have m_be := fun i => be.cell i
  have m_bf := fun i => bf.cell i
  have l_bx := bx.lt
  have l_by_ := by_.lt
  have l_bm := bm.lt
  have l_bc := bc.lt
  have l_bd := bd.lt
  have l_be := be.lt
  have l_bf := bf.lt
  go_wp2_with fail
  refine (Nn.out _).mono ?_
  rintro e wk ⟨rfl, hb1⟩
  replace bx := bx.below hb1 bx.lt
  replace by_ := by_.below hb1 by_.lt
  replace bm := bm.below hb1 bm.lt
  replace bc := bc.below hb1 bc.lt
  replace bd := bd.below hb1 bd.lt
  replace be := be.below hb1 be.lt
  replace bf := bf.below hb1 bf.lt
  replace hb := hb.trans (hb1.mono hb.size)
  clear hb1
  clear m_bx l_bx m_by_ l_by_ m_bm l_bm m_bc l_bc m_bd l_bd m_be l_be m_bf l_bf
  have m_bx := fun i => bx.cell i
  have m_by_ := fun i => by_.cell i
  have m_bm := fun i => bm.cell i
  have m_bc := fun i => bc.cell i
  have m_bd := fun i => bd.cell i
  have m_be := fun i => be.cell i
  have m_bf := fun i => bf.cell i
  have l_bx := bx.lt
  have l_by_ := by_.lt
  have l_bm := bm.lt
  have l_bc := bc.lt
  have l_bd := bd.lt
  have l_be := be.lt
  have l_bf := bf.lt
  go_wp2_with fail
  refine (Nn.out _).mono ?_
  rintro e wk ⟨rfl, hb1⟩
  replace bx := bx.below hb1 bx.lt
  replace by_ := by_.below hb1 by_.lt
  replace bm := bm.below hb1 bm.lt
  replace bc := bc.below hb1 bc.lt
  replace bd := bd.below hb1 bd.lt
  replace be := be.below hb1 be.lt
  replace bf := bf.below hb1 bf.lt
  replace hb := hb.trans (hb1.mono hb.size)
  clear hb1
  clear m_bx l_bx m_by_ l_by_ m_bm l_bm m_bc l_bc m_bd l_bd m_be l_be m_bf l_bf
  have m_bx := fun i => bx.cell i
  have m_by_ := fun i => by_.cell i
  have m_bm := fun i => bm.cell i
  have m_bc := fun i => bc.cell i
  have m_bd := fun i => bd.cell i
  have m_be := fun i => be.cell i
  have m_bf := fun i => bf.cell i
  have l_bx := bx.lt
  have l_by_ := by_.lt
  have l_bm := bm.lt
  have l_bc := bc.lt
  have l_bd := bd.lt
  have l_be := be.lt
  have l_bf := bf.lt
  go_wp2_with fail
  refine (Nn.out _).mono ?_
  rintro e wk ⟨rfl, hb1⟩
  replace bx := bx.below hb1 bx.lt
  replace by_ := by_.below hb1 by_.lt
  replace bm := bm.below hb1 bm.lt
  replace bc := bc.below hb1 bc.lt
  replace bd := bd.below hb1 bd.lt
  replace be := be.below hb1 be.lt
  replace bf := bf.below hb1 bf.lt
  replace hb := hb.trans (hb1.mono hb.size)
  clear hb1
  clear m_bx l_bx m_by_ l_by_ m_bm l_bm m_bc l_bc m_bd l_bd m_be l_be m_bf l_bf
  have m_bx := fun i => bx.cell i
  have m_by_ := fun i => by_.cell i
  have m_bm := fun i => bm.cell i
  have m_bc := fun i => bc.cell i
  have m_bd := fun i => bd.cell i
  have m_be := fun i => be.cell i
  have m_bf := fun i => bf.cell i
  have l_bx := bx.lt
  have l_by_ := by_.lt
  have l_bm := bm.lt
  have l_bc := bc.lt
  have l_bd := bd.lt
  have l_be := be.lt
  have l_bf := bf.lt
  go_wp2_with fail
  refine (Nn.out _).mono ?_
  rintro e wk ⟨rfl, hb1⟩
  replace bx := bx.below hb1 bx.lt
  replace by_ := by_.below hb1 by_.lt
  replace bm := bm.below hb1 bm.lt
  replace bc := bc.below hb1 bc.lt
  replace bd := bd.below hb1 bd.lt
  replace be := be.below hb1 be.lt
  replace bf := bf.below hb1 bf.lt
  replace hb := hb.trans (hb1.mono hb.size)
  clear hb1
  clear m_bx l_bx m_by_ l_by_ m_bm l_bm m_bc l_bc m_bd l_bd m_be l_be m_bf l_bf
  have m_bx := fun i => bx.cell i
  have m_by_ := fun i => by_.cell i
  have m_bm := fun i => bm.cell i
  have m_bc := fun i => bc.cell i
  have m_bd := fun i => bd.cell i
  have m_be := fun i => be.cell i
  have m_bf := fun i => bf.cell i
  have l_bx := bx.lt
  have l_by_ := by_.lt
  have l_bm := bm.lt
  have l_bc := bc.lt
  have l_bd := bd.lt
  have l_be := be.lt
  have l_bf := bf.lt
  go_wp2_with fail
  refine (Nn.out _).mono ?_
  rintro e wk ⟨rfl, hb1⟩
  replace bx := bx.below hb1 bx.lt
  replace by_ := by_.below hb1 by_.lt
  replace bm := bm.below hb1 bm.lt
  replace bc := bc.below hb1 bc.lt
  replace bd := bd.below hb1 bd.lt
  replace be := be.below hb1 be.lt
  replace bf := bf.below hb1 bf.lt
  replace hb := hb.trans (hb1.mono hb.size)
  clear hb1
  clear m_bx l_bx m_by_ l_by_ m_bm l_bm m_bc l_bc m_bd l_bd m_be l_be m_bf l_bf
  have m_bx := fun i => bx.cell i
  have m_by_ := fun i => by_.cell i
  have m_bm := fun i => bm.cell i
  have m_bc := fun i => bc.cell i
  have m_bd := fun i => bd.cell i
  have m_be := fun i => be.cell i
  have m_bf := fun i => bf.cell i
  have l_bx := bx.lt
  have l_by_ := by_.lt
  have l_bm := bm.lt
  have l_bc := bc.lt
  have l_bd := bd.lt
  have l_be := be.lt
  have l_bf := bf.lt
  go_wp2_with fail
  refine (awake13 _).mono ?_
  rintro e wk ⟨rfl, hb1⟩
  replace bx := bx.below hb1 bx.lt
  replace by_ := by_.below hb1 by_.lt
  replace bm := bm.below hb1 bm.lt
  replace bc := bc.below hb1 bc.lt
  replace bd := bd.below hb1 bd.lt
  replace be := be.below hb1 be.lt
  replace bf := bf.below hb1 bf.lt
  replace hb := hb.trans (hb1.mono hb.size)
  clear hb1
  clear m_bx l_bx m_by_ l_by_ m_bm l_bm m_bc l_bc m_bd l_bd m_be l_be m_bf l_bf
  have m_bx := fun i => bx.cell i
  have m_by_ := fun i => by_.cell i
  have m_bm := fun i => bm.cell i
  have m_bc := fun i => bc.cell i
  have m_bd := fun i => bd.cell i
  have m_be := fun i => be.cell i
  have m_bf := fun i => bf.cell i
  have l_bx := bx.lt
  have l_by_ := by_.lt
  have l_bm := bm.lt
  have l_bc := bc.lt
  have l_bd := bd.lt
  have l_be := be.lt
  have l_bf := bf.lt
  go_wp2_with fail
  go_ret
  exact ⟨rfl, hb⟩
set_option maxRecDepth 100000 in
set_option maxHeartbeats 4000000 in
theorem imerges_no2 (v v' : Value) (b b' : Bool) (ks vs ks' vs' : List Int) (l l' key : Int) (w : World) (h : Nd w w.heap.size v b ks vs l) (h' : Nd w w.heap.size v' b' ks' vs' l') (s1 : ks.length ≤ 80 ∧ vs.length ≤ 80) (s2 : ks'.length ≤ 80 ∧ vs'.length ≤ 80) (h1 : rightI b ks vs = true) (h2 : rightI b' ks' vs' = false) :
    Calls Try.prog 7 #[v, .int .u64 key, v'] w fun e w' => e = .returned (.bool true) ∧ Below w.heap.size w w' := by
  have hf : (rightI b ks vs && rightI b' ks' vs' && rightI true (ks ++ key :: ks') (vs ++ vs')) = false := by rw [h1, h2]; simp
  have Mg := hide (fun w2 (hB : Below w.heap.size w w2) => imerge_no v v' b b' ks vs ks' vs' l l' key w2 (by omega) (by omega) ((h.below hB).more hB.size) ((h'.below hB).more hB.size) hf)
  have Fr := hide (fun w2 (hB : Below w.heap.size w w2) => fr_no v v' b b' ks vs ks' vs' l l' key w2 (by omega) (by omega) ((h.below hB).more hB.size) ((h'.below hB).more hB.size) (.inl hf))
  have Fl := hide (fun w2 (hB : Below w.heap.size w w2) => fl_no v v' b b' ks vs ks' vs' l l' key w2 (by omega) (by omega) ((h.below hB).more hB.size) ((h'.below hB).more hB.size) (.inl hf))
  have R1 := hide (fun w2 (hB : Below w.heap.size w w2) => irright_any v b ks vs l w2 (by omega) ((h.below hB).more hB.size))
  rw [h1] at R1
  have R2 := hide (fun w2 (hB : Below w.heap.size w w2) => irright_any v' b' ks' vs' l' w2 (by omega) ((h'.below hB).more hB.size))
  rw [h2] at R2
  have Nn := hide (fun w2 => none_any _ false [] [] 0 w2 (by simp) (by simp) (Nd.zero w2 w2.heap.size))
  rw [same_yes] at Nn
  obtain ⟨A, c, A', c', rfl⟩ := ValN w b ks vs l v h
  obtain ⟨E, f, E', f', rfl⟩ := ValN w b' ks' vs' l' v' h'
  have S1 := hide (fun w2 => small_any b A A' ks.length c vs.length c' l w2)
  have S2 := hide (fun w2 => small_any b' E E' ks'.length f vs'.length f' l' w2)
  rw [show (decide (ks.length ≤ 80) && decide (vs.length ≤ 80)) = true by simp; omega] at S1
  rw [show (decide (ks'.length ≤ 80) && decide (vs'.length ≤ 80)) = true by simp; omega] at S2
  clear h h' s1 s2 hf h1 h2
  generalize ks.length = n at *
  generalize vs.length = m at *
  generalize ks'.length = n' at *
  generalize vs'.length = m' at *
  have hb := (Below.refl w.heap.size w).alloc (Nat.le_refl _) (.cells #[.bool b, .slice A n c, .slice A' m c', .int .u64 l] 27)
  have bx := Blk.new w 27 #[.bool b, .slice A n c, .slice A' m c', .int .u64 l]
  have by_ := Blk.new (w.alloc (.cells #[.bool b, .slice A n c, .slice A' m c', .int .u64 l] 27)) 27 #[.bool b', .slice E n' f, .slice E' m' f', .int .u64 l']
  replace hb := hb.alloc hb.size (.cells #[.bool b', .slice E n' f, .slice E' m' f', .int .u64 l'] 27)
  replace bx := bx.alloc (.cells #[.bool b', .slice E n' f, .slice E' m' f', .int .u64 l'] 27)
  simp only [World.size_alloc] at by_
  go_enter Try.func7, Try.ntmps7
  go_wp2_with fail
  refine (S1.out _).mono ?_
  rintro e wk ⟨rfl, hb1⟩
  replace bx := bx.below hb1 bx.lt
  replace by_ := by_.below hb1 by_.lt
  replace hb := hb.trans (hb1.mono hb.size)
  clear hb1
  have m_bx := fun i => bx.cell i
  have m_by_ := fun i => by_.cell i
  have l_bx := bx.lt
  have l_by_ := by_.lt
  go_wp2_with fail
  refine (S2.out _).mono ?_
  rintro e wk ⟨rfl, hb1⟩
  replace bx := bx.below hb1 bx.lt
  replace by_ := by_.below hb1 by_.lt
  replace hb := hb.trans (hb1.mono hb.size)
  clear hb1
  clear m_bx l_bx m_by_ l_by_
  have m_bx := fun i => bx.cell i
  have m_by_ := fun i => by_.cell i
  have l_bx := bx.lt
  have l_by_ := by_.lt
  go_wp2_with fail
  refine (Mg.out _ hb).mono ?_
  rintro e wk ⟨rfl, hb1⟩
  replace bx := bx.below hb1 bx.lt
  replace by_ := by_.below hb1 by_.lt
  replace hb := hb.trans (hb1.mono hb.size)
  clear hb1
  clear m_bx l_bx m_by_ l_by_
  have bm := Blk.new wk 27 #[.bool false, .slice none 0 0, .slice none 0 0, .int .u64 0]
  replace bx := bx.alloc (.cells #[.bool false, .slice none 0 0, .slice none 0 0, .int .u64 0] 27)
  replace by_ := by_.alloc (.cells #[.bool false, .slice none 0 0, .slice none 0 0, .int .u64 0] 27)
  replace hb := hb.alloc hb.size (.cells #[.bool false, .slice none 0 0, .slice none 0 0, .int .u64 0] 27)
  have m_bx := fun i => bx.cell i
  have m_by_ := fun i => by_.cell i
  have m_bm := fun i => bm.cell i
  have l_bx := bx.lt
  have l_by_ := by_.lt
  have l_bm := bm.lt
  go_wp2_with fail
  generalize wk.alloc (.cells #[.bool false, .slice none 0 0, .slice none 0 0, .int .u64 0] 27) = wq at *
  generalize wk.heap.size = gm at *
  refine (Fr.out _ hb).mono ?_
  rintro e wk ⟨rfl, hb1⟩
  replace bx := bx.below hb1 bx.lt
  replace by_ := by_.below hb1 by_.lt
  replace bm := bm.below hb1 bm.lt
  replace hb := hb.trans (hb1.mono hb.size)
  clear hb1
  clear m_bx l_bx m_by_ l_by_ m_bm l_bm
  have bc := Blk.new wk 27 #[.bool false, .slice none 0 0, .slice none 0 0, .int .u64 0]
  replace bx := bx.alloc (.cells #[.bool false, .slice none 0 0, .slice none 0 0, .int .u64 0] 27)
  replace by_ := by_.alloc (.cells #[.bool false, .slice none 0 0, .slice none 0 0, .int .u64 0] 27)
  replace bm := bm.alloc (.cells #[.bool false, .slice none 0 0, .slice none 0 0, .int .u64 0] 27)
  replace hb := hb.alloc hb.size (.cells #[.bool false, .slice none 0 0, .slice none 0 0, .int .u64 0] 27)
  have bd := Blk.new (wk.alloc (.cells #[.bool false, .slice none 0 0, .slice none 0 0, .int .u64 0] 27)) 27 #[.bool false, .slice none 0 0, .slice none 0 0, .int .u64 0]
  rw [World.size_alloc] at bd
  replace bx := bx.alloc (.cells #[.bool false, .slice none 0 0, .slice none 0 0, .int .u64 0] 27)
  replace by_ := by_.alloc (.cells #[.bool false, .slice none 0 0, .slice none 0 0, .int .u64 0] 27)
  replace bm := bm.alloc (.cells #[.bool false, .slice none 0 0, .slice none 0 0, .int .u64 0] 27)
  replace bc := bc.alloc (.cells #[.bool false, .slice none 0 0, .slice none 0 0, .int .u64 0] 27)
  replace hb := hb.alloc hb.size (.cells #[.bool false, .slice none 0 0, .slice none 0 0, .int .u64 0] 27)
  have m_bx := fun i => bx.cell i
  have m_by_ := fun i => by_.cell i
  have m_bm := fun i => bm.cell i
  have m_bc := fun i => bc.cell i
  have m_bd := fun i => bd.cell i
  have l_bx := bx.lt
  have l_by_ := by_.lt
  have l_bm := bm.lt
  have l_bc := bc.lt
  have l_bd := bd.lt
  go_wp2_with fail
  generalize (wk.alloc (.cells #[.bool false, .slice none 0 0, .slice none 0 0, .int .u64 0] 27)).alloc (.cells #[.bool false, .slice none 0 0, .slice none 0 0, .int .u64 0] 27) = wq at *
  generalize wk.heap.size + 1 = gd at *
  generalize wk.heap.size = gc at *
  refine (Fl.out _ hb).mono ?_
  rintro e wk ⟨rfl, hb1⟩
  replace bx := bx.below hb1 bx.lt
  replace by_ := by_.below hb1 by_.lt
  replace bm := bm.below hb1 bm.lt
  replace bc := bc.below hb1 bc.lt
  replace bd := bd.below hb1 bd.lt
  replace hb := hb.trans (hb1.mono hb.size)
  clear hb1
  clear m_bx l_bx m_by_ l_by_ m_bm l_bm m_bc l_bc m_bd l_bd
  have be := Blk.new wk 27 #[.bool false, .slice none 0 0, .slice none 0 0, .int .u64 0]
  replace bx := bx.alloc (.cells #[.bool false, .slice none 0 0, .slice none 0 0, .int .u64 0] 27)
  replace by_ := by_.alloc (.cells #[.bool false, .slice none 0 0, .slice none 0 0, .int .u64 0] 27)
  replace bm := bm.alloc (.cells #[.bool false, .slice none 0 0, .slice none 0 0, .int .u64 0] 27)
  replace bc := bc.alloc (.cells #[.bool false, .slice none 0 0, .slice none 0 0, .int .u64 0] 27)
  replace bd := bd.alloc (.cells #[.bool false, .slice none 0 0, .slice none 0 0, .int .u64 0] 27)
  replace hb := hb.alloc hb.size (.cells #[.bool false, .slice none 0 0, .slice none 0 0, .int .u64 0] 27)
  have bf := Blk.new (wk.alloc (.cells #[.bool false, .slice none 0 0, .slice none 0 0, .int .u64 0] 27)) 27 #[.bool false, .slice none 0 0, .slice none 0 0, .int .u64 0]
  rw [World.size_alloc] at bf
  replace bx := bx.alloc (.cells #[.bool false, .slice none 0 0, .slice none 0 0, .int .u64 0] 27)
  replace by_ := by_.alloc (.cells #[.bool false, .slice none 0 0, .slice none 0 0, .int .u64 0] 27)
  replace bm := bm.alloc (.cells #[.bool false, .slice none 0 0, .slice none 0 0, .int .u64 0] 27)
  replace bc := bc.alloc (.cells #[.bool false, .slice none 0 0, .slice none 0 0, .int .u64 0] 27)
  replace bd := bd.alloc (.cells #[.bool false, .slice none 0 0, .slice none 0 0, .int .u64 0] 27)
  replace be := be.alloc (.cells #[.bool false, .slice none 0 0, .slice none 0 0, .int .u64 0] 27)
  replace hb := hb.alloc hb.size (.cells #[.bool false, .slice none 0 0, .slice none 0 0, .int .u64 0] 27)
  have m_bx := fun i => bx.cell i
  have m_by_ := fun i => by_.cell i
  have m_bm := fun i => bm.cell i
  have m_bc := fun i => bc.cell i
  have m_bd := fun i => bd.cell i
  have m_be := fun i => be.cell i
  have m_bf := fun i => bf.cell i
  have l_bx := bx.lt
  have l_by_ := by_.lt
  have l_bm := bm.lt
  have l_bc := bc.lt
  have l_bd := bd.lt
  have l_be := be.lt
  have l_bf := bf.lt
  go_wp2_with fail
  generalize (wk.alloc (.cells #[.bool false, .slice none 0 0, .slice none 0 0, .int .u64 0] 27)).alloc (.cells #[.bool false, .slice none 0 0, .slice none 0 0, .int .u64 0] 27) = wq at *
  generalize wk.heap.size + 1 = gf at *
  generalize wk.heap.size = ge at *
  refine (R1.out _ hb).mono ?_
  rintro e wk ⟨rfl, hb1⟩
  replace bx := bx.below hb1 bx.lt
  replace by_ := by_.below hb1 by_.lt
  replace bm := bm.below hb1 bm.lt
  replace bc := bc.below hb1 bc.lt
  replace bd := bd.below hb1 bd.lt
  replace be := be.below hb1 be.lt
  replace bf := bf.below hb1 bf.lt
  replace hb := hb.trans (hb1.mono hb.size)
  clear hb1
  clear m_bx l_bx m_by_ l_by_ m_bm l_bm m_bc l_bc m_bd l_bd m_be l_be m_bf l_bf
  have m_bx := fun i => bx.cell i
  have m_by_ := fun i => by_.cell i
  have m_bm := fun i => bm.cell i
  have m_bc := fun i => bc.cell i
  have m_bd := fun i => bd.cell i
  have m_be := fun i => be.cell i
  have m_bf := fun i => bf.cell i
  have l_bx := bx.lt
  have l_by_ := by_.lt
  have l_bm := bm.lt
  have l_bc := bc.lt
  have l_bd := bd.lt
  have l_be := be.lt
  have l_bf := bf.lt
  go_wp2_with fail
  refine (R2.out _ hb).mono ?_
  rintro e wk ⟨rfl, hb1⟩
  replace bx := bx.below hb1 bx.lt
  replace by_ := by_.below hb1 by_.lt
  replace bm := bm.below hb1 bm.lt
  replace bc := bc.below hb1 bc.lt
  replace bd := bd.below hb1 bd.lt
  replace be := be.below hb1 be.lt
  replace bf := bf.below hb1 bf.lt
  replace hb := hb.trans (hb1.mono hb.size)
  clear hb1
  clear m_bx l_bx m_by_ l_by_ m_bm l_bm m_bc l_bc m_bd l_bd m_be l_be m_bf l_bf
  have m_bx := fun i => bx.cell i
  have m_by_ := fun i => by_.cell i
  have m_bm := fun i => bm.cell i
  have m_bc := fun i => bc.cell i
  have m_bd := fun i => bd.cell i
  have m_be := fun i => be.cell i
  have m_bf := fun i => bf.cell i
  have l_bx := bx.lt
  have l_by_ := by_.lt
  have l_bm := bm.lt
  have l_bc := bc.lt
  have l_bd := bd.lt
  have l_be := be.lt
  have l_bf := bf.lt
  go_wp2_with fail
  refine (Nn.out _).mono ?_
  rintro e wk ⟨rfl, hb1⟩
  replace bx := bx.below hb1 bx.lt
  replace by_ := by_.below hb1 by_.lt
  replace bm := bm.below hb1 bm.lt
  replace bc := bc.below hb1 bc.lt
  replace bd := bd.below hb1 bd.lt
  replace be := be.below hb1 be.lt
  replace bf := bf.below hb1 bf.lt
  replace hb := hb.trans (hb1.mono hb.size)
  clear hb1
  clear m_bx l_bx m_by_ l_by_ m_bm l_bm m_bc l_bc m_bd l_bd m_be l_be m_bf l_bf
  have m_bx := fun i => bx.cell i
  have m_by_ := fun i => by_.cell i
  have m_bm := fun i => bm.cell i
  have m_bc := fun i => bc.cell i
  have m_bd := fun i => bd.cell i
  have m_be := fun i => be.cell i
  have m_bf := fun i => bf.cell i
  have l_bx := bx.lt
  have l_by_ := by_.lt
  have l_bm := bm.lt
  have l_bc := bc.lt
  have l_bd := bd.lt
  have l_be := be.lt
  have l_bf := bf.lt
  go_wp2_with fail
  refine (Nn.out _).mono ?_
  rintro e wk ⟨rfl, hb1⟩
  replace bx := bx.below hb1 bx.lt
  replace by_ := by_.below hb1 by_.lt
  replace bm := bm.below hb1 bm.lt
  replace bc := bc.below hb1 bc.lt
  replace bd := bd.below hb1 bd.lt
  replace be := be.below hb1 be.lt
  replace bf := bf.below hb1 bf.lt
  replace hb := hb.trans (hb1.mono hb.size)
  clear hb1
  clear m_bx l_bx m_by_ l_by_ m_bm l_bm m_bc l_bc m_bd l_bd m_be l_be m_bf l_bf
  have m_bx := fun i => bx.cell i
  have m_by_ := fun i => by_.cell i
  have m_bm := fun i => bm.cell i
  have m_bc := fun i => bc.cell i
  have m_bd := fun i => bd.cell i
  have m_be := fun i => be.cell i
  have m_bf := fun i => bf.cell i
  have l_bx := bx.lt
  have l_by_ := by_.lt
  have l_bm := bm.lt
  have l_bc := bc.lt
  have l_bd := bd.lt
  have l_be := be.lt
  have l_bf := bf.lt
  go_wp2_with fail
  refine (Nn.out _).mono ?_
  rintro e wk ⟨rfl, hb1⟩
  replace bx := bx.below hb1 bx.lt
  replace by_ := by_.below hb1 by_.lt
  replace bm := bm.below hb1 bm.lt
  replace bc := bc.below hb1 bc.lt
  replace bd := bd.below hb1 bd.lt
  replace be := be.below hb1 be.lt
  replace bf := bf.below hb1 bf.lt
  replace hb := hb.trans (hb1.mono hb.size)
  clear hb1
  clear m_bx l_bx m_by_ l_by_ m_bm l_bm m_bc l_bc m_bd l_bd m_be l_be m_bf l_bf
  have m_bx := fun i => bx.cell i
  have m_by_ := fun i => by_.cell i
  have m_bm := fun i => bm.cell i
  have m_bc := fun i => bc.cell i
  have m_bd := fun i => bd.cell i
  have m_be := fun i => be.cell i
  have m_bf := fun i => bf.cell i
  have l_bx := bx.lt
  have l_by_ := by_.lt
  have l_bm := bm.lt
  have l_bc := bc.lt
  have l_bd := bd.lt
  have l_be := be.lt
  have l_bf := bf.lt
  go_wp2_with fail
  refine (Nn.out _).mono ?_
  rintro e wk ⟨rfl, hb1⟩
  replace bx := bx.below hb1 bx.lt
  replace by_ := by_.below hb1 by_.lt
  replace bm := bm.below hb1 bm.lt
  replace bc := bc.below hb1 bc.lt
  replace bd := bd.below hb1 bd.lt
  replace be := be.below hb1 be.lt
  replace bf := bf.below hb1 bf.lt
  replace hb := hb.trans (hb1.mono hb.size)
  clear hb1
  clear m_bx l_bx m_by_ l_by_ m_bm l_bm m_bc l_bc m_bd l_bd m_be l_be m_bf l_bf
  have m_bx := fun i => bx.cell i
  have m_by_ := fun i => by_.cell i
  have m_bm := fun i => bm.cell i
  have m_bc := fun i => bc.cell i
  have m_bd := fun i => bd.cell i
  have m_be := fun i => be.cell i
  have m_bf := fun i => bf.cell i
  have l_bx := bx.lt
  have l_by_ := by_.lt
  have l_bm := bm.lt
  have l_bc := bc.lt
  have l_bd := bd.lt
  have l_be := be.lt
  have l_bf := bf.lt
  go_wp2_with fail
  refine (Nn.out _).mono ?_
  rintro e wk ⟨rfl, hb1⟩
  replace bx := bx.below hb1 bx.lt
  replace by_ := by_.below hb1 by_.lt
  replace bm := bm.below hb1 bm.lt
  replace bc := bc.below hb1 bc.lt
  replace bd := bd.below hb1 bd.lt
  replace be := be.below hb1 be.lt
  replace bf := bf.below hb1 bf.lt
  replace hb := hb.trans (hb1.mono hb.size)
  clear hb1
  clear m_bx l_bx m_by_ l_by_ m_bm l_bm m_bc l_bc m_bd l_bd m_be l_be m_bf l_bf
  have m_bx := fun i => bx.cell i
  have m_by_ := fun i => by_.cell i
  have m_bm := fun i => bm.cell i
  have m_bc := fun i => bc.cell i
  have m_bd := fun i => bd.cell i
  have m_be := fun i => be.cell i
  have m_bf := fun i => bf.cell i
  have l_bx := bx.lt
  have l_by_ := by_.lt
  have l_bm := bm.lt
  have l_bc := bc.lt
  have l_bd := bd.lt
  have l_be := be.lt
  have l_bf := bf.lt
  go_wp2_with fail
  refine (awake13 _).mono ?_
  rintro e wk ⟨rfl, hb1⟩
  replace bx := bx.below hb1 bx.lt
  replace by_ := by_.below hb1 by_.lt
  replace bm := bm.below hb1 bm.lt
  replace bc := bc.below hb1 bc.lt
  replace bd := bd.below hb1 bd.lt
  replace be := be.below hb1 be.lt
  replace bf := bf.below hb1 bf.lt
  replace hb := hb.trans (hb1.mono hb.size)
  clear hb1
  clear m_bx l_bx m_by_ l_by_ m_bm l_bm m_bc l_bc m_bd l_bd m_be l_be m_bf l_bf
  have m_bx := fun i => bx.cell i
  have m_by_ := fun i => by_.cell i
  have m_bm := fun i => bm.cell i
  have m_bc := fun i => bc.cell i
  have m_bd := fun i => bd.cell i
  have m_be := fun i => be.cell i
  have m_bf := fun i => bf.cell i
  have l_bx := bx.lt
  have l_by_ := by_.lt
  have l_bm := bm.lt
  have l_bc := bc.lt
  have l_bd := bd.lt
  have l_be := be.lt
  have l_bf := bf.lt
  go_wp2_with fail
  go_ret
  exact ⟨rfl, hb⟩
set_option maxRecDepth 100000 in
set_option maxHeartbeats 4000000 in
theorem imerges_no3 (v v' : Value) (b b' : Bool) (ks vs ks' vs' : List Int) (l l' key : Int) (w : World) (h : Nd w w.heap.size v b ks vs l) (h' : Nd w w.heap.size v' b' ks' vs' l') (s1 : ks.length ≤ 80 ∧ vs.length ≤ 80) (s2 : ks'.length ≤ 80 ∧ vs'.length ≤ 80) (h1 : rightI b ks vs = true) (h2 : rightI b' ks' vs' = true) (h3 : rightI true (ks ++ key :: ks') (vs ++ vs') = false) :
    Calls Try.prog 7 #[v, .int .u64 key, v'] w fun e w' => e = .returned (.bool true) ∧ Below w.heap.size w w' := by
  have hf : (rightI b ks vs && rightI b' ks' vs' && rightI true (ks ++ key :: ks') (vs ++ vs')) = false := by rw [h1, h2, h3]; simp
  have Mg := hide (fun w2 (hB : Below w.heap.size w w2) => imerge_no v v' b b' ks vs ks' vs' l l' key w2 (by omega) (by omega) ((h.below hB).more hB.size) ((h'.below hB).more hB.size) hf)
  have Fr := hide (fun w2 (hB : Below w.heap.size w w2) => fr_no v v' b b' ks vs ks' vs' l l' key w2 (by omega) (by omega) ((h.below hB).more hB.size) ((h'.below hB).more hB.size) (.inl hf))
  have Fl := hide (fun w2 (hB : Below w.heap.size w w2) => fl_no v v' b b' ks vs ks' vs' l l' key w2 (by omega) (by omega) ((h.below hB).more hB.size) ((h'.below hB).more hB.size) (.inl hf))
  have R1 := hide (fun w2 (hB : Below w.heap.size w w2) => irright_any v b ks vs l w2 (by omega) ((h.below hB).more hB.size))
  rw [h1] at R1
  have R2 := hide (fun w2 (hB : Below w.heap.size w w2) => irright_any v' b' ks' vs' l' w2 (by omega) ((h'.below hB).more hB.size))
  rw [h2] at R2
  have hv1 := (rightI_parts h1).2.1
  have hv2 := (rightI_parts h2).2.1
  have J1 := hide (fun w2 (hB : Below w.heap.size w w2) => rjoinI_any v v' b b' ks vs ks' vs' l l' key 0 w2 (by omega) (by omega) (by omega) (by omega) (by omega) (by omega) ((h.below hB).more hB.size) ((h'.below hB).more hB.size))
  have R3 := hide (fun (u : Value) w2 (hN : Nd w2 w2.heap.size u true (ks ++ key :: ks') (vs ++ vs') 0) => irright_any u true (ks ++ key :: ks') (vs ++ vs') 0 w2 (by rw [List.length_append, List.length_cons]; omega) hN)
  rw [h3] at R3
  generalize ks ++ key :: ks' = kk at *
  generalize vs ++ vs' = vv at *
  clear hv1 hv2
  have Nn := hide (fun w2 => none_any _ false [] [] 0 w2 (by simp) (by simp) (Nd.zero w2 w2.heap.size))
  rw [same_yes] at Nn
  obtain ⟨A, c, A', c', rfl⟩ := ValN w b ks vs l v h
  obtain ⟨E, f, E', f', rfl⟩ := ValN w b' ks' vs' l' v' h'
  have S1 := hide (fun w2 => small_any b A A' ks.length c vs.length c' l w2)
  have S2 := hide (fun w2 => small_any b' E E' ks'.length f vs'.length f' l' w2)
  rw [show (decide (ks.length ≤ 80) && decide (vs.length ≤ 80)) = true by simp; omega] at S1
  rw [show (decide (ks'.length ≤ 80) && decide (vs'.length ≤ 80)) = true by simp; omega] at S2
  clear h h' s1 s2 hf h1 h2 h3
  generalize ks.length = n at *
  generalize vs.length = m at *
  generalize ks'.length = n' at *
  generalize vs'.length = m' at *
  have hb := (Below.refl w.heap.size w).alloc (Nat.le_refl _) (.cells #[.bool b, .slice A n c, .slice A' m c', .int .u64 l] 27)
  have bx := Blk.new w 27 #[.bool b, .slice A n c, .slice A' m c', .int .u64 l]
  have by_ := Blk.new (w.alloc (.cells #[.bool b, .slice A n c, .slice A' m c', .int .u64 l] 27)) 27 #[.bool b', .slice E n' f, .slice E' m' f', .int .u64 l']
  replace hb := hb.alloc hb.size (.cells #[.bool b', .slice E n' f, .slice E' m' f', .int .u64 l'] 27)
  replace bx := bx.alloc (.cells #[.bool b', .slice E n' f, .slice E' m' f', .int .u64 l'] 27)
  simp only [World.size_alloc] at by_
  go_enter Try.func7, Try.ntmps7
  go_wp2_with fail
  refine (S1.out _).mono ?_
  rintro e wk ⟨rfl, hb1⟩
  replace bx := bx.below hb1 bx.lt
  replace by_ := by_.below hb1 by_.lt
  replace hb := hb.trans (hb1.mono hb.size)
  clear hb1
  have m_bx := fun i => bx.cell i
  have m_by_ := fun i => by_.cell i
  have l_bx := bx.lt
  have l_by_ := by_.lt
  go_wp2_with fail
  refine (S2.out _).mono ?_
  rintro e wk ⟨rfl, hb1⟩
  replace bx := bx.below hb1 bx.lt
  replace by_ := by_.below hb1 by_.lt
  replace hb := hb.trans (hb1.mono hb.size)
  clear hb1
  clear m_bx l_bx m_by_ l_by_
  have m_bx := fun i => bx.cell i
  have m_by_ := fun i => by_.cell i
  have l_bx := bx.lt
  have l_by_ := by_.lt
  go_wp2_with fail
  refine (Mg.out _ hb).mono ?_
  rintro e wk ⟨rfl, hb1⟩
  replace bx := bx.below hb1 bx.lt
  replace by_ := by_.below hb1 by_.lt
  replace hb := hb.trans (hb1.mono hb.size)
  clear hb1
  clear m_bx l_bx m_by_ l_by_
  have bm := Blk.new wk 27 #[.bool false, .slice none 0 0, .slice none 0 0, .int .u64 0]
  replace bx := bx.alloc (.cells #[.bool false, .slice none 0 0, .slice none 0 0, .int .u64 0] 27)
  replace by_ := by_.alloc (.cells #[.bool false, .slice none 0 0, .slice none 0 0, .int .u64 0] 27)
  replace hb := hb.alloc hb.size (.cells #[.bool false, .slice none 0 0, .slice none 0 0, .int .u64 0] 27)
  have m_bx := fun i => bx.cell i
  have m_by_ := fun i => by_.cell i
  have m_bm := fun i => bm.cell i
  have l_bx := bx.lt
  have l_by_ := by_.lt
  have l_bm := bm.lt
  go_wp2_with fail
  generalize wk.alloc (.cells #[.bool false, .slice none 0 0, .slice none 0 0, .int .u64 0] 27) = wq at *
  generalize wk.heap.size = gm at *
  refine (Fr.out _ hb).mono ?_
  rintro e wk ⟨rfl, hb1⟩
  replace bx := bx.below hb1 bx.lt
  replace by_ := by_.below hb1 by_.lt
  replace bm := bm.below hb1 bm.lt
  replace hb := hb.trans (hb1.mono hb.size)
  clear hb1
  clear m_bx l_bx m_by_ l_by_ m_bm l_bm
  have bc := Blk.new wk 27 #[.bool false, .slice none 0 0, .slice none 0 0, .int .u64 0]
  replace bx := bx.alloc (.cells #[.bool false, .slice none 0 0, .slice none 0 0, .int .u64 0] 27)
  replace by_ := by_.alloc (.cells #[.bool false, .slice none 0 0, .slice none 0 0, .int .u64 0] 27)
  replace bm := bm.alloc (.cells #[.bool false, .slice none 0 0, .slice none 0 0, .int .u64 0] 27)
  replace hb := hb.alloc hb.size (.cells #[.bool false, .slice none 0 0, .slice none 0 0, .int .u64 0] 27)
  have bd := Blk.new (wk.alloc (.cells #[.bool false, .slice none 0 0, .slice none 0 0, .int .u64 0] 27)) 27 #[.bool false, .slice none 0 0, .slice none 0 0, .int .u64 0]
  rw [World.size_alloc] at bd
  replace bx := bx.alloc (.cells #[.bool false, .slice none 0 0, .slice none 0 0, .int .u64 0] 27)
  replace by_ := by_.alloc (.cells #[.bool false, .slice none 0 0, .slice none 0 0, .int .u64 0] 27)
  replace bm := bm.alloc (.cells #[.bool false, .slice none 0 0, .slice none 0 0, .int .u64 0] 27)
  replace bc := bc.alloc (.cells #[.bool false, .slice none 0 0, .slice none 0 0, .int .u64 0] 27)
  replace hb := hb.alloc hb.size (.cells #[.bool false, .slice none 0 0, .slice none 0 0, .int .u64 0] 27)
  have m_bx := fun i => bx.cell i
  have m_by_ := fun i => by_.cell i
  have m_bm := fun i => bm.cell i
  have m_bc := fun i => bc.cell i
  have m_bd := fun i => bd.cell i
  have l_bx := bx.lt
  have l_by_ := by_.lt
  have l_bm := bm.lt
  have l_bc := bc.lt
  have l_bd := bd.lt
  go_wp2_with fail
  generalize (wk.alloc (.cells #[.bool false, .slice none 0 0, .slice none 0 0, .int .u64 0] 27)).alloc (.cells #[.bool false, .slice none 0 0, .slice none 0 0, .int .u64 0] 27) = wq at *
  generalize wk.heap.size + 1 = gd at *
  generalize wk.heap.size = gc at *
  refine (Fl.out _ hb).mono ?_
  rintro e wk ⟨rfl, hb1⟩
  replace bx := bx.below hb1 bx.lt
  replace by_ := by_.below hb1 by_.lt
  replace bm := bm.below hb1 bm.lt
  replace bc := bc.below hb1 bc.lt
  replace bd := bd.below hb1 bd.lt
  replace hb := hb.trans (hb1.mono hb.size)
  clear hb1
  clear m_bx l_bx m_by_ l_by_ m_bm l_bm m_bc l_bc m_bd l_bd
  have be := Blk.new wk 27 #[.bool false, .slice none 0 0, .slice none 0 0, .int .u64 0]
  replace bx := bx.alloc (.cells #[.bool false, .slice none 0 0, .slice none 0 0, .int .u64 0] 27)
  replace by_ := by_.alloc (.cells #[.bool false, .slice none 0 0, .slice none 0 0, .int .u64 0] 27)
  replace bm := bm.alloc (.cells #[.bool false, .slice none 0 0, .slice none 0 0, .int .u64 0] 27)
  replace bc := bc.alloc (.cells #[.bool false, .slice none 0 0, .slice none 0 0, .int .u64 0] 27)
  replace bd := bd.alloc (.cells #[.bool false, .slice none 0 0, .slice none 0 0, .int .u64 0] 27)
  replace hb := hb.alloc hb.size (.cells #[.bool false, .slice none 0 0, .slice none 0 0, .int .u64 0] 27)
  have bf := Blk.new (wk.alloc (.cells #[.bool false, .slice none 0 0, .slice none 0 0, .int .u64 0] 27)) 27 #[.bool false, .slice none 0 0, .slice none 0 0, .int .u64 0]
  rw [World.size_alloc] at bf
  replace bx := bx.alloc (.cells #[.bool false, .slice none 0 0, .slice none 0 0, .int .u64 0] 27)
  replace by_ := by_.alloc (.cells #[.bool false, .slice none 0 0, .slice none 0 0, .int .u64 0] 27)
  replace bm := bm.alloc (.cells #[.bool false, .slice none 0 0, .slice none 0 0, .int .u64 0] 27)
  replace bc := bc.alloc (.cells #[.bool false, .slice none 0 0, .slice none 0 0, .int .u64 0] 27)
  replace bd := bd.alloc (.cells #[.bool false, .slice none 0 0, .slice none 0 0, .int .u64 0] 27)
  replace be := be.alloc (.cells #[.bool false, .slice none 0 0, .slice none 0 0, .int .u64 0] 27)
  replace hb := hb.alloc hb.size (.cells #[.bool false, .slice none 0 0, .slice none 0 0, .int .u64 0] 27)
  have m_bx := fun i => bx.cell i
  have m_by_ := fun i => by_.cell i
  have m_bm := fun i => bm.cell i
  have m_bc := fun i => bc.cell i
  have m_bd := fun i => bd.cell i
  have m_be := fun i => be.cell i
  have m_bf := fun i => bf.cell i
  have l_bx := bx.lt
  have l_by_ := by_.lt
  have l_bm := bm.lt
  have l_bc := bc.lt
  have l_bd := bd.lt
  have l_be := be.lt
  have l_bf := bf.lt
  go_wp2_with fail
  generalize (wk.alloc (.cells #[.bool false, .slice none 0 0, .slice none 0 0, .int .u64 0] 27)).alloc (.cells #[.bool false, .slice none 0 0, .slice none 0 0, .int .u64 0] 27) = wq at *
  generalize wk.heap.size + 1 = gf at *
  generalize wk.heap.size = ge at *
  refine (R1.out _ hb).mono ?_
  rintro e wk ⟨rfl, hb1⟩
  replace bx := bx.below hb1 bx.lt
  replace by_ := by_.below hb1 by_.lt
  replace bm := bm.below hb1 bm.lt
  replace bc := bc.below hb1 bc.lt
  replace bd := bd.below hb1 bd.lt
  replace be := be.below hb1 be.lt
  replace bf := bf.below hb1 bf.lt
  replace hb := hb.trans (hb1.mono hb.size)
  clear hb1
  clear m_bx l_bx m_by_ l_by_ m_bm l_bm m_bc l_bc m_bd l_bd m_be l_be m_bf l_bf
  have m_bx := fun i => bx.cell i
  have m_by_ := fun i => by_.cell i
  have m_bm := fun i => bm.cell i
  have m_bc := fun i => bc.cell i
  have m_bd := fun i => bd.cell i
  have m_be := fun i => be.cell i
  have m_bf := fun i => bf.cell i
  have l_bx := bx.lt
  have l_by_ := by_.lt
  have l_bm := bm.lt
  have l_bc := bc.lt
  have l_bd := bd.lt
  have l_be := be.lt
  have l_bf := bf.lt
  go_wp2_with fail
  refine (R2.out _ hb).mono ?_
  rintro e wk ⟨rfl, hb1⟩
  replace bx := bx.below hb1 bx.lt
  replace by_ := by_.below hb1 by_.lt
  replace bm := bm.below hb1 bm.lt
  replace bc := bc.below hb1 bc.lt
  replace bd := bd.below hb1 bd.lt
  replace be := be.below hb1 be.lt
  replace bf := bf.below hb1 bf.lt
  replace hb := hb.trans (hb1.mono hb.size)
  clear hb1
  clear m_bx l_bx m_by_ l_by_ m_bm l_bm m_bc l_bc m_bd l_bd m_be l_be m_bf l_bf
  have m_bx := fun i => bx.cell i
  have m_by_ := fun i => by_.cell i
  have m_bm := fun i => bm.cell i
  have m_bc := fun i => bc.cell i
  have m_bd := fun i => bd.cell i
  have m_be := fun i => be.cell i
  have m_bf := fun i => bf.cell i
  have l_bx := bx.lt
  have l_by_ := by_.lt
  have l_bm := bm.lt
  have l_bc := bc.lt
  have l_bd := bd.lt
  have l_be := be.lt
  have l_bf := bf.lt
  go_wp2_with fail
  refine (J1.out _ hb).mono ?_
  rintro e wk ⟨⟨u, rfl, Nj⟩, hb1⟩
  replace bx := bx.below hb1 bx.lt
  replace by_ := by_.below hb1 by_.lt
  replace bm := bm.below hb1 bm.lt
  replace bc := bc.below hb1 bc.lt
  replace bd := bd.below hb1 bd.lt
  replace be := be.below hb1 be.lt
  replace bf := bf.below hb1 bf.lt
  replace hb := hb.trans (hb1.mono hb.size)
  clear hb1
  have Nj' := Nj.nd
  obtain ⟨Aj, cj, Bj, dj, rfl⟩ := Nj.val
  clear Nj
  clear m_bx l_bx m_by_ l_by_ m_bm l_bm m_bc l_bc m_bd l_bd m_be l_be m_bf l_bf
  have m_bx := fun i => bx.cell i
  have m_by_ := fun i => by_.cell i
  have m_bm := fun i => bm.cell i
  have m_bc := fun i => bc.cell i
  have m_bd := fun i => bd.cell i
  have m_be := fun i => be.cell i
  have m_bf := fun i => bf.cell i
  have l_bx := bx.lt
  have l_by_ := by_.lt
  have l_bm := bm.lt
  have l_bc := bc.lt
  have l_bd := bd.lt
  have l_be := be.lt
  have l_bf := bf.lt
  go_wp2_with fail
  refine (R3.out _ _ Nj').mono ?_
  rintro e wk ⟨rfl, hb1⟩
  replace bx := bx.below hb1 bx.lt
  replace by_ := by_.below hb1 by_.lt
  replace bm := bm.below hb1 bm.lt
  replace bc := bc.below hb1 bc.lt
  replace bd := bd.below hb1 bd.lt
  replace be := be.below hb1 be.lt
  replace bf := bf.below hb1 bf.lt
  replace hb := hb.trans (hb1.mono hb.size)
  clear hb1
  clear m_bx l_bx m_by_ l_by_ m_bm l_bm m_bc l_bc m_bd l_bd m_be l_be m_bf l_bf
  have m_bx := fun i => bx.cell i
  have m_by_ := fun i => by_.cell i
  have m_bm := fun i => bm.cell i
  have m_bc := fun i => bc.cell i
  have m_bd := fun i => bd.cell i
  have m_be := fun i => be.cell i
  have m_bf := fun i => bf.cell i
  have l_bx := bx.lt
  have l_by_ := by_.lt
  have l_bm := bm.lt
  have l_bc := bc.lt
  have l_bd := bd.lt
  have l_be := be.lt
  have l_bf := bf.lt
  go_wp2_with fail
  refine (Nn.out _).mono ?_
  rintro e wk ⟨rfl, hb1⟩
  replace bx := bx.below hb1 bx.lt
  replace by_ := by_.below hb1 by_.lt
  replace bm := bm.below hb1 bm.lt
  replace bc := bc.below hb1 bc.lt
  replace bd := bd.below hb1 bd.lt
  replace be := be.below hb1 be.lt
  replace bf := bf.below hb1 bf.lt
  replace hb := hb.trans (hb1.mono hb.size)
  clear hb1
  clear m_bx l_bx m_by_ l_by_ m_bm l_bm m_bc l_bc m_bd l_bd m_be l_be m_bf l_bf
  have m_bx := fun i => bx.cell i
  have m_by_ := fun i => by_.cell i
  have m_bm := fun i => bm.cell i
  have m_bc := fun i => bc.cell i
  have m_bd := fun i => bd.cell i
  have m_be := fun i => be.cell i
  have m_bf := fun i => bf.cell i
  have l_bx := bx.lt
  have l_by_ := by_.lt
  have l_bm := bm.lt
  have l_bc := bc.lt
  have l_bd := bd.lt
  have l_be := be.lt
  have l_bf := bf.lt
  go_wp2_with fail
  refine (Nn.out _).mono ?_
  rintro e wk ⟨rfl, hb1⟩
  replace bx := bx.below hb1 bx.lt
  replace by_ := by_.below hb1 by_.lt
  replace bm := bm.below hb1 bm.lt
  replace bc := bc.below hb1 bc.lt
  replace bd := bd.below hb1 bd.lt
  replace be := be.below hb1 be.lt
  replace bf := bf.below hb1 bf.lt
  replace hb := hb.trans (hb1.mono hb.size)
  clear hb1
  clear m_bx l_bx m_by_ l_by_ m_bm l_bm m_bc l_bc m_bd l_bd m_be l_be m_bf l_bf
  have m_bx := fun i => bx.cell i
  have m_by_ := fun i => by_.cell i
  have m_bm := fun i => bm.cell i
  have m_bc := fun i => bc.cell i
  have m_bd := fun i => bd.cell i
  have m_be := fun i => be.cell i
  have m_bf := fun i => bf.cell i
  have l_bx := bx.lt
  have l_by_ := by_.lt
  have l_bm := bm.lt
  have l_bc := bc.lt
  have l_bd := bd.lt
  have l_be := be.lt
  have l_bf := bf.lt
  go_wp2_with fail
  refine (Nn.out _).mono ?_
  rintro e wk ⟨rfl, hb1⟩
  replace bx := bx.below hb1 bx.lt
  replace by_ := by_.below hb1 by_.lt
  replace bm := bm.below hb1 bm.lt
  replace bc := bc.below hb1 bc.lt
  replace bd := bd.below hb1 bd.lt
  replace be := be.below hb1 be.lt
  replace bf := bf.below hb1 bf.lt
  replace hb := hb.trans (hb1.mono hb.size)
  clear hb1
  clear m_bx l_bx m_by_ l_by_ m_bm l_bm m_bc l_bc m_bd l_bd m_be l_be m_bf l_bf
  have m_bx := fun i => bx.cell i
  have m_by_ := fun i => by_.cell i
  have m_bm := fun i => bm.cell i
  have m_bc := fun i => bc.cell i
  have m_bd := fun i => bd.cell i
  have m_be := fun i => be.cell i
  have m_bf := fun i => bf.cell i
  have l_bx := bx.lt
  have l_by_ := by_.lt
  have l_bm := bm.lt
  have l_bc := bc.lt
  have l_bd := bd.lt
  have l_be := be.lt
  have l_bf := bf.lt
  go_wp2_with fail
  refine (Nn.out _).mono ?_
  rintro e wk ⟨rfl, hb1⟩
  replace bx := bx.below hb1 bx.lt
  replace by_ := by_.below hb1 by_.lt
  replace bm := bm.below hb1 bm.lt
  replace bc := bc.below hb1 bc.lt
  replace bd := bd.below hb1 bd.lt
  replace be := be.below hb1 be.lt
  replace bf := bf.below hb1 bf.lt
  replace hb := hb.trans (hb1.mono hb.size)
  clear hb1
  clear m_bx l_bx m_by_ l_by_ m_bm l_bm m_bc l_bc m_bd l_bd m_be l_be m_bf l_bf
  have m_bx := fun i => bx.cell i
  have m_by_ := fun i => by_.cell i
  have m_bm := fun i => bm.cell i
  have m_bc := fun i => bc.cell i
  have m_bd := fun i => bd.cell i
  have m_be := fun i => be.cell i
  have m_bf := fun i => bf.cell i
  have l_bx := bx.lt
  have l_by_ := by_.lt
  have l_bm := bm.lt
  have l_bc := bc.lt
  have l_bd := bd.lt
  have l_be := be.lt
  have l_bf := bf.lt
  go_wp2_with fail
  refine (Nn.out _).mono ?_
  rintro e wk ⟨rfl, hb1⟩
  replace bx := bx.below hb1 bx.lt
  replace by_ := by_.below hb1 by_.lt
  replace bm := bm.below hb1 bm.lt
  replace bc := bc.below hb1 bc.lt
  replace bd := bd.below hb1 bd.lt
  replace be := be.below hb1 be.lt
  replace bf := bf.below hb1 bf.lt
  replace hb := hb.trans (hb1.mono hb.size)
  clear hb1
  clear m_bx l_bx m_by_ l_by_ m_bm l_bm m_bc l_bc m_bd l_bd m_be l_be m_bf l_bf
  have m_bx := fun i => bx.cell i
  have m_by_ := fun i => by_.cell i
  have m_bm := fun i => bm.cell i
  have m_bc := fun i => bc.cell i
  have m_bd := fun i => bd.cell i
  have m_be := fun i => be.cell i
  have m_bf := fun i => bf.cell i
  have l_bx := bx.lt
  have l_by_ := by_.lt
  have l_bm := bm.lt
  have l_bc := bc.lt
  have l_bd := bd.lt
  have l_be := be.lt
  have l_bf := bf.lt
  go_wp2_with fail
  refine (awake13 _).mono ?_
  rintro e wk ⟨rfl, hb1⟩
  replace bx := bx.below hb1 bx.lt
  replace by_ := by_.below hb1 by_.lt
  replace bm := bm.below hb1 bm.lt
  replace bc := bc.below hb1 bc.lt
  replace bd := bd.below hb1 bd.lt
  replace be := be.below hb1 be.lt
  replace bf := bf.below hb1 bf.lt
  replace hb := hb.trans (hb1.mono hb.size)
  clear hb1
  clear m_bx l_bx m_by_ l_by_ m_bm l_bm m_bc l_bc m_bd l_bd m_be l_be m_bf l_bf
  have m_bx := fun i => bx.cell i
  have m_by_ := fun i => by_.cell i
  have m_bm := fun i => bm.cell i
  have m_bc := fun i => bc.cell i
  have m_bd := fun i => bd.cell i
  have m_be := fun i => be.cell i
  have m_bf := fun i => bf.cell i
  have l_bx := bx.lt
  have l_by_ := by_.lt
  have l_bm := bm.lt
  have l_bc := bc.lt
  have l_bd := bd.lt
  have l_be := be.lt
  have l_bf := bf.lt
  go_wp2_with fail
  go_ret
  exact ⟨rfl, hb⟩
end Go.Proofs.Ytcmoblibjhaegaa
