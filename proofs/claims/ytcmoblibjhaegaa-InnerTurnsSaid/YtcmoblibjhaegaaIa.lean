/-
  inner.Add.
-/
import Derived.Test.YtcmoblibjhaegaaImm
namespace Go.Proofs.Ytcmoblibjhaegaa
open Go.RowKit

set_option maxRecDepth 100000 in
set_option maxHeartbeats 4000000 in
theorem add1_yes (b : Bool) (A A' : Option Addr) (c c' : Nat) (ks vs : List Int) (l i key child : Int) (gx gi gk gc go : Nat) (w : World) (hl : ks.length ≤ 900) (h : Nd w w.heap.size (.agg #[.bool b, .slice A ks.length c, .slice A' vs.length c', .int .u64 l]) b ks vs l) (bx : Blk w gx 27 #[.bool b, .slice A ks.length c, .slice A' vs.length c', .int .u64 l]) (bi : Blk w gi 3 #[.int .i64 i]) (bk : Blk w gk 22 #[.int .u64 key]) (bc : Blk w gc 22 #[.int .u64 child]) (bo : Blk w go 27 #[.bool false, .slice none 0 0, .slice none 0 0, .int .u64 0]) (hxo : gx ≠ go) (hr : rightI b ks vs = true) (p q : Nat) (hi : i = (p : Int)) (hp : p = q + 1) (hpv : p ≤ vs.length) (h3 : rightI true (ks.take q ++ [key] ++ ks.drop q) (vs.take p ++ [child] ++ vs.drop p) = true) :
    Calls Try.prog 36 #[.pointer (some ⟨gx, 0, none⟩), .pointer (some ⟨gi, 0, none⟩), .pointer (some ⟨gk, 0, none⟩), .pointer (some ⟨gc, 0, none⟩), .pointer (some ⟨go, 0, none⟩)] w fun e w' => e = .returned (.tuple #[]) ∧ Part [go] w w' ∧ NodeOut go w.heap.size (ks.take q ++ [key] ++ ks.drop q) (vs.take p ++ [child] ++ vs.drop p) l w' := by
  have Rt := hide (fun w2 (hB : Below w.heap.size w w2) => iright_any _ b ks vs l w2 (by omega) ((h.below hB).more hB.size))
  rw [hr] at Rt
  have hkv := (rightI_parts hr).2.1
  subst hi
  have HQ1 := hide (show q ≤ ks.length by omega)
  have HQ2 := hide hpv
  have HL1 := hide (show ks.length ≤ 1000 by omega)
  have HL2 := hide (show vs.length ≤ 1000 by omega)
  obtain ⟨y1, hy1⟩ : ∃ y, y = ks.take q ++ [key] ++ ks.drop q := ⟨_, rfl⟩
  obtain ⟨y2, hy2⟩ : ∃ y, y = vs.take p ++ [child] ++ vs.drop p := ⟨_, rfl⟩
  rw [← hy1, ← hy2] at h3 ⊢
  have HLy := hide (show y1.length ≤ 1000000 by rw [hy1]; simp; omega)
  have HY1 := hide hy1
  have HY2 := hide hy2
  have HR := hide h3
  have hpq : (p : Int) - 1 = (q : Int) := by omega
  have hp1 : (1 : Int) ≤ (p : Int) := by omega
  have hp2 : (p : Int) ≤ (vs.length : Int) := by omega
  have hw1 : IntKind.i64.wrap (q : Int) = (q : Int) := IntWalk.i64_in _ (by omega)
  clear hy1 hy2 h3 hr hkv hp hpv hl
  obtain ⟨k1, u1, e1, S1, S2⟩ := h
  simp only [Value.agg.injEq, Array.mk.injEq, List.cons.injEq, and_true, true_and] at e1
  obtain ⟨rfl, rfl⟩ := e1
  generalize hnn : ks.length = n at *
  generalize hmm : vs.length = m at *
  replace hnn := hide hnn
  replace hmm := hide hmm
  have HXO := hide hxo
  have HIO := hide (bi.ne_ bo (by decide))
  have HKO := hide (bk.ne_ bo (by decide))
  have HCO := hide (bc.ne_ bo (by decide))
  have mx := fun i => bx.cell i
  have mi := fun i => bi.cell i
  go_enter Try.func36, Try.ntmps36
  go_wp2_with fail
  refine (Rt.out _ (Below.refl _ _)).mono ?_
  rintro e wa ⟨rfl, hb⟩
  replace bx := bx.below hb bx.lt
  replace bi := bi.below hb bi.lt
  replace bk := bk.below hb bk.lt
  replace bc := bc.below hb bc.lt
  replace bo := bo.below hb bo.lt
  clear mx mi
  have mx := fun i => bx.cell i
  have mi := fun i => bi.cell i
  go_wp2_with fail
  refine (must_yes _).mono ?_
  rintro e wb ⟨rfl, rfl⟩
  go_wp2_with fail
  clear mx mi
  refine wp_region_heldZ [] (fun w' => w'.cell? ⟨gx, 1, none⟩ = some (.slice A n c) ∧ w'.cell? ⟨gx, 2, none⟩ = some (.slice A' m c') ∧ w'.cell? ⟨gx, 3, none⟩ = some (.int .u64 l) ∧ w'.cell? ⟨gi, 0, none⟩ = some (.int .i64 p) ∧ w'.cell? ⟨gk, 0, none⟩ = some (.int .u64 key) ∧ w'.cell? ⟨gc, 0, none⟩ = some (.int .u64 child)) (by kernel_rfl) (by exact ⟨bx.cell 1, bx.cell 2, bx.cell 3, bi.cell 0, bk.cell 0, bc.cell 0⟩) (fun hHeld => ?_)
  replace bx := bx.drew
  replace bi := bi.drew
  replace bk := bk.drew
  replace bc := bc.drew
  replace bo := bo.drew
  replace hb := hb.drew
  generalize wb.drew = w0x at *
  refine' wpAnyZ_takeA (i := 0) (v := ?_) (opAt rfl) (by kernel_rfl) (by kernel_rfl) (by kernel_rfl) (by kernel_rfl) (fun _ _ _ h => h) (by assumption) (by rfl) (fun w hSw => ?_) ?_
  rotate_left
  · (try dsimp only at hSw); go_simp; (try with_reducible rfl)
  try simp only [Act.put, List.setIfInBounds_toArray, List.set_cons_zero, List.set_cons_succ]
  refine' wpAnyZ_takeA (i := 1) (v := ?_) (opAt rfl) (by kernel_rfl) (by kernel_rfl) (by kernel_rfl) (by kernel_rfl) (fun _ _ _ h => h) (by assumption) (by rfl) (fun w hSw => ?_) ?_
  rotate_left
  · (try dsimp only at hSw); go_simp; (try with_reducible rfl)
  try simp only [Act.put, List.setIfInBounds_toArray, List.set_cons_zero, List.set_cons_succ]
  refine' wpAnyZ_takeA (i := 2) (v := ?_) (opAt rfl) (by kernel_rfl) (by kernel_rfl) (by kernel_rfl) (by kernel_rfl) (fun _ _ _ h => h) (by assumption) (by rfl) (fun w hSw => ?_) ?_
  rotate_left
  · (try dsimp only at hSw); go_simp; (try with_reducible rfl)
  try simp only [Act.put, List.setIfInBounds_toArray, List.set_cons_zero, List.set_cons_succ]
  refine' wpAnyZ_takeA (i := 3) (v := ?_) (opAt rfl) (by kernel_rfl) (by kernel_rfl) (by kernel_rfl) (by kernel_rfl) (fun _ _ _ h => h) (by assumption) (by rfl) (fun w hSw => ?_) ?_
  rotate_left
  · (try dsimp only at hSw); go_simp; (try with_reducible rfl)
  try simp only [Act.put, List.setIfInBounds_toArray, List.set_cons_zero, List.set_cons_succ]
  refine' wpAnyZ_takeA (i := 4) (v := ?_) (opAt rfl) (by kernel_rfl) (by kernel_rfl) (by kernel_rfl) (by kernel_rfl) (fun _ _ _ h => h) (by assumption) (by rfl) (fun w hSw => ?_) ?_
  rotate_left
  · (try dsimp only at hSw); go_simp; (try with_reducible rfl)
  try simp only [Act.put, List.setIfInBounds_toArray, List.set_cons_zero, List.set_cons_succ]
  refine' wpAnyZ_takeA (i := 7) (v := ?_) (opAt rfl) (by kernel_rfl) (by kernel_rfl) (by kernel_rfl) (by kernel_rfl) (fun _ _ _ h => h) (by assumption) (by rfl) (fun w hSw => ?_) ?_
  rotate_left
  · (try dsimp only at hSw); go_simp; (try with_reducible rfl)
  try simp only [Act.put, List.setIfInBounds_toArray, List.set_cons_zero, List.set_cons_succ]
  refine' wpAnyZ_takeA (i := 8) (v := ?_) (opAt rfl) (by kernel_rfl) (by kernel_rfl) (by kernel_rfl) (by kernel_rfl) (fun _ _ _ h => h) (by assumption) (by rfl) (fun w hSw => ?_) ?_
  rotate_left
  · (try dsimp only at hSw); go_simp; (try with_reducible rfl)
  try simp only [Act.put, List.setIfInBounds_toArray, List.set_cons_zero, List.set_cons_succ]
  refine' wpAnyZ_takeA (i := 9) (v := ?_) (opAt rfl) (by kernel_rfl) (by kernel_rfl) (by kernel_rfl) (by kernel_rfl) (fun _ _ _ h => h) (by assumption) (by rfl) (fun w hSw => ?_) ?_
  rotate_left
  · (try dsimp only at hSw); go_simp; (try with_reducible rfl)
  try simp only [Act.put, List.setIfInBounds_toArray, List.set_cons_zero, List.set_cons_succ]
  refine' wpAnyZ_takeA (i := 10) (v := ?_) (opAt rfl) (by kernel_rfl) (by kernel_rfl) (by kernel_rfl) (by kernel_rfl) (fun _ _ _ h => h) (by assumption) (by rfl) (fun w hSw => ?_) ?_
  rotate_left
  · (try dsimp only at hSw); go_simp; (try with_reducible rfl)
  try simp only [Act.put, List.setIfInBounds_toArray, List.set_cons_zero, List.set_cons_succ]
  refine' wpAnyZ_takeA (i := 13) (v := ?_) (opAt rfl) (by kernel_rfl) (by kernel_rfl) (by kernel_rfl) (by kernel_rfl) (fun _ _ _ h => h) (by assumption) (by rfl) (fun w hSw => ?_) ?_
  rotate_left
  · (try dsimp only at hSw); go_simp; (try with_reducible rfl)
  try simp only [Act.put, List.setIfInBounds_toArray, List.set_cons_zero, List.set_cons_succ]
  refine' wpAnyZ_takeA (i := 14) (v := ?_) (opAt rfl) (by kernel_rfl) (by kernel_rfl) (by kernel_rfl) (by kernel_rfl) (fun _ _ _ h => h) (by assumption) (by rfl) (fun w hSw => ?_) ?_
  rotate_left
  · (try dsimp only at hSw); go_simp; (try with_reducible rfl)
  try simp only [Act.put, List.setIfInBounds_toArray, List.set_cons_zero, List.set_cons_succ]
  refine wpAnyZ_ready (rs := [5, 11]) (by kernel_rfl) (by simp) ?_
  refine AllReadyZ.cons (opAt rfl) (fun K hK => ?_) ?_
  · skip
    go_simp
    replace bx := bx.alloc (.cells #[.int .u64 key] 22)
    replace bi := bi.alloc (.cells #[.int .u64 key] 22)
    replace bk := bk.alloc (.cells #[.int .u64 key] 22)
    replace bc := bc.alloc (.cells #[.int .u64 key] 22)
    replace bo := bo.alloc (.cells #[.int .u64 key] 22)
    replace hb := hb.alloc hb.size (.cells #[.int .u64 key] 22)
    have b5 := Blk.new w0x 22 #[.int .u64 key]
    generalize w0x.alloc (.cells #[.int .u64 key] 22) = w1x at *
    generalize w0x.heap.size = g5 at *
    refine hK.out _ _ (by exact ⟨bx.cell 1, bx.cell 2, bx.cell 3, bi.cell 0, bk.cell 0, bc.cell 0⟩) (fun hHeld => ?_)
    clear hK K
    try simp only [Act.put, List.setIfInBounds_toArray, List.set_cons_zero, List.set_cons_succ]
    refine wpAnyZ_ready (rs := [6, 11]) (by kernel_rfl) (by simp) ?_
    refine AllReadyZ.cons (opAt rfl) (fun K hK => ?_) ?_
    · skip
      go_simp
      refine (with_any _ _ ks [key] q _ (by first | exact HQ1.out | (rw [hnn.out]; exact HQ1.out) | (rw [hmm.out]; exact HQ1.out) | (rw [hnn'.out]; exact HQ1.out) | (rw [hmm'.out]; exact HQ1.out)) (by first | exact HL1.out | (rw [hnn.out]; exact HL1.out) | (rw [hmm.out]; exact HL1.out) | (rw [hnn'.out]; exact HL1.out) | (rw [hmm'.out]; exact HL1.out)) (by simp) ((S1.below hb).more hb.size) (sl_one b5)).mono ?_
      rintro e w2x ⟨⟨u, rfl, r6⟩, hb1⟩
      replace r6 := r6.mono (lo' := w.heap.size) hb.size
      rw [← HY1.out] at r6
      replace bx := bx.below hb1 bx.lt
      replace bi := bi.below hb1 bi.lt
      replace bk := bk.below hb1 bk.lt
      replace bc := bc.below hb1 bc.lt
      replace bo := bo.below hb1 bo.lt
      replace b5 := b5.below hb1 b5.lt
      replace hb := hb.trans (hb1.mono hb.size)
      clear hb1
      obtain ⟨Cr6, kr6, rfl⟩ := r6.val
      try go_wp2_with fail
      refine hK.out _ _ (by exact ⟨bx.cell 1, bx.cell 2, bx.cell 3, bi.cell 0, bk.cell 0, bc.cell 0⟩) (fun hHeld => ?_)
      clear hK K
      try simp only [Act.put, List.setIfInBounds_toArray, List.set_cons_zero, List.set_cons_succ]
      refine wpAnyZ_ready (rs := [11]) (by kernel_rfl) (by simp) ?_
      refine AllReadyZ.cons (opAt rfl) (fun K hK => ?_) ?_
      · skip
        go_simp
        replace bx := bx.alloc (.cells #[.int .u64 child] 22)
        replace bi := bi.alloc (.cells #[.int .u64 child] 22)
        replace bk := bk.alloc (.cells #[.int .u64 child] 22)
        replace bc := bc.alloc (.cells #[.int .u64 child] 22)
        replace bo := bo.alloc (.cells #[.int .u64 child] 22)
        replace b5 := b5.alloc (.cells #[.int .u64 child] 22)
        replace r6 := r6.alloc (.cells #[.int .u64 child] 22)
        replace hb := hb.alloc hb.size (.cells #[.int .u64 child] 22)
        have b11 := Blk.new w2x 22 #[.int .u64 child]
        generalize w2x.alloc (.cells #[.int .u64 child] 22) = w3x at *
        generalize w2x.heap.size = g11 at *
        refine hK.out _ _ (by exact ⟨bx.cell 1, bx.cell 2, bx.cell 3, bi.cell 0, bk.cell 0, bc.cell 0⟩) (fun hHeld => ?_)
        clear hK K
        try simp only [Act.put, List.setIfInBounds_toArray, List.set_cons_zero, List.set_cons_succ]
        refine wpAnyZ_ready (rs := [12]) (by kernel_rfl) (by simp) ?_
        refine AllReadyZ.cons (opAt rfl) (fun K hK => ?_) ?_
        · skip
          go_simp
          refine (with_any _ _ vs [child] p _ (by first | exact HQ2.out | (rw [hnn.out]; exact HQ2.out) | (rw [hmm.out]; exact HQ2.out) | (rw [hnn'.out]; exact HQ2.out) | (rw [hmm'.out]; exact HQ2.out)) (by first | exact HL2.out | (rw [hnn.out]; exact HL2.out) | (rw [hmm.out]; exact HL2.out) | (rw [hnn'.out]; exact HL2.out) | (rw [hmm'.out]; exact HL2.out)) (by simp) ((S2.below hb).more hb.size) (sl_one b11)).mono ?_
          rintro e w4x ⟨⟨u, rfl, r12⟩, hb1⟩
          replace r12 := r12.mono (lo' := w.heap.size) hb.size
          rw [← HY2.out] at r12
          replace bx := bx.below hb1 bx.lt
          replace bi := bi.below hb1 bi.lt
          replace bk := bk.below hb1 bk.lt
          replace bc := bc.below hb1 bc.lt
          replace bo := bo.below hb1 bo.lt
          replace b5 := b5.below hb1 b5.lt
          replace b11 := b11.below hb1 b11.lt
          replace r6 := r6.below hb1
          replace hb := hb.trans (hb1.mono hb.size)
          clear hb1
          obtain ⟨Cr12, kr12, rfl⟩ := r12.val
          try go_wp2_with fail
          refine hK.out _ _ (by exact ⟨bx.cell 1, bx.cell 2, bx.cell 3, bi.cell 0, bk.cell 0, bc.cell 0⟩) (fun hHeld => ?_)
          clear hK K
          try simp only [Act.put, List.setIfInBounds_toArray, List.set_cons_zero, List.set_cons_succ]
          refine wpAnyZ_ready (rs := [15]) (by kernel_rfl) (by simp) ?_
          refine AllReadyZ.cons (opAt rfl) (fun K hK => ?_) ?_
          · skip
            go_simp
            refine (node_yes _ _ _ _ l _ HLy.out r6.sl r12.sl HR.out).mono ?_
            rintro e w5x ⟨rfl, hb1⟩
            replace bx := bx.below hb1 bx.lt
            replace bi := bi.below hb1 bi.lt
            replace bk := bk.below hb1 bk.lt
            replace bc := bc.below hb1 bc.lt
            replace bo := bo.below hb1 bo.lt
            replace b5 := b5.below hb1 b5.lt
            replace b11 := b11.below hb1 b11.lt
            replace r6 := r6.below hb1
            replace r12 := r12.below hb1
            replace hb := hb.trans (hb1.mono hb.size)
            clear hb1
            have Na : NdO w5x w.heap.size (.agg #[.bool true, .slice Cr6 y1.length kr6, .slice Cr12 y2.length kr12, .int .u64 l]) true y1 y2 l := ⟨_, _, rfl, r6, r12⟩
            clear r6 r12
            try go_wp2_with fail
            refine hK.out _ _ (by exact ⟨bx.cell 1, bx.cell 2, bx.cell 3, bi.cell 0, bk.cell 0, bc.cell 0⟩) (fun hHeld => ?_)
            clear hK K
            try simp only [Act.put, List.setIfInBounds_toArray, List.set_cons_zero, List.set_cons_succ]
            refine wpAnyZ_ready (rs := [16]) (by kernel_rfl) (by simp) ?_
            refine AllReadyZ.cons (opAt rfl) (fun K hK => ?_) ?_
            · skip
              have zo := fun i => bo.frozen i
              have mo := fun i => bo.cell i
              go_simp
              replace bx := bx.offN HXO.out (.bool true) (.slice Cr6 y1.length kr6) (.slice Cr12 y2.length kr12) (.int .u64 l)
              replace bi := bi.offN HIO.out (.bool true) (.slice Cr6 y1.length kr6) (.slice Cr12 y2.length kr12) (.int .u64 l)
              replace bk := bk.offN HKO.out (.bool true) (.slice Cr6 y1.length kr6) (.slice Cr12 y2.length kr12) (.int .u64 l)
              replace bc := bc.offN HCO.out (.bool true) (.slice Cr6 y1.length kr6) (.slice Cr12 y2.length kr12) (.int .u64 l)
              replace Na := Na.setN bo (.bool true) (.slice Cr6 y1.length kr6) (.slice Cr12 y2.length kr12) (.int .u64 l)
              have HP := (Part.of_below (os := [go]) hb).setN (g := go) (by simp) (.bool true) (.slice Cr6 y1.length kr6) (.slice Cr12 y2.length kr12) (.int .u64 l)
              clear hb
              replace bo := bo.setN (.bool true) (.slice Cr6 y1.length kr6) (.slice Cr12 y2.length kr12) (.int .u64 l)
              clear zo mo
              generalize ((((w5x).setCell ⟨go, 0, none⟩ (.bool true)).setCell ⟨go, 1, none⟩ (.slice Cr6 y1.length kr6)).setCell ⟨go, 2, none⟩ (.slice Cr12 y2.length kr12)).setCell ⟨go, 3, none⟩ (.int .u64 l) = w6x at *
              refine hK.out _ _ (by exact ⟨bx.cell 1, bx.cell 2, bx.cell 3, bi.cell 0, bk.cell 0, bc.cell 0⟩) (fun hHeld => ?_)
              clear hK K
              try simp only [Act.put, List.setIfInBounds_toArray, List.set_cons_zero, List.set_cons_succ]
              refine wpAnyZ_done (by kernel_rfl) ?_ _
              go_wp2_with fail
              go_end0
              skip
              exact ⟨rfl, HP, _, _, bo, Na⟩
            exact AllReadyZ.nil
          exact AllReadyZ.nil
        exact AllReadyZ.nil
      exact AllReadyZ.nil
    refine AllReadyZ.cons (opAt rfl) (fun K hK => ?_) ?_
    · skip
      go_simp
      replace bx := bx.alloc (.cells #[.int .u64 child] 22)
      replace bi := bi.alloc (.cells #[.int .u64 child] 22)
      replace bk := bk.alloc (.cells #[.int .u64 child] 22)
      replace bc := bc.alloc (.cells #[.int .u64 child] 22)
      replace bo := bo.alloc (.cells #[.int .u64 child] 22)
      replace b5 := b5.alloc (.cells #[.int .u64 child] 22)
      replace hb := hb.alloc hb.size (.cells #[.int .u64 child] 22)
      have b11 := Blk.new w1x 22 #[.int .u64 child]
      generalize w1x.alloc (.cells #[.int .u64 child] 22) = w2x at *
      generalize w1x.heap.size = g11 at *
      refine hK.out _ _ (by exact ⟨bx.cell 1, bx.cell 2, bx.cell 3, bi.cell 0, bk.cell 0, bc.cell 0⟩) (fun hHeld => ?_)
      clear hK K
      try simp only [Act.put, List.setIfInBounds_toArray, List.set_cons_zero, List.set_cons_succ]
      refine wpAnyZ_ready (rs := [6]) (by kernel_rfl) (by simp) ?_
      refine AllReadyZ.cons (opAt rfl) (fun K hK => ?_) ?_
      · skip
        go_simp
        refine (with_any _ _ ks [key] q _ (by first | exact HQ1.out | (rw [hnn.out]; exact HQ1.out) | (rw [hmm.out]; exact HQ1.out) | (rw [hnn'.out]; exact HQ1.out) | (rw [hmm'.out]; exact HQ1.out)) (by first | exact HL1.out | (rw [hnn.out]; exact HL1.out) | (rw [hmm.out]; exact HL1.out) | (rw [hnn'.out]; exact HL1.out) | (rw [hmm'.out]; exact HL1.out)) (by simp) ((S1.below hb).more hb.size) (sl_one b5)).mono ?_
        rintro e w3x ⟨⟨u, rfl, r6⟩, hb1⟩
        replace r6 := r6.mono (lo' := w.heap.size) hb.size
        rw [← HY1.out] at r6
        replace bx := bx.below hb1 bx.lt
        replace bi := bi.below hb1 bi.lt
        replace bk := bk.below hb1 bk.lt
        replace bc := bc.below hb1 bc.lt
        replace bo := bo.below hb1 bo.lt
        replace b5 := b5.below hb1 b5.lt
        replace b11 := b11.below hb1 b11.lt
        replace hb := hb.trans (hb1.mono hb.size)
        clear hb1
        obtain ⟨Cr6, kr6, rfl⟩ := r6.val
        try go_wp2_with fail
        refine hK.out _ _ (by exact ⟨bx.cell 1, bx.cell 2, bx.cell 3, bi.cell 0, bk.cell 0, bc.cell 0⟩) (fun hHeld => ?_)
        clear hK K
        try simp only [Act.put, List.setIfInBounds_toArray, List.set_cons_zero, List.set_cons_succ]
        refine wpAnyZ_ready (rs := [12]) (by kernel_rfl) (by simp) ?_
        refine AllReadyZ.cons (opAt rfl) (fun K hK => ?_) ?_
        · skip
          go_simp
          refine (with_any _ _ vs [child] p _ (by first | exact HQ2.out | (rw [hnn.out]; exact HQ2.out) | (rw [hmm.out]; exact HQ2.out) | (rw [hnn'.out]; exact HQ2.out) | (rw [hmm'.out]; exact HQ2.out)) (by first | exact HL2.out | (rw [hnn.out]; exact HL2.out) | (rw [hmm.out]; exact HL2.out) | (rw [hnn'.out]; exact HL2.out) | (rw [hmm'.out]; exact HL2.out)) (by simp) ((S2.below hb).more hb.size) (sl_one b11)).mono ?_
          rintro e w4x ⟨⟨u, rfl, r12⟩, hb1⟩
          replace r12 := r12.mono (lo' := w.heap.size) hb.size
          rw [← HY2.out] at r12
          replace bx := bx.below hb1 bx.lt
          replace bi := bi.below hb1 bi.lt
          replace bk := bk.below hb1 bk.lt
          replace bc := bc.below hb1 bc.lt
          replace bo := bo.below hb1 bo.lt
          replace b5 := b5.below hb1 b5.lt
          replace b11 := b11.below hb1 b11.lt
          replace r6 := r6.below hb1
          replace hb := hb.trans (hb1.mono hb.size)
          clear hb1
          obtain ⟨Cr12, kr12, rfl⟩ := r12.val
          try go_wp2_with fail
          refine hK.out _ _ (by exact ⟨bx.cell 1, bx.cell 2, bx.cell 3, bi.cell 0, bk.cell 0, bc.cell 0⟩) (fun hHeld => ?_)
          clear hK K
          try simp only [Act.put, List.setIfInBounds_toArray, List.set_cons_zero, List.set_cons_succ]
          refine wpAnyZ_ready (rs := [15]) (by kernel_rfl) (by simp) ?_
          refine AllReadyZ.cons (opAt rfl) (fun K hK => ?_) ?_
          · skip
            go_simp
            refine (node_yes _ _ _ _ l _ HLy.out r6.sl r12.sl HR.out).mono ?_
            rintro e w5x ⟨rfl, hb1⟩
            replace bx := bx.below hb1 bx.lt
            replace bi := bi.below hb1 bi.lt
            replace bk := bk.below hb1 bk.lt
            replace bc := bc.below hb1 bc.lt
            replace bo := bo.below hb1 bo.lt
            replace b5 := b5.below hb1 b5.lt
            replace b11 := b11.below hb1 b11.lt
            replace r6 := r6.below hb1
            replace r12 := r12.below hb1
            replace hb := hb.trans (hb1.mono hb.size)
            clear hb1
            have Na : NdO w5x w.heap.size (.agg #[.bool true, .slice Cr6 y1.length kr6, .slice Cr12 y2.length kr12, .int .u64 l]) true y1 y2 l := ⟨_, _, rfl, r6, r12⟩
            clear r6 r12
            try go_wp2_with fail
            refine hK.out _ _ (by exact ⟨bx.cell 1, bx.cell 2, bx.cell 3, bi.cell 0, bk.cell 0, bc.cell 0⟩) (fun hHeld => ?_)
            clear hK K
            try simp only [Act.put, List.setIfInBounds_toArray, List.set_cons_zero, List.set_cons_succ]
            refine wpAnyZ_ready (rs := [16]) (by kernel_rfl) (by simp) ?_
            refine AllReadyZ.cons (opAt rfl) (fun K hK => ?_) ?_
            · skip
              have zo := fun i => bo.frozen i
              have mo := fun i => bo.cell i
              go_simp
              replace bx := bx.offN HXO.out (.bool true) (.slice Cr6 y1.length kr6) (.slice Cr12 y2.length kr12) (.int .u64 l)
              replace bi := bi.offN HIO.out (.bool true) (.slice Cr6 y1.length kr6) (.slice Cr12 y2.length kr12) (.int .u64 l)
              replace bk := bk.offN HKO.out (.bool true) (.slice Cr6 y1.length kr6) (.slice Cr12 y2.length kr12) (.int .u64 l)
              replace bc := bc.offN HCO.out (.bool true) (.slice Cr6 y1.length kr6) (.slice Cr12 y2.length kr12) (.int .u64 l)
              replace Na := Na.setN bo (.bool true) (.slice Cr6 y1.length kr6) (.slice Cr12 y2.length kr12) (.int .u64 l)
              have HP := (Part.of_below (os := [go]) hb).setN (g := go) (by simp) (.bool true) (.slice Cr6 y1.length kr6) (.slice Cr12 y2.length kr12) (.int .u64 l)
              clear hb
              replace bo := bo.setN (.bool true) (.slice Cr6 y1.length kr6) (.slice Cr12 y2.length kr12) (.int .u64 l)
              clear zo mo
              generalize ((((w5x).setCell ⟨go, 0, none⟩ (.bool true)).setCell ⟨go, 1, none⟩ (.slice Cr6 y1.length kr6)).setCell ⟨go, 2, none⟩ (.slice Cr12 y2.length kr12)).setCell ⟨go, 3, none⟩ (.int .u64 l) = w6x at *
              refine hK.out _ _ (by exact ⟨bx.cell 1, bx.cell 2, bx.cell 3, bi.cell 0, bk.cell 0, bc.cell 0⟩) (fun hHeld => ?_)
              clear hK K
              try simp only [Act.put, List.setIfInBounds_toArray, List.set_cons_zero, List.set_cons_succ]
              refine wpAnyZ_done (by kernel_rfl) ?_ _
              go_wp2_with fail
              go_end0
              skip
              exact ⟨rfl, HP, _, _, bo, Na⟩
            exact AllReadyZ.nil
          exact AllReadyZ.nil
        exact AllReadyZ.nil
      exact AllReadyZ.nil
    exact AllReadyZ.nil
  refine AllReadyZ.cons (opAt rfl) (fun K hK => ?_) ?_
  · skip
    go_simp
    replace bx := bx.alloc (.cells #[.int .u64 child] 22)
    replace bi := bi.alloc (.cells #[.int .u64 child] 22)
    replace bk := bk.alloc (.cells #[.int .u64 child] 22)
    replace bc := bc.alloc (.cells #[.int .u64 child] 22)
    replace bo := bo.alloc (.cells #[.int .u64 child] 22)
    replace hb := hb.alloc hb.size (.cells #[.int .u64 child] 22)
    have b11 := Blk.new w0x 22 #[.int .u64 child]
    generalize w0x.alloc (.cells #[.int .u64 child] 22) = w1x at *
    generalize w0x.heap.size = g11 at *
    refine hK.out _ _ (by exact ⟨bx.cell 1, bx.cell 2, bx.cell 3, bi.cell 0, bk.cell 0, bc.cell 0⟩) (fun hHeld => ?_)
    clear hK K
    try simp only [Act.put, List.setIfInBounds_toArray, List.set_cons_zero, List.set_cons_succ]
    refine wpAnyZ_ready (rs := [5]) (by kernel_rfl) (by simp) ?_
    refine AllReadyZ.cons (opAt rfl) (fun K hK => ?_) ?_
    · skip
      go_simp
      replace bx := bx.alloc (.cells #[.int .u64 key] 22)
      replace bi := bi.alloc (.cells #[.int .u64 key] 22)
      replace bk := bk.alloc (.cells #[.int .u64 key] 22)
      replace bc := bc.alloc (.cells #[.int .u64 key] 22)
      replace bo := bo.alloc (.cells #[.int .u64 key] 22)
      replace b11 := b11.alloc (.cells #[.int .u64 key] 22)
      replace hb := hb.alloc hb.size (.cells #[.int .u64 key] 22)
      have b5 := Blk.new w1x 22 #[.int .u64 key]
      generalize w1x.alloc (.cells #[.int .u64 key] 22) = w2x at *
      generalize w1x.heap.size = g5 at *
      refine hK.out _ _ (by exact ⟨bx.cell 1, bx.cell 2, bx.cell 3, bi.cell 0, bk.cell 0, bc.cell 0⟩) (fun hHeld => ?_)
      clear hK K
      try simp only [Act.put, List.setIfInBounds_toArray, List.set_cons_zero, List.set_cons_succ]
      refine wpAnyZ_ready (rs := [6]) (by kernel_rfl) (by simp) ?_
      refine AllReadyZ.cons (opAt rfl) (fun K hK => ?_) ?_
      · skip
        go_simp
        refine (with_any _ _ ks [key] q _ (by first | exact HQ1.out | (rw [hnn.out]; exact HQ1.out) | (rw [hmm.out]; exact HQ1.out) | (rw [hnn'.out]; exact HQ1.out) | (rw [hmm'.out]; exact HQ1.out)) (by first | exact HL1.out | (rw [hnn.out]; exact HL1.out) | (rw [hmm.out]; exact HL1.out) | (rw [hnn'.out]; exact HL1.out) | (rw [hmm'.out]; exact HL1.out)) (by simp) ((S1.below hb).more hb.size) (sl_one b5)).mono ?_
        rintro e w3x ⟨⟨u, rfl, r6⟩, hb1⟩
        replace r6 := r6.mono (lo' := w.heap.size) hb.size
        rw [← HY1.out] at r6
        replace bx := bx.below hb1 bx.lt
        replace bi := bi.below hb1 bi.lt
        replace bk := bk.below hb1 bk.lt
        replace bc := bc.below hb1 bc.lt
        replace bo := bo.below hb1 bo.lt
        replace b11 := b11.below hb1 b11.lt
        replace b5 := b5.below hb1 b5.lt
        replace hb := hb.trans (hb1.mono hb.size)
        clear hb1
        obtain ⟨Cr6, kr6, rfl⟩ := r6.val
        try go_wp2_with fail
        refine hK.out _ _ (by exact ⟨bx.cell 1, bx.cell 2, bx.cell 3, bi.cell 0, bk.cell 0, bc.cell 0⟩) (fun hHeld => ?_)
        clear hK K
        try simp only [Act.put, List.setIfInBounds_toArray, List.set_cons_zero, List.set_cons_succ]
        refine wpAnyZ_ready (rs := [12]) (by kernel_rfl) (by simp) ?_
        refine AllReadyZ.cons (opAt rfl) (fun K hK => ?_) ?_
        · skip
          go_simp
          refine (with_any _ _ vs [child] p _ (by first | exact HQ2.out | (rw [hnn.out]; exact HQ2.out) | (rw [hmm.out]; exact HQ2.out) | (rw [hnn'.out]; exact HQ2.out) | (rw [hmm'.out]; exact HQ2.out)) (by first | exact HL2.out | (rw [hnn.out]; exact HL2.out) | (rw [hmm.out]; exact HL2.out) | (rw [hnn'.out]; exact HL2.out) | (rw [hmm'.out]; exact HL2.out)) (by simp) ((S2.below hb).more hb.size) (sl_one b11)).mono ?_
          rintro e w4x ⟨⟨u, rfl, r12⟩, hb1⟩
          replace r12 := r12.mono (lo' := w.heap.size) hb.size
          rw [← HY2.out] at r12
          replace bx := bx.below hb1 bx.lt
          replace bi := bi.below hb1 bi.lt
          replace bk := bk.below hb1 bk.lt
          replace bc := bc.below hb1 bc.lt
          replace bo := bo.below hb1 bo.lt
          replace b11 := b11.below hb1 b11.lt
          replace b5 := b5.below hb1 b5.lt
          replace r6 := r6.below hb1
          replace hb := hb.trans (hb1.mono hb.size)
          clear hb1
          obtain ⟨Cr12, kr12, rfl⟩ := r12.val
          try go_wp2_with fail
          refine hK.out _ _ (by exact ⟨bx.cell 1, bx.cell 2, bx.cell 3, bi.cell 0, bk.cell 0, bc.cell 0⟩) (fun hHeld => ?_)
          clear hK K
          try simp only [Act.put, List.setIfInBounds_toArray, List.set_cons_zero, List.set_cons_succ]
          refine wpAnyZ_ready (rs := [15]) (by kernel_rfl) (by simp) ?_
          refine AllReadyZ.cons (opAt rfl) (fun K hK => ?_) ?_
          · skip
            go_simp
            refine (node_yes _ _ _ _ l _ HLy.out r6.sl r12.sl HR.out).mono ?_
            rintro e w5x ⟨rfl, hb1⟩
            replace bx := bx.below hb1 bx.lt
            replace bi := bi.below hb1 bi.lt
            replace bk := bk.below hb1 bk.lt
            replace bc := bc.below hb1 bc.lt
            replace bo := bo.below hb1 bo.lt
            replace b11 := b11.below hb1 b11.lt
            replace b5 := b5.below hb1 b5.lt
            replace r6 := r6.below hb1
            replace r12 := r12.below hb1
            replace hb := hb.trans (hb1.mono hb.size)
            clear hb1
            have Na : NdO w5x w.heap.size (.agg #[.bool true, .slice Cr6 y1.length kr6, .slice Cr12 y2.length kr12, .int .u64 l]) true y1 y2 l := ⟨_, _, rfl, r6, r12⟩
            clear r6 r12
            try go_wp2_with fail
            refine hK.out _ _ (by exact ⟨bx.cell 1, bx.cell 2, bx.cell 3, bi.cell 0, bk.cell 0, bc.cell 0⟩) (fun hHeld => ?_)
            clear hK K
            try simp only [Act.put, List.setIfInBounds_toArray, List.set_cons_zero, List.set_cons_succ]
            refine wpAnyZ_ready (rs := [16]) (by kernel_rfl) (by simp) ?_
            refine AllReadyZ.cons (opAt rfl) (fun K hK => ?_) ?_
            · skip
              have zo := fun i => bo.frozen i
              have mo := fun i => bo.cell i
              go_simp
              replace bx := bx.offN HXO.out (.bool true) (.slice Cr6 y1.length kr6) (.slice Cr12 y2.length kr12) (.int .u64 l)
              replace bi := bi.offN HIO.out (.bool true) (.slice Cr6 y1.length kr6) (.slice Cr12 y2.length kr12) (.int .u64 l)
              replace bk := bk.offN HKO.out (.bool true) (.slice Cr6 y1.length kr6) (.slice Cr12 y2.length kr12) (.int .u64 l)
              replace bc := bc.offN HCO.out (.bool true) (.slice Cr6 y1.length kr6) (.slice Cr12 y2.length kr12) (.int .u64 l)
              replace Na := Na.setN bo (.bool true) (.slice Cr6 y1.length kr6) (.slice Cr12 y2.length kr12) (.int .u64 l)
              have HP := (Part.of_below (os := [go]) hb).setN (g := go) (by simp) (.bool true) (.slice Cr6 y1.length kr6) (.slice Cr12 y2.length kr12) (.int .u64 l)
              clear hb
              replace bo := bo.setN (.bool true) (.slice Cr6 y1.length kr6) (.slice Cr12 y2.length kr12) (.int .u64 l)
              clear zo mo
              generalize ((((w5x).setCell ⟨go, 0, none⟩ (.bool true)).setCell ⟨go, 1, none⟩ (.slice Cr6 y1.length kr6)).setCell ⟨go, 2, none⟩ (.slice Cr12 y2.length kr12)).setCell ⟨go, 3, none⟩ (.int .u64 l) = w6x at *
              refine hK.out _ _ (by exact ⟨bx.cell 1, bx.cell 2, bx.cell 3, bi.cell 0, bk.cell 0, bc.cell 0⟩) (fun hHeld => ?_)
              clear hK K
              try simp only [Act.put, List.setIfInBounds_toArray, List.set_cons_zero, List.set_cons_succ]
              refine wpAnyZ_done (by kernel_rfl) ?_ _
              go_wp2_with fail
              go_end0
              skip
              exact ⟨rfl, HP, _, _, bo, Na⟩
            exact AllReadyZ.nil
          exact AllReadyZ.nil
        exact AllReadyZ.nil
      exact AllReadyZ.nil
    exact AllReadyZ.nil
  exact AllReadyZ.nil
set_option maxRecDepth 100000 in
set_option maxHeartbeats 4000000 in
theorem add1_no (b : Bool) (A A' : Option Addr) (c c' : Nat) (ks vs : List Int) (l i key child : Int) (gx gi gk gc go : Nat) (w : World) (hl : ks.length ≤ 900) (h : Nd w w.heap.size (.agg #[.bool b, .slice A ks.length c, .slice A' vs.length c', .int .u64 l]) b ks vs l) (bx : Blk w gx 27 #[.bool b, .slice A ks.length c, .slice A' vs.length c', .int .u64 l]) (bi : Blk w gi 3 #[.int .i64 i]) (bk : Blk w gk 22 #[.int .u64 key]) (bc : Blk w gc 22 #[.int .u64 child]) (bo : Blk w go 27 #[.bool false, .slice none 0 0, .slice none 0 0, .int .u64 0]) (hxo : gx ≠ go) (hr : rightI b ks vs = true) (p q : Nat) (hi : i = (p : Int)) (hp : p = q + 1) (hpv : p ≤ vs.length) (h3 : rightI true (ks.take q ++ [key] ++ ks.drop q) (vs.take p ++ [child] ++ vs.drop p) = false) :
    Calls Try.prog 36 #[.pointer (some ⟨gx, 0, none⟩), .pointer (some ⟨gi, 0, none⟩), .pointer (some ⟨gk, 0, none⟩), .pointer (some ⟨gc, 0, none⟩), .pointer (some ⟨go, 0, none⟩)] w fun e w' => e = .panicked wrongP ∧ Below w.heap.size w w' := by
  have Rt := hide (fun w2 (hB : Below w.heap.size w w2) => iright_any _ b ks vs l w2 (by omega) ((h.below hB).more hB.size))
  rw [hr] at Rt
  have hkv := (rightI_parts hr).2.1
  subst hi
  have HQ1 := hide (show q ≤ ks.length by omega)
  have HQ2 := hide hpv
  have HL1 := hide (show ks.length ≤ 1000 by omega)
  have HL2 := hide (show vs.length ≤ 1000 by omega)
  obtain ⟨y1, hy1⟩ : ∃ y, y = ks.take q ++ [key] ++ ks.drop q := ⟨_, rfl⟩
  obtain ⟨y2, hy2⟩ : ∃ y, y = vs.take p ++ [child] ++ vs.drop p := ⟨_, rfl⟩
  rw [← hy1, ← hy2] at h3
  have HLy := hide (show y1.length ≤ 1000000 by rw [hy1]; simp; omega)
  have HY1 := hide hy1
  have HY2 := hide hy2
  have HR := hide h3
  have hpq : (p : Int) - 1 = (q : Int) := by omega
  have hp1 : (1 : Int) ≤ (p : Int) := by omega
  have hp2 : (p : Int) ≤ (vs.length : Int) := by omega
  have hw1 : IntKind.i64.wrap (q : Int) = (q : Int) := IntWalk.i64_in _ (by omega)
  clear hy1 hy2 h3 hr hkv hp hpv hl
  obtain ⟨k1, u1, e1, S1, S2⟩ := h
  simp only [Value.agg.injEq, Array.mk.injEq, List.cons.injEq, and_true, true_and] at e1
  obtain ⟨rfl, rfl⟩ := e1
  generalize hnn : ks.length = n at *
  generalize hmm : vs.length = m at *
  replace hnn := hide hnn
  replace hmm := hide hmm
  have HXO := hide hxo
  have HIO := hide (bi.ne_ bo (by decide))
  have HKO := hide (bk.ne_ bo (by decide))
  have HCO := hide (bc.ne_ bo (by decide))
  have mx := fun i => bx.cell i
  have mi := fun i => bi.cell i
  go_enter Try.func36, Try.ntmps36
  go_wp2_with fail
  refine (Rt.out _ (Below.refl _ _)).mono ?_
  rintro e wa ⟨rfl, hb⟩
  replace bx := bx.below hb bx.lt
  replace bi := bi.below hb bi.lt
  replace bk := bk.below hb bk.lt
  replace bc := bc.below hb bc.lt
  replace bo := bo.below hb bo.lt
  clear mx mi
  have mx := fun i => bx.cell i
  have mi := fun i => bi.cell i
  go_wp2_with fail
  refine (must_yes _).mono ?_
  rintro e wb ⟨rfl, rfl⟩
  go_wp2_with fail
  clear mx mi
  refine wp_region_heldZ [] (fun w' => w'.cell? ⟨gx, 1, none⟩ = some (.slice A n c) ∧ w'.cell? ⟨gx, 2, none⟩ = some (.slice A' m c') ∧ w'.cell? ⟨gx, 3, none⟩ = some (.int .u64 l) ∧ w'.cell? ⟨gi, 0, none⟩ = some (.int .i64 p) ∧ w'.cell? ⟨gk, 0, none⟩ = some (.int .u64 key) ∧ w'.cell? ⟨gc, 0, none⟩ = some (.int .u64 child)) (by kernel_rfl) (by exact ⟨bx.cell 1, bx.cell 2, bx.cell 3, bi.cell 0, bk.cell 0, bc.cell 0⟩) (fun hHeld => ?_)
  replace bx := bx.drew
  replace bi := bi.drew
  replace bk := bk.drew
  replace bc := bc.drew
  replace bo := bo.drew
  replace hb := hb.drew
  generalize wb.drew = w0x at *
  refine' wpAnyZ_takeA (i := 0) (v := ?_) (opAt rfl) (by kernel_rfl) (by kernel_rfl) (by kernel_rfl) (by kernel_rfl) (fun _ _ _ h => h) (by assumption) (by rfl) (fun w hSw => ?_) ?_
  rotate_left
  · (try dsimp only at hSw); go_simp; (try with_reducible rfl)
  try simp only [Act.put, List.setIfInBounds_toArray, List.set_cons_zero, List.set_cons_succ]
  refine' wpAnyZ_takeA (i := 1) (v := ?_) (opAt rfl) (by kernel_rfl) (by kernel_rfl) (by kernel_rfl) (by kernel_rfl) (fun _ _ _ h => h) (by assumption) (by rfl) (fun w hSw => ?_) ?_
  rotate_left
  · (try dsimp only at hSw); go_simp; (try with_reducible rfl)
  try simp only [Act.put, List.setIfInBounds_toArray, List.set_cons_zero, List.set_cons_succ]
  refine' wpAnyZ_takeA (i := 2) (v := ?_) (opAt rfl) (by kernel_rfl) (by kernel_rfl) (by kernel_rfl) (by kernel_rfl) (fun _ _ _ h => h) (by assumption) (by rfl) (fun w hSw => ?_) ?_
  rotate_left
  · (try dsimp only at hSw); go_simp; (try with_reducible rfl)
  try simp only [Act.put, List.setIfInBounds_toArray, List.set_cons_zero, List.set_cons_succ]
  refine' wpAnyZ_takeA (i := 3) (v := ?_) (opAt rfl) (by kernel_rfl) (by kernel_rfl) (by kernel_rfl) (by kernel_rfl) (fun _ _ _ h => h) (by assumption) (by rfl) (fun w hSw => ?_) ?_
  rotate_left
  · (try dsimp only at hSw); go_simp; (try with_reducible rfl)
  try simp only [Act.put, List.setIfInBounds_toArray, List.set_cons_zero, List.set_cons_succ]
  refine' wpAnyZ_takeA (i := 4) (v := ?_) (opAt rfl) (by kernel_rfl) (by kernel_rfl) (by kernel_rfl) (by kernel_rfl) (fun _ _ _ h => h) (by assumption) (by rfl) (fun w hSw => ?_) ?_
  rotate_left
  · (try dsimp only at hSw); go_simp; (try with_reducible rfl)
  try simp only [Act.put, List.setIfInBounds_toArray, List.set_cons_zero, List.set_cons_succ]
  refine' wpAnyZ_takeA (i := 7) (v := ?_) (opAt rfl) (by kernel_rfl) (by kernel_rfl) (by kernel_rfl) (by kernel_rfl) (fun _ _ _ h => h) (by assumption) (by rfl) (fun w hSw => ?_) ?_
  rotate_left
  · (try dsimp only at hSw); go_simp; (try with_reducible rfl)
  try simp only [Act.put, List.setIfInBounds_toArray, List.set_cons_zero, List.set_cons_succ]
  refine' wpAnyZ_takeA (i := 8) (v := ?_) (opAt rfl) (by kernel_rfl) (by kernel_rfl) (by kernel_rfl) (by kernel_rfl) (fun _ _ _ h => h) (by assumption) (by rfl) (fun w hSw => ?_) ?_
  rotate_left
  · (try dsimp only at hSw); go_simp; (try with_reducible rfl)
  try simp only [Act.put, List.setIfInBounds_toArray, List.set_cons_zero, List.set_cons_succ]
  refine' wpAnyZ_takeA (i := 9) (v := ?_) (opAt rfl) (by kernel_rfl) (by kernel_rfl) (by kernel_rfl) (by kernel_rfl) (fun _ _ _ h => h) (by assumption) (by rfl) (fun w hSw => ?_) ?_
  rotate_left
  · (try dsimp only at hSw); go_simp; (try with_reducible rfl)
  try simp only [Act.put, List.setIfInBounds_toArray, List.set_cons_zero, List.set_cons_succ]
  refine' wpAnyZ_takeA (i := 10) (v := ?_) (opAt rfl) (by kernel_rfl) (by kernel_rfl) (by kernel_rfl) (by kernel_rfl) (fun _ _ _ h => h) (by assumption) (by rfl) (fun w hSw => ?_) ?_
  rotate_left
  · (try dsimp only at hSw); go_simp; (try with_reducible rfl)
  try simp only [Act.put, List.setIfInBounds_toArray, List.set_cons_zero, List.set_cons_succ]
  refine' wpAnyZ_takeA (i := 13) (v := ?_) (opAt rfl) (by kernel_rfl) (by kernel_rfl) (by kernel_rfl) (by kernel_rfl) (fun _ _ _ h => h) (by assumption) (by rfl) (fun w hSw => ?_) ?_
  rotate_left
  · (try dsimp only at hSw); go_simp; (try with_reducible rfl)
  try simp only [Act.put, List.setIfInBounds_toArray, List.set_cons_zero, List.set_cons_succ]
  refine' wpAnyZ_takeA (i := 14) (v := ?_) (opAt rfl) (by kernel_rfl) (by kernel_rfl) (by kernel_rfl) (by kernel_rfl) (fun _ _ _ h => h) (by assumption) (by rfl) (fun w hSw => ?_) ?_
  rotate_left
  · (try dsimp only at hSw); go_simp; (try with_reducible rfl)
  try simp only [Act.put, List.setIfInBounds_toArray, List.set_cons_zero, List.set_cons_succ]
  refine wpAnyZ_ready (rs := [5, 11]) (by kernel_rfl) (by simp) ?_
  refine AllReadyZ.cons (opAt rfl) (fun K hK => ?_) ?_
  · skip
    go_simp
    replace bx := bx.alloc (.cells #[.int .u64 key] 22)
    replace bi := bi.alloc (.cells #[.int .u64 key] 22)
    replace bk := bk.alloc (.cells #[.int .u64 key] 22)
    replace bc := bc.alloc (.cells #[.int .u64 key] 22)
    replace bo := bo.alloc (.cells #[.int .u64 key] 22)
    replace hb := hb.alloc hb.size (.cells #[.int .u64 key] 22)
    have b5 := Blk.new w0x 22 #[.int .u64 key]
    generalize w0x.alloc (.cells #[.int .u64 key] 22) = w1x at *
    generalize w0x.heap.size = g5 at *
    refine hK.out _ _ (by exact ⟨bx.cell 1, bx.cell 2, bx.cell 3, bi.cell 0, bk.cell 0, bc.cell 0⟩) (fun hHeld => ?_)
    clear hK K
    try simp only [Act.put, List.setIfInBounds_toArray, List.set_cons_zero, List.set_cons_succ]
    refine wpAnyZ_ready (rs := [6, 11]) (by kernel_rfl) (by simp) ?_
    refine AllReadyZ.cons (opAt rfl) (fun K hK => ?_) ?_
    · skip
      go_simp
      refine (with_any _ _ ks [key] q _ (by first | exact HQ1.out | (rw [hnn.out]; exact HQ1.out) | (rw [hmm.out]; exact HQ1.out) | (rw [hnn'.out]; exact HQ1.out) | (rw [hmm'.out]; exact HQ1.out)) (by first | exact HL1.out | (rw [hnn.out]; exact HL1.out) | (rw [hmm.out]; exact HL1.out) | (rw [hnn'.out]; exact HL1.out) | (rw [hmm'.out]; exact HL1.out)) (by simp) ((S1.below hb).more hb.size) (sl_one b5)).mono ?_
      rintro e w2x ⟨⟨u, rfl, r6⟩, hb1⟩
      replace r6 := r6.mono (lo' := w.heap.size) hb.size
      rw [← HY1.out] at r6
      replace bx := bx.below hb1 bx.lt
      replace bi := bi.below hb1 bi.lt
      replace bk := bk.below hb1 bk.lt
      replace bc := bc.below hb1 bc.lt
      replace bo := bo.below hb1 bo.lt
      replace b5 := b5.below hb1 b5.lt
      replace hb := hb.trans (hb1.mono hb.size)
      clear hb1
      obtain ⟨Cr6, kr6, rfl⟩ := r6.val
      try go_wp2_with fail
      refine hK.out _ _ (by exact ⟨bx.cell 1, bx.cell 2, bx.cell 3, bi.cell 0, bk.cell 0, bc.cell 0⟩) (fun hHeld => ?_)
      clear hK K
      try simp only [Act.put, List.setIfInBounds_toArray, List.set_cons_zero, List.set_cons_succ]
      refine wpAnyZ_ready (rs := [11]) (by kernel_rfl) (by simp) ?_
      refine AllReadyZ.cons (opAt rfl) (fun K hK => ?_) ?_
      · skip
        go_simp
        replace bx := bx.alloc (.cells #[.int .u64 child] 22)
        replace bi := bi.alloc (.cells #[.int .u64 child] 22)
        replace bk := bk.alloc (.cells #[.int .u64 child] 22)
        replace bc := bc.alloc (.cells #[.int .u64 child] 22)
        replace bo := bo.alloc (.cells #[.int .u64 child] 22)
        replace b5 := b5.alloc (.cells #[.int .u64 child] 22)
        replace r6 := r6.alloc (.cells #[.int .u64 child] 22)
        replace hb := hb.alloc hb.size (.cells #[.int .u64 child] 22)
        have b11 := Blk.new w2x 22 #[.int .u64 child]
        generalize w2x.alloc (.cells #[.int .u64 child] 22) = w3x at *
        generalize w2x.heap.size = g11 at *
        refine hK.out _ _ (by exact ⟨bx.cell 1, bx.cell 2, bx.cell 3, bi.cell 0, bk.cell 0, bc.cell 0⟩) (fun hHeld => ?_)
        clear hK K
        try simp only [Act.put, List.setIfInBounds_toArray, List.set_cons_zero, List.set_cons_succ]
        refine wpAnyZ_ready (rs := [12]) (by kernel_rfl) (by simp) ?_
        refine AllReadyZ.cons (opAt rfl) (fun K hK => ?_) ?_
        · skip
          go_simp
          refine (with_any _ _ vs [child] p _ (by first | exact HQ2.out | (rw [hnn.out]; exact HQ2.out) | (rw [hmm.out]; exact HQ2.out) | (rw [hnn'.out]; exact HQ2.out) | (rw [hmm'.out]; exact HQ2.out)) (by first | exact HL2.out | (rw [hnn.out]; exact HL2.out) | (rw [hmm.out]; exact HL2.out) | (rw [hnn'.out]; exact HL2.out) | (rw [hmm'.out]; exact HL2.out)) (by simp) ((S2.below hb).more hb.size) (sl_one b11)).mono ?_
          rintro e w4x ⟨⟨u, rfl, r12⟩, hb1⟩
          replace r12 := r12.mono (lo' := w.heap.size) hb.size
          rw [← HY2.out] at r12
          replace bx := bx.below hb1 bx.lt
          replace bi := bi.below hb1 bi.lt
          replace bk := bk.below hb1 bk.lt
          replace bc := bc.below hb1 bc.lt
          replace bo := bo.below hb1 bo.lt
          replace b5 := b5.below hb1 b5.lt
          replace b11 := b11.below hb1 b11.lt
          replace r6 := r6.below hb1
          replace hb := hb.trans (hb1.mono hb.size)
          clear hb1
          obtain ⟨Cr12, kr12, rfl⟩ := r12.val
          try go_wp2_with fail
          refine hK.out _ _ (by exact ⟨bx.cell 1, bx.cell 2, bx.cell 3, bi.cell 0, bk.cell 0, bc.cell 0⟩) (fun hHeld => ?_)
          clear hK K
          try simp only [Act.put, List.setIfInBounds_toArray, List.set_cons_zero, List.set_cons_succ]
          refine wpAnyZ_ready (rs := [15]) (by kernel_rfl) (by simp) ?_
          refine AllReadyZ.cons (opAt rfl) (fun K hK => ?_) ?_
          · skip
            go_simp
            refine (node_no _ _ _ _ l _ HLy.out r6.sl r12.sl HR.out).mono ?_
            rintro e w5x ⟨rfl, hb1⟩
            replace hb := hb.trans (hb1.mono hb.size)
            go_wp2_with fail
            exact ⟨rfl, rfl, hb⟩
          exact AllReadyZ.nil
        exact AllReadyZ.nil
      exact AllReadyZ.nil
    refine AllReadyZ.cons (opAt rfl) (fun K hK => ?_) ?_
    · skip
      go_simp
      replace bx := bx.alloc (.cells #[.int .u64 child] 22)
      replace bi := bi.alloc (.cells #[.int .u64 child] 22)
      replace bk := bk.alloc (.cells #[.int .u64 child] 22)
      replace bc := bc.alloc (.cells #[.int .u64 child] 22)
      replace bo := bo.alloc (.cells #[.int .u64 child] 22)
      replace b5 := b5.alloc (.cells #[.int .u64 child] 22)
      replace hb := hb.alloc hb.size (.cells #[.int .u64 child] 22)
      have b11 := Blk.new w1x 22 #[.int .u64 child]
      generalize w1x.alloc (.cells #[.int .u64 child] 22) = w2x at *
      generalize w1x.heap.size = g11 at *
      refine hK.out _ _ (by exact ⟨bx.cell 1, bx.cell 2, bx.cell 3, bi.cell 0, bk.cell 0, bc.cell 0⟩) (fun hHeld => ?_)
      clear hK K
      try simp only [Act.put, List.setIfInBounds_toArray, List.set_cons_zero, List.set_cons_succ]
      refine wpAnyZ_ready (rs := [6]) (by kernel_rfl) (by simp) ?_
      refine AllReadyZ.cons (opAt rfl) (fun K hK => ?_) ?_
      · skip
        go_simp
        refine (with_any _ _ ks [key] q _ (by first | exact HQ1.out | (rw [hnn.out]; exact HQ1.out) | (rw [hmm.out]; exact HQ1.out) | (rw [hnn'.out]; exact HQ1.out) | (rw [hmm'.out]; exact HQ1.out)) (by first | exact HL1.out | (rw [hnn.out]; exact HL1.out) | (rw [hmm.out]; exact HL1.out) | (rw [hnn'.out]; exact HL1.out) | (rw [hmm'.out]; exact HL1.out)) (by simp) ((S1.below hb).more hb.size) (sl_one b5)).mono ?_
        rintro e w3x ⟨⟨u, rfl, r6⟩, hb1⟩
        replace r6 := r6.mono (lo' := w.heap.size) hb.size
        rw [← HY1.out] at r6
        replace bx := bx.below hb1 bx.lt
        replace bi := bi.below hb1 bi.lt
        replace bk := bk.below hb1 bk.lt
        replace bc := bc.below hb1 bc.lt
        replace bo := bo.below hb1 bo.lt
        replace b5 := b5.below hb1 b5.lt
        replace b11 := b11.below hb1 b11.lt
        replace hb := hb.trans (hb1.mono hb.size)
        clear hb1
        obtain ⟨Cr6, kr6, rfl⟩ := r6.val
        try go_wp2_with fail
        refine hK.out _ _ (by exact ⟨bx.cell 1, bx.cell 2, bx.cell 3, bi.cell 0, bk.cell 0, bc.cell 0⟩) (fun hHeld => ?_)
        clear hK K
        try simp only [Act.put, List.setIfInBounds_toArray, List.set_cons_zero, List.set_cons_succ]
        refine wpAnyZ_ready (rs := [12]) (by kernel_rfl) (by simp) ?_
        refine AllReadyZ.cons (opAt rfl) (fun K hK => ?_) ?_
        · skip
          go_simp
          refine (with_any _ _ vs [child] p _ (by first | exact HQ2.out | (rw [hnn.out]; exact HQ2.out) | (rw [hmm.out]; exact HQ2.out) | (rw [hnn'.out]; exact HQ2.out) | (rw [hmm'.out]; exact HQ2.out)) (by first | exact HL2.out | (rw [hnn.out]; exact HL2.out) | (rw [hmm.out]; exact HL2.out) | (rw [hnn'.out]; exact HL2.out) | (rw [hmm'.out]; exact HL2.out)) (by simp) ((S2.below hb).more hb.size) (sl_one b11)).mono ?_
          rintro e w4x ⟨⟨u, rfl, r12⟩, hb1⟩
          replace r12 := r12.mono (lo' := w.heap.size) hb.size
          rw [← HY2.out] at r12
          replace bx := bx.below hb1 bx.lt
          replace bi := bi.below hb1 bi.lt
          replace bk := bk.below hb1 bk.lt
          replace bc := bc.below hb1 bc.lt
          replace bo := bo.below hb1 bo.lt
          replace b5 := b5.below hb1 b5.lt
          replace b11 := b11.below hb1 b11.lt
          replace r6 := r6.below hb1
          replace hb := hb.trans (hb1.mono hb.size)
          clear hb1
          obtain ⟨Cr12, kr12, rfl⟩ := r12.val
          try go_wp2_with fail
          refine hK.out _ _ (by exact ⟨bx.cell 1, bx.cell 2, bx.cell 3, bi.cell 0, bk.cell 0, bc.cell 0⟩) (fun hHeld => ?_)
          clear hK K
          try simp only [Act.put, List.setIfInBounds_toArray, List.set_cons_zero, List.set_cons_succ]
          refine wpAnyZ_ready (rs := [15]) (by kernel_rfl) (by simp) ?_
          refine AllReadyZ.cons (opAt rfl) (fun K hK => ?_) ?_
          · skip
            go_simp
            refine (node_no _ _ _ _ l _ HLy.out r6.sl r12.sl HR.out).mono ?_
            rintro e w5x ⟨rfl, hb1⟩
            replace hb := hb.trans (hb1.mono hb.size)
            go_wp2_with fail
            exact ⟨rfl, rfl, hb⟩
          exact AllReadyZ.nil
        exact AllReadyZ.nil
      exact AllReadyZ.nil
    exact AllReadyZ.nil
  refine AllReadyZ.cons (opAt rfl) (fun K hK => ?_) ?_
  · skip
    go_simp
    replace bx := bx.alloc (.cells #[.int .u64 child] 22)
    replace bi := bi.alloc (.cells #[.int .u64 child] 22)
    replace bk := bk.alloc (.cells #[.int .u64 child] 22)
    replace bc := bc.alloc (.cells #[.int .u64 child] 22)
    replace bo := bo.alloc (.cells #[.int .u64 child] 22)
    replace hb := hb.alloc hb.size (.cells #[.int .u64 child] 22)
    have b11 := Blk.new w0x 22 #[.int .u64 child]
    generalize w0x.alloc (.cells #[.int .u64 child] 22) = w1x at *
    generalize w0x.heap.size = g11 at *
    refine hK.out _ _ (by exact ⟨bx.cell 1, bx.cell 2, bx.cell 3, bi.cell 0, bk.cell 0, bc.cell 0⟩) (fun hHeld => ?_)
    clear hK K
    try simp only [Act.put, List.setIfInBounds_toArray, List.set_cons_zero, List.set_cons_succ]
    refine wpAnyZ_ready (rs := [5]) (by kernel_rfl) (by simp) ?_
    refine AllReadyZ.cons (opAt rfl) (fun K hK => ?_) ?_
    · skip
      go_simp
      replace bx := bx.alloc (.cells #[.int .u64 key] 22)
      replace bi := bi.alloc (.cells #[.int .u64 key] 22)
      replace bk := bk.alloc (.cells #[.int .u64 key] 22)
      replace bc := bc.alloc (.cells #[.int .u64 key] 22)
      replace bo := bo.alloc (.cells #[.int .u64 key] 22)
      replace b11 := b11.alloc (.cells #[.int .u64 key] 22)
      replace hb := hb.alloc hb.size (.cells #[.int .u64 key] 22)
      have b5 := Blk.new w1x 22 #[.int .u64 key]
      generalize w1x.alloc (.cells #[.int .u64 key] 22) = w2x at *
      generalize w1x.heap.size = g5 at *
      refine hK.out _ _ (by exact ⟨bx.cell 1, bx.cell 2, bx.cell 3, bi.cell 0, bk.cell 0, bc.cell 0⟩) (fun hHeld => ?_)
      clear hK K
      try simp only [Act.put, List.setIfInBounds_toArray, List.set_cons_zero, List.set_cons_succ]
      refine wpAnyZ_ready (rs := [6]) (by kernel_rfl) (by simp) ?_
      refine AllReadyZ.cons (opAt rfl) (fun K hK => ?_) ?_
      · skip
        go_simp
        refine (with_any _ _ ks [key] q _ (by first | exact HQ1.out | (rw [hnn.out]; exact HQ1.out) | (rw [hmm.out]; exact HQ1.out) | (rw [hnn'.out]; exact HQ1.out) | (rw [hmm'.out]; exact HQ1.out)) (by first | exact HL1.out | (rw [hnn.out]; exact HL1.out) | (rw [hmm.out]; exact HL1.out) | (rw [hnn'.out]; exact HL1.out) | (rw [hmm'.out]; exact HL1.out)) (by simp) ((S1.below hb).more hb.size) (sl_one b5)).mono ?_
        rintro e w3x ⟨⟨u, rfl, r6⟩, hb1⟩
        replace r6 := r6.mono (lo' := w.heap.size) hb.size
        rw [← HY1.out] at r6
        replace bx := bx.below hb1 bx.lt
        replace bi := bi.below hb1 bi.lt
        replace bk := bk.below hb1 bk.lt
        replace bc := bc.below hb1 bc.lt
        replace bo := bo.below hb1 bo.lt
        replace b11 := b11.below hb1 b11.lt
        replace b5 := b5.below hb1 b5.lt
        replace hb := hb.trans (hb1.mono hb.size)
        clear hb1
        obtain ⟨Cr6, kr6, rfl⟩ := r6.val
        try go_wp2_with fail
        refine hK.out _ _ (by exact ⟨bx.cell 1, bx.cell 2, bx.cell 3, bi.cell 0, bk.cell 0, bc.cell 0⟩) (fun hHeld => ?_)
        clear hK K
        try simp only [Act.put, List.setIfInBounds_toArray, List.set_cons_zero, List.set_cons_succ]
        refine wpAnyZ_ready (rs := [12]) (by kernel_rfl) (by simp) ?_
        refine AllReadyZ.cons (opAt rfl) (fun K hK => ?_) ?_
        · skip
          go_simp
          refine (with_any _ _ vs [child] p _ (by first | exact HQ2.out | (rw [hnn.out]; exact HQ2.out) | (rw [hmm.out]; exact HQ2.out) | (rw [hnn'.out]; exact HQ2.out) | (rw [hmm'.out]; exact HQ2.out)) (by first | exact HL2.out | (rw [hnn.out]; exact HL2.out) | (rw [hmm.out]; exact HL2.out) | (rw [hnn'.out]; exact HL2.out) | (rw [hmm'.out]; exact HL2.out)) (by simp) ((S2.below hb).more hb.size) (sl_one b11)).mono ?_
          rintro e w4x ⟨⟨u, rfl, r12⟩, hb1⟩
          replace r12 := r12.mono (lo' := w.heap.size) hb.size
          rw [← HY2.out] at r12
          replace bx := bx.below hb1 bx.lt
          replace bi := bi.below hb1 bi.lt
          replace bk := bk.below hb1 bk.lt
          replace bc := bc.below hb1 bc.lt
          replace bo := bo.below hb1 bo.lt
          replace b11 := b11.below hb1 b11.lt
          replace b5 := b5.below hb1 b5.lt
          replace r6 := r6.below hb1
          replace hb := hb.trans (hb1.mono hb.size)
          clear hb1
          obtain ⟨Cr12, kr12, rfl⟩ := r12.val
          try go_wp2_with fail
          refine hK.out _ _ (by exact ⟨bx.cell 1, bx.cell 2, bx.cell 3, bi.cell 0, bk.cell 0, bc.cell 0⟩) (fun hHeld => ?_)
          clear hK K
          try simp only [Act.put, List.setIfInBounds_toArray, List.set_cons_zero, List.set_cons_succ]
          refine wpAnyZ_ready (rs := [15]) (by kernel_rfl) (by simp) ?_
          refine AllReadyZ.cons (opAt rfl) (fun K hK => ?_) ?_
          · skip
            go_simp
            refine (node_no _ _ _ _ l _ HLy.out r6.sl r12.sl HR.out).mono ?_
            rintro e w5x ⟨rfl, hb1⟩
            replace hb := hb.trans (hb1.mono hb.size)
            go_wp2_with fail
            exact ⟨rfl, rfl, hb⟩
          exact AllReadyZ.nil
        exact AllReadyZ.nil
      exact AllReadyZ.nil
    exact AllReadyZ.nil
  exact AllReadyZ.nil
set_option maxRecDepth 100000 in
set_option maxHeartbeats 4000000 in
theorem add1_out (b : Bool) (A A' : Option Addr) (c c' : Nat) (ks vs : List Int) (l i : Int) (gx gi gk gc go : Nat) (w : World) (hl : ks.length ≤ 900) (h : Nd w w.heap.size (.agg #[.bool b, .slice A ks.length c, .slice A' vs.length c', .int .u64 l]) b ks vs l) (bx : Blk w gx 27 #[.bool b, .slice A ks.length c, .slice A' vs.length c', .int .u64 l]) (bi : Blk w gi 3 #[.int .i64 i]) (hno : rightI b ks vs = false ∨ ¬ (1 ≤ i ∧ i ≤ (vs.length : Int))) :
    Calls Try.prog 36 #[.pointer (some ⟨gx, 0, none⟩), .pointer (some ⟨gi, 0, none⟩), .pointer (some ⟨gk, 0, none⟩), .pointer (some ⟨gc, 0, none⟩), .pointer (some ⟨go, 0, none⟩)] w fun e w' => e = .panicked wrongP ∧ Below w.heap.size w w' := by
  have Rt := hide (fun w2 (hB : Below w.heap.size w w2) => iright_any _ b ks vs l w2 (by omega) ((h.below hB).more hB.size))
  have hc : rightI b ks vs = false ∨ (rightI b ks vs = true ∧ i < 1) ∨ (rightI b ks vs = true ∧ 1 ≤ i ∧ (vs.length : Int) < i) := by
    cases hq : rightI b ks vs with
    | false => exact .inl rfl
    | true =>
      rcases hno with h' | h'
      · rw [hq] at h'; cases h'
      · rcases Int.lt_or_le i 1 with h1 | h1
        · exact .inr (.inl ⟨rfl, h1⟩)
        · exact .inr (.inr ⟨rfl, h1, by omega⟩)
  clear hno h
  rcases hc with hr | ⟨hr, hi⟩ | ⟨hr, hi, hi2⟩
  all_goals
    rw [hr] at Rt
    clear hr
    try have hd1 : decide ((1 : Int) ≤ i) = false := by rw [decide_eq_false_iff_not]; omega
    try have hd2 : decide (i ≤ (vs.length : Int)) = false := by rw [decide_eq_false_iff_not]; omega
    generalize ks.length = n at *
    generalize vs.length = m at *
    have mx := fun i => bx.cell i
    have mi := fun i => bi.cell i
    go_enter Try.func36, Try.ntmps36
    go_wp2_with fail
    refine (Rt.out _ (Below.refl _ _)).mono ?_
    rintro e wa ⟨rfl, hb⟩
    replace bx := bx.below hb bx.lt
    replace bi := bi.below hb bi.lt
    clear mx mi
    have mx := fun i => bx.cell i
    have mi := fun i => bi.cell i
    go_wp2_with fail
    refine (must_no _).mono ?_
    rintro e wb ⟨rfl, rfl⟩
    go_wp2_with fail
    exact ⟨rfl, rfl, hb⟩
set_option maxRecDepth 100000 in
set_option maxHeartbeats 4000000 in
theorem iadd_yes (v : Value) (b : Bool) (ks vs : List Int) (l i key child : Int) (w : World) (hl : ks.length ≤ 900) (h : Nd w w.heap.size v b ks vs l) (hr : rightI b ks vs = true) (p q : Nat) (hi : i = (p : Int)) (hp : p = q + 1) (hpv : p ≤ vs.length) (h3 : rightI true (ks.take q ++ [key] ++ ks.drop q) (vs.take p ++ [child] ++ vs.drop p) = true) :
    Calls Try.prog 17 #[v, .int .i64 i, .int .u64 key, .int .u64 child] w fun e w' => (∃ u, e = .returned (.tuple #[u, .bool true]) ∧ NdO w' w.heap.size u true (ks.take q ++ [key] ++ ks.drop q) (vs.take p ++ [child] ++ vs.drop p) l) ∧ Below w.heap.size w w' := by
  have hmf : ∀ (fn : Fn) (first cap : Array Value) (w : World), (Instr.makeFunc fn first cap).run Try.prog w = .ok (.func fn first cap) w := fun _ _ _ _ => rfl
  obtain ⟨A, c, A', c', rfl⟩ := ValN w b ks vs l v h
  replace hi := hide hi
  replace hp := hide hp
  have bx := ((((Blk.new w 27 #[.bool b, .slice A ks.length c, .slice A' vs.length c', .int .u64 l]).alloc (.cells #[.int .i64 i] 3)).alloc (.cells #[.int .u64 key] 22)).alloc (.cells #[.int .u64 child] 22)).alloc (.cells #[.bool false, .slice none 0 0, .slice none 0 0, .int .u64 0] 27)
  have bi := (((Blk.new (w.alloc (.cells #[.bool b, .slice A ks.length c, .slice A' vs.length c', .int .u64 l] 27)) 3 #[.int .i64 i]).alloc (.cells #[.int .u64 key] 22)).alloc (.cells #[.int .u64 child] 22)).alloc (.cells #[.bool false, .slice none 0 0, .slice none 0 0, .int .u64 0] 27)
  have bk := ((Blk.new ((w.alloc (.cells #[.bool b, .slice A ks.length c, .slice A' vs.length c', .int .u64 l] 27)).alloc (.cells #[.int .i64 i] 3)) 22 #[.int .u64 key]).alloc (.cells #[.int .u64 child] 22)).alloc (.cells #[.bool false, .slice none 0 0, .slice none 0 0, .int .u64 0] 27)
  have bc := (Blk.new (((w.alloc (.cells #[.bool b, .slice A ks.length c, .slice A' vs.length c', .int .u64 l] 27)).alloc (.cells #[.int .i64 i] 3)).alloc (.cells #[.int .u64 key] 22)) 22 #[.int .u64 child]).alloc (.cells #[.bool false, .slice none 0 0, .slice none 0 0, .int .u64 0] 27)
  have bo := Blk.new ((((w.alloc (.cells #[.bool b, .slice A ks.length c, .slice A' vs.length c', .int .u64 l] 27)).alloc (.cells #[.int .i64 i] 3)).alloc (.cells #[.int .u64 key] 22)).alloc (.cells #[.int .u64 child] 22)) 27 #[.bool false, .slice none 0 0, .slice none 0 0, .int .u64 0]
  have hb := (((((Below.refl w.heap.size w).alloc (Nat.le_refl _) (.cells #[.bool b, .slice A ks.length c, .slice A' vs.length c', .int .u64 l] 27)).alloc (by simp only [World.size_alloc]; omega) (.cells #[.int .i64 i] 3)).alloc (by simp only [World.size_alloc]; omega) (.cells #[.int .u64 key] 22)).alloc (by simp only [World.size_alloc]; omega) (.cells #[.int .u64 child] 22)).alloc (by simp only [World.size_alloc]; omega) (.cells #[.bool false, .slice none 0 0, .slice none 0 0, .int .u64 0] 27)
  simp only [World.size_alloc] at bi bk bc bo
  go_enter Try.func17, Try.ntmps17
  go_wp2_with fail
  generalize (((((w.alloc (.cells #[.bool b, .slice A ks.length c, .slice A' vs.length c', .int .u64 l] 27)).alloc (.cells #[.int .i64 i] 3)).alloc (.cells #[.int .u64 key] 22)).alloc (.cells #[.int .u64 child] 22)).alloc (.cells #[.bool false, .slice none 0 0, .slice none 0 0, .int .u64 0] 27)) = w2 at *
  obtain ⟨gx, egx⟩ : ∃ g, g = w.heap.size := ⟨_, rfl⟩
  obtain ⟨gi, egi⟩ : ∃ g, g = w.heap.size + 1 := ⟨_, rfl⟩
  obtain ⟨gk, egk⟩ : ∃ g, g = w.heap.size + 1 + 1 := ⟨_, rfl⟩
  obtain ⟨gc, egc⟩ : ∃ g, g = w.heap.size + 1 + 1 + 1 := ⟨_, rfl⟩
  obtain ⟨go, ego⟩ : ∃ g, g = w.heap.size + 1 + 1 + 1 + 1 := ⟨_, rfl⟩
  rw [← ego] at bo
  rw [← egc] at bc
  rw [← egk] at bk
  rw [← egi] at bi
  rw [← egx] at bx
  rw [← ego, ← egc, ← egk, ← egi, ← egx]
  have HGO := hide (show w.heap.size ≤ go by omega)
  have T1 := hide (tried_part 36 #[.pointer (some ⟨gx, 0, none⟩), .pointer (some ⟨gi, 0, none⟩), .pointer (some ⟨gk, 0, none⟩), .pointer (some ⟨gc, 0, none⟩), .pointer (some ⟨go, 0, none⟩)] [go] (NodeOut go w2.heap.size (ks.take q ++ [key] ++ ks.drop q) (vs.take p ++ [child] ++ vs.drop p) l) w2 (fun _ => by rfl)
    (by intro o ho; simp at ho; subst ho; exact bo.lt) (fun w' b hb hs => hs.set_ hb)
    (fun w1 hB _ => (add1_yes b A A' c c' ks vs l i key child gx gi gk gc go w1 hl (((h.below hb).below (hB.mono hb.size)).more (Nat.le_trans hb.size hB.size)) (bx.below hB bx.lt) (bi.below hB bi.lt) (bk.below hB bk.lt) (bc.below hB bc.lt) (bo.below hB bo.lt) (by omega) hr p q hi.out hp.out hpv h3).mono (fun e w' hh => ⟨hh.1, hh.2.1, hh.2.2.mono hB.size⟩)))
  have HLO := hide hb.size
  clear bx bi bk bc h hr hi hp hpv h3 hl
  obtain ⟨y1, hy1⟩ : ∃ y, y = ks.take q ++ [key] ++ ks.drop q := ⟨_, rfl⟩
  obtain ⟨y2, hy2⟩ : ∃ y, y = vs.take p ++ [child] ++ vs.drop p := ⟨_, rfl⟩
  rw [← hy1, ← hy2] at T1
  have HY1 := hide hy1
  have HY2 := hide hy2
  clear hy1 hy2
  refine T1.out.mono ?_
  rintro e w3 ⟨rfl, hp, k1, u1, bo3, N⟩
  have hb3 := Part.below_trans hb hp (by intro o ho; simp at ho; subst ho; exact HGO.out) (by omega)
  obtain ⟨A1, d1, A2, d2, e1⟩ := N.val
  simp only [Value.agg.injEq, Array.mk.injEq, List.cons.injEq, and_true, true_and] at e1
  obtain ⟨rfl, rfl⟩ := e1
  clear T1 hp bo hb egx egi egk egc ego
  have mo := fun i => bo3.cell i
  have zo := fun i => bo3.frozen i
  go_wp2_with fail
  have b9 := bo3.setN (.bool true) (.slice A1 y1.length d1) (.slice A2 y2.length d2) (.int .u64 l)
  have B9 := below_setN hb3 (g := go) HGO.out (.bool true) (.slice A1 y1.length d1) (.slice A2 y2.length d2) (.int .u64 l)
  have N9 := (N.setN bo3 (.bool true) (.slice A1 y1.length d1) (.slice A2 y2.length d2) (.int .u64 l)).mono HLO.out
  have m9 := fun i => b9.cell i
  refine bodyPost_ret (v := .tuple #[.agg #[.bool true, .slice A1 y1.length d1, .slice A2 y2.length d2, .int .u64 l], .bool true]) (by simp [results, Try.results17, go_sem, m9]) rfl ⟨⟨_, rfl, ?_⟩, B9⟩
  rw [← HY1.out, ← HY2.out]
  exact N9
set_option maxRecDepth 100000 in
set_option maxHeartbeats 4000000 in
theorem iadd_no (v : Value) (b : Bool) (ks vs : List Int) (l i key child : Int) (w : World) (hl : ks.length ≤ 900) (h : Nd w w.heap.size v b ks vs l) (hr : rightI b ks vs = true) (p q : Nat) (hi : i = (p : Int)) (hp : p = q + 1) (hpv : p ≤ vs.length) (h3 : rightI true (ks.take q ++ [key] ++ ks.drop q) (vs.take p ++ [child] ++ vs.drop p) = false) :
    Calls Try.prog 17 #[v, .int .i64 i, .int .u64 key, .int .u64 child] w fun e w' => e = .returned (.tuple #[.agg #[.bool false, .slice none 0 0, .slice none 0 0, .int .u64 0], .bool false]) ∧ Below w.heap.size w w' := by
  have hmf : ∀ (fn : Fn) (first cap : Array Value) (w : World), (Instr.makeFunc fn first cap).run Try.prog w = .ok (.func fn first cap) w := fun _ _ _ _ => rfl
  obtain ⟨A, c, A', c', rfl⟩ := ValN w b ks vs l v h
  replace hi := hide hi
  replace hp := hide hp
  have bx := ((((Blk.new w 27 #[.bool b, .slice A ks.length c, .slice A' vs.length c', .int .u64 l]).alloc (.cells #[.int .i64 i] 3)).alloc (.cells #[.int .u64 key] 22)).alloc (.cells #[.int .u64 child] 22)).alloc (.cells #[.bool false, .slice none 0 0, .slice none 0 0, .int .u64 0] 27)
  have bi := (((Blk.new (w.alloc (.cells #[.bool b, .slice A ks.length c, .slice A' vs.length c', .int .u64 l] 27)) 3 #[.int .i64 i]).alloc (.cells #[.int .u64 key] 22)).alloc (.cells #[.int .u64 child] 22)).alloc (.cells #[.bool false, .slice none 0 0, .slice none 0 0, .int .u64 0] 27)
  have bk := ((Blk.new ((w.alloc (.cells #[.bool b, .slice A ks.length c, .slice A' vs.length c', .int .u64 l] 27)).alloc (.cells #[.int .i64 i] 3)) 22 #[.int .u64 key]).alloc (.cells #[.int .u64 child] 22)).alloc (.cells #[.bool false, .slice none 0 0, .slice none 0 0, .int .u64 0] 27)
  have bc := (Blk.new (((w.alloc (.cells #[.bool b, .slice A ks.length c, .slice A' vs.length c', .int .u64 l] 27)).alloc (.cells #[.int .i64 i] 3)).alloc (.cells #[.int .u64 key] 22)) 22 #[.int .u64 child]).alloc (.cells #[.bool false, .slice none 0 0, .slice none 0 0, .int .u64 0] 27)
  have bo := Blk.new ((((w.alloc (.cells #[.bool b, .slice A ks.length c, .slice A' vs.length c', .int .u64 l] 27)).alloc (.cells #[.int .i64 i] 3)).alloc (.cells #[.int .u64 key] 22)).alloc (.cells #[.int .u64 child] 22)) 27 #[.bool false, .slice none 0 0, .slice none 0 0, .int .u64 0]
  have hb := (((((Below.refl w.heap.size w).alloc (Nat.le_refl _) (.cells #[.bool b, .slice A ks.length c, .slice A' vs.length c', .int .u64 l] 27)).alloc (by simp only [World.size_alloc]; omega) (.cells #[.int .i64 i] 3)).alloc (by simp only [World.size_alloc]; omega) (.cells #[.int .u64 key] 22)).alloc (by simp only [World.size_alloc]; omega) (.cells #[.int .u64 child] 22)).alloc (by simp only [World.size_alloc]; omega) (.cells #[.bool false, .slice none 0 0, .slice none 0 0, .int .u64 0] 27)
  simp only [World.size_alloc] at bi bk bc bo
  go_enter Try.func17, Try.ntmps17
  go_wp2_with fail
  generalize (((((w.alloc (.cells #[.bool b, .slice A ks.length c, .slice A' vs.length c', .int .u64 l] 27)).alloc (.cells #[.int .i64 i] 3)).alloc (.cells #[.int .u64 key] 22)).alloc (.cells #[.int .u64 child] 22)).alloc (.cells #[.bool false, .slice none 0 0, .slice none 0 0, .int .u64 0] 27)) = w2 at *
  obtain ⟨gx, egx⟩ : ∃ g, g = w.heap.size := ⟨_, rfl⟩
  obtain ⟨gi, egi⟩ : ∃ g, g = w.heap.size + 1 := ⟨_, rfl⟩
  obtain ⟨gk, egk⟩ : ∃ g, g = w.heap.size + 1 + 1 := ⟨_, rfl⟩
  obtain ⟨gc, egc⟩ : ∃ g, g = w.heap.size + 1 + 1 + 1 := ⟨_, rfl⟩
  obtain ⟨go, ego⟩ : ∃ g, g = w.heap.size + 1 + 1 + 1 + 1 := ⟨_, rfl⟩
  rw [← ego] at bo
  rw [← egc] at bc
  rw [← egk] at bk
  rw [← egi] at bi
  rw [← egx] at bx
  rw [← ego, ← egc, ← egk, ← egi, ← egx]
  have HGO := hide (show w.heap.size ≤ go by omega)
  have T1 := hide (tried_wrong 36 #[.pointer (some ⟨gx, 0, none⟩), .pointer (some ⟨gi, 0, none⟩), .pointer (some ⟨gk, 0, none⟩), .pointer (some ⟨gc, 0, none⟩), .pointer (some ⟨go, 0, none⟩)] w2 (fun _ => by rfl) (fun w1 hB => add1_no b A A' c c' ks vs l i key child gx gi gk gc go w1 hl (((h.below hb).below (hB.mono hb.size)).more (Nat.le_trans hb.size hB.size)) (bx.below hB bx.lt) (bi.below hB bi.lt) (bk.below hB bk.lt) (bc.below hB bc.lt) (bo.below hB bo.lt) (by omega) hr p q hi.out hp.out hpv h3))
  have HLO := hide hb.size
  clear bx bi bk bc h hr hi hp hpv h3 hl
  refine T1.out.mono ?_
  rintro e w3 ⟨rfl, hb1⟩
  replace bo := bo.below hb1 bo.lt
  replace hb := hb.trans (hb1.mono hb.size)
  clear T1 hb1 egx egi egk egc ego
  have mo := fun i => bo.cell i
  have zo := fun i => bo.frozen i
  go_wp2_with fail
  have b9 := bo.setN (.bool false) (.slice none 0 0) (.slice none 0 0) (.int .u64 0)
  have B9 := below_setN hb (g := go) HGO.out (.bool false) (.slice none 0 0) (.slice none 0 0) (.int .u64 0)
  have m9 := fun i => b9.cell i
  exact bodyPost_ret (v := .tuple #[.agg #[.bool false, .slice none 0 0, .slice none 0 0, .int .u64 0], .bool false]) (by simp [results, Try.results17, go_sem, m9]) rfl ⟨rfl, B9⟩
set_option maxRecDepth 100000 in
set_option maxHeartbeats 4000000 in
theorem iadd_out (v : Value) (b : Bool) (ks vs : List Int) (l i key child : Int) (w : World) (hl : ks.length ≤ 900) (h : Nd w w.heap.size v b ks vs l) (hno : rightI b ks vs = false ∨ ¬ (1 ≤ i ∧ i ≤ (vs.length : Int))) :
    Calls Try.prog 17 #[v, .int .i64 i, .int .u64 key, .int .u64 child] w fun e w' => e = .returned (.tuple #[.agg #[.bool false, .slice none 0 0, .slice none 0 0, .int .u64 0], .bool false]) ∧ Below w.heap.size w w' := by
  have hmf : ∀ (fn : Fn) (first cap : Array Value) (w : World), (Instr.makeFunc fn first cap).run Try.prog w = .ok (.func fn first cap) w := fun _ _ _ _ => rfl
  obtain ⟨A, c, A', c', rfl⟩ := ValN w b ks vs l v h
  have bx := ((((Blk.new w 27 #[.bool b, .slice A ks.length c, .slice A' vs.length c', .int .u64 l]).alloc (.cells #[.int .i64 i] 3)).alloc (.cells #[.int .u64 key] 22)).alloc (.cells #[.int .u64 child] 22)).alloc (.cells #[.bool false, .slice none 0 0, .slice none 0 0, .int .u64 0] 27)
  have bi := (((Blk.new (w.alloc (.cells #[.bool b, .slice A ks.length c, .slice A' vs.length c', .int .u64 l] 27)) 3 #[.int .i64 i]).alloc (.cells #[.int .u64 key] 22)).alloc (.cells #[.int .u64 child] 22)).alloc (.cells #[.bool false, .slice none 0 0, .slice none 0 0, .int .u64 0] 27)
  have bk := ((Blk.new ((w.alloc (.cells #[.bool b, .slice A ks.length c, .slice A' vs.length c', .int .u64 l] 27)).alloc (.cells #[.int .i64 i] 3)) 22 #[.int .u64 key]).alloc (.cells #[.int .u64 child] 22)).alloc (.cells #[.bool false, .slice none 0 0, .slice none 0 0, .int .u64 0] 27)
  have bc := (Blk.new (((w.alloc (.cells #[.bool b, .slice A ks.length c, .slice A' vs.length c', .int .u64 l] 27)).alloc (.cells #[.int .i64 i] 3)).alloc (.cells #[.int .u64 key] 22)) 22 #[.int .u64 child]).alloc (.cells #[.bool false, .slice none 0 0, .slice none 0 0, .int .u64 0] 27)
  have bo := Blk.new ((((w.alloc (.cells #[.bool b, .slice A ks.length c, .slice A' vs.length c', .int .u64 l] 27)).alloc (.cells #[.int .i64 i] 3)).alloc (.cells #[.int .u64 key] 22)).alloc (.cells #[.int .u64 child] 22)) 27 #[.bool false, .slice none 0 0, .slice none 0 0, .int .u64 0]
  have hb := (((((Below.refl w.heap.size w).alloc (Nat.le_refl _) (.cells #[.bool b, .slice A ks.length c, .slice A' vs.length c', .int .u64 l] 27)).alloc (by simp only [World.size_alloc]; omega) (.cells #[.int .i64 i] 3)).alloc (by simp only [World.size_alloc]; omega) (.cells #[.int .u64 key] 22)).alloc (by simp only [World.size_alloc]; omega) (.cells #[.int .u64 child] 22)).alloc (by simp only [World.size_alloc]; omega) (.cells #[.bool false, .slice none 0 0, .slice none 0 0, .int .u64 0] 27)
  simp only [World.size_alloc] at bi bk bc bo
  go_enter Try.func17, Try.ntmps17
  go_wp2_with fail
  generalize (((((w.alloc (.cells #[.bool b, .slice A ks.length c, .slice A' vs.length c', .int .u64 l] 27)).alloc (.cells #[.int .i64 i] 3)).alloc (.cells #[.int .u64 key] 22)).alloc (.cells #[.int .u64 child] 22)).alloc (.cells #[.bool false, .slice none 0 0, .slice none 0 0, .int .u64 0] 27)) = w2 at *
  obtain ⟨gx, egx⟩ : ∃ g, g = w.heap.size := ⟨_, rfl⟩
  obtain ⟨gi, egi⟩ : ∃ g, g = w.heap.size + 1 := ⟨_, rfl⟩
  obtain ⟨gk, egk⟩ : ∃ g, g = w.heap.size + 1 + 1 := ⟨_, rfl⟩
  obtain ⟨gc, egc⟩ : ∃ g, g = w.heap.size + 1 + 1 + 1 := ⟨_, rfl⟩
  obtain ⟨go, ego⟩ : ∃ g, g = w.heap.size + 1 + 1 + 1 + 1 := ⟨_, rfl⟩
  rw [← ego] at bo
  rw [← egc] at bc
  rw [← egk] at bk
  rw [← egi] at bi
  rw [← egx] at bx
  rw [← ego, ← egc, ← egk, ← egi, ← egx]
  have HGO := hide (show w.heap.size ≤ go by omega)
  have T1 := hide (tried_wrong 36 #[.pointer (some ⟨gx, 0, none⟩), .pointer (some ⟨gi, 0, none⟩), .pointer (some ⟨gk, 0, none⟩), .pointer (some ⟨gc, 0, none⟩), .pointer (some ⟨go, 0, none⟩)] w2 (fun _ => by rfl) (fun w1 hB => add1_out b A A' c c' ks vs l i gx gi gk gc go w1 hl (((h.below hb).below (hB.mono hb.size)).more (Nat.le_trans hb.size hB.size)) (bx.below hB bx.lt) (bi.below hB bi.lt) hno))
  have HLO := hide hb.size
  clear bx bi bk bc h hno hl
  refine T1.out.mono ?_
  rintro e w3 ⟨rfl, hb1⟩
  replace bo := bo.below hb1 bo.lt
  replace hb := hb.trans (hb1.mono hb.size)
  clear T1 hb1 egx egi egk egc ego
  have mo := fun i => bo.cell i
  have zo := fun i => bo.frozen i
  go_wp2_with fail
  have b9 := bo.setN (.bool false) (.slice none 0 0) (.slice none 0 0) (.int .u64 0)
  have B9 := below_setN hb (g := go) HGO.out (.bool false) (.slice none 0 0) (.slice none 0 0) (.int .u64 0)
  have m9 := fun i => b9.cell i
  exact bodyPost_ret (v := .tuple #[.agg #[.bool false, .slice none 0 0, .slice none 0 0, .int .u64 0], .bool false]) (by simp [results, Try.results17, go_sem, m9]) rfl ⟨rfl, B9⟩
end Go.Proofs.Ytcmoblibjhaegaa
