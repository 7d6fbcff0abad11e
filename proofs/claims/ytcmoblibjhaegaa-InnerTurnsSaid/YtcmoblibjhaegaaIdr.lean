/-
  inner.Drop.
-/
import Derived.Test.YtcmoblibjhaegaaImm
namespace Go.Proofs.Ytcmoblibjhaegaa
open Go.RowKit

theorem rise_drop {ks : List Int} (h : riseB ks = true) (q : Nat) : riseB (ks.take q ++ ks.drop (q + 1)) = true := by
  refine rise_sub h ?_
  conv => rhs; rw [← List.take_append_drop q ks]
  exact List.Sublist.append (List.Sublist.refl _) (by rw [← List.drop_drop]; exact List.drop_sublist _ _)
set_option maxRecDepth 100000 in
set_option maxHeartbeats 4000000 in
theorem drop1_yes (b : Bool) (A A' : Option Addr) (c c' : Nat) (ks vs : List Int) (l i : Int) (gx gi go : Nat) (w : World) (hl : ks.length ≤ 900) (h : Nd w w.heap.size (.agg #[.bool b, .slice A ks.length c, .slice A' vs.length c', .int .u64 l]) b ks vs l) (bx : Blk w gx 27 #[.bool b, .slice A ks.length c, .slice A' vs.length c', .int .u64 l]) (bi : Blk w gi 3 #[.int .i64 i]) (bo : Blk w go 27 #[.bool false, .slice none 0 0, .slice none 0 0, .int .u64 0]) (hxo : gx ≠ go) (hr : rightI b ks vs = true) (p q : Nat) (hi : i = (p : Int)) (hq : q = p - 1) (hpv : p < vs.length) (h2 : 1 < vs.length) :
    Calls Try.prog 38 #[.pointer (some ⟨gx, 0, none⟩), .pointer (some ⟨gi, 0, none⟩), .pointer (some ⟨go, 0, none⟩)] w fun e w' => e = .returned (.tuple #[]) ∧ Part [go] w w' ∧ NodeOut go w.heap.size (ks.take q ++ ks.drop (q + 1)) (vs.take p ++ vs.drop (p + 1)) l w' := by
  have Rt := hide (fun w2 (hB : Below w.heap.size w w2) => iright_any _ b ks vs l w2 (by omega) ((h.below hB).more hB.size))
  rw [hr] at Rt
  have hkv := (rightI_parts hr).2.1
  have hrise := (rightI_parts hr).2.2
  subst hi
  have HA1 := hide (show q ≤ q + 1 by omega)
  have HB1 := hide (show q + 1 ≤ ks.length by omega)
  have HA2 := hide (show p ≤ p + 1 by omega)
  have HB2 := hide (show p + 1 ≤ vs.length by omega)
  have HL1 := hide (show ks.length ≤ 1000 by omega)
  have HL2 := hide (show vs.length ≤ 1000 by omega)
  have h3 : rightI true (ks.take q ++ ks.drop (q + 1)) (vs.take p ++ vs.drop (p + 1)) = true := rightI_of (by simp; omega) (rise_drop hrise q)
  obtain ⟨y1, hy1⟩ : ∃ y, y = ks.take q ++ ks.drop (q + 1) := ⟨_, rfl⟩
  obtain ⟨y2, hy2⟩ : ∃ y, y = vs.take p ++ vs.drop (p + 1) := ⟨_, rfl⟩
  rw [← hy1, ← hy2] at h3 ⊢
  have HLy := hide (show y1.length ≤ 1000000 by rw [hy1]; simp; omega)
  have HY1 := hide hy1
  have HY2 := hide hy2
  have HR := hide h3
  have hp0 : (0 : Int) ≤ (p : Int) := by omega
  have hp2 : (p : Int) < (vs.length : Int) := by omega
  have hp3 : (1 : Int) < (vs.length : Int) := by omega
  have hmax : max (0 : Int) ((p : Int) - 1) = (q : Int) := by omega
  have hw0 : IntKind.i64.wrap ((p : Int) - 1) = (p : Int) - 1 := IntWalk.i64_in _ (by omega)
  have hw1 : IntKind.i64.wrap ((q : Int) + 1) = (q : Int) + 1 := IntWalk.i64_in _ (by omega)
  have hw2 : IntKind.i64.wrap ((p : Int) + 1) = (p : Int) + 1 := IntWalk.i64_in _ (by omega)
  clear hy1 hy2 h3 hr hkv hq hpv h2 hl hrise
  obtain ⟨k1, u1, e1, S1, S2⟩ := h
  simp only [Value.agg.injEq, Array.mk.injEq, List.cons.injEq, and_true, true_and] at e1
  obtain ⟨rfl, rfl⟩ := e1
  generalize hnn : ks.length = n at *
  generalize hmm : vs.length = m at *
  replace hnn := hide hnn
  replace hmm := hide hmm
  have HXO := hide hxo
  have HIO := hide (bi.ne_ bo (by decide))
  have mx := fun i => bx.cell i
  have mi := fun i => bi.cell i
  rcases Int.lt_or_le 1 (p : Int) with hp1 | hp1
  · skip
    go_enter Try.func38, Try.ntmps38
    go_wp2_with fail
    refine (Rt.out _ (Below.refl _ _)).mono ?_
    rintro e wa ⟨rfl, hb⟩
    replace bx := bx.below hb bx.lt
    replace bi := bi.below hb bi.lt
    replace bo := bo.below hb bo.lt
    clear mx mi
    have mx := fun i => bx.cell i
    have mi := fun i => bi.cell i
    go_wp2_with fail
    refine (must_yes _).mono ?_
    rintro e wb ⟨rfl, rfl⟩
    go_wp2_with fail
    clear mx mi
    rw [show (p : Int) - 1 = (q : Int) by omega]
    refine wp_region_heldZ [] (fun w' => w'.cell? ⟨gx, 1, none⟩ = some (.slice A n c) ∧ w'.cell? ⟨gx, 2, none⟩ = some (.slice A' m c') ∧ w'.cell? ⟨gx, 3, none⟩ = some (.int .u64 l) ∧ w'.cell? ⟨gi, 0, none⟩ = some (.int .i64 p)) (by kernel_rfl) (by exact ⟨bx.cell 1, bx.cell 2, bx.cell 3, bi.cell 0⟩) (fun hHeld => ?_)
    replace bx := bx.drew
    replace bi := bi.drew
    replace bo := bo.drew
    replace hb := hb.drew
    generalize wb.drew = w0x at *
    refine' wpAnyZ_takeA (i := 0) (v := ?_) (opAt rfl) (by kernel_rfl) (by kernel_rfl) (by kernel_rfl) (by kernel_rfl) (fun _ _ _ h => h) (by assumption) (by rfl) (fun w hSw => ?_) ?_
    rotate_left
    · (try dsimp only at hSw); go_simp; (try with_reducible rfl)
    try simp only [Act.put, List.setIfInBounds_toArray, List.set_cons_zero, List.set_cons_succ]
    refine' wpAnyZ_takeA (i := 1) (v := ?_) (opAt rfl) (by kernel_rfl) (by kernel_rfl) (by kernel_rfl) (by kernel_rfl) (fun _ _ _ h => h) (by assumption) (by rfl) (fun w hSw => ?_) ?_
    rotate_left
    · (try dsimp only at hSw); go_simp; (try with_reducible rfl)
    try simp only [Act.put, List.setIfInBounds_toArray, List.set_cons_zero, List.set_cons_succ]
    refine' wpAnyZ_takeA (i := 2) (v := ?_) (opAt rfl) (by kernel_rfl) (by kernel_rfl) (by kernel_rfl) (by kernel_rfl) (fun _ _ _ h => h) (by assumption) (by rfl) (fun w hSw => ?_) ?_
    rotate_left
    · (try dsimp only at hSw); go_simp; (try with_reducible rfl)
    try simp only [Act.put, List.setIfInBounds_toArray, List.set_cons_zero, List.set_cons_succ]
    refine' wpAnyZ_takeA (i := 3) (v := ?_) (opAt rfl) (by kernel_rfl) (by kernel_rfl) (by kernel_rfl) (by kernel_rfl) (fun _ _ _ h => h) (by assumption) (by rfl) (fun w hSw => ?_) ?_
    rotate_left
    · (try dsimp only at hSw); go_simp; (try with_reducible rfl)
    try simp only [Act.put, List.setIfInBounds_toArray, List.set_cons_zero, List.set_cons_succ]
    refine' wpAnyZ_takeA (i := 4) (v := ?_) (opAt rfl) (by kernel_rfl) (by kernel_rfl) (by kernel_rfl) (by kernel_rfl) (fun _ _ _ h => h) (by assumption) (by rfl) (fun w hSw => ?_) ?_
    rotate_left
    · (try dsimp only at hSw); go_simp; (try with_reducible rfl)
    try simp only [Act.put, List.setIfInBounds_toArray, List.set_cons_zero, List.set_cons_succ]
    refine' wpAnyZ_takeA (i := 6) (v := ?_) (opAt rfl) (by kernel_rfl) (by kernel_rfl) (by kernel_rfl) (by kernel_rfl) (fun _ _ _ h => h) (by assumption) (by rfl) (fun w hSw => ?_) ?_
    rotate_left
    · (try dsimp only at hSw); go_simp; (try with_reducible rfl)
    try simp only [Act.put, List.setIfInBounds_toArray, List.set_cons_zero, List.set_cons_succ]
    refine' wpAnyZ_takeA (i := 7) (v := ?_) (opAt rfl) (by kernel_rfl) (by kernel_rfl) (by kernel_rfl) (by kernel_rfl) (fun _ _ _ h => h) (by assumption) (by rfl) (fun w hSw => ?_) ?_
    rotate_left
    · (try dsimp only at hSw); go_simp; (try with_reducible rfl)
    try simp only [Act.put, List.setIfInBounds_toArray, List.set_cons_zero, List.set_cons_succ]
    refine' wpAnyZ_takeA (i := 8) (v := ?_) (opAt rfl) (by kernel_rfl) (by kernel_rfl) (by kernel_rfl) (by kernel_rfl) (fun _ _ _ h => h) (by assumption) (by rfl) (fun w hSw => ?_) ?_
    rotate_left
    · (try dsimp only at hSw); go_simp; (try with_reducible rfl)
    try simp only [Act.put, List.setIfInBounds_toArray, List.set_cons_zero, List.set_cons_succ]
    refine' wpAnyZ_takeA (i := 9) (v := ?_) (opAt rfl) (by kernel_rfl) (by kernel_rfl) (by kernel_rfl) (by kernel_rfl) (fun _ _ _ h => h) (by assumption) (by rfl) (fun w hSw => ?_) ?_
    rotate_left
    · (try dsimp only at hSw); go_simp; (try with_reducible rfl)
    try simp only [Act.put, List.setIfInBounds_toArray, List.set_cons_zero, List.set_cons_succ]
    refine' wpAnyZ_takeA (i := 10) (v := ?_) (opAt rfl) (by kernel_rfl) (by kernel_rfl) (by kernel_rfl) (by kernel_rfl) (fun _ _ _ h => h) (by assumption) (by rfl) (fun w hSw => ?_) ?_
    rotate_left
    · (try dsimp only at hSw); go_simp; (try with_reducible rfl)
    try simp only [Act.put, List.setIfInBounds_toArray, List.set_cons_zero, List.set_cons_succ]
    refine' wpAnyZ_takeA (i := 12) (v := ?_) (opAt rfl) (by kernel_rfl) (by kernel_rfl) (by kernel_rfl) (by kernel_rfl) (fun _ _ _ h => h) (by assumption) (by rfl) (fun w hSw => ?_) ?_
    rotate_left
    · (try dsimp only at hSw); go_simp; (try with_reducible rfl)
    try simp only [Act.put, List.setIfInBounds_toArray, List.set_cons_zero, List.set_cons_succ]
    refine' wpAnyZ_takeA (i := 13) (v := ?_) (opAt rfl) (by kernel_rfl) (by kernel_rfl) (by kernel_rfl) (by kernel_rfl) (fun _ _ _ h => h) (by assumption) (by rfl) (fun w hSw => ?_) ?_
    rotate_left
    · (try dsimp only at hSw); go_simp; (try with_reducible rfl)
    try simp only [Act.put, List.setIfInBounds_toArray, List.set_cons_zero, List.set_cons_succ]
    refine wpAnyZ_ready (rs := [5]) (by kernel_rfl) (by simp) ?_
    refine AllReadyZ.cons (opAt rfl) (fun K hK => ?_) ?_
    · skip
      go_simp
      refine (without_any _ ks q (q + 1) _ (by first | exact HA1.out | (rw [hnn.out]; exact HA1.out) | (rw [hmm.out]; exact HA1.out) | (rw [hnn'.out]; exact HA1.out) | (rw [hmm'.out]; exact HA1.out)) (by first | exact HB1.out | (rw [hnn.out]; exact HB1.out) | (rw [hmm.out]; exact HB1.out) | (rw [hnn'.out]; exact HB1.out) | (rw [hmm'.out]; exact HB1.out)) (by first | exact HL1.out | (rw [hnn.out]; exact HL1.out) | (rw [hmm.out]; exact HL1.out) | (rw [hnn'.out]; exact HL1.out) | (rw [hmm'.out]; exact HL1.out)) ((S1.below hb).more hb.size)).mono ?_
      rintro e w1x ⟨⟨u, rfl, r5⟩, hb1⟩
      replace r5 := r5.mono (lo' := w.heap.size) hb.size
      rw [← HY1.out] at r5
      replace bx := bx.below hb1 bx.lt
      replace bi := bi.below hb1 bi.lt
      replace bo := bo.below hb1 bo.lt
      replace hb := hb.trans (hb1.mono hb.size)
      clear hb1
      obtain ⟨Cr5, kr5, rfl⟩ := r5.val
      try go_wp2_with fail
      refine hK.out _ _ (by exact ⟨bx.cell 1, bx.cell 2, bx.cell 3, bi.cell 0⟩) (fun hHeld => ?_)
      clear hK K
      try simp only [Act.put, List.setIfInBounds_toArray, List.set_cons_zero, List.set_cons_succ]
      refine wpAnyZ_ready (rs := [11]) (by kernel_rfl) (by simp) ?_
      refine AllReadyZ.cons (opAt rfl) (fun K hK => ?_) ?_
      · skip
        go_simp
        refine (without_any _ vs p (p + 1) _ (by first | exact HA2.out | (rw [hnn.out]; exact HA2.out) | (rw [hmm.out]; exact HA2.out) | (rw [hnn'.out]; exact HA2.out) | (rw [hmm'.out]; exact HA2.out)) (by first | exact HB2.out | (rw [hnn.out]; exact HB2.out) | (rw [hmm.out]; exact HB2.out) | (rw [hnn'.out]; exact HB2.out) | (rw [hmm'.out]; exact HB2.out)) (by first | exact HL2.out | (rw [hnn.out]; exact HL2.out) | (rw [hmm.out]; exact HL2.out) | (rw [hnn'.out]; exact HL2.out) | (rw [hmm'.out]; exact HL2.out)) ((S2.below hb).more hb.size)).mono ?_
        rintro e w2x ⟨⟨u, rfl, r11⟩, hb1⟩
        replace r11 := r11.mono (lo' := w.heap.size) hb.size
        rw [← HY2.out] at r11
        replace bx := bx.below hb1 bx.lt
        replace bi := bi.below hb1 bi.lt
        replace bo := bo.below hb1 bo.lt
        replace r5 := r5.below hb1
        replace hb := hb.trans (hb1.mono hb.size)
        clear hb1
        obtain ⟨Cr11, kr11, rfl⟩ := r11.val
        try go_wp2_with fail
        refine hK.out _ _ (by exact ⟨bx.cell 1, bx.cell 2, bx.cell 3, bi.cell 0⟩) (fun hHeld => ?_)
        clear hK K
        try simp only [Act.put, List.setIfInBounds_toArray, List.set_cons_zero, List.set_cons_succ]
        refine wpAnyZ_ready (rs := [14]) (by kernel_rfl) (by simp) ?_
        refine AllReadyZ.cons (opAt rfl) (fun K hK => ?_) ?_
        · skip
          go_simp
          refine (node_yes _ _ _ _ l _ HLy.out r5.sl r11.sl HR.out).mono ?_
          rintro e w3x ⟨rfl, hb1⟩
          replace bx := bx.below hb1 bx.lt
          replace bi := bi.below hb1 bi.lt
          replace bo := bo.below hb1 bo.lt
          replace r5 := r5.below hb1
          replace r11 := r11.below hb1
          replace hb := hb.trans (hb1.mono hb.size)
          clear hb1
          have Na : NdO w3x w.heap.size (.agg #[.bool true, .slice Cr5 y1.length kr5, .slice Cr11 y2.length kr11, .int .u64 l]) true y1 y2 l := ⟨_, _, rfl, r5, r11⟩
          clear r5 r11
          try go_wp2_with fail
          refine hK.out _ _ (by exact ⟨bx.cell 1, bx.cell 2, bx.cell 3, bi.cell 0⟩) (fun hHeld => ?_)
          clear hK K
          try simp only [Act.put, List.setIfInBounds_toArray, List.set_cons_zero, List.set_cons_succ]
          refine wpAnyZ_ready (rs := [15]) (by kernel_rfl) (by simp) ?_
          refine AllReadyZ.cons (opAt rfl) (fun K hK => ?_) ?_
          · skip
            have zo := fun i => bo.frozen i
            have mo := fun i => bo.cell i
            go_simp
            replace bx := bx.offN HXO.out (.bool true) (.slice Cr5 y1.length kr5) (.slice Cr11 y2.length kr11) (.int .u64 l)
            replace bi := bi.offN HIO.out (.bool true) (.slice Cr5 y1.length kr5) (.slice Cr11 y2.length kr11) (.int .u64 l)
            replace Na := Na.setN bo (.bool true) (.slice Cr5 y1.length kr5) (.slice Cr11 y2.length kr11) (.int .u64 l)
            have HP := (Part.of_below (os := [go]) hb).setN (g := go) (by simp) (.bool true) (.slice Cr5 y1.length kr5) (.slice Cr11 y2.length kr11) (.int .u64 l)
            clear hb
            replace bo := bo.setN (.bool true) (.slice Cr5 y1.length kr5) (.slice Cr11 y2.length kr11) (.int .u64 l)
            clear zo mo
            generalize ((((w3x).setCell ⟨go, 0, none⟩ (.bool true)).setCell ⟨go, 1, none⟩ (.slice Cr5 y1.length kr5)).setCell ⟨go, 2, none⟩ (.slice Cr11 y2.length kr11)).setCell ⟨go, 3, none⟩ (.int .u64 l) = w4x at *
            refine hK.out _ _ (by exact ⟨bx.cell 1, bx.cell 2, bx.cell 3, bi.cell 0⟩) (fun hHeld => ?_)
            clear hK K
            try simp only [Act.put, List.setIfInBounds_toArray, List.set_cons_zero, List.set_cons_succ]
            refine wpAnyZ_done (by kernel_rfl) ?_ _
            go_wp2_with fail
            go_end0
            exact ⟨rfl, HP, _, _, bo, Na⟩
          exact AllReadyZ.nil
        exact AllReadyZ.nil
      exact AllReadyZ.nil
    exact AllReadyZ.nil
  · skip
    go_enter Try.func38, Try.ntmps38
    go_wp2_with fail
    refine (Rt.out _ (Below.refl _ _)).mono ?_
    rintro e wa ⟨rfl, hb⟩
    replace bx := bx.below hb bx.lt
    replace bi := bi.below hb bi.lt
    replace bo := bo.below hb bo.lt
    clear mx mi
    have mx := fun i => bx.cell i
    have mi := fun i => bi.cell i
    go_wp2_with fail
    refine (must_yes _).mono ?_
    rintro e wb ⟨rfl, rfl⟩
    go_wp2_with fail
    clear mx mi
    have e0 : Value.int IntKind.i64 0 = Value.int IntKind.i64 (q : Int) := by rw [show (q : Int) = 0 by omega]
    rw [e0]
    clear e0
    refine wp_region_heldZ [] (fun w' => w'.cell? ⟨gx, 1, none⟩ = some (.slice A n c) ∧ w'.cell? ⟨gx, 2, none⟩ = some (.slice A' m c') ∧ w'.cell? ⟨gx, 3, none⟩ = some (.int .u64 l) ∧ w'.cell? ⟨gi, 0, none⟩ = some (.int .i64 p)) (by kernel_rfl) (by exact ⟨bx.cell 1, bx.cell 2, bx.cell 3, bi.cell 0⟩) (fun hHeld => ?_)
    replace bx := bx.drew
    replace bi := bi.drew
    replace bo := bo.drew
    replace hb := hb.drew
    generalize wb.drew = w0x at *
    refine' wpAnyZ_takeA (i := 0) (v := ?_) (opAt rfl) (by kernel_rfl) (by kernel_rfl) (by kernel_rfl) (by kernel_rfl) (fun _ _ _ h => h) (by assumption) (by rfl) (fun w hSw => ?_) ?_
    rotate_left
    · (try dsimp only at hSw); go_simp; (try with_reducible rfl)
    try simp only [Act.put, List.setIfInBounds_toArray, List.set_cons_zero, List.set_cons_succ]
    refine' wpAnyZ_takeA (i := 1) (v := ?_) (opAt rfl) (by kernel_rfl) (by kernel_rfl) (by kernel_rfl) (by kernel_rfl) (fun _ _ _ h => h) (by assumption) (by rfl) (fun w hSw => ?_) ?_
    rotate_left
    · (try dsimp only at hSw); go_simp; (try with_reducible rfl)
    try simp only [Act.put, List.setIfInBounds_toArray, List.set_cons_zero, List.set_cons_succ]
    refine' wpAnyZ_takeA (i := 2) (v := ?_) (opAt rfl) (by kernel_rfl) (by kernel_rfl) (by kernel_rfl) (by kernel_rfl) (fun _ _ _ h => h) (by assumption) (by rfl) (fun w hSw => ?_) ?_
    rotate_left
    · (try dsimp only at hSw); go_simp; (try with_reducible rfl)
    try simp only [Act.put, List.setIfInBounds_toArray, List.set_cons_zero, List.set_cons_succ]
    refine' wpAnyZ_takeA (i := 3) (v := ?_) (opAt rfl) (by kernel_rfl) (by kernel_rfl) (by kernel_rfl) (by kernel_rfl) (fun _ _ _ h => h) (by assumption) (by rfl) (fun w hSw => ?_) ?_
    rotate_left
    · (try dsimp only at hSw); go_simp; (try with_reducible rfl)
    try simp only [Act.put, List.setIfInBounds_toArray, List.set_cons_zero, List.set_cons_succ]
    refine' wpAnyZ_takeA (i := 4) (v := ?_) (opAt rfl) (by kernel_rfl) (by kernel_rfl) (by kernel_rfl) (by kernel_rfl) (fun _ _ _ h => h) (by assumption) (by rfl) (fun w hSw => ?_) ?_
    rotate_left
    · (try dsimp only at hSw); go_simp; (try with_reducible rfl)
    try simp only [Act.put, List.setIfInBounds_toArray, List.set_cons_zero, List.set_cons_succ]
    refine' wpAnyZ_takeA (i := 6) (v := ?_) (opAt rfl) (by kernel_rfl) (by kernel_rfl) (by kernel_rfl) (by kernel_rfl) (fun _ _ _ h => h) (by assumption) (by rfl) (fun w hSw => ?_) ?_
    rotate_left
    · (try dsimp only at hSw); go_simp; (try with_reducible rfl)
    try simp only [Act.put, List.setIfInBounds_toArray, List.set_cons_zero, List.set_cons_succ]
    refine' wpAnyZ_takeA (i := 7) (v := ?_) (opAt rfl) (by kernel_rfl) (by kernel_rfl) (by kernel_rfl) (by kernel_rfl) (fun _ _ _ h => h) (by assumption) (by rfl) (fun w hSw => ?_) ?_
    rotate_left
    · (try dsimp only at hSw); go_simp; (try with_reducible rfl)
    try simp only [Act.put, List.setIfInBounds_toArray, List.set_cons_zero, List.set_cons_succ]
    refine' wpAnyZ_takeA (i := 8) (v := ?_) (opAt rfl) (by kernel_rfl) (by kernel_rfl) (by kernel_rfl) (by kernel_rfl) (fun _ _ _ h => h) (by assumption) (by rfl) (fun w hSw => ?_) ?_
    rotate_left
    · (try dsimp only at hSw); go_simp; (try with_reducible rfl)
    try simp only [Act.put, List.setIfInBounds_toArray, List.set_cons_zero, List.set_cons_succ]
    refine' wpAnyZ_takeA (i := 9) (v := ?_) (opAt rfl) (by kernel_rfl) (by kernel_rfl) (by kernel_rfl) (by kernel_rfl) (fun _ _ _ h => h) (by assumption) (by rfl) (fun w hSw => ?_) ?_
    rotate_left
    · (try dsimp only at hSw); go_simp; (try with_reducible rfl)
    try simp only [Act.put, List.setIfInBounds_toArray, List.set_cons_zero, List.set_cons_succ]
    refine' wpAnyZ_takeA (i := 10) (v := ?_) (opAt rfl) (by kernel_rfl) (by kernel_rfl) (by kernel_rfl) (by kernel_rfl) (fun _ _ _ h => h) (by assumption) (by rfl) (fun w hSw => ?_) ?_
    rotate_left
    · (try dsimp only at hSw); go_simp; (try with_reducible rfl)
    try simp only [Act.put, List.setIfInBounds_toArray, List.set_cons_zero, List.set_cons_succ]
    refine' wpAnyZ_takeA (i := 12) (v := ?_) (opAt rfl) (by kernel_rfl) (by kernel_rfl) (by kernel_rfl) (by kernel_rfl) (fun _ _ _ h => h) (by assumption) (by rfl) (fun w hSw => ?_) ?_
    rotate_left
    · (try dsimp only at hSw); go_simp; (try with_reducible rfl)
    try simp only [Act.put, List.setIfInBounds_toArray, List.set_cons_zero, List.set_cons_succ]
    refine' wpAnyZ_takeA (i := 13) (v := ?_) (opAt rfl) (by kernel_rfl) (by kernel_rfl) (by kernel_rfl) (by kernel_rfl) (fun _ _ _ h => h) (by assumption) (by rfl) (fun w hSw => ?_) ?_
    rotate_left
    · (try dsimp only at hSw); go_simp; (try with_reducible rfl)
    try simp only [Act.put, List.setIfInBounds_toArray, List.set_cons_zero, List.set_cons_succ]
    refine wpAnyZ_ready (rs := [5]) (by kernel_rfl) (by simp) ?_
    refine AllReadyZ.cons (opAt rfl) (fun K hK => ?_) ?_
    · skip
      go_simp
      refine (without_any _ ks q (q + 1) _ (by first | exact HA1.out | (rw [hnn.out]; exact HA1.out) | (rw [hmm.out]; exact HA1.out) | (rw [hnn'.out]; exact HA1.out) | (rw [hmm'.out]; exact HA1.out)) (by first | exact HB1.out | (rw [hnn.out]; exact HB1.out) | (rw [hmm.out]; exact HB1.out) | (rw [hnn'.out]; exact HB1.out) | (rw [hmm'.out]; exact HB1.out)) (by first | exact HL1.out | (rw [hnn.out]; exact HL1.out) | (rw [hmm.out]; exact HL1.out) | (rw [hnn'.out]; exact HL1.out) | (rw [hmm'.out]; exact HL1.out)) ((S1.below hb).more hb.size)).mono ?_
      rintro e w1x ⟨⟨u, rfl, r5⟩, hb1⟩
      replace r5 := r5.mono (lo' := w.heap.size) hb.size
      rw [← HY1.out] at r5
      replace bx := bx.below hb1 bx.lt
      replace bi := bi.below hb1 bi.lt
      replace bo := bo.below hb1 bo.lt
      replace hb := hb.trans (hb1.mono hb.size)
      clear hb1
      obtain ⟨Cr5, kr5, rfl⟩ := r5.val
      try go_wp2_with fail
      refine hK.out _ _ (by exact ⟨bx.cell 1, bx.cell 2, bx.cell 3, bi.cell 0⟩) (fun hHeld => ?_)
      clear hK K
      try simp only [Act.put, List.setIfInBounds_toArray, List.set_cons_zero, List.set_cons_succ]
      refine wpAnyZ_ready (rs := [11]) (by kernel_rfl) (by simp) ?_
      refine AllReadyZ.cons (opAt rfl) (fun K hK => ?_) ?_
      · skip
        go_simp
        refine (without_any _ vs p (p + 1) _ (by first | exact HA2.out | (rw [hnn.out]; exact HA2.out) | (rw [hmm.out]; exact HA2.out) | (rw [hnn'.out]; exact HA2.out) | (rw [hmm'.out]; exact HA2.out)) (by first | exact HB2.out | (rw [hnn.out]; exact HB2.out) | (rw [hmm.out]; exact HB2.out) | (rw [hnn'.out]; exact HB2.out) | (rw [hmm'.out]; exact HB2.out)) (by first | exact HL2.out | (rw [hnn.out]; exact HL2.out) | (rw [hmm.out]; exact HL2.out) | (rw [hnn'.out]; exact HL2.out) | (rw [hmm'.out]; exact HL2.out)) ((S2.below hb).more hb.size)).mono ?_
        rintro e w2x ⟨⟨u, rfl, r11⟩, hb1⟩
        replace r11 := r11.mono (lo' := w.heap.size) hb.size
        rw [← HY2.out] at r11
        replace bx := bx.below hb1 bx.lt
        replace bi := bi.below hb1 bi.lt
        replace bo := bo.below hb1 bo.lt
        replace r5 := r5.below hb1
        replace hb := hb.trans (hb1.mono hb.size)
        clear hb1
        obtain ⟨Cr11, kr11, rfl⟩ := r11.val
        try go_wp2_with fail
        refine hK.out _ _ (by exact ⟨bx.cell 1, bx.cell 2, bx.cell 3, bi.cell 0⟩) (fun hHeld => ?_)
        clear hK K
        try simp only [Act.put, List.setIfInBounds_toArray, List.set_cons_zero, List.set_cons_succ]
        refine wpAnyZ_ready (rs := [14]) (by kernel_rfl) (by simp) ?_
        refine AllReadyZ.cons (opAt rfl) (fun K hK => ?_) ?_
        · skip
          go_simp
          refine (node_yes _ _ _ _ l _ HLy.out r5.sl r11.sl HR.out).mono ?_
          rintro e w3x ⟨rfl, hb1⟩
          replace bx := bx.below hb1 bx.lt
          replace bi := bi.below hb1 bi.lt
          replace bo := bo.below hb1 bo.lt
          replace r5 := r5.below hb1
          replace r11 := r11.below hb1
          replace hb := hb.trans (hb1.mono hb.size)
          clear hb1
          have Na : NdO w3x w.heap.size (.agg #[.bool true, .slice Cr5 y1.length kr5, .slice Cr11 y2.length kr11, .int .u64 l]) true y1 y2 l := ⟨_, _, rfl, r5, r11⟩
          clear r5 r11
          try go_wp2_with fail
          refine hK.out _ _ (by exact ⟨bx.cell 1, bx.cell 2, bx.cell 3, bi.cell 0⟩) (fun hHeld => ?_)
          clear hK K
          try simp only [Act.put, List.setIfInBounds_toArray, List.set_cons_zero, List.set_cons_succ]
          refine wpAnyZ_ready (rs := [15]) (by kernel_rfl) (by simp) ?_
          refine AllReadyZ.cons (opAt rfl) (fun K hK => ?_) ?_
          · skip
            have zo := fun i => bo.frozen i
            have mo := fun i => bo.cell i
            go_simp
            replace bx := bx.offN HXO.out (.bool true) (.slice Cr5 y1.length kr5) (.slice Cr11 y2.length kr11) (.int .u64 l)
            replace bi := bi.offN HIO.out (.bool true) (.slice Cr5 y1.length kr5) (.slice Cr11 y2.length kr11) (.int .u64 l)
            replace Na := Na.setN bo (.bool true) (.slice Cr5 y1.length kr5) (.slice Cr11 y2.length kr11) (.int .u64 l)
            have HP := (Part.of_below (os := [go]) hb).setN (g := go) (by simp) (.bool true) (.slice Cr5 y1.length kr5) (.slice Cr11 y2.length kr11) (.int .u64 l)
            clear hb
            replace bo := bo.setN (.bool true) (.slice Cr5 y1.length kr5) (.slice Cr11 y2.length kr11) (.int .u64 l)
            clear zo mo
            generalize ((((w3x).setCell ⟨go, 0, none⟩ (.bool true)).setCell ⟨go, 1, none⟩ (.slice Cr5 y1.length kr5)).setCell ⟨go, 2, none⟩ (.slice Cr11 y2.length kr11)).setCell ⟨go, 3, none⟩ (.int .u64 l) = w4x at *
            refine hK.out _ _ (by exact ⟨bx.cell 1, bx.cell 2, bx.cell 3, bi.cell 0⟩) (fun hHeld => ?_)
            clear hK K
            try simp only [Act.put, List.setIfInBounds_toArray, List.set_cons_zero, List.set_cons_succ]
            refine wpAnyZ_done (by kernel_rfl) ?_ _
            go_wp2_with fail
            go_end0
            exact ⟨rfl, HP, _, _, bo, Na⟩
          exact AllReadyZ.nil
        exact AllReadyZ.nil
      exact AllReadyZ.nil
    exact AllReadyZ.nil
set_option maxRecDepth 100000 in
set_option maxHeartbeats 4000000 in
theorem drop1_out (b : Bool) (A A' : Option Addr) (c c' : Nat) (ks vs : List Int) (l i : Int) (gx gi go : Nat) (w : World) (hl : ks.length ≤ 900) (h : Nd w w.heap.size (.agg #[.bool b, .slice A ks.length c, .slice A' vs.length c', .int .u64 l]) b ks vs l) (bx : Blk w gx 27 #[.bool b, .slice A ks.length c, .slice A' vs.length c', .int .u64 l]) (bi : Blk w gi 3 #[.int .i64 i]) (hno : rightI b ks vs = false ∨ ¬ (0 ≤ i ∧ i < (vs.length : Int) ∧ 1 < vs.length)) :
    Calls Try.prog 38 #[.pointer (some ⟨gx, 0, none⟩), .pointer (some ⟨gi, 0, none⟩), .pointer (some ⟨go, 0, none⟩)] w fun e w' => e = .panicked wrongP ∧ Below w.heap.size w w' := by
  have Rt := hide (fun w2 (hB : Below w.heap.size w w2) => iright_any _ b ks vs l w2 (by omega) ((h.below hB).more hB.size))
  have hc : rightI b ks vs = false ∨ (rightI b ks vs = true ∧ i < 0) ∨ (rightI b ks vs = true ∧ 0 ≤ i ∧ (vs.length : Int) ≤ i) ∨ (rightI b ks vs = true ∧ 0 ≤ i ∧ i < (vs.length : Int) ∧ (vs.length : Int) ≤ 1) := by
    cases hq : rightI b ks vs with
    | false => exact .inl rfl
    | true =>
      rcases hno with h' | h'
      · rw [hq] at h'; cases h'
      · rcases Int.lt_or_le i 0 with h1 | h1
        · exact .inr (.inl ⟨rfl, h1⟩)
        · rcases Int.lt_or_le i (vs.length : Int) with h2 | h2
          · exact .inr (.inr (.inr ⟨rfl, h1, h2, by omega⟩))
          · exact .inr (.inr (.inl ⟨rfl, h1, h2⟩))
  clear hno h
  rcases hc with hr | ⟨hr, hi⟩ | ⟨hr, hi, hi2⟩ | ⟨hr, hi, hi2, hi3⟩
  all_goals
    rw [hr] at Rt
    clear hr
    try have hd1 : decide ((0 : Int) ≤ i) = false := by rw [decide_eq_false_iff_not]; omega
    try have hd2 : decide (i < (vs.length : Int)) = false := by rw [decide_eq_false_iff_not]; omega
    try have hd3 : decide ((1 : Int) < (vs.length : Int)) = false := by rw [decide_eq_false_iff_not]; omega
    generalize ks.length = n at *
    generalize vs.length = m at *
    have mx := fun i => bx.cell i
    have mi := fun i => bi.cell i
    go_enter Try.func38, Try.ntmps38
    go_wp2_with fail
    refine (Rt.out _ (Below.refl _ _)).mono ?_
    rintro e wa ⟨rfl, hb⟩
    replace bx := bx.below hb bx.lt
    replace bi := bi.below hb bi.lt
    clear mx mi
    have mx := fun i => bx.cell i
    have mi := fun i => bi.cell i
    go_wp2_with fail
    refine (must_no _).mono ?_
    rintro e wb ⟨rfl, rfl⟩
    go_wp2_with fail
    exact ⟨rfl, rfl, hb⟩
set_option maxRecDepth 100000 in
set_option maxHeartbeats 4000000 in
theorem idrop_yes (v : Value) (b : Bool) (ks vs : List Int) (l i : Int) (w : World) (hl : ks.length ≤ 900) (h : Nd w w.heap.size v b ks vs l) (hr : rightI b ks vs = true) (p q : Nat) (hi : i = (p : Int)) (hq : q = p - 1) (hpv : p < vs.length) (h2 : 1 < vs.length) :
    Calls Try.prog 18 #[v, .int .i64 i] w fun e w' => (∃ u, e = .returned (.tuple #[u, .bool true]) ∧ NdO w' w.heap.size u true (ks.take q ++ ks.drop (q + 1)) (vs.take p ++ vs.drop (p + 1)) l) ∧ Below w.heap.size w w' := by
  have hmf : ∀ (fn : Fn) (first cap : Array Value) (w : World), (Instr.makeFunc fn first cap).run Try.prog w = .ok (.func fn first cap) w := fun _ _ _ _ => rfl
  obtain ⟨A, c, A', c', rfl⟩ := ValN w b ks vs l v h
  replace hi := hide hi
  replace hq := hide hq
  have bx := ((Blk.new w 27 #[.bool b, .slice A ks.length c, .slice A' vs.length c', .int .u64 l]).alloc (.cells #[.int .i64 i] 3)).alloc (.cells #[.bool false, .slice none 0 0, .slice none 0 0, .int .u64 0] 27)
  have bi := (Blk.new (w.alloc (.cells #[.bool b, .slice A ks.length c, .slice A' vs.length c', .int .u64 l] 27)) 3 #[.int .i64 i]).alloc (.cells #[.bool false, .slice none 0 0, .slice none 0 0, .int .u64 0] 27)
  have bo := Blk.new ((w.alloc (.cells #[.bool b, .slice A ks.length c, .slice A' vs.length c', .int .u64 l] 27)).alloc (.cells #[.int .i64 i] 3)) 27 #[.bool false, .slice none 0 0, .slice none 0 0, .int .u64 0]
  have hb := (((Below.refl w.heap.size w).alloc (Nat.le_refl _) (.cells #[.bool b, .slice A ks.length c, .slice A' vs.length c', .int .u64 l] 27)).alloc (by simp only [World.size_alloc]; omega) (.cells #[.int .i64 i] 3)).alloc (by simp only [World.size_alloc]; omega) (.cells #[.bool false, .slice none 0 0, .slice none 0 0, .int .u64 0] 27)
  simp only [World.size_alloc] at bi bo
  go_enter Try.func18, Try.ntmps18
  go_wp2_with fail
  generalize (((w.alloc (.cells #[.bool b, .slice A ks.length c, .slice A' vs.length c', .int .u64 l] 27)).alloc (.cells #[.int .i64 i] 3)).alloc (.cells #[.bool false, .slice none 0 0, .slice none 0 0, .int .u64 0] 27)) = w2 at *
  obtain ⟨gx, egx⟩ : ∃ g, g = w.heap.size := ⟨_, rfl⟩
  obtain ⟨gi, egi⟩ : ∃ g, g = w.heap.size + 1 := ⟨_, rfl⟩
  obtain ⟨go, ego⟩ : ∃ g, g = w.heap.size + 1 + 1 := ⟨_, rfl⟩
  rw [← ego] at bo
  rw [← egi] at bi
  rw [← egx] at bx
  rw [← ego, ← egi, ← egx]
  have HGO := hide (show w.heap.size ≤ go by omega)
  have T1 := hide (tried_part 38 #[.pointer (some ⟨gx, 0, none⟩), .pointer (some ⟨gi, 0, none⟩), .pointer (some ⟨go, 0, none⟩)] [go] (NodeOut go w2.heap.size (ks.take q ++ ks.drop (q + 1)) (vs.take p ++ vs.drop (p + 1)) l) w2 (fun _ => by rfl)
    (by intro o ho; simp at ho; subst ho; exact bo.lt) (fun w' b hb hs => hs.set_ hb)
    (fun w1 hB _ => (drop1_yes b A A' c c' ks vs l i gx gi go w1 hl (((h.below hb).below (hB.mono hb.size)).more (Nat.le_trans hb.size hB.size)) (bx.below hB bx.lt) (bi.below hB bi.lt) (bo.below hB bo.lt) (by omega) hr p q hi.out hq.out hpv h2).mono (fun e w' hh => ⟨hh.1, hh.2.1, hh.2.2.mono hB.size⟩)))
  have HLO := hide hb.size
  clear bx bi h hr hi hq hpv h2 hl
  obtain ⟨y1, hy1⟩ : ∃ y, y = ks.take q ++ ks.drop (q + 1) := ⟨_, rfl⟩
  obtain ⟨y2, hy2⟩ : ∃ y, y = vs.take p ++ vs.drop (p + 1) := ⟨_, rfl⟩
  rw [← hy1, ← hy2] at T1
  have HY1 := hide hy1
  have HY2 := hide hy2
  clear hy1 hy2
  refine T1.out.mono ?_
  rintro e w3 ⟨rfl, hp, k1, u1, bo3, N⟩
  have hb3 := Part.below_trans hb hp (by intro o ho; simp at ho; subst ho; exact HGO.out) (by omega)
  obtain ⟨A1, d1, A2, d2, e1⟩ := N.val
  simp only [Value.agg.injEq, Array.mk.injEq, List.cons.injEq, and_true, true_and] at e1
  obtain ⟨rfl, rfl⟩ := e1
  clear T1 hp bo hb egx egi ego
  have mo := fun i => bo3.cell i
  have zo := fun i => bo3.frozen i
  go_wp2_with fail
  have b9 := bo3.setN (.bool true) (.slice A1 y1.length d1) (.slice A2 y2.length d2) (.int .u64 l)
  have B9 := below_setN hb3 (g := go) HGO.out (.bool true) (.slice A1 y1.length d1) (.slice A2 y2.length d2) (.int .u64 l)
  have N9 := (N.setN bo3 (.bool true) (.slice A1 y1.length d1) (.slice A2 y2.length d2) (.int .u64 l)).mono HLO.out
  have m9 := fun i => b9.cell i
  refine bodyPost_ret (v := .tuple #[.agg #[.bool true, .slice A1 y1.length d1, .slice A2 y2.length d2, .int .u64 l], .bool true]) (by simp [results, Try.results18, go_sem, m9]) rfl ⟨⟨_, rfl, ?_⟩, B9⟩
  rw [← HY1.out, ← HY2.out]
  exact N9
set_option maxRecDepth 100000 in
set_option maxHeartbeats 4000000 in
theorem idrop_out (v : Value) (b : Bool) (ks vs : List Int) (l i : Int) (w : World) (hl : ks.length ≤ 900) (h : Nd w w.heap.size v b ks vs l) (hno : rightI b ks vs = false ∨ ¬ (0 ≤ i ∧ i < (vs.length : Int) ∧ 1 < vs.length)) :
    Calls Try.prog 18 #[v, .int .i64 i] w fun e w' => e = .returned (.tuple #[.agg #[.bool false, .slice none 0 0, .slice none 0 0, .int .u64 0], .bool false]) ∧ Below w.heap.size w w' := by
  have hmf : ∀ (fn : Fn) (first cap : Array Value) (w : World), (Instr.makeFunc fn first cap).run Try.prog w = .ok (.func fn first cap) w := fun _ _ _ _ => rfl
  obtain ⟨A, c, A', c', rfl⟩ := ValN w b ks vs l v h
  have bx := ((Blk.new w 27 #[.bool b, .slice A ks.length c, .slice A' vs.length c', .int .u64 l]).alloc (.cells #[.int .i64 i] 3)).alloc (.cells #[.bool false, .slice none 0 0, .slice none 0 0, .int .u64 0] 27)
  have bi := (Blk.new (w.alloc (.cells #[.bool b, .slice A ks.length c, .slice A' vs.length c', .int .u64 l] 27)) 3 #[.int .i64 i]).alloc (.cells #[.bool false, .slice none 0 0, .slice none 0 0, .int .u64 0] 27)
  have bo := Blk.new ((w.alloc (.cells #[.bool b, .slice A ks.length c, .slice A' vs.length c', .int .u64 l] 27)).alloc (.cells #[.int .i64 i] 3)) 27 #[.bool false, .slice none 0 0, .slice none 0 0, .int .u64 0]
  have hb := (((Below.refl w.heap.size w).alloc (Nat.le_refl _) (.cells #[.bool b, .slice A ks.length c, .slice A' vs.length c', .int .u64 l] 27)).alloc (by simp only [World.size_alloc]; omega) (.cells #[.int .i64 i] 3)).alloc (by simp only [World.size_alloc]; omega) (.cells #[.bool false, .slice none 0 0, .slice none 0 0, .int .u64 0] 27)
  simp only [World.size_alloc] at bi bo
  go_enter Try.func18, Try.ntmps18
  go_wp2_with fail
  generalize (((w.alloc (.cells #[.bool b, .slice A ks.length c, .slice A' vs.length c', .int .u64 l] 27)).alloc (.cells #[.int .i64 i] 3)).alloc (.cells #[.bool false, .slice none 0 0, .slice none 0 0, .int .u64 0] 27)) = w2 at *
  obtain ⟨gx, egx⟩ : ∃ g, g = w.heap.size := ⟨_, rfl⟩
  obtain ⟨gi, egi⟩ : ∃ g, g = w.heap.size + 1 := ⟨_, rfl⟩
  obtain ⟨go, ego⟩ : ∃ g, g = w.heap.size + 1 + 1 := ⟨_, rfl⟩
  rw [← ego] at bo
  rw [← egi] at bi
  rw [← egx] at bx
  rw [← ego, ← egi, ← egx]
  have HGO := hide (show w.heap.size ≤ go by omega)
  have T1 := hide (tried_wrong 38 #[.pointer (some ⟨gx, 0, none⟩), .pointer (some ⟨gi, 0, none⟩), .pointer (some ⟨go, 0, none⟩)] w2 (fun _ => by rfl) (fun w1 hB => drop1_out b A A' c c' ks vs l i gx gi go w1 hl (((h.below hb).below (hB.mono hb.size)).more (Nat.le_trans hb.size hB.size)) (bx.below hB bx.lt) (bi.below hB bi.lt) hno))
  have HLO := hide hb.size
  clear bx bi h hno hl
  refine T1.out.mono ?_
  rintro e w3 ⟨rfl, hb1⟩
  replace bo := bo.below hb1 bo.lt
  replace hb := hb.trans (hb1.mono hb.size)
  clear T1 hb1 egx egi ego
  have mo := fun i => bo.cell i
  have zo := fun i => bo.frozen i
  go_wp2_with fail
  have b9 := bo.setN (.bool false) (.slice none 0 0) (.slice none 0 0) (.int .u64 0)
  have B9 := below_setN hb (g := go) HGO.out (.bool false) (.slice none 0 0) (.slice none 0 0) (.int .u64 0)
  have m9 := fun i => b9.cell i
  exact bodyPost_ret (v := .tuple #[.agg #[.bool false, .slice none 0 0, .slice none 0 0, .int .u64 0], .bool false]) (by simp [results, Try.results18, go_sem, m9]) rfl ⟨rfl, B9⟩
end Go.Proofs.Ytcmoblibjhaegaa
